/- The row's closed facts. No condition. -/
import Derived.Test.YtadngfgbefgocaaGreatDoorEvRwa
namespace Go.Proofs.YtadngfgbefgocaaGreatDoor
open Go Go.Ev Go.ChangeShapes Go.WideShapes Go.ChangeAt Go.RowKit
theorem and_i {a b : Bool} (ha : a = true) (hb : b = true) : (a && b) = true := by rw [ha, hb]; rfl
set_option maxRecDepth 100000 in
set_option maxHeartbeats 20000000 in
theorem closed : joinedFacts Tryz.prog 3 Tryz.f3 Rows.planShareSpec Rows.planShareRow = true := by
  unfold joinedFacts
  repeat' (with_reducible refine and_i ?_ ?_)
  all_goals as_aux_lemma => kernel_rfl
end Go.Proofs.YtadngfgbefgocaaGreatDoor
