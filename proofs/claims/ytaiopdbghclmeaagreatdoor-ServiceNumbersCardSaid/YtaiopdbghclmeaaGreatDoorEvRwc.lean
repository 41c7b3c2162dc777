/- The row's closed facts. No condition. -/
import Derived.Test.YtaiopdbghclmeaaGreatDoorEvRwa
import Derived.Test.YtaiopdbghclmeaaGreatDoorEvCc
import Derived.Test.YtaiopdbghclmeaaGreatDoorEvCd
namespace Go.Proofs.YtaiopdbghclmeaaGreatDoor
open Go Go.Ev Go.ChangeShapes Go.WideShapes Go.ChangeAt Go.RowKit
theorem and_i {a b : Bool} (ha : a = true) (hb : b = true) : (a && b) = true := by rw [ha, hb]; rfl
set_option maxRecDepth 1000000 in
set_option maxHeartbeats 20000000 in
theorem closed : joinedFacts Tryz.prog 3 Tryz.f3 Rows.serviceNumbersSpec Rows.serviceNumbersRow = true := by
  unfold joinedFacts
  repeat' (with_reducible refine and_i ?_ ?_)
  all_goals first | with_reducible exact fact1 | with_reducible exact fact2 | with_reducible exact fact9 | with_reducible exact fact10 | with_reducible exact fact11 | with_reducible exact fact12 | as_aux_lemma => kernel_rfl
end Go.Proofs.YtaiopdbghclmeaaGreatDoor
