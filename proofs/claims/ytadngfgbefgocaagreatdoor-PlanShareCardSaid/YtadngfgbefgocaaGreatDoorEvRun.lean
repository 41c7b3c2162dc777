/- The closed question answers true, wherever it is called: the run over the calls whose outcome is known. Of the two listed variables it is taken that they read as listed. -/
import Derived.Test.YtadngfgbefgocaaGreatDoorEvM39
import Derived.Test.YtadngfgbefgocaaGreatDoorEvM40
import Derived.Test.YtadngfgbefgocaaGreatDoorEvM41
import Derived.Test.YtadngfgbefgocaaGreatDoorEvM42
namespace Go.Proofs.YtadngfgbefgocaaGreatDoor
open Go Go.Ev Go.RowKit
set_option maxRecDepth 1000000 in
theorem awake_true : outcX (evCallY evE [memo39, memo40, memo41, memo42] 2000 200 13 #[] { n := evE.base, t := .e, lg := [] }) = 1 := by kernel_rfl
theorem awake_s (W : World) (hb : evE.base ≤ W.heap.size) (hg : GlOk evE W) : Calls Tryz.prog 13 #[] W fun e w' => e = .returned (.bool true) ∧ Below W.heap.size W w' :=
  closed_callY evE evMixed [memo39, memo40, memo41, memo42] (fun m h => by
    simp only [List.mem_cons, List.not_mem_nil, or_false] at h
    rcases h with rfl | rfl | rfl | rfl
    · exact memo39_ok
    · exact memo40_ok
    · exact memo41_ok
    · exact memo42_ok
    ) 2000 200 13 awake_true W hb hg
end Go.Proofs.YtadngfgbefgocaaGreatDoor
