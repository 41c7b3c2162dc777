/- The outcome of calls at which the run is cut: the kernel's own evaluation. No condition. -/
import Derived.Test.YtadngfgbefgocaaGreatDoorEvM0
import Derived.Test.YtadngfgbefgocaaGreatDoorEvM37
import Derived.Test.YtadngfgbefgocaaGreatDoorEvM38
namespace Go.Proofs.YtadngfgbefgocaaGreatDoor
open Go Go.Ev
set_option maxRecDepth 1000000 in
theorem memo39_ok : MemoOk evE memo39 := MemoOk.by evMixed [memo37, memo38] (fun m h => by
    simp only [List.mem_cons, List.not_mem_nil, or_false] at h
    rcases h with rfl | rfl
    · exact memo37_ok
    · exact memo38_ok
    ) 2000 200 memo39 (by kernel_rfl) (by kernel_rfl)
end Go.Proofs.YtadngfgbefgocaaGreatDoor
