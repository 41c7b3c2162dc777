/- The outcome of calls at which the run is cut: the kernel's own evaluation. No condition. -/
import Derived.Test.YtadngfgbefgocaaGreatDoorEvM0
namespace Go.Proofs.YtadngfgbefgocaaGreatDoor
open Go Go.Ev
set_option maxRecDepth 1000000 in
theorem memo38_ok : MemoOk evE memo38 := MemoOk.by evMixed [] (fun _ h => nomatch h) 2000 200 memo38 (by kernel_rfl) (by kernel_rfl)
end Go.Proofs.YtadngfgbefgocaaGreatDoor
