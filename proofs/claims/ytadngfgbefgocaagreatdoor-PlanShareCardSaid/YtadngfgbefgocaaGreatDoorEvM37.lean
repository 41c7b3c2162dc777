/- The outcome of calls at which the run is cut: the kernel's own evaluation. No condition. -/
import Derived.Test.YtadngfgbefgocaaGreatDoorEvM0
import Derived.Test.YtadngfgbefgocaaGreatDoorEvMa
namespace Go.Proofs.YtadngfgbefgocaaGreatDoor
open Go Go.Ev
set_option maxRecDepth 1000000 in
theorem memo37_ok : MemoOk evE memo37 := MemoOk.by evMixed [memo1, memo2, memo3, memo4, memo5, memo6, memo7, memo8, memo9, memo10, memo11, memo12, memo13, memo14, memo15, memo16, memo17, memo18, memo19, memo20, memo21, memo22, memo23, memo24, memo25, memo26, memo27, memo28, memo29, memo30, memo31, memo32, memo33, memo34, memo35, memo36] (fun m h => by
    simp only [List.mem_cons, List.not_mem_nil, or_false] at h
    rcases h with rfl | rfl | rfl | rfl | rfl | rfl | rfl | rfl | rfl | rfl | rfl | rfl | rfl | rfl | rfl | rfl | rfl | rfl | rfl | rfl | rfl | rfl | rfl | rfl | rfl | rfl | rfl | rfl | rfl | rfl | rfl | rfl | rfl | rfl | rfl | rfl
    · exact memo1_ok
    · exact memo2_ok
    · exact memo3_ok
    · exact memo4_ok
    · exact memo5_ok
    · exact memo6_ok
    · exact memo7_ok
    · exact memo8_ok
    · exact memo9_ok
    · exact memo10_ok
    · exact memo11_ok
    · exact memo12_ok
    · exact memo13_ok
    · exact memo14_ok
    · exact memo15_ok
    · exact memo16_ok
    · exact memo17_ok
    · exact memo18_ok
    · exact memo19_ok
    · exact memo20_ok
    · exact memo21_ok
    · exact memo22_ok
    · exact memo23_ok
    · exact memo24_ok
    · exact memo25_ok
    · exact memo26_ok
    · exact memo27_ok
    · exact memo28_ok
    · exact memo29_ok
    · exact memo30_ok
    · exact memo31_ok
    · exact memo32_ok
    · exact memo33_ok
    · exact memo34_ok
    · exact memo35_ok
    · exact memo36_ok
    ) 2000 200 memo37 (by kernel_rfl) (by kernel_rfl)
end Go.Proofs.YtadngfgbefgocaaGreatDoor
