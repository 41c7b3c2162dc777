/- The outcome of calls at which the run is cut: the kernel's own evaluation. No condition. -/
import Derived.Test.YtadngfgbefgocaaGreatDoorEvM0
namespace Go.Proofs.YtadngfgbefgocaaGreatDoor
open Go Go.Ev
set_option maxRecDepth 1000000 in
theorem memo1_ok : MemoOk evE memo1 := MemoOk.by evMixed [] (fun _ h => nomatch h) 2000 200 memo1 (by kernel_rfl) (by kernel_rfl)
set_option maxRecDepth 1000000 in
theorem memo2_ok : MemoOk evE memo2 := MemoOk.by evMixed [] (fun _ h => nomatch h) 2000 200 memo2 (by kernel_rfl) (by kernel_rfl)
set_option maxRecDepth 1000000 in
theorem memo3_ok : MemoOk evE memo3 := MemoOk.by evMixed [] (fun _ h => nomatch h) 2000 200 memo3 (by kernel_rfl) (by kernel_rfl)
set_option maxRecDepth 1000000 in
theorem memo4_ok : MemoOk evE memo4 := MemoOk.by evMixed [] (fun _ h => nomatch h) 2000 200 memo4 (by kernel_rfl) (by kernel_rfl)
set_option maxRecDepth 1000000 in
theorem memo5_ok : MemoOk evE memo5 := MemoOk.by evMixed [] (fun _ h => nomatch h) 2000 200 memo5 (by kernel_rfl) (by kernel_rfl)
set_option maxRecDepth 1000000 in
theorem memo6_ok : MemoOk evE memo6 := MemoOk.by evMixed [] (fun _ h => nomatch h) 2000 200 memo6 (by kernel_rfl) (by kernel_rfl)
set_option maxRecDepth 1000000 in
theorem memo7_ok : MemoOk evE memo7 := MemoOk.by evMixed [] (fun _ h => nomatch h) 2000 200 memo7 (by kernel_rfl) (by kernel_rfl)
set_option maxRecDepth 1000000 in
theorem memo8_ok : MemoOk evE memo8 := MemoOk.by evMixed [] (fun _ h => nomatch h) 2000 200 memo8 (by kernel_rfl) (by kernel_rfl)
set_option maxRecDepth 1000000 in
theorem memo9_ok : MemoOk evE memo9 := MemoOk.by evMixed [] (fun _ h => nomatch h) 2000 200 memo9 (by kernel_rfl) (by kernel_rfl)
set_option maxRecDepth 1000000 in
theorem memo10_ok : MemoOk evE memo10 := MemoOk.by evMixed [] (fun _ h => nomatch h) 2000 200 memo10 (by kernel_rfl) (by kernel_rfl)
set_option maxRecDepth 1000000 in
theorem memo11_ok : MemoOk evE memo11 := MemoOk.by evMixed [] (fun _ h => nomatch h) 2000 200 memo11 (by kernel_rfl) (by kernel_rfl)
set_option maxRecDepth 1000000 in
theorem memo12_ok : MemoOk evE memo12 := MemoOk.by evMixed [] (fun _ h => nomatch h) 2000 200 memo12 (by kernel_rfl) (by kernel_rfl)
set_option maxRecDepth 1000000 in
theorem memo13_ok : MemoOk evE memo13 := MemoOk.by evMixed [] (fun _ h => nomatch h) 2000 200 memo13 (by kernel_rfl) (by kernel_rfl)
set_option maxRecDepth 1000000 in
theorem memo14_ok : MemoOk evE memo14 := MemoOk.by evMixed [] (fun _ h => nomatch h) 2000 200 memo14 (by kernel_rfl) (by kernel_rfl)
set_option maxRecDepth 1000000 in
theorem memo15_ok : MemoOk evE memo15 := MemoOk.by evMixed [] (fun _ h => nomatch h) 2000 200 memo15 (by kernel_rfl) (by kernel_rfl)
set_option maxRecDepth 1000000 in
theorem memo16_ok : MemoOk evE memo16 := MemoOk.by evMixed [] (fun _ h => nomatch h) 2000 200 memo16 (by kernel_rfl) (by kernel_rfl)
set_option maxRecDepth 1000000 in
theorem memo17_ok : MemoOk evE memo17 := MemoOk.by evMixed [] (fun _ h => nomatch h) 2000 200 memo17 (by kernel_rfl) (by kernel_rfl)
set_option maxRecDepth 1000000 in
theorem memo18_ok : MemoOk evE memo18 := MemoOk.by evMixed [] (fun _ h => nomatch h) 2000 200 memo18 (by kernel_rfl) (by kernel_rfl)
set_option maxRecDepth 1000000 in
theorem memo19_ok : MemoOk evE memo19 := MemoOk.by evMixed [] (fun _ h => nomatch h) 2000 200 memo19 (by kernel_rfl) (by kernel_rfl)
set_option maxRecDepth 1000000 in
theorem memo20_ok : MemoOk evE memo20 := MemoOk.by evMixed [] (fun _ h => nomatch h) 2000 200 memo20 (by kernel_rfl) (by kernel_rfl)
set_option maxRecDepth 1000000 in
theorem memo21_ok : MemoOk evE memo21 := MemoOk.by evMixed [] (fun _ h => nomatch h) 2000 200 memo21 (by kernel_rfl) (by kernel_rfl)
set_option maxRecDepth 1000000 in
theorem memo22_ok : MemoOk evE memo22 := MemoOk.by evMixed [] (fun _ h => nomatch h) 2000 200 memo22 (by kernel_rfl) (by kernel_rfl)
set_option maxRecDepth 1000000 in
theorem memo23_ok : MemoOk evE memo23 := MemoOk.by evMixed [] (fun _ h => nomatch h) 2000 200 memo23 (by kernel_rfl) (by kernel_rfl)
set_option maxRecDepth 1000000 in
theorem memo24_ok : MemoOk evE memo24 := MemoOk.by evMixed [] (fun _ h => nomatch h) 2000 200 memo24 (by kernel_rfl) (by kernel_rfl)
set_option maxRecDepth 1000000 in
theorem memo25_ok : MemoOk evE memo25 := MemoOk.by evMixed [] (fun _ h => nomatch h) 2000 200 memo25 (by kernel_rfl) (by kernel_rfl)
set_option maxRecDepth 1000000 in
theorem memo26_ok : MemoOk evE memo26 := MemoOk.by evMixed [] (fun _ h => nomatch h) 2000 200 memo26 (by kernel_rfl) (by kernel_rfl)
set_option maxRecDepth 1000000 in
theorem memo27_ok : MemoOk evE memo27 := MemoOk.by evMixed [] (fun _ h => nomatch h) 2000 200 memo27 (by kernel_rfl) (by kernel_rfl)
set_option maxRecDepth 1000000 in
theorem memo28_ok : MemoOk evE memo28 := MemoOk.by evMixed [] (fun _ h => nomatch h) 2000 200 memo28 (by kernel_rfl) (by kernel_rfl)
set_option maxRecDepth 1000000 in
theorem memo29_ok : MemoOk evE memo29 := MemoOk.by evMixed [] (fun _ h => nomatch h) 2000 200 memo29 (by kernel_rfl) (by kernel_rfl)
set_option maxRecDepth 1000000 in
theorem memo30_ok : MemoOk evE memo30 := MemoOk.by evMixed [] (fun _ h => nomatch h) 2000 200 memo30 (by kernel_rfl) (by kernel_rfl)
set_option maxRecDepth 1000000 in
theorem memo31_ok : MemoOk evE memo31 := MemoOk.by evMixed [] (fun _ h => nomatch h) 2000 200 memo31 (by kernel_rfl) (by kernel_rfl)
set_option maxRecDepth 1000000 in
theorem memo32_ok : MemoOk evE memo32 := MemoOk.by evMixed [] (fun _ h => nomatch h) 2000 200 memo32 (by kernel_rfl) (by kernel_rfl)
set_option maxRecDepth 1000000 in
theorem memo33_ok : MemoOk evE memo33 := MemoOk.by evMixed [] (fun _ h => nomatch h) 2000 200 memo33 (by kernel_rfl) (by kernel_rfl)
set_option maxRecDepth 1000000 in
theorem memo34_ok : MemoOk evE memo34 := MemoOk.by evMixed [] (fun _ h => nomatch h) 2000 200 memo34 (by kernel_rfl) (by kernel_rfl)
set_option maxRecDepth 1000000 in
theorem memo35_ok : MemoOk evE memo35 := MemoOk.by evMixed [] (fun _ h => nomatch h) 2000 200 memo35 (by kernel_rfl) (by kernel_rfl)
set_option maxRecDepth 1000000 in
theorem memo36_ok : MemoOk evE memo36 := MemoOk.by evMixed [] (fun _ h => nomatch h) 2000 200 memo36 (by kernel_rfl) (by kernel_rfl)
end Go.Proofs.YtadngfgbefgocaaGreatDoor
