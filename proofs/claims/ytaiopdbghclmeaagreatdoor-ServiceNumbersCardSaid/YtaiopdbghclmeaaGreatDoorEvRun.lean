/- The canonical run of latchkey/latchkeylaw31.ServiceNumbers ends by true: the kernel's own evaluation. No condition. -/
import Derived.Test.YtaiopdbghclmeaaGreatDoorEvE
import Derived.Test.YtaiopdbghclmeaaGreatDoorRows
import Derived.KernelRfl
namespace Go.Proofs.YtaiopdbghclmeaaGreatDoor
open Go Go.Ev
/-- the cells of a struct's data -/
def flatR (d : DataW Unit) : List Value := ((partsOf d).map flatS).flatten
noncomputable def gl : List (Nat × Obj) := [
  (0, .cells (((partsOf Rows.laid_latchkey_syntax_kinds).map flatS).flatten).toArray 0 (0, 0)),
  (1, .cells (((partsOf Rows.laid_latchkey_syntax_ranks).map flatR).flatten).toArray 0 (0, 0))]
noncomputable def evE : Env := { P := Tryz.prog, base := 2, gl := gl }
set_option maxRecDepth 1000000 in
theorem ev_true : outcX (evCallX evE 2000 200 3 #[] { n := evE.base, t := .e, lg := [] }) = 1 := by kernel_rfl
end Go.Proofs.YtaiopdbghclmeaaGreatDoor
