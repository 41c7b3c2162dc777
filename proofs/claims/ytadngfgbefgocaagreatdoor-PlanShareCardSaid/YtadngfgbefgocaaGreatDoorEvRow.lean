/- latchkey/latchkeylaw24.PlanShare returns true at every call: the row's statement, and its card. Of the listed package-level variables it is taken (as the given row says) that they read as listed; the card ties them to the program's text. No other condition. -/
import Derived.Test.YtadngfgbefgocaaGreatDoorEvRwb
import Derived.Test.YtadngfgbefgocaaGreatDoorEvRwc
namespace Go.Proofs.YtadngfgbefgocaaGreatDoor
open Go Go.Ev Go.ChangeShapes Go.WideShapes Go.ChangeAt Go.RowKit
theorem row_holds : Rows.PlanShareSaid :=
  OpenClaim.holds_of_wide 3 Tryz.f3 rfl rfl rfl rfl rfl rfl rfl ⟨rfl, rfl, rfl, rfl, rfl⟩ rfl rfl rfl rfl rfl (by as_aux_lemma => kernel_rfl) Tryz.func3 closed
    (of_decide_eq_true (by kernel_rfl)) (by unfold Func.isWrapper; first | (rw [if_pos (by decide +kernel)]; kernel_rfl) | (rw [if_neg (by decide +kernel)]; exact ⟨rfl, rfl⟩))
    (fun os started H enc _ => lifted os started H enc)
end Go.Proofs.YtadngfgbefgocaaGreatDoor
