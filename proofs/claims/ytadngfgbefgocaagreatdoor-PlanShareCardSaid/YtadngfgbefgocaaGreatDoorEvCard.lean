/- latchkey/latchkeylaw24.PlanShare returns true at every call: the card, its listed variables tied to the program's text. No condition. -/
import Derived.Test.YtadngfgbefgocaaGreatDoorEvRow
import Derived.Test.YtadngfgbefgocaaGreatDoorEvTie
namespace Go.Proofs.YtadngfgbefgocaaGreatDoor
open Go
theorem goes_false {P : Program} (h : P.funcs.any Func.goes = false) (f : FuncId) : P.goes f = false := by
  have each : ∀ g : Nat, (P.funcs[g]?).any Func.goes = false := by
    intro g
    cases hg : P.funcs[g]? with
    | none => rfl
    | some fn =>
      have := Array.any_eq_false.1 h g (Array.getElem?_eq_some_iff.1 hg).1
      rw [(Array.getElem?_eq_some_iff.1 hg).2] at this
      simpa using this
  unfold Program.goes
  simp [each, h]
theorem goesBy_false {P : Program} {c : OpenClaim} (h : P.funcs.any Func.goes = false) (hs : c.start = .entering) : false = c.goesBy P := by
  have h1 : P.goesFrom c.func = false := by
    unfold Program.goesFrom
    cases P.funcNamed c.func with
    | none => rfl
    | some f => exact goes_false h f
  unfold OpenClaim.goesBy Program.goesAt
  rw [h1, hs]
  rfl
set_option maxRecDepth 100000 in
theorem goes_all : Tryz.pinned.checked.prog.funcs.any Func.goes = false := by kernel_rfl
theorem wants22 : Tryz.pinned.checked.prog.wantsStandIn 22 = false := by kernel_rfl
theorem goes_not : false = Rows.planShareRow.goesBy Tryz.pinned.checked.prog := goesBy_false goes_all rfl
set_option maxRecDepth 100000 in
theorem card_holds : Rows.PlanShareCardSaid :=
  Claim7.holds_tied_plain_at .later [] [.data, .data, .widerDeep, .widerDeep, .data, .data, .data, .data, .data, .data, .sentinel, .sentinel, .data, .data, .pinned, .pinned, .pinned] true (true, "bc5f886da8e1ff87ac9c68521fc49fb353ddb068bdf3bbae1dc193fa8ee05670") true row_holds (fun _ h => by cases h) (by kernel_rfl) (fun _ h => by cases h) planShare_row_tie rfl ⟨rfl, rfl⟩ (by kernel_rfl) rfl
    (fun f fn hf hfn => by
      obtain rfl : f = 3 := Option.some.inj ((show Tryz.prog.funcNamed "latchkey/latchkeylaw24.PlanShare" = some 3 by kernel_rfl).symm.trans hf) |>.symm
      obtain rfl : fn = Tryz.f3 := (Option.some.inj (Tryz.func3.symm.trans hfn)).symm
      exact ⟨by kernel_rfl, fun j t ht => by
        rw [Tryz.params3] at ht
        match j, ht with
        | 0, ht => exact Option.some.inj ht ▸ wants22
        | _ + 1, ht => cases ht⟩)
    goes_not
#print axioms card_holds
end Go.Proofs.YtadngfgbefgocaaGreatDoor
