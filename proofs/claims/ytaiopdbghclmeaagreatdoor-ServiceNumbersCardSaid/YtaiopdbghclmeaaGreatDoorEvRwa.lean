/- What the row is made of: the listed variables as the run reads them. No condition. -/
import Derived.Test.YtaiopdbghclmeaaGreatDoorEvRun
import Derived.Test.YtaiopdbghclmeaaGreatDoorCards
import Derived.ProofKit
import Derived.LaidMore
import Derived.Lay
import Derived.SevenTiedAt
import Derived.Stop.Joined
import Derived.ChangeSame
import Derived.Below
namespace Go.Proofs.YtaiopdbghclmeaaGreatDoor
open Go Go.Ev Go.ChangeShapes Go.WideShapes Go.ChangeAt Go.RowKit

theorem own : ownKnob Tryz.prog.godebug = none := by kernel_rfl
theorem mixed : Tryz.prog.follows .mixedOrders = true := by kernel_rfl
theorem glob0 {W : World} (h : laidMet Tryz.prog Rows.serviceNumbersRow.laid W) : ∃ e', W.heap[0]? = some (.cells (((partsOf Rows.laid_latchkey_syntax_kinds).map flatS).flatten).toArray e' (0, 0)) :=
  gl_of (n := "latchkey/syntax.kinds") (d := Rows.laid_latchkey_syntax_kinds) (t := 487) h (by simp [Rows.serviceNumbersRow]) (by kernel_rfl) (by kernel_rfl) (of_decide_eq_true (by kernel_rfl)) fun fuel cs p hd =>
    flat_array (n := 6) (e := 9) Tryz.underlying487 (k := 1) (by kernel_rfl) (by kernel_rfl) flatS (fun _ _ _ _ h => flat_string Tryz.underlying9 h) hd
theorem glob1 {W : World} (h : laidMet Tryz.prog Rows.serviceNumbersRow.laid W) : ∃ e', W.heap[1]? = some (.cells (((partsOf Rows.laid_latchkey_syntax_ranks).map flatR).flatten).toArray e' (0, 0)) :=
  gl_of (n := "latchkey/syntax.ranks") (d := Rows.laid_latchkey_syntax_ranks) (t := 554) h (by simp [Rows.serviceNumbersRow]) (by kernel_rfl) (by kernel_rfl) (of_decide_eq_true (by kernel_rfl)) fun fuel cs p hd =>
    flat_array (n := 18) (e := 553) Tryz.underlying554 (k := 3) (by kernel_rfl) (by kernel_rfl) flatR (fun _ _ _ _ h => flat_three Tryz.underlying553 (t0 := 3) (t1 := 3) (t2 := 9) (by kernel_rfl) (by kernel_rfl) (by kernel_rfl) (by kernel_rfl) (by kernel_rfl) (fun _ _ _ _ h => flat_int Tryz.underlying3 h) (fun _ _ _ _ h => flat_int Tryz.underlying3 h) (fun _ _ _ _ h => flat_string Tryz.underlying9 h) h) hd
theorem glOk {W : World} (h : laidMet Tryz.prog Rows.serviceNumbersRow.laid W) : GlOk evE W := by
  refine GlOk.mk fun x hx => ?_
  simp only [evE, gl, List.mem_cons, List.not_mem_nil, or_false] at hx
  rcases hx with rfl | rfl
  · obtain ⟨e', hw⟩ := glob0 h
    exact ⟨_, _, e', rfl, hw, by kernel_rfl⟩
  · obtain ⟨e', hw⟩ := glob1 h
    exact ⟨_, _, e', rfl, hw, by kernel_rfl⟩
theorem base_le {W : World} (h : laidMet Tryz.prog Rows.serviceNumbersRow.laid W) : evE.base ≤ W.heap.size := by
  obtain ⟨e', hw⟩ := glob1 h
  exact size_of_some hw
section
variable {H : Type} {enc : TypeId × Value → H} {P : Program}
theorem post_of_below {f : Func} {s : ChangeSpec} {apart fresh handsOn again : Bool} {W W' : World} {args : Array Value} {v : Value} {ds gs : List (DataW H)} {before pa pv : List MemPlace}
    (hW : DataW.Whole enc P f.params.toList s.vars apart W args.toList ds gs before)
    (hres : ∀ (b : Nat) (sp : Nat → Bool) (hd : Bool), DataW.TrodAll enc P W' b sp hd f.resultTypes.toList (v.resultList f.resultTypes.size) (s.fn H (ds ++ gs)).results [])
    (hargs : ∀ sp : Nat → Bool, (∀ p ∈ before, sp p.block = true) → DataW.TrodAll enc P W' 0 sp true f.params.toList args.toList (s.fn H (ds ++ gs)).args pa)
    (hvars : ∀ sp : Nat → Bool, (∀ p ∈ before, sp p.block = true) → DataW.TrodVars enc P W' sp s.vars (s.fn H (ds ++ gs)).vars pv)
    (hps : before = pa ++ pv) (hb : Below W.heap.size W W')
    (hok : ∀ (j : Nat) (t : TypeId) (r : Value), f.resultTypes[j]? = some t → (v.resultList f.resultTypes.size)[j]? = some r → Value.okWide P W' .any 0 t r) :
    s.post enc P f apart fresh handsOn again W args v W' := by
  have hlt : ∀ p ∈ before, p.block < W.heap.size := fun p hp => hW.lt p hp
  have hold : ∀ p ∈ before, (fun b => decide (b < W.heap.size)) p.block = true := fun p hp => by simpa using hlt p hp
  refine ⟨ds, gs, before, [], pa, pv, hW, hres _ _ _, hargs _ hold, hvars _ hold, World.keptBut_mono (fun p hp => ⟨hp, ?_⟩) (hb.frame (· ∈ before)), fun _ => ?_⟩
  · rw [hps, List.mem_append] at hp
    exact Or.inr hp
  · obtain ⟨_, _, _, _, _, hz, hn⟩ := hW
    refine ⟨hok, _, _, ([] ++ pa) ++ pv, ⟨[] ++ pa, pv, trodAll_append (hargs _ (fun _ _ => rfl)) (hres _ _ _), hvars _ (fun _ _ => rfl), rfl, ?_, ?_⟩, ?_⟩
    · intro b off hp
      have hin : MemPlace.cell b off ∈ before := by rw [hps]; simpa using hp
      rw [hb.frozen (hlt _ hin)]
      exact hz b off hin
    · intro ha
      have := hn ha
      rw [hps] at this
      simpa using this
    · intro p hp _
      rw [hps]
      simpa using hp
end
end Go.Proofs.YtaiopdbghclmeaaGreatDoor
