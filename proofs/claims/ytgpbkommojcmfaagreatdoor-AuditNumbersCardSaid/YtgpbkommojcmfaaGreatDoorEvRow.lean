/- latchkey/latchkeylaw28.AuditNumbers returns true at every call: the row's statement, and its card. Of the listed package-level variables it is taken (as the given row says) that they read as listed; the card ties them to the program's text. No other condition. -/
import Derived.Test.YtgpbkommojcmfaaGreatDoorEvRun
import Derived.Test.YtgpbkommojcmfaaGreatDoorCards
import Derived.ProofKit
import Derived.LaidMore
import Derived.Lay
import Derived.SevenTiedAt
import Derived.Stop.Joined
import Derived.ChangeSame
import Derived.Below
namespace Go.Proofs.YtgpbkommojcmfaaGreatDoor
open Go Go.Ev Go.ChangeShapes Go.WideShapes Go.ChangeAt Go.RowKit

theorem own : ownKnob Tryz.prog.godebug = none := by kernel_rfl
theorem mixed : Tryz.prog.follows .mixedOrders = true := by kernel_rfl
theorem glob0 {W : World} (h : laidMet Tryz.prog Rows.auditNumbersRow.laid W) : ∃ e', W.heap[0]? = some (.cells (((partsOf Rows.laid_latchkey_syntax_kinds).map flatS).flatten).toArray e' (0, 0)) :=
  gl_of (n := "latchkey/syntax.kinds") (d := Rows.laid_latchkey_syntax_kinds) (t := 265) h (by simp [Rows.auditNumbersRow]) (by kernel_rfl) (by kernel_rfl) (of_decide_eq_true (by kernel_rfl)) fun fuel cs p hd =>
    flat_array (n := 6) (e := 9) Tryz.underlying265 (k := 1) (by kernel_rfl) (by kernel_rfl) flatS (fun _ _ _ _ h => flat_string Tryz.underlying9 h) hd
theorem glob1 {W : World} (h : laidMet Tryz.prog Rows.auditNumbersRow.laid W) : ∃ e', W.heap[1]? = some (.cells (((partsOf Rows.laid_latchkey_syntax_ranks).map flatR).flatten).toArray e' (0, 0)) :=
  gl_of (n := "latchkey/syntax.ranks") (d := Rows.laid_latchkey_syntax_ranks) (t := 347) h (by simp [Rows.auditNumbersRow]) (by kernel_rfl) (by kernel_rfl) (of_decide_eq_true (by kernel_rfl)) fun fuel cs p hd =>
    flat_array (n := 18) (e := 346) Tryz.underlying347 (k := 3) (by kernel_rfl) (by kernel_rfl) flatR (fun _ _ _ _ h => flat_three Tryz.underlying346 (t0 := 3) (t1 := 3) (t2 := 9) (by kernel_rfl) (by kernel_rfl) (by kernel_rfl) (by kernel_rfl) (by kernel_rfl) (fun _ _ _ _ h => flat_int Tryz.underlying3 h) (fun _ _ _ _ h => flat_int Tryz.underlying3 h) (fun _ _ _ _ h => flat_string Tryz.underlying9 h) h) hd
theorem glob2 {W : World} (h : laidMet Tryz.prog Rows.auditNumbersRow.laid W) : ∃ e', W.heap[2]? = some (.cells (((partsOf Rows.laid_latchkey_latchkeyref01_words).map flatS).flatten).toArray e' (0, 0)) :=
  gl_of (n := "latchkey/latchkeyref01.words") (d := Rows.laid_latchkey_latchkeyref01_words) (t := 428) h (by simp [Rows.auditNumbersRow]) (by kernel_rfl) (by kernel_rfl) (of_decide_eq_true (by kernel_rfl)) fun fuel cs p hd =>
    flat_array (n := 13) (e := 9) Tryz.underlying428 (k := 1) (by kernel_rfl) (by kernel_rfl) flatS (fun _ _ _ _ h => flat_string Tryz.underlying9 h) hd
theorem glOk {W : World} (h : laidMet Tryz.prog Rows.auditNumbersRow.laid W) : GlOk evE W := by
  refine GlOk.mk fun x hx => ?_
  simp only [evE, gl, List.mem_cons, List.not_mem_nil, or_false] at hx
  rcases hx with rfl | rfl | rfl
  · obtain ⟨e', hw⟩ := glob0 h
    exact ⟨_, _, e', rfl, hw, by kernel_rfl⟩
  · obtain ⟨e', hw⟩ := glob1 h
    exact ⟨_, _, e', rfl, hw, by kernel_rfl⟩
  · obtain ⟨e', hw⟩ := glob2 h
    exact ⟨_, _, e', rfl, hw, by kernel_rfl⟩
theorem base_le {W : World} (h : laidMet Tryz.prog Rows.auditNumbersRow.laid W) : evE.base ≤ W.heap.size := by
  obtain ⟨e', hw⟩ := glob2 h
  exact size_of_some hw
section
variable {H : Type} {enc : TypeId × Value → H} {P : Program}
theorem post_of_below {f : Func} {s : ChangeSpec} {apart fresh handsOn again : Bool} {W W' : World} {args : Array Value} {v : Value} {ds gs : List (DataW H)} {before pa pv : List MemPlace}
    (hW : DataW.Whole enc P f.params.toList s.vars apart W args.toList ds gs before)
    (hres : ∀ (b : Nat) (sp : Nat → Bool) (hd : Bool), DataW.TrodAll enc P W' b sp hd f.resultTypes.toList (v.resultList f.resultTypes.size) (s.fn H (ds ++ gs)).results [])
    (hargs : ∀ sp : Nat → Bool, (∀ p ∈ before, sp p.block = true) → DataW.TrodAll enc P W' 0 sp true f.params.toList args.toList (s.fn H (ds ++ gs)).args pa)
    (hvars : ∀ sp : Nat → Bool, (∀ p ∈ before, sp p.block = true) → DataW.TrodVars enc P W' sp s.vars (s.fn H (ds ++ gs)).vars pv)
    (hps : before = pa ++ pv) (hb : Below W.heap.size W W')
    (hok : ∀ (j : Nat) (t : TypeId) (r : Value), f.resultTypes[j]? = some t → (v.resultList f.resultTypes.size)[j]? = some r → Value.okWide P W' .any 0 t r) :
    s.post enc P f apart fresh handsOn again W args v W' := by
  have hlt : ∀ p ∈ before, p.block < W.heap.size := fun p hp => hW.lt p hp
  have hold : ∀ p ∈ before, (fun b => decide (b < W.heap.size)) p.block = true := fun p hp => by simpa using hlt p hp
  refine ⟨ds, gs, before, [], pa, pv, hW, hres _ _ _, hargs _ hold, hvars _ hold, World.keptBut_mono (fun p hp => ⟨hp, ?_⟩) (hb.frame (· ∈ before)), fun _ => ?_⟩
  · rw [hps, List.mem_append] at hp
    exact Or.inr hp
  · obtain ⟨_, _, _, _, _, hz, hn⟩ := hW
    refine ⟨hok, _, _, ([] ++ pa) ++ pv, ⟨[] ++ pa, pv, trodAll_append (hargs _ (fun _ _ => rfl)) (hres _ _ _), hvars _ (fun _ _ => rfl), rfl, ?_, ?_⟩, ?_⟩
    · intro b off hp
      have hin : MemPlace.cell b off ∈ before := by rw [hps]; simpa using hp
      rw [hb.frozen (hlt _ hin)]
      exact hz b off hin
    · intro ha
      have := hn ha
      rw [hps] at this
      simpa using this
    · intro p hp _
      rw [hps]
      simpa using hp
end
set_option maxRecDepth 100000 in
theorem lifted (os : Os) (started : os.Started) (H : Type) (enc : TypeId × Value → H) :
    ReturnsInHanded {} Tryz.checked os 3 .any (fun w args => (Rows.auditNumbersSpec.pre enc Tryz.prog Tryz.f3 Rows.auditNumbersRow.domain false w args ∧ laidMetH Tryz.prog Rows.auditNumbersRow.laid w) ∧ sizedMet enc Tryz.prog Tryz.f3 (OpenSpec.ofChange Rows.auditNumbersSpec) false w args)
      (Rows.auditNumbersSpec.post enc Tryz.prog Tryz.f3 false true false false) := by
  refine returnsInHanded_of_change_and (C := Tryz.checked) (X := fun w _ => laidMetH Tryz.prog Rows.auditNumbersRow.laid w) (fun _ _ _ hh h => h.of_heap hh) own started (by kernel_rfl) Tryz.func3
    (ChangeSpec.witness_shaped (enc := enc) (C := Tryz.checked) (os := os) (X := fun w _ => laidMetH Tryz.prog Rows.auditNumbersRow.laid w) false (World.laidAll Tryz.prog os Rows.auditNumbersRow.laid) #[] 8 (World.laidAll_os _ _ _)
      (World.shaped_of_ZipB (by kernel_rfl) (by kernel_rfl)) (by kernel_rfl) (by kernel_rfl) (by kernel_rfl)
      (by rw [MakeChecks.laidMetH_plain _ _ _ (by kernel_rfl)]; exact laidMet_laidAll _ (by kernel_rfl) (by kernel_rfl))) ?_
  intro W base args ds gs before hval0 hW _ _ hL _
  have hL' : laidMet Tryz.prog Rows.auditNumbersRow.laid W := by rw [MakeChecks.laidMetH_plain _ _ _ (by kernel_rfl)] at hL; exact hL
  have hW' := hW
  obtain ⟨p, q, hA0, hV, rfl, _, _⟩ := hW
  have hA : DataW.TrodAll enc Tryz.prog W 0 (fun _ => true) true Tryz.f3.params.toList args.toList ds p := hA0
  rw [Tryz.params3] at hA
  obtain ⟨rfl, rfl, rfl⟩ := trodAll_none hA
  obtain ⟨rfl, rfl⟩ := trodVars_none hV
  refine (closed_callX evE mixed 2000 200 3 ev_true W (base_le hL') (glOk hL')).mono fun e W' ⟨he, hb⟩ => ?_
  subst he
  refine ⟨_, rfl, post_of_below (pa := []) (pv := []) hW' (fun _ _ _ => trodAll_mk1 (shut_bool Tryz.underlying4 true)) (fun sp hsp => ?_) (fun _ _ => rfl) rfl hb (ok_one (by kernel_rfl) rfl (okWide_bool_mk Tryz.underlying4 true))⟩
  rw [Tryz.params3]
  rfl

theorem and_i {a b : Bool} (ha : a = true) (hb : b = true) : (a && b) = true := by rw [ha, hb]; rfl
set_option maxRecDepth 100000 in
set_option maxHeartbeats 20000000 in
theorem closed : joinedFacts Tryz.prog 3 Tryz.f3 Rows.auditNumbersSpec Rows.auditNumbersRow = true := by
  unfold joinedFacts
  repeat' (with_reducible refine and_i ?_ ?_)
  all_goals as_aux_lemma => kernel_rfl
theorem row_holds : Rows.AuditNumbersSaid :=
  OpenClaim.holds_of_wide 3 Tryz.f3 rfl rfl rfl rfl rfl rfl rfl ⟨rfl, rfl, rfl, rfl, rfl⟩ rfl rfl rfl rfl rfl (by as_aux_lemma => kernel_rfl) Tryz.func3 closed
    (of_decide_eq_true (by kernel_rfl)) (by unfold Func.isWrapper; first | (rw [if_pos (by decide +kernel)]; kernel_rfl) | (rw [if_neg (by decide +kernel)]; exact ⟨rfl, rfl⟩))
    (fun os started H enc _ => lifted os started H enc)
end Go.Proofs.YtgpbkommojcmfaaGreatDoor
