/- What the row is made of: the listed variables as the run reads them. No condition. -/
import Derived.Test.YtadngfgbefgocaaGreatDoorEvRun
import Derived.Test.YtadngfgbefgocaaGreatDoorCards
import Derived.Test.YtadngfgbefgocaaGreatDoorPxD
import Derived.ProofKit
import Derived.SizedLaws
import Derived.Lib.SmallJoins
import Derived.Deep.Slices
import Derived.LaidMore
import Derived.Lay
import Derived.SevenTiedAt
import Derived.Stop.Joined
import Derived.ChangeSame
import Derived.Below
namespace Go.Proofs.YtadngfgbefgocaaGreatDoor
open Go Go.Ev Go.ChangeShapes Go.WideShapes Go.ChangeAt Go.RowKit

theorem Tryz.laidOut : laidOutB Tryz.prog = true := by kernel_rfl
theorem Tryz.cells32 : Tryz.prog.cellsOf 32 = 1 := by kernel_rfl
theorem GlOk.below {E : Env} {W W' : World} (h : GlOk E W) (hb : E.base ≤ W.heap.size) (hB : Below W.heap.size W W') : GlOk E W' := fun b o hlt hg => by
  obtain ⟨c, e, c', e', h1, h2, h3⟩ := h b o hlt hg
  exact ⟨c, e, c', e', h1, (hB.block b (by omega)).trans h2, h3⟩
theorem own : ownKnob Tryz.prog.godebug = none := by kernel_rfl
theorem glob1 {W : World} (h : laidMet Tryz.prog Rows.planShareRow.laid W) : ∃ e', W.heap[1]? = some (.cells (((partsOf Rows.laid_latchkey_syntax_kinds).map flatS).flatten).toArray e' (0, 0)) :=
  gl_of (n := "latchkey/syntax.kinds") (d := Rows.laid_latchkey_syntax_kinds) (t := 239) h (by simp [Rows.planShareRow]) (by kernel_rfl) (by kernel_rfl) (of_decide_eq_true (by kernel_rfl)) fun fuel cs p hd =>
    flat_array (n := 6) (e := 9) Tryz.underlying239 (k := 1) (by kernel_rfl) (by kernel_rfl) flatS (fun _ _ _ _ h => flat_string Tryz.underlying9 h) hd
theorem glob2 {W : World} (h : laidMet Tryz.prog Rows.planShareRow.laid W) : ∃ e', W.heap[2]? = some (.cells (((partsOf Rows.laid_latchkey_syntax_ranks).map flatR).flatten).toArray e' (0, 0)) :=
  gl_of (n := "latchkey/syntax.ranks") (d := Rows.laid_latchkey_syntax_ranks) (t := 285) h (by simp [Rows.planShareRow]) (by kernel_rfl) (by kernel_rfl) (of_decide_eq_true (by kernel_rfl)) fun fuel cs p hd =>
    flat_array (n := 18) (e := 284) Tryz.underlying285 (k := 3) (by kernel_rfl) (by kernel_rfl) flatR (fun _ _ _ _ h => flat_three Tryz.underlying284 (t0 := 3) (t1 := 3) (t2 := 9) (by kernel_rfl) (by kernel_rfl) (by kernel_rfl) (by kernel_rfl) (by kernel_rfl) (fun _ _ _ _ h => flat_int Tryz.underlying3 h) (fun _ _ _ _ h => flat_int Tryz.underlying3 h) (fun _ _ _ _ h => flat_string Tryz.underlying9 h) h) hd
theorem glOk {W : World} (h : laidMet Tryz.prog Rows.planShareRow.laid W) : GlOk evE W := by
  refine GlOk.mk fun x hx => ?_
  simp only [evE, gl, List.mem_cons, List.not_mem_nil, or_false] at hx
  rcases hx with rfl | rfl
  · obtain ⟨e', hw⟩ := glob1 h
    exact ⟨_, _, e', rfl, hw, by kernel_rfl⟩
  · obtain ⟨e', hw⟩ := glob2 h
    exact ⟨_, _, e', rfl, hw, by kernel_rfl⟩
theorem base_le {W : World} (h : laidMet Tryz.prog Rows.planShareRow.laid W) : evE.base ≤ W.heap.size := by
  obtain ⟨e', hw⟩ := glob2 h
  exact size_of_some hw
section
variable {H : Type} {enc : TypeId × Value → H} {P : Program}
theorem post_of_below {f : Func} {s : ChangeSpec} {apart fresh handsOn again : Bool} {W W' : World} {args : Array Value} {v : Value} {ds gs : List (DataW H)} {before pa pv : List MemPlace}
    (hW : DataW.Whole enc P f.params.toList s.vars apart W args.toList ds gs before)
    (hres : ∀ (b : Nat) (sp : Nat → Bool) (hd : Bool), DataW.TrodAll enc P W' b sp hd f.resultTypes.toList (v.resultList f.resultTypes.size) (s.fn H (ds ++ gs)).results [])
    (hargs : ∀ sp : Nat → Bool, (∀ p ∈ before, sp p.block = true) → DataW.TrodAll enc P W' 0 sp true f.params.toList args.toList (s.fn H (ds ++ gs)).args pa)
    (hvars : ∀ sp : Nat → Bool, (∀ p ∈ before, sp p.block = true) → DataW.TrodVars enc P W' sp s.vars (s.fn H (ds ++ gs)).vars pv)
    (hps : before = pa ++ pv) (hb : Below W.heap.size W W')
    (hok : ∀ (j : Nat) (t : TypeId) (r : Value), f.resultTypes[j]? = some t → (v.resultList f.resultTypes.size)[j]? = some r → Value.okWide P W' .any 0 t r) :
    s.post enc P f apart fresh handsOn again W args v W' := by
  have hlt : ∀ p ∈ before, p.block < W.heap.size := fun p hp => hW.lt p hp
  have hold : ∀ p ∈ before, (fun b => decide (b < W.heap.size)) p.block = true := fun p hp => by simpa using hlt p hp
  refine ⟨ds, gs, before, [], pa, pv, hW, hres _ _ _, hargs _ hold, hvars _ hold, World.keptBut_mono (fun p hp => ⟨hp, ?_⟩) (hb.frame (· ∈ before)), fun _ => ?_⟩
  · rw [hps, List.mem_append] at hp
    exact Or.inr hp
  · obtain ⟨_, _, _, _, _, hz, hn⟩ := hW
    refine ⟨hok, _, _, ([] ++ pa) ++ pv, ⟨[] ++ pa, pv, trodAll_append (hargs _ (fun _ _ => rfl)) (hres _ _ _), hvars _ (fun _ _ => rfl), rfl, ?_, ?_⟩, ?_⟩
    · intro b off hp
      have hin : MemPlace.cell b off ∈ before := by rw [hps]; simpa using hp
      rw [hb.frozen (hlt _ hin)]
      exact hz b off hin
    · intro ha
      have := hn ha
      rw [hps] at this
      simpa using this
    · intro p hp _
      rw [hps]
      simpa using hp
end
section
variable {H : Type} {enc : TypeId × Value → H} {P : Program} {w : World} {base : Nat} {spare : Nat → Bool} {held : Bool} {fuel : Nat} {t : TypeId} {cs : List Value} {x : DataW H × List MemPlace}
theorem trod_float {k : FloatKind} (ht : P.underlying t = some (.float k)) (h : DataW.trod enc P w base spare held fuel t cs = some x) : ∃ n, cs = [.float k n] ∧ x = (.lit (.float k n), []) ∧ (Lit.float k n).wf = true := by
  cases fuel with
  | zero => simp [DataW.trod] at h
  | succ n =>
    unfold DataW.trod at h
    rw [ht] at h
    split at h <;> simp_all
theorem array_of (n : Nat) (Q : Nat → Nat → Prop) (h : ∀ i, i < n → ∃ x, Q i x) : ∃ xs : Array Nat, xs.size = n ∧ ∀ i, i < n → Q i xs[i]! := by
  induction n with
  | zero => exact ⟨#[], rfl, fun i hi => absurd hi (by omega)⟩
  | succ n ih =>
    obtain ⟨xs, hl, hx⟩ := ih (fun i hi => h i (by omega))
    obtain ⟨y, hy⟩ := h n (by omega)
    refine ⟨xs.push y, by simp [hl], fun i hi => ?_⟩
    rcases Nat.lt_or_ge i n with hlt | hge
    · rw [getElem!_pos _ i (by simp; omega), Array.getElem_push_lt (by omega), ← getElem!_pos xs i (by omega)]
      exact hx i hlt
    · obtain rfl : i = n := by omega
      rw [getElem!_pos _ i (by simp; omega)]
      simp only [← hl, Array.getElem_push_eq]
      rw [hl]
      exact hy
theorem lt_of_cell {w : World} {a : Addr} {v : Value} (h : w.cell? a = some v) : a.block < w.heap.size ∧ a.spot = none := by
  unfold World.cell? at h
  cases e : w.heap[a.block]? with
  | none => rw [e] at h; cases h
  | some o =>
    refine ⟨(Array.getElem?_eq_some_iff.1 e).1, ?_⟩
    rw [e] at h
    cases o with
    | cells c _ _ =>
      cases hs : a.spot with
      | none => rfl
      | some _ => simp [hs] at h
    | _ => cases h
theorem open_words {n : Nat} {a0 : Option Addr} {len cap : Nat} {d : DataW H} {p : List MemPlace} (h : DataW.trod enc Tryz.prog w base spare held n 22 [.slice a0 len cap] = some (d, p)) :
    ∃ ls : Array Nat, WordsAt w a0 len ls ∧ ∀ i, i < len → ls[i]! < 4294967296 := by
  rcases Go.Deep.open_slice1 Tryz.underlying22 Tryz.cells32 h with ⟨hcs, hx⟩ | ⟨a, len', cap', m, k, V, D, Pl, hcs, hb, hl, hm, hmm, hx, hi⟩
  · simp only [List.cons.injEq, Value.slice.injEq, and_true] at hcs
    obtain ⟨rfl, rfl, rfl⟩ := hcs
    exact ⟨#[], ⟨rfl, fun h => absurd rfl h⟩, fun i hi => absurd hi (by omega)⟩
  · simp only [List.cons.injEq, Value.slice.injEq, and_true] at hcs
    obtain ⟨rfl, rfl, rfl⟩ := hcs
    have hlm : len ≤ m := by rw [hmm]; split <;> omega
    obtain ⟨ls, hsz, hq⟩ := array_of len (fun i x => w.cell? (a.add i) = some (.float .f32 x) ∧ x < 4294967296) (fun i hil => by
      obtain ⟨hc, ht⟩ := hi i (by omega)
      obtain ⟨x, e, _, hw⟩ := trod_float Tryz.underlying32 ht
      simp only [List.cons.injEq, and_true] at e
      refine ⟨x, by rw [hc, e], ?_⟩
      have : x < 2 ^ 32 := of_decide_eq_true hw
      omega)
    refine ⟨ls, ⟨hsz, fun h0 => ?_⟩, fun i hi => (hq i hi).2⟩
    obtain ⟨h1, h2⟩ := lt_of_cell (hq 0 (by omega)).1
    obtain ⟨b, o, s⟩ := a
    have hs : s = none := by cases s with
      | none => rfl
      | some _ => cases h2
    subst hs
    exact ⟨b, o, rfl, h1, hsz, fun i hi => (hq i hi).2, fun i hi => by have := (hq i hi).1; unfold Addr.add at this; split at this; (rename_i hz; rw [hz, Nat.add_zero] at *; exact this); exact this⟩
end
end Go.Proofs.YtadngfgbefgocaaGreatDoor
