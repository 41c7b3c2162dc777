/- A part of a verified evaluator of closed calls (a canonical run, and why the machine ends every such call as it does). No condition. -/
import Derived.Test.YtpdgojmjomkapaaGreatDoorEvD
import Derived.Defers
import Derived.ProofKit
import Derived.OpenShut
import Derived.Lib.LaidIn
import Derived.MakeChecks

namespace Go.Ev
open Go.RowKit
set_option linter.unusedVariables false
set_option linter.unusedSimpArgs false

def ExR : Ex → Exit
  | .normal => .normal
  | .exit id => .exit id
  | .goto l => .goto l
  | .ret => .ret
def DsR (σ : S) : List Nat → List Deferred → Prop
  | [], l => l = []
  | d :: ds, l => ∃ r l', l = { target := .collected r, args := #[] } :: l' ∧ σ d = some r ∧ DsR σ ds l'
theorem DsR.mono {σ σ' : S} (hs : Sub σ σ') : ∀ {ds : List Nat} {l : List Deferred}, DsR σ ds l → DsR σ' ds l
  | [], _, h => h
  | _ :: _, _, ⟨r, l', e, hr, h⟩ => ⟨r, l', e, hs.f _ _ hr, DsR.mono hs h⟩
structure AcR (σ : S) (t : Ac) (a : Act) : Prop where
  tmps : VRA σ t.t a.tmps
  defers : DsR σ t.ds a.defers
/-- what a piece of code leaves -/
def Post (X : Cx) (σ : S) (n : Nat) (h' : Hp) (ex : Ex) (t' : Ac) : Exit → Act → World → Prop := fun e a' w' =>
  e = ExR ex ∧ ∃ σ', Ext σ σ' n h'.n ∧ HR X σ' h' w' ∧ AcR σ' t' a'

section
variable {X : Cx} {call : CallM}
theorem Post.trans {σ σ1 : S} {n m : Nat} {h' : Hp} {ex : Ex} {t' : Ac} {e : Exit} {a' : Act} {w' : World} (hx : Ext σ σ1 n m) (h1 : n ≤ m) (h2 : m ≤ h'.n) (h : Post X σ1 m h' ex t' e a' w') : Post X σ n h' ex t' e a' w' := by
  obtain ⟨he, σ', x', H', A'⟩ := h
  exact ⟨he, σ', hx.trans x' h1 h2, H', A'⟩
theorem cond_R {σ : S} {t : Ac} {a : Act} (hA : AcR σ t a) {c : Operand} {x : Bool} (h : ev t.t c = .bool x) : a.eval c = .bool x := by
  cases c with
  | tmp i =>
    have := hA.tmps.getD i
    change t.t.getD i undef = _ at h
    rw [h] at this
    show a.tmps.getD i undef = _
    generalize a.tmps.getD i undef = u at *
    cases this
    rfl
  | const v => exact h
  | global g => cases h
  | func f => cases h

/-! ### a range over a function -/
theorem step_endRange {P : Program} {b : Frame} {a : Act} {k : List Item} {cs : List Frame} {w : World} {l : Nat} {w' : World} (h : (Instr.endLoop l).run P w = .ok none w') :
    step P (lone (b.at a (.endRangeFunc l :: k)) cs w) = .next (lone (b.at a k) cs w') :=
  step_lone_go (by simp [stepG, stepG.exec, Frame.at, Sem.runT_eq, h, GStep.bare_after])
theorem step_range {P : Program} {b : Frame} {a : Act} {k : List Item} {cs : List Frame} {w : World} {g : Operand} {ps : Array Tmp} {assign body : Code} {l : Nat} {mark : List Deferred} {w₁ w₁' w₂ : World} {d : Deferred} {f : FuncId} {args : Array Value}
    (he : (Instr.enterLoop b.fn a.tmps ps assign body none).run P w = .ok (l, mark) w₁)
    (hres : (resolve a.eval { callee := .value g, args := #[.const (.func (.yield l) #[] #[])], argTypes := #[] } 0).run P w₁ = .ok d w₁') (hinv : (invoke d.target d.args).run P w₁' = .ok (.enter f args) w₂) :
    step P (lone (b.at a (.code (.rangeFunc g ps assign body) :: k)) cs w) =
      .next (lone (Frame.enter P f args .normal) (b.at { a with defers := mark ++ a.defers } (.inRangeFunc l :: k) :: cs) w₂) :=
  step_lone_go (by
    have hev := Frame.eval_at' b { a with defers := mark ++ a.defers } (.inRangeFunc l :: k)
    simp only [Frame.at] at hev
    have hres' : Sem.run P (resolve ({ tmps := a.tmps, defers := mark ++ a.defers } : Act).eval { callee := .value g, args := #[.const (.func (.yield l) #[] #[])], argTypes := #[] } 0) w₁ = .ok d w₁' := hres
    simp [stepG, stepG.exec, Frame.at, Sem.runT_eq, he, GStep.bare_after, stepG.apply, hev, Sem.run_bind, hres', hinv, Result.andThen])

theorem evRange_wp (hc : CallOk X call) (hF : ∀ f args, Fr X.E (call f args)) {σ : S} {f : Operand} {ps : Array Tmp} {assign body : Code} {t t' : Ac} {a : Act} {h h' : Hp} {w : World} {ex : Ex} (hA : AcR σ t a) (H : HR X σ h w)
    (e : evRange X.E call f t h = .ok ((ex, t'), h')) (hfree : ∀ b, h.n ≤ b → b < h'.n → σ b = none) : (Code.rangeFunc f ps assign body).wp X.E.P (Post X σ h.n h' ex t') a w := by
  unfold evRange at e
  split at e
  · cases e
  · rename_i hconst
    obtain ⟨d, h1, e1, eA⟩ := bind_ok e
    clear e
    obtain ⟨l, h2, e2, eB⟩ := bind_ok eA
    clear eA
    obtain ⟨fn, first, captured, hev⟩ : ∃ fn first captured, ev t.t f = .func fn first captured := by
      cases hev : ev t.t f with
      | func fn first captured => exact ⟨fn, first, captured, rfl⟩
      | _ => rw [hev] at eB; cases eB
    rw [hev] at eB
    try dsimp only at eB
    · obtain ⟨nx, h3, e3, eC⟩ := bind_ok eB
      clear eB
      obtain ⟨g, args, rfl⟩ : ∃ g args, nx = .enter g args := by
        cases nx with
        | enter g args => exact ⟨g, args, rfl⟩
        | _ => cases eC
      try dsimp only at eC
      · obtain ⟨v, h4, e4, eD⟩ := bind_ok eC
        clear eC
        obtain ⟨o, h5, e5, eE⟩ := bind_ok eD
        clear eD
        try dsimp only at eE
        obtain ⟨r, rfl⟩ : ∃ r, o = .loop r := by
          cases o with
          | loop r => exact ⟨r, rfl⟩
          | _ => cases eE
        try dsimp only at eE
        · split at eE
          · rename_i hst
            obtain ⟨u, h6, e6, eF⟩ := bind_ok eE
            clear eE
            cases eF
            simp only [Bool.and_eq_true] at hst
            intro b k cs
            -- the two blocks
            have m1 : h.n ≤ h1.n := (Fr.new _).mono e1
            have m2 : h1.n ≤ h2.n := (Fr.new _).mono e2
            have m3 : h2.n ≤ h3.n := (Fr.invoke _ _).mono e3
            have m4 : h3.n ≤ h4.n := (hF _ _).mono e4
            have m5 : h4.n ≤ h5.n := (Fr.obj _).mono e5
            have m6 : h5.n ≤ h'.n := (Fr.put _ _).mono e6
            obtain ⟨σ1, d', w1, x1, r1, H1, hd⟩ := RelM.new (X := X) (σ := σ) (o := .deferred (some [])) (o' := .deferred (some [])) (fun σ' _ => ⟨[], rfl, rfl⟩) h w d h1 H e1 (fun b hb hl => hfree b hb (by omega))
            have lo : ∀ σ', ObR σ' (.loop (lp .ready)) (.loop { state := .ready, pending := none, fn := b.fn, tmps := a.tmps, params := ps, assign := assign, body := body, defers := d' }) := fun σ' => ⟨_, rfl, rfl, rfl⟩
            obtain ⟨σ2, l', w2, x2, r2, H2, hl⟩ := RelM.new (X := X) (σ := σ1) (fun σ' _ => lo σ') h1 w1 l h2 H1 e2 (fun b hb hl => x1.out b (hfree b (by omega) (by omega)) (by omega))
            have henter : (Instr.enterLoop b.fn a.tmps ps assign body none).run X.E.P w = .ok (l', [{ target := .collected d', args := #[] }]) w2 := by
              unfold Instr.enterLoop
              simp only [bind_assoc, pure_bind]
              rw [run_bind', r1]
              simp only
              rw [run_bind', r2]
              rfl
            have x12 := x1.trans x2 m1 m2
            -- the call
            have hfv : VR σ2 (.func fn first captured) (a.eval f) := by
              cases f with
              | tmp i =>
                have := (hA.tmps.getD i).mono x12.sub
                change t.t.getD i undef = _ at hev
                rw [hev] at this
                exact this
              | const v => exact absurd rfl hconst
              | global g => cases hev
              | func g =>
                cases hev
                exact .func _ _ _ _ _ (fun l hl => by cases hl) .nil .nil
            obtain ⟨df, hdf, hdR⟩ : ∃ df : Deferred, (resolve a.eval { callee := .value f, args := #[.const (.func (.yield l') #[] #[])], argTypes := #[] } 0).run X.E.P w2 = .ok df w2 ∧ DfR σ2 { target := .fn fn captured, args := first ++ #[.func (.yield l) #[] #[]] } df := by
              have hy : VR σ2 (.func (.yield l) #[] #[]) (.func (.yield l') #[] #[]) := .yield l l' [] [] [] [] hl.1 .nil .nil
              unfold resolve
              simp only [List.map_toArray, List.map_cons, List.map_nil]
              generalize a.eval f = fv at hfv
              cases hfv with
              | func _ xs ys xs' ys' hn hx hy' => exact ⟨_, rfl, ⟨_, _, rfl, .inl ⟨rfl, hn⟩, hy'⟩, VRA.append (a := ⟨xs⟩) (b := ⟨xs'⟩) hx (c := #[.func (.yield l) #[] #[]]) (d := #[a.eval (.const (.func (.yield l') #[] #[]))]) (.cons _ _ _ _ hy .nil)⟩
              | yield l0 r0 xs ys xs' ys' hl0 hx hy' => exact ⟨_, rfl, ⟨_, _, rfl, .inr ⟨l0, r0, rfl, rfl, hl0⟩, hy'⟩, VRA.append (a := ⟨xs⟩) (b := ⟨xs'⟩) hx (c := #[.func (.yield l) #[] #[]]) (d := #[a.eval (.const (.func (.yield l') #[] #[]))]) (.cons _ _ _ _ hy .nil)⟩
            obtain ⟨σ3, nx', w3, x3, r3, H3, hN⟩ := invoke_R (X := X) hdR.target hdR.args h2 w2 _ h3 H2 e3 (fun b hb hl => x12.out b (hfree b (by omega) (by omega)) (by omega))
            cases hN with
            | enter _ _ args' hargs =>
              have x13 := x12.trans x3 (by omega) m3
              have hstep := step_range (b := b) (a := a) (k := k) (cs := cs) (g := f) (ps := ps) (assign := assign) (body := body) henter hdf r3
              obtain ⟨en, w4, fr, hR, hcomes, hfn, hleave⟩ := hc σ3 g args args' h3 w3 v h4 H3 hargs e4 (fun b hb hl => x13.out b (hfree b (by omega) (by omega)) (by omega)) (b.at { a with defers := [{ target := .collected d', args := #[] }] ++ a.defers } (.inRangeFunc l' :: k) :: cs)
              obtain ⟨σ4, v', rfl, x4, H4, hv⟩ := hR
              have x14 := x13.trans x4 (by omega) m4
              obtain ⟨ho, rfl, _⟩ := obj_ok e5
              have hl4 : σ4 l = some l' := x4.sub.f _ _ (x3.sub.f _ _ hl.1)
              have hd4 : σ4 d = some d' := x4.sub.f _ _ (x3.sub.f _ _ (x2.sub.f _ _ hd.1))
              obtain ⟨rr, o', hrr, hw4, hO⟩ := H4.live _ _ ho
              rw [hl4] at hrr
              cases hrr
              obtain ⟨r', rfl, hlr⟩ := hO
              obtain ⟨p0, _, rfl⟩ := put_ok e6
              have hst' : r'.state = .ready := by
                rw [hlr.state]
                have := hst.1
                revert this
                cases r.state <;> intro this <;> first | rfl | cases this
              have hpe' : r'.pending = none := by
                rw [hlr.pending]
                exact Option.isNone_iff_eq_none.1 hst.2
              have hg4 := run_getObj_at (P := X.E.P) hw4 (by intro _ _ _ hh; cases hh)
              have hend : (Instr.endLoop l').run X.E.P w4 = .ok none { w4 with heap := w4.heap.setIfInBounds l' (.loop { r' with state := .exhausted }) } := by
                unfold Instr.endLoop Instr.getLoop
                rw [run_bind', run_bind', hg4]
                simp only
                have hns : (r'.state == LoopState.busy) = false := by rw [hst']; rfl
                have hso := run_setObj (P := X.E.P) (r := l') (o := .loop { r' with state := .exhausted }) hw4 (by intro _ _ _ hh; cases hh)
                show (do
                  if r'.state == .busy then Go.runtimePanic (.error "range function recovered a loop body panic and did not resume panicking")
                  Go.setObj l' (.loop { r' with state := .exhausted })
                  Pure.pure r'.pending : Sem (Option Code)).run X.E.P w4 = _
                rw [hns]
                simp only [Bool.false_eq_true, if_false]
                rw [run_bind', hso]
                simp only [hpe']
                rfl
              have H5 := (H4.rd l).setObj hl4 p0 ho (o := .loop (lp .exhausted)) (o' := .loop { r' with state := .exhausted }) ⟨_, rfl, rfl, hpe'⟩ (fun _ _ _ hh => by cases hh)
              refine ⟨.normal, { a with defers := [{ target := .collected d', args := #[] }] ++ a.defers }, _, ⟨rfl, σ4, x14, H5, ⟨hA.tmps.mono x14.sub, d', a.defers, rfl, hd4, hA.defers.mono x14.sub⟩⟩, ?_⟩
              refine Steps.head hstep (Steps.trans hcomes (Steps.head (step_leave_returned hleave) ?_))
              have hfin : (b.at { a with defers := [{ target := .collected d', args := #[] }] ++ a.defers } (.inRangeFunc l' :: k)).finish v' = b.at { a with defers := [{ target := .collected d', args := #[] }] ++ a.defers } (.endRangeFunc l' :: k) := by
                simp [Frame.finish, Frame.at]
              rw [hfin]
              exact Steps.one (step_endRange hend)
          · cases eE
end
end Go.Ev

namespace Go.Ev
open Go.RowKit
set_option linter.unusedVariables false
set_option linter.unusedSimpArgs false
section
variable {X : Cx} {call : CallM}
theorem ret_ok {α : Type} {a b : α} {h h' : Hp} (e : M.pure a h = .ok (b, h')) : b = a ∧ h' = h := by
  cases e
  exact ⟨rfl, rfl⟩
theorem evCode_wp (hm : X.E.P.follows .mixedOrders = true) (hc : CallOk X call) (hF : ∀ f args, Fr X.E (call f args)) : ∀ (k : Nat),
    (∀ (c : Code) {σ : S} (t t' : Ac) (a : Act) (h h' : Hp) (w : World) (ex : Ex), AcR σ t a → HR X σ h w → evCode X.E call k c t h = .ok ((ex, t'), h') → (∀ b, h.n ≤ b → b < h'.n → σ b = none) → c.wp X.E.P (Post X σ h.n h' ex t') a w) ∧
    (∀ (c : Code) {σ : S} (t t' : Ac) (a : Act) (h h' : Hp) (w : World) (ex : Ex), AcR σ t a → HR X σ h w → evCode X.E call k (.loop c) t h = .ok ((ex, t'), h') → (∀ b, h.n ≤ b → b < h'.n → σ b = none) → Code.rounds X.E.P c (Post X σ h.n h' ex t') k a w) := by
  intro k
  induction k with
  | zero =>
    constructor
    · intro c σ t t' a h h' w ex _ _ e
      cases e
    · intro c σ t t' a h h' w ex _ _ e
      cases e
  | succ k ih =>
    obtain ⟨ih1, ih2⟩ := ih
    have FC := fun c t => Fr.evCode (E := X.E) hF k c t
    have loopS : ∀ (c : Code) {σ : S} (t t' : Ac) (a : Act) (h h' : Hp) (w : World) (ex : Ex), AcR σ t a → HR X σ h w → evCode X.E call (k + 1) (.loop c) t h = .ok ((ex, t'), h') → (∀ b, h.n ≤ b → b < h'.n → σ b = none) → Code.rounds X.E.P c (Post X σ h.n h' ex t') (k + 1) a w := by
      intro c σ t t' a h h' w ex hA H e hfree
      unfold evCode at e
      dsimp only at e
      obtain ⟨⟨ex1, t1⟩, h1, e1, e2⟩ := bind_ok e
      have m1 := (FC c t).mono e1
      show c.wp X.E.P (Exit.then (Code.rounds X.E.P c (Post X σ h.n h' ex t') k) (Post X σ h.n h' ex t')) a w
      cases ex1 with
      | normal =>
        have m2 := (FC (.loop c) t1).mono e2
        refine wp_mono (ih1 c t t1 a h h1 w .normal hA H e1 (fun b hb hl => hfree b hb (by omega))) fun en a1 w1 hP => ?_
        obtain ⟨rfl, σ1, x1, H1, A1⟩ := hP
        show Code.rounds X.E.P c (Post X σ h.n h' ex t') k a1 w1
        have := ih2 c t1 t' a1 h1 h' w1 ex A1 H1 e2 (fun b hb hl => x1.out b (hfree b (by omega) hl) (by omega))
        have mono : ∀ (n : Nat) (a : Act) (w : World), Code.rounds X.E.P c (Post X σ1 h1.n h' ex t') n a w → Code.rounds X.E.P c (Post X σ h.n h' ex t') n a w := by
          intro n
          induction n with
          | zero => intro a w h; exact h
          | succ n ihn =>
            intro a w h
            refine wp_mono h fun en a2 w2 hh => ?_
            cases en with
            | normal => exact ihn a2 w2 hh
            | _ => exact Post.trans x1 m1 m2 hh
        exact mono k a1 w1 this
      | _ =>
        obtain ⟨h5, rfl⟩ := ret_ok e2
        cases h5
        refine wp_mono (ih1 c t _ a h _ w _ hA H e1 hfree) fun en a1 w1 hP => ?_
        obtain ⟨rfl, hP⟩ := hP
        exact ⟨rfl, hP⟩
    refine ⟨?_, loopS⟩
    intro c σ t t' a h h' w ex hA H e hfree
    cases c with
    | skip =>
      unfold evCode at e
      dsimp only at e
      obtain ⟨h5, rfl⟩ := ret_ok e
      cases h5
      exact wp_skip ⟨rfl, σ, Ext.refl _ _ _, H, hA⟩
    | label l =>
      unfold evCode at e
      dsimp only at e
      obtain ⟨h5, rfl⟩ := ret_ok e
      cases h5
      exact wp_label ⟨rfl, σ, Ext.refl _ _ _, H, hA⟩
    | exit id =>
      unfold evCode at e
      dsimp only at e
      obtain ⟨h5, rfl⟩ := ret_ok e
      cases h5
      exact wp_exit ⟨rfl, σ, Ext.refl _ _ _, H, hA⟩
    | ret =>
      unfold evCode at e
      dsimp only at e
      obtain ⟨h5, rfl⟩ := ret_ok e
      cases h5
      exact wp_ret ⟨rfl, σ, Ext.refl _ _ _, H, hA⟩
    | seq x y =>
      unfold evCode at e
      dsimp only at e
      obtain ⟨⟨ex1, t1⟩, h1, e1, e2⟩ := bind_ok e
      have m1 := (FC x t).mono e1
      refine wp_seq ?_
      cases ex1 with
      | normal =>
        have m2 := (FC y t1).mono e2
        refine wp_mono (ih1 x t t1 a h h1 w .normal hA H e1 (fun b hb hl => hfree b hb (by omega))) fun en a1 w1 hP => ?_
        obtain ⟨rfl, σ1, x1, H1, A1⟩ := hP
        show y.wp X.E.P (Post X σ h.n h' ex t') a1 w1
        exact wp_mono (ih1 y t1 t' a1 h1 h' w1 ex A1 H1 e2 (fun b hb hl => x1.out b (hfree b (by omega) hl) (by omega))) fun en a2 w2 hh => Post.trans x1 m1 m2 hh
      | _ =>
        obtain ⟨h5, rfl⟩ := ret_ok e2
        cases h5
        refine wp_mono (ih1 x t _ a h _ w _ hA H e1 hfree) fun en a1 w1 hP => ?_
        obtain ⟨rfl, hP⟩ := hP
        exact ⟨rfl, hP⟩
    | cond q x y =>
      unfold evCode at e
      dsimp only at e
      change (match ev t.t q with | .bool z => evCode X.E call k (if z then x else y) t | _ => fail "cond" : M (Ex × Ac)) h = _ at e
      cases hq : ev t.t q with
      | bool z =>
        rw [hq] at e
        exact wp_cond (cond_R hA hq) (ih1 _ t t' a h h' w ex hA H e hfree)
      | _ => rw [hq] at e; cases e
    | block id x =>
      unfold evCode at e
      dsimp only at e
      obtain ⟨⟨ex1, t1⟩, h1, e1, e2⟩ := bind_ok e
      refine wp_block ?_
      cases ex1 with
      | exit id' =>
        have e3 : (if id' = id then M.pure (Ex.normal, t1) else M.pure (Ex.exit id', t1) : M (Ex × Ac)) h1 = .ok ((ex, t'), h') := e2
        split at e3
        · rename_i hid
          obtain ⟨h5, rfl⟩ := ret_ok e3
          cases h5
          refine wp_mono (ih1 x t _ a h _ w _ hA H e1 hfree) fun en a1 w1 hP => ?_
          obtain ⟨rfl, hP⟩ := hP
          show (if id' = id then Post X σ h.n h' .normal t' .normal a1 w1 else Post X σ h.n h' .normal t' (.exit id') a1 w1)
          rw [if_pos hid]
          exact ⟨rfl, hP⟩
        · rename_i hid
          obtain ⟨h5, rfl⟩ := ret_ok e3
          cases h5
          refine wp_mono (ih1 x t _ a h _ w _ hA H e1 hfree) fun en a1 w1 hP => ?_
          obtain ⟨rfl, hP⟩ := hP
          show (if id' = id then Post X σ h.n h' (.exit id') t' .normal a1 w1 else Post X σ h.n h' (.exit id') t' (.exit id') a1 w1)
          rw [if_neg hid]
          exact ⟨rfl, hP⟩
      | _ =>
        obtain ⟨h5, rfl⟩ := ret_ok e2
        cases h5
        refine wp_mono (ih1 x t _ a h _ w _ hA H e1 hfree) fun en a1 w1 hP => ?_
        obtain ⟨rfl, hP⟩ := hP
        exact ⟨rfl, hP⟩
    | scope x =>
      unfold evCode at e
      dsimp only at e
      obtain ⟨⟨ex1, t1⟩, h1, e1, e2⟩ := bind_ok e
      refine wp_scope_straight ?_
      cases ex1 with
      | goto l => cases e2
      | _ =>
        obtain ⟨h5, rfl⟩ := ret_ok e2
        cases h5
        refine wp_mono (ih1 x t _ a h _ w _ hA H e1 hfree) fun en a1 w1 hP => ?_
        obtain ⟨rfl, hP⟩ := hP
        exact ⟨rfl, hP⟩
    | loop x => exact wp_loop_rounds (k + 1) (loopS x t t' a h h' w ex hA H e hfree)
    | region id ops draw =>
      unfold evCode at e
      cases draw with
      | false =>
        dsimp only at e
        obtain ⟨u, h1, e1, e2⟩ := bind_ok e
        obtain ⟨h5, rfl⟩ := ret_ok e2
        cases h5
        refine wp_region ?_
        rw [List.range_eq_range', ← Array.length_toList]
        refine evOps_wp (ds := a.defers) hc hF ops.toList 0 t.t a h w rfl hA.tmps rfl H e1 hfree fun σ1 a1 w1 x1 H1 hV hd => ⟨rfl, σ1, x1, H1, hV, ?_⟩
        rw [hd]
        exact hA.defers.mono x1.sub
      | true =>
        dsimp only at e
        obtain ⟨u, h1, e1, e2⟩ := bind_ok e
        obtain ⟨h5, rfl⟩ := ret_ok e2
        cases h5
        refine evDrawn_wp (ds := a.defers) hm hc hF hA.tmps rfl H e1 hfree fun σ1 a1 w1 x1 H1 hV hd => ⟨rfl, σ1, x1, H1, hV, ?_⟩
        rw [hd]
        exact hA.defers.mono x1.sub
    | rangeFunc f ps assign body =>
      unfold evCode at e
      dsimp only at e
      exact evRange_wp hc hF hA H e hfree
    | goto l =>
      unfold evCode at e
      cases e
    | refuse why =>
      unfold evCode at e
      cases e
end
end Go.Ev

namespace Go.Ev
open Go.RowKit
set_option linter.unusedVariables false
set_option linter.unusedSimpArgs false

/-- a Sem program that leaves the world as it is -/
def StillS {α : Type} (s : Sem α) : Prop := ∀ (P : Program) (w : World) (a : α) (w' : World), s.run P w = .ok a w' → w' = w
theorem StillS.pure {α : Type} (a : α) : StillS (Pure.pure a : Sem α) := by
  intro P w b w' e
  cases e
  rfl
theorem StillS.halt {α : Type} (x : Halt) : StillS (Sem.halt x : Sem α) := by
  intro P w b w' e
  cases e
theorem StillS.bind {α β : Type} {s : Sem α} {f : α → Sem β} (h : StillS s) (hf : ∀ a, StillS (f a)) : StillS (s >>= f) := by
  intro P w b w' e
  rw [run_bind'] at e
  cases hs : s.run P w with
  | ok a w1 =>
    rw [hs] at e
    have h1 := h P w a w1 hs
    have h2 := hf a P w1 b w' e
    rw [h2, h1]
  | halt x w1 => rw [hs] at e; cases e
theorem StillS.load (a : Addr) (m : Mode) : StillS (Go.load a m) := by
  intro P w v w' e
  change (Sem.load m a .pure).run P w = _ at e
  simp only [Sem.run] at e
  split at e
  · cases e; rfl
  · split at e
    · cases e; rfl
    · cases e
theorem StillS.program : StillS Go.program := by
  intro P w v w' e
  cases e
  rfl
theorem StillS.underlying (t : TypeId) : StillS (Go.underlying t) := by
  refine StillS.bind StillS.program fun P => ?_
  split
  · exact StillS.pure _
  · exact StillS.halt _
theorem StillS.typeInfo (t : TypeId) : StillS (Go.typeInfo t) := by
  refine StillS.bind StillS.program fun P => ?_
  split
  · exact StillS.pure _
  · exact StillS.halt _
theorem StillS.loadCellsFrom (a : Addr) : ∀ (n i : Nat) (acc : Array Value), StillS (Go.loadCellsFrom a i n acc)
  | 0, i, acc => StillS.pure _
  | n + 1, i, acc => StillS.bind (StillS.load _ _) fun v => StillS.loadCellsFrom a n (i + 1) _
theorem StillS.loadVar (t : TypeId) (a : Addr) : StillS (Go.loadVar t a) := by
  refine StillS.bind (StillS.bind (StillS.underlying t) fun d => ?_) fun b => ?_
  · split <;> exact StillS.pure _
  · cases b
    · exact StillS.load _ _
    · exact StillS.bind (StillS.bind (StillS.typeInfo t) fun i => StillS.pure _) fun n => StillS.bind (StillS.loadCellsFrom a n 0 #[]) fun c => StillS.pure _

section
variable {X : Cx}
/-- a variable of the result -/
def resOne (tmps : Array Value) : ResultVar → Sem Value
  | .tmp t => Pure.pure (tmps.getD t undef)
  | .cell a t => do loadVar t (← asAddr (tmps.getD a undef))
theorem results_R : ∀ (rs : List ResultVar) {σ : S} {t a : Array Value} {h h' : Hp} {w : World} {vs : List Value}, VRA σ t a → HR X σ h w → resultsL X.E t rs h = .ok (vs, h') → (∀ b, h.n ≤ b → b < h'.n → σ b = none) →
    ∃ σ' vs', Ext σ σ' h.n h'.n ∧ HR X σ' h' w ∧ VRL σ' vs vs' ∧ (rs.mapM (resOne a)).run X.E.P w = .ok vs' w
  | [], σ, t, a, h, h', w, vs, hV, H, e, hfree => by
    obtain ⟨rfl, rfl⟩ := ret_ok e
    exact ⟨σ, [], Ext.refl _ _ _, H, .nil, rfl⟩
  | .tmp i :: rs, σ, t, a, h, h', w, vs, hV, H, e, hfree => by
    obtain ⟨us, h1, e1, e2⟩ := bind_ok e
    obtain ⟨rfl, rfl⟩ := ret_ok e2
    obtain ⟨σ1, us', x1, H1, hU, r1⟩ := results_R rs hV H e1 hfree
    refine ⟨σ1, a.getD i undef :: us', x1, H1, .cons _ _ _ _ ((hV.getD i).mono x1.sub) hU, ?_⟩
    rw [List.mapM_cons]
    show ((Pure.pure (a.getD i undef) : Sem Value) >>= fun v => rs.mapM (resOne a) >>= fun vs => Pure.pure (v :: vs)).run X.E.P w = _
    rw [run_bind']
    show (rs.mapM (resOne a) >>= fun vs => Pure.pure (a.getD i undef :: vs)).run X.E.P w = _
    rw [run_bind', r1]
    rfl
  | .cell i ty :: rs, σ, t, a, h, h', w, vs, hV, H, e, hfree => by
    unfold resultsL at e
    have hv := hV.getD i
    cases hi : t.getD i undef with
    | pointer p =>
      cases p with
      | none => rw [hi] at e; cases e
      | some p =>
        rw [hi] at e hv
        dsimp only at e
        obtain ⟨v, h1, e1, eA⟩ := bind_ok e
        clear e
        obtain ⟨us, h2, e2, e3⟩ := bind_ok eA
        obtain ⟨rfl, rfl⟩ := ret_ok e3
        have m1 := (Fr.crun (E := X.E) (loadVar ty p)).mono e1
        have m2 := (Fr.resultsL (E := X.E) t rs).mono e2
        generalize ha : a.getD i undef = u at hv
        cases hv with
        | ptr b r o hb =>
          obtain ⟨σ1, v', w1, x1, r1, H1, hvv⟩ := RelS.loadVar (X := X) ty (a := ⟨b, o, none⟩) (a' := ⟨r, o, none⟩) ⟨hb, rfl, rfl, rfl⟩ h w v h1 H e1 (fun c hc hl => hfree c hc (by omega))
          have hw := StillS.loadVar ty ⟨r, o, none⟩ X.E.P w v' w1 r1
          subst hw
          obtain ⟨σ2, us', x2, H2, hU, r2⟩ := results_R rs (hV.mono x1.sub) H1 e2 (fun c hc hl => x1.out c (hfree c (by omega) hl) (by omega))
          refine ⟨σ2, v' :: us', x1.trans x2 m1 m2, H2, .cons _ _ _ _ (hvv.mono x2.sub) hU, ?_⟩
          rw [List.mapM_cons]
          have hone : (resOne a (.cell i ty)).run X.E.P w1 = .ok v' w1 := by
            show (asAddr (a.getD i undef) >>= fun x => loadVar ty x).run X.E.P w1 = _
            rw [ha]
            exact r1
          rw [run_bind', hone]
          show (rs.mapM (resOne a) >>= fun vs => Pure.pure (v' :: vs)).run X.E.P w1 = _
          rw [run_bind', r2]
          rfl
    | _ => rw [hi] at e; cases e
theorem results_eq (fn : Func) (tmps : Array Value) : results fn tmps = (do
    let vs ← fn.results.mapM (resOne tmps)
    Pure.pure (if h : vs.size = 1 then vs[0] else .tuple vs)) := by
  unfold results
  congr 1
theorem oneOf_R {σ : S} {vs vs' : List Value} (h : VRL σ vs vs') : VR σ (oneOf vs) (if h : vs'.toArray.size = 1 then vs'.toArray[0] else .tuple vs'.toArray) := by
  cases h with
  | nil => exact .tuple [] [] .nil
  | cons v v' xs xs' hv hs => cases hs with
    | nil => exact hv
    | cons u u' ys ys' hu hy =>
      have : ¬ (v' :: u' :: ys').toArray.size = 1 := by simp
      rw [dif_neg this]
      exact .tuple _ _ (.cons _ _ _ _ hv (.cons _ _ _ _ hu hy))
/-- the collected marks are taken off -/
theorem step_take {P : Program} {b : Frame} {tmps : Array Value} {todo : List Item} {cs : List Frame} {w w' : World} {r : Nat} {l : List Deferred} (h : (Instr.takeDeferred r).run P w = .ok [] w') :
    step P (lone { b.at { tmps, defers := { target := .collected r, args := #[] } :: l } todo with mode := .returning } cs w) = .next (lone { b.at { tmps, defers := l } todo with mode := .returning } cs w') :=
  step_lone_go (by simp [stepG, unwind, Frame.at, Sem.runT_eq, h, GStep.bare_after])
theorem takeAll_R {b : Frame} {tmps : Array Value} {todo : List Item} {cs : List Frame} : ∀ (ds : List Nat) {σ : S} {l : List Deferred} {h h' : Hp} {w : World}, DsR σ ds l → HR X σ h w → takeAll X.E ds h = .ok ((), h') →
    ∃ w', h'.n = h.n ∧ HR X σ h' w' ∧ Steps X.E.P (lone { b.at { tmps, defers := l } todo with mode := .returning } cs w) (lone { b.at { tmps, defers := [] } todo with mode := .returning } cs w')
  | [], σ, l, h, h', w, hl, H, e => by
    obtain ⟨_, rfl⟩ := ret_ok e
    cases hl
    exact ⟨w, rfl, H, Steps.refl _ _⟩
  | d :: ds, σ, l, h, h', w, ⟨r, l', el, hr, hl⟩, H, e => by
    subst el
    obtain ⟨o, h1, e1, e2⟩ := bind_ok e
    obtain ⟨ho, rfl, _⟩ := obj_ok e1
    obtain ⟨q, o', hq, hw, hO⟩ := H.live _ _ ho
    rw [hr] at hq
    cases hq
    cases o with
    | deferred x =>
      cases x with
      | none => cases e2
      | some x =>
        cases x with
        | cons y ys => cases e2
        | nil =>
          obtain ⟨ds', rfl, hds⟩ := hO
          cases hds
          obtain ⟨u, h2, e3, e4⟩ := bind_ok e2
          obtain ⟨p0, _, rfl⟩ := put_ok e3
          have hget := run_getObj_at (P := X.E.P) hw (by intro _ _ _ hh; cases hh)
          have hset := run_setObj (P := X.E.P) (r := r) (o := .deferred none) hw (by intro _ _ _ hh; cases hh)
          have htake : (Instr.takeDeferred r).run X.E.P w = .ok [] { w with heap := w.heap.setIfInBounds r (.deferred none) } := by
            unfold Instr.takeDeferred
            rw [run_bind', hget]
            show (Go.setObj r (.deferred none) >>= fun _ => (Pure.pure [] : Sem (List Deferred))).run X.E.P w = _
            rw [run_bind', hset]
            rfl
          have H2 := (H.rd d).setObj hr p0 ho (o := .deferred none) (o' := .deferred none) rfl (fun _ _ _ hh => by cases hh)
          obtain ⟨w', hn, H', hs⟩ := takeAll_R ds hl H2 e4
          exact ⟨w', hn, H', Steps.head (step_take htake) hs⟩
    | _ => cases e2
theorem evCall_ok (hm : X.E.P.follows .mixedOrders = true) (fuel : Nat) : ∀ k, CallOk X (evCall X.E fuel k) := by
  intro k
  induction k with
  | zero => intro σ f args args' h w v h' H hV e; cases e
  | succ k ih =>
    intro σ f args args' h w v h' H hV e hfree
    unfold evCall at e
    cases hf : X.E.P.funcs[f]? with
    | none => rw [hf] at e; cases e
    | some fn =>
      rw [hf] at e
      dsimp only at e
      cases hb : fn.body with
      | none => rw [hb] at e; cases e
      | some c =>
        rw [hb] at e
        dsimp only at e
        obtain ⟨⟨ex, t'⟩, h1, e1, eA⟩ := bind_ok e
        clear e
        have hF : ∀ f args, Fr X.E (evCall X.E fuel k f args) := Fr.evCall fuel k
        have m1 := (Fr.evCode hF fuel c _).mono e1
        have hex : ex = .normal ∨ ex = .ret := by
          cases ex with
          | normal => exact .inl rfl
          | ret => exact .inr rfl
          | exit id => cases eA
          | goto l => cases eA
        have e2 : M.bind (takeAll X.E t'.ds) (fun _ => M.bind (resultsL X.E t'.t fn.results.toList) fun vs => M.pure (oneOf vs)) h1 = .ok (v, h') := by
          rcases hex with rfl | rfl <;> exact eA
        clear eA
        obtain ⟨u, h2, e3, eB⟩ := bind_ok e2
        obtain ⟨vs, h3, e4, e5⟩ := bind_ok eB
        obtain ⟨rfl, rfl⟩ := ret_ok e5
        have m2 := (Fr.takeAll (E := X.E) t'.ds).mono e3
        have m3 := (Fr.resultsL (E := X.E) t'.t fn.results.toList).mono e4
        intro cs
        let b : Frame := { (default : Frame) with fn := f, kind := .normal }
        have henter : Frame.enter X.E.P f args' .normal = b.at { tmps := args' ++ Array.replicate (fn.ntmps - args'.size) undef, defers := [] } [.code c] := by
          simp [Frame.enter, Frame.at, hf, hb, b]
        have hrep : ∀ n, VRA σ (Array.replicate n undef) (Array.replicate n undef) := by
          intro n
          unfold VRA
          rw [Array.toList_replicate]
          induction n with
          | zero => exact .nil
          | succ n ihn => exact .cons _ _ _ _ (undef_VR σ) ihn
        have hA : AcR σ { t := args ++ Array.replicate (fn.ntmps - args.size) undef, ds := [] } { tmps := args' ++ Array.replicate (fn.ntmps - args'.size) undef, defers := [] } := ⟨by
          have := hV.size
          show VRA σ (args ++ Array.replicate (fn.ntmps - args.size) undef) (args' ++ Array.replicate (fn.ntmps - args'.size) undef)
          rw [this]
          exact hV.append (hrep _), rfl⟩
        obtain ⟨en, a1, w1, ⟨hen, σ1, x1, H1, A1⟩, harr⟩ := (evCode_wp hm ih hF fuel).1 c _ t' _ h h1 w ex hA H e1 (fun b hb hl => hfree b hb (by omega)) b [] cs
        rw [← henter] at harr
        obtain ⟨todo, hs⟩ : ∃ todo, Steps X.E.P (lone (Frame.enter X.E.P f args' .normal) cs w) (lone { b.at a1 todo with mode := .returning } cs w1) := by
          rcases hex with rfl | rfl
          · subst hen
            exact ⟨[], Steps.trans harr (.one step_end)⟩
          · subst hen
            exact harr
        obtain ⟨w2, hn2, H2, hs2⟩ := takeAll_R (b := b) (tmps := a1.tmps) (todo := todo) (cs := cs) t'.ds (l := a1.defers) A1.defers H1 e3
        obtain ⟨σ3, vs', x3, H3, hvs, hres⟩ := results_R fn.results.toList A1.tmps H2 e4 (fun b hb hl => x1.out b (hfree b (by omega) hl) (by omega))
        refine ⟨.returned (if h : vs'.toArray.size = 1 then vs'.toArray[0] else .tuple vs'.toArray), w2, { b.at { tmps := a1.tmps, defers := [] } todo with mode := .returning }, ⟨σ3, _, rfl, ?_, H3, oneOf_R hvs⟩, Steps.trans hs hs2, rfl, rfl, rfl, rfl, fn, hf, ?_⟩
        · rw [hn2] at x3
          exact x1.trans x3 m1 (by omega)
        · show (results fn a1.tmps).run X.E.P w2 = _
          rw [results_eq, Array.mapM_eq_mapM_toList, map_eq_pure_bind]
          rw [run_bind', run_bind', hres]
          rfl
end
end Go.Ev

namespace Go.Ev
open Go.RowKit
set_option linter.unusedVariables false
set_option linter.unusedSimpArgs false
/-- how a canonical call ends -/
def outc : R (Value × Hp) → Nat
  | .ok (.bool true, _) => 1
  | .ok _ => 2
  | .error _ => 3
theorem outc_spec {r : R (Value × Hp)} (h : outc r = 1) : ∃ h', r = .ok (.bool true, h') := by
  unfold outc at h
  split at h
  · exact ⟨_, rfl⟩
  · cases h
  · cases h
/-- the globals as the canonical run takes them, and as they stand -/
def GlOk (E : Env) (W : World) : Prop := ∀ b o, b < E.base → glGet E.gl b = some o → ∃ c e c' e', o = .cells c e (0, 0) ∧ W.heap[b]? = some (.cells c' e' (0, 0)) ∧ c.size ≤ c'.size ∧ ∀ (i : Nat) (v : Value), c[i]? = some v → gr v = true ∧ c'[i]? = some v
/-- A closed call that the canonical run ends by true ends so in the machine, whatever its tape says. -/
theorem closed_call (E : Env) (hm : E.P.follows .mixedOrders = true) (fuel k : Nat) (f : FuncId) (he : outc (evCall E fuel k f #[] { n := E.base, t := .e, lg := [] }) = 1) (W : World) (hb : E.base ≤ W.heap.size) (hg : GlOk E W) :
    Calls E.P f #[] W fun e w' => e = .returned (.bool true) ∧ Below W.heap.size W w' := by
  obtain ⟨h', hrun⟩ := outc_spec he
  let σ : S := ⟨fun b => if b < E.base then some b else none, fun _ => 0⟩
  have hσ : ∀ b, b < E.base → σ b = some b := fun b hb => if_pos hb
  have hσ' : ∀ b r, σ b = some r → b < E.base ∧ r = b := by
    intro b r h
    change (if b < E.base then some b else none) = some r at h
    split at h
    · cases h; exact ⟨‹_›, rfl⟩
    · cases h
  have H : HR ⟨E, W⟩ σ { n := E.base, t := .e, lg := [] } W := by
    have hlive : ∀ b o, getB E { n := E.base, t := .e, lg := [] } b = some o → b < E.base ∧ glGet E.gl b = some o := by
      intro b o ho
      unfold getB at ho
      split at ho
      · exact ⟨‹_›, ho⟩
      · split at ho
        · change T.get D .e b = some o at ho
          rw [T.get_e] at ho
          cases ho
        · cases ho
    refine ⟨?_, ?_, hσ, hb, ?_, ?_, ?_, Below.refl _ _⟩
    · intro b o ho
      obtain ⟨hlt, hgo⟩ := hlive b o ho
      obtain ⟨c, e, c', e', rfl, hw, hsz, hc⟩ := hg b o hlt hgo
      exact ⟨b, _, hσ b hlt, hw, c', e', (0, 0), rfl, hsz, fun i v hv => ⟨v, (hc i v hv).2, gr_self σ (hc i v hv).1⟩, fun i _ => by simp, fun _ => rfl⟩
    · intro a b o p r _ _ ha hb
      rw [← (hσ' a r ha).2, (hσ' b r hb).2]
    · intro b r hr h0
      exact absurd (hσ' b r hr).1 (Nat.not_lt.2 h0)
    · intro b r hr
      obtain ⟨h1, rfl⟩ := hσ' b r hr
      exact Nat.lt_of_lt_of_le h1 hb
    · intro b c e fr r c' e' fr' i _ _ _ _
      show 0 * i.size ≤ _
      simp
  refine (evCall_ok (X := ⟨E, W⟩) hm fuel k σ f #[] #[] _ W _ h' H VRL.nil hrun (fun b h0 _ => if_neg (Nat.not_lt.2 h0))).mono fun e w' hR => ?_
  obtain ⟨σ', v', rfl, _, H', hv⟩ := hR
  cases hv
  exact ⟨rfl, H'.below⟩
end Go.Ev

namespace Go.Ev
open Go.RowKit
set_option linter.unusedVariables false
set_option linter.unusedSimpArgs false

theorem laidVars_mem {P : Program} {w : World} : ∀ {l : List (String × DataW Unit)} {ps : List MemPlace} {n : String} {d : DataW Unit}, DataW.LaidVars P w l ps → (n, d) ∈ l →
    ∃ g t cs fuel p, P.globalNamed n = some g ∧ (P.globals[g]?).map (·.type) = some t ∧ w.var? P n = some cs ∧ DataW.trod (fun _ => ()) P w 0 (fun _ => true) false fuel t cs.toList = some (d, p) ∧ ∀ x ∈ MemPlace.row ⟨g, 0, none⟩ cs.size, x ∈ ps
  | [], _, _, _, _, hm => by cases hm
  | (n, d) :: r, ps, n', d', h, hm => by
    obtain ⟨g, t, cs, fuel, p, q, h1, h2, h3, h4, h5, rfl⟩ := h
    rcases List.mem_cons.1 hm with he | hm
    · cases he
      exact ⟨g, t, cs, fuel, p, h1, h2, h3, h4, fun x hx => List.mem_append_left _ (List.mem_append_left _ hx)⟩
    · obtain ⟨g', t', cs', fuel', p', a1, a2, a3, a4, a5⟩ := laidVars_mem h5 hm
      exact ⟨g', t', cs', fuel', p', a1, a2, a3, a4, fun x hx => List.mem_append_right _ (a5 x hx)⟩
/-- a listed variable of plain cells -/
theorem gl_of {P : Program} {W : World} {laid : List (String × DataW Unit)} {n : String} {d : DataW Unit} {g : Nat} {t : TypeId} {vs : List Value} (h : laidMet P laid W) (hm : (n, d) ∈ laid) (hg : P.globalNamed n = some g) (ht : (P.globals[g]?).map (·.type) = some t) (hne : 0 < vs.length)
    (hflat : ∀ fuel cs p, DataW.trod (fun _ => ()) P W 0 (fun _ => true) false fuel t cs = some (d, p) → cs = vs) : ∃ e', W.heap[g]? = some (.cells vs.toArray e' (0, 0)) := by
  obtain ⟨ps, hv, _, hfree⟩ := h
  obtain ⟨g', t', cs, fuel, p, h1, h2, h3, h4, h5⟩ := laidVars_mem hv hm
  obtain rfl := Option.some.inj (hg.symm.trans h1)
  obtain rfl := Option.some.inj (ht.symm.trans h2)
  have hcs := hflat _ _ _ h4
  have hsz : cs.size = vs.length := by rw [← hcs]; simp
  obtain ⟨⟨c, e, hc⟩, _⟩ := hfree g 0 (h5 _ (MemPlace.mem_row.2 ⟨0, by omega, rfl⟩))
  refine ⟨e, ?_⟩
  rw [hc]
  have : c = vs.toArray := by
    apply Array.ext'
    rw [← hcs]
    apply List.ext_getElem?
    intro i
    have := World.var?_cell hg h3 i
    simp only [World.cell?, hc] at this
    simpa using this
  rw [this]
theorem glGet_mem : ∀ {l : List (Nat × Obj)} {b : Nat} {o : Obj}, glGet l b = some o → (b, o) ∈ l
  | [], _, _, h => by cases h
  | (i, x) :: r, b, o, h => by
    unfold glGet at h
    split at h
    · rename_i e
      cases h
      subst e
      exact List.mem_cons_self
    · exact List.mem_cons_of_mem _ (glGet_mem h)
theorem allL_mem {f : Value → Bool} : ∀ {l : List Value} {v : Value}, allL f l = true → v ∈ l → f v = true
  | [], _, _, h => by cases h
  | x :: r, v, h, hm => by
    simp only [allL, Bool.and_eq_true] at h
    rcases List.mem_cons.1 hm with rfl | hm
    · exact h.1
    · exact allL_mem h.2 hm
theorem GlOk.mk {E : Env} {W : World} (h : ∀ x ∈ E.gl, ∃ c e e', x.2 = .cells c e (0, 0) ∧ W.heap[x.1]? = some (.cells c e' (0, 0)) ∧ allL gr c.toList = true) : GlOk E W := by
  intro b o hb hg
  obtain ⟨c, e, e', h1, h2, h3⟩ := h _ (glGet_mem hg)
  refine ⟨c, e, c, e', h1, h2, Nat.le_refl _, fun i v hv => ⟨allL_mem h3 ?_, hv⟩⟩
  exact List.mem_of_getElem? (by simpa using hv)
theorem size_of_some {W : World} {b : Nat} {o : Obj} (h : W.heap[b]? = some o) : b + 1 ≤ W.heap.size := (Array.getElem?_eq_some_iff.1 h).1
theorem chunks {k : Nat} : ∀ {ls : List (List Value)} {cs : List Value}, cs.length = ls.length * k → (∀ i, i < ls.length → some ((cs.drop (i * k)).take k) = ls[i]?) → cs = ls.flatten
  | [], cs, hl, _ => by
    simp at hl
    simp [hl]
  | l :: ls, cs, hl, h => by
    have h0 := h 0 (by simp)
    simp at h0
    rw [List.flatten_cons, ← h0]
    have := chunks (k := k) (ls := ls) (cs := cs.drop k) (by simp [List.length_drop, hl, Nat.add_mul]) (fun i hi => by
      have := h (i + 1) (by simpa using hi)
      rw [List.getElem?_cons_succ] at this
      rw [← this, List.drop_drop]
      congr 3
      rw [Nat.add_mul]
      omega)
    rw [← this, List.take_append_drop]
section
variable {P : Program} {w : World} {fuel : Nat} {t e : TypeId} {n : Nat} {cs : List Value} {d : DataW Unit} {p : List MemPlace}
abbrev trd (P : Program) (w : World) := DataW.trod (fun _ => ()) P w 0 (fun _ => true) false
def partsOf : DataW Unit → List (DataW Unit)
  | .agg ps => ps
  | _ => []
/-- the cells of an array, out of those of its elements -/
theorem flat_array (ht : P.underlying t = some (.array n e)) {k : Nat} (hk : P.cellsOf e = k) (hn : P.cellsOf t = n * k) (f : DataW Unit → List Value)
    (hf : ∀ fuel cs d p, trd P w fuel e cs = some (d, p) → cs = f d) (h : trd P w fuel t cs = some (d, p)) : cs = ((partsOf d).map f).flatten := by
  obtain ⟨xs, m, _, hx, hlen, hxl, hel⟩ := DataW.trod_array ht h
  rw [hk] at hel
  have hd : d = .agg (xs.map (·.1)) := (Prod.mk.inj hx).1
  subst hd
  refine chunks (k := k) (by simp [partsOf, hlen, hn, hxl]) fun i hi => ?_
  have hi' : i < n := by simpa [partsOf, hxl] using hi
  have := hel i hi'
  rw [List.getElem?_eq_getElem (by omega : i < xs.length)] at this
  have h2 := hf m _ xs[i].1 xs[i].2 this
  rw [h2]
  simp [partsOf, hi', hxl]
def flatS : DataW Unit → List Value
  | .lit (.string bs) => [.string ⟨bs.toArray⟩]
  | .lit (.int k n) => [.int k n]
  | .lit (.bool b) => [.bool b]
  | _ => []
theorem flat_string (ht : P.underlying t = some .string) (h : trd P w fuel t cs = some (d, p)) : cs = flatS d := by
  obtain ⟨s, rfl, hx, _⟩ := DataW.trod_string ht h
  have hd : d = .lit (.string s.data.toList) := (Prod.mk.inj hx).1
  subst hd
  simp [flatS]
theorem flat_int {k : IntKind} (ht : P.underlying t = some (.int k)) (h : trd P w fuel t cs = some (d, p)) : cs = flatS d := by
  obtain ⟨s, rfl, hx, _⟩ := DataW.trod_int ht h
  have hd : d = .lit (.int k s) := (Prod.mk.inj hx).1
  subst hd
  simp [flatS]
/-- a struct of three parts of one cell each -/
theorem flat_three {fs : Array Field} {t0 t1 t2 : TypeId} (ht : P.underlying t = some (.struct fs)) (hs : fs.toList.map (fun f => (f.type, f.offset)) = [(t0, 0), (t1, 1), (t2, 2)]) (h0 : P.cellsOf t0 = 1) (h1 : P.cellsOf t1 = 1) (h2 : P.cellsOf t2 = 1) (h3 : P.cellsOf t = 3)
    (f0 : ∀ fuel cs d p, trd P w fuel t0 cs = some (d, p) → cs = flatS d) (f1 : ∀ fuel cs d p, trd P w fuel t1 cs = some (d, p) → cs = flatS d) (f2 : ∀ fuel cs d p, trd P w fuel t2 cs = some (d, p) → cs = flatS d)
    (h : trd P w fuel t cs = some (d, p)) : cs = ((partsOf d).map flatS).flatten := by
  obtain ⟨xs, m, _, hx, hlen, hxl, hel⟩ := DataW.trod_struct ht h
  have hd : d = .agg (xs.map (·.1)) := (Prod.mk.inj hx).1
  subst hd
  obtain ⟨fs⟩ := fs
  simp only at hs hxl hel
  obtain ⟨a, b, c, rfl⟩ : ∃ a b c, fs = [a, b, c] := by
    have := congrArg List.length hs
    simp at this
    match fs, this with
    | [a, b, c], _ => exact ⟨a, b, c, rfl⟩
  simp only [List.map_cons, List.map_nil, List.cons.injEq, Prod.mk.injEq, and_true] at hs
  obtain ⟨⟨a1, a2⟩, ⟨b1, b2⟩, c1, c2⟩ := hs
  have e0 := hel 0 a (by simp)
  have e1 := hel 1 b (by simp)
  have e2 := hel 2 c (by simp)
  rw [a1, a2, h0] at e0
  rw [b1, b2, h1] at e1
  rw [c1, c2, h2] at e2
  rw [h3] at hlen
  obtain ⟨x0, x1, x2, rfl⟩ : ∃ a b c, xs = [a, b, c] := by
    simp at hxl
    match xs, hxl with
    | [a, b, c], _ => exact ⟨a, b, c, rfl⟩
  have g0 := f0 m _ x0.1 x0.2 e0
  have g1 := f1 m _ x1.1 x1.2 e1
  have g2 := f2 m _ x2.1 x2.2 e2
  obtain ⟨u0, u1, u2, rfl⟩ : ∃ a b c, cs = [a, b, c] := by
    match cs, hlen with
    | [a, b, c], _ => exact ⟨a, b, c, rfl⟩
  simp at g0 g1 g2
  simp [partsOf, ← g0, ← g1, ← g2]
end
end Go.Ev
