/- A part of a verified evaluator of closed calls (a canonical run, and why the machine ends every such call as it does). No condition. -/
import Derived.Test.YtadngfgbefgocaaGreatDoorEvD
import Derived.Defers
import Derived.Recover
import Derived.ProofKit
import Derived.OpenShut
import Derived.Lib.LaidIn
import Derived.MakeChecks

namespace Go.Ev
open Go.RowKit
set_option linter.unusedVariables false
set_option linter.unusedSimpArgs false

def ExR : Ex → Exit
  | .normal => .normal
  | .exit id => .exit id
  | .goto l => .goto l
  | .ret => .ret
section
variable {X : Cx} {call : CallM}
theorem cond_R {σ : S} {t : Tm} {a : Act} (hA : RT σ t a.tmps) {c : Operand} {x : Bool} (h : ev t c = .bool x) : a.eval c = .bool x := by
  cases c with
  | tmp i =>
    have := hA.getD i
    change t.getD i = _ at h
    rw [h] at this
    show a.tmps.getD i undef = _
    generalize a.tmps.getD i undef = u at *
    cases this
    rfl
  | const v => exact h
  | global g => cases h
  | func f => cases h

/-! ### a range over a function -/
theorem step_endRange {P : Program} {b : Frame} {a : Act} {k : List Item} {cs : List Frame} {w : World} {l : Nat} {w' : World} (h : (Instr.endLoop l).run P w = .ok none w') :
    step P (lone (b.at a (.endRangeFunc l :: k)) cs w) = .next (lone (b.at a k) cs w') :=
  step_lone_go (by simp [stepG, stepG.exec, Frame.at, Sem.runT_eq, h, GStep.bare_after])
theorem step_range {P : Program} {b : Frame} {a : Act} {k : List Item} {cs : List Frame} {w : World} {g : Operand} {ps : Array Tmp} {assign body : Code} {l : Nat} {mark : List Deferred} {w₁ w₁' w₂ : World} {d : Deferred} {f : FuncId} {args : Array Value}
    (he : (Instr.enterLoop b.fn a.tmps ps assign body none).run P w = .ok (l, mark) w₁)
    (hres : (resolve a.eval { callee := .value g, args := #[.const (.func (.yield l) #[] #[])], argTypes := #[] } 0).run P w₁ = .ok d w₁') (hinv : (invoke d.target d.args).run P w₁' = .ok (.enter f args) w₂) :
    step P (lone (b.at a (.code (.rangeFunc g ps assign body) :: k)) cs w) =
      .next (lone (Frame.enter P f args .normal) (b.at { a with defers := mark ++ a.defers } (.inRangeFunc l :: k) :: cs) w₂) :=
  step_lone_go (by
    have hev := Frame.eval_at' b { a with defers := mark ++ a.defers } (.inRangeFunc l :: k)
    simp only [Frame.at] at hev
    have hres' : Sem.run P (resolve ({ tmps := a.tmps, defers := mark ++ a.defers } : Act).eval { callee := .value g, args := #[.const (.func (.yield l) #[] #[])], argTypes := #[] } 0) w₁ = .ok d w₁' := hres
    simp [stepG, stepG.exec, Frame.at, Sem.runT_eq, he, GStep.bare_after, stepG.apply, hev, Sem.run_bind, hres', hinv, Result.andThen])

theorem evRange_core (hc : CallOk X call) (hF : ∀ f args, Fr X.E (call f args)) {σ : S} {f : Operand} {ps : Array Tmp} {assign body : Code} {t t' : Ac} {a : Act} {h h' : Hp} {w : World} {ex : Ex} (hA : RT σ t.t a.tmps) (H : HR X σ h w)
    (e : evRange X.E call f t h = .ok ((ex, t'), h')) (hfree : ∀ b, h.n ≤ b → b < h'.n → σ b = none) : (Code.rangeFunc f ps assign body).wp X.E.P (fun en a' w' => en = ExR ex ∧ ∃ (σ' : S) (d d' : Nat), Ext σ σ' h.n h'.n ∧ HR X σ' h' w' ∧ RT σ' t'.t a'.tmps ∧ t'.ds = d :: t.ds ∧ a'.defers = { target := .collected d', args := #[] } :: a.defers ∧ σ' d = some d') a w := by
  unfold evRange at e
  split at e
  · cases e
  · rename_i hconst
    obtain ⟨d, h1, e1, eA⟩ := bind_ok e
    clear e
    obtain ⟨l, h2, e2, eB⟩ := bind_ok eA
    clear eA
    obtain ⟨fn, first, captured, hev⟩ : ∃ fn first captured, ev t.t f = .func fn first captured := by
      cases hev : ev t.t f with
      | func fn first captured => exact ⟨fn, first, captured, rfl⟩
      | _ => rw [hev] at eB; cases eB
    rw [hev] at eB
    try dsimp only at eB
    · obtain ⟨nx, h3, e3, eC⟩ := bind_ok eB
      clear eB
      obtain ⟨g, args, rfl⟩ : ∃ g args, nx = .enter g args := by
        cases nx with
        | enter g args => exact ⟨g, args, rfl⟩
        | _ => cases eC
      try dsimp only at eC
      · obtain ⟨v, h4, e4, eD⟩ := bind_ok eC
        clear eC
        obtain ⟨o, h5, e5, eE⟩ := bind_ok eD
        clear eD
        try dsimp only at eE
        obtain ⟨r, rfl⟩ : ∃ r, o = .loop r := by
          cases o with
          | loop r => exact ⟨r, rfl⟩
          | _ => cases eE
        try dsimp only at eE
        · split at eE
          · rename_i hst
            obtain ⟨u, h6, e6, eF⟩ := bind_ok eE
            clear eE
            cases eF
            simp only [Bool.and_eq_true] at hst
            intro b k cs
            -- the two blocks
            have m1 : h.n ≤ h1.n := (Fr.new _).mono e1
            have m2 : h1.n ≤ h2.n := (Fr.new _).mono e2
            have m3 : h2.n ≤ h3.n := (Fr.invoke _ _).mono e3
            have m4 : h3.n ≤ h4.n := (hF _ _).mono e4
            have m5 : h4.n ≤ h5.n := (Fr.obj _).mono e5
            have m6 : h5.n ≤ h'.n := (Fr.put _ _).mono e6
            obtain ⟨σ1, d', w1, x1, r1, H1, hd⟩ := RelM.new (X := X) (σ := σ) (o := .deferred (some [])) (o' := .deferred (some [])) (fun σ' _ => ⟨[], rfl, rfl⟩) h w d h1 H e1 (fun b hb hl => hfree b hb (by omega))
            have lo : ∀ σ', ObR σ' (.loop (lp .ready)) (.loop { state := .ready, pending := none, fn := b.fn, tmps := a.tmps, params := ps, assign := assign, body := body, defers := d' }) := fun σ' => ⟨_, rfl, rfl, rfl⟩
            obtain ⟨σ2, l', w2, x2, r2, H2, hl⟩ := RelM.new (X := X) (σ := σ1) (fun σ' _ => lo σ') h1 w1 l h2 H1 e2 (fun b hb hl => x1.out b (hfree b (by omega) (by omega)) (by omega))
            have henter : (Instr.enterLoop b.fn a.tmps ps assign body none).run X.E.P w = .ok (l', [{ target := .collected d', args := #[] }]) w2 := by
              unfold Instr.enterLoop
              simp only [bind_assoc, pure_bind]
              rw [run_bind', r1]
              simp only
              rw [run_bind', r2]
              rfl
            have x12 := x1.trans x2 m1 m2
            -- the call
            have hfv : VR σ2 (.func fn first captured) (a.eval f) := by
              cases f with
              | tmp i =>
                have := (hA.getD i).mono x12.sub
                change t.t.getD i = _ at hev
                rw [hev] at this
                exact this
              | const v => exact absurd rfl hconst
              | global g => cases hev
              | func g =>
                cases hev
                exact .func _ _ _ _ _ (fun l hl => by cases hl) .nil .nil
            obtain ⟨df, hdf, hdR⟩ : ∃ df : Deferred, (resolve a.eval { callee := .value f, args := #[.const (.func (.yield l') #[] #[])], argTypes := #[] } 0).run X.E.P w2 = .ok df w2 ∧ DfR σ2 { target := .fn fn captured, args := first ++ #[.func (.yield l) #[] #[]] } df := by
              have hy : VR σ2 (.func (.yield l) #[] #[]) (.func (.yield l') #[] #[]) := .yield l l' [] [] [] [] hl.1 .nil .nil
              unfold resolve
              simp only [List.map_toArray, List.map_cons, List.map_nil]
              generalize a.eval f = fv at hfv
              cases hfv with
              | func _ xs ys xs' ys' hn hx hy' => exact ⟨_, rfl, ⟨_, _, rfl, .inl ⟨rfl, hn⟩, hy'⟩, VRA.append (a := ⟨xs⟩) (b := ⟨xs'⟩) hx (c := #[.func (.yield l) #[] #[]]) (d := #[a.eval (.const (.func (.yield l') #[] #[]))]) (.cons _ _ _ _ hy .nil)⟩
              | yield l0 r0 xs ys xs' ys' hl0 hx hy' => exact ⟨_, rfl, ⟨_, _, rfl, .inr ⟨l0, r0, rfl, rfl, hl0⟩, hy'⟩, VRA.append (a := ⟨xs⟩) (b := ⟨xs'⟩) hx (c := #[.func (.yield l) #[] #[]]) (d := #[a.eval (.const (.func (.yield l') #[] #[]))]) (.cons _ _ _ _ hy .nil)⟩
            obtain ⟨σ3, nx', w3, x3, r3, H3, hN⟩ := invoke_R (X := X) hdR.target hdR.args h2 w2 _ h3 H2 e3 (fun b hb hl => x12.out b (hfree b (by omega) (by omega)) (by omega))
            cases hN with
            | enter _ _ args' hargs =>
              have x13 := x12.trans x3 (by omega) m3
              have hstep := step_range (b := b) (a := a) (k := k) (cs := cs) (g := f) (ps := ps) (assign := assign) (body := body) henter hdf r3
              obtain ⟨en, w4, fr, hR, hcomes, hfn, hleave⟩ := hc σ3 g args args' h3 w3 v h4 H3 hargs e4 (fun b hb hl => x13.out b (hfree b (by omega) (by omega)) (by omega)) (b.at { a with defers := [{ target := .collected d', args := #[] }] ++ a.defers } (.inRangeFunc l' :: k) :: cs)
              obtain ⟨σ4, v', rfl, x4, H4, hv⟩ := hR
              have x14 := x13.trans x4 (by omega) m4
              obtain ⟨ho, rfl, _⟩ := obj_ok e5
              have hl4 : σ4 l = some l' := x4.sub.f _ _ (x3.sub.f _ _ hl.1)
              have hd4 : σ4 d = some d' := x4.sub.f _ _ (x3.sub.f _ _ (x2.sub.f _ _ hd.1))
              obtain ⟨rr, o', hrr, hw4, hO⟩ := H4.live _ _ ho
              rw [hl4] at hrr
              cases hrr
              obtain ⟨r', rfl, hlr⟩ := hO
              obtain ⟨p0, _, rfl⟩ := put_ok e6
              have hst' : r'.state = .ready := by
                rw [hlr.state]
                have := hst.1
                revert this
                cases r.state <;> intro this <;> first | rfl | cases this
              have hpe' : r'.pending = none := by
                rw [hlr.pending]
                exact Option.isNone_iff_eq_none.1 hst.2
              have hg4 := run_getObj_at (P := X.E.P) hw4 (by intro _ _ _ hh; cases hh)
              have hend : (Instr.endLoop l').run X.E.P w4 = .ok none { w4 with heap := w4.heap.setIfInBounds l' (.loop { r' with state := .exhausted }) } := by
                unfold Instr.endLoop Instr.getLoop
                rw [run_bind', run_bind', hg4]
                simp only
                have hns : (r'.state == LoopState.busy) = false := by rw [hst']; rfl
                have hso := run_setObj (P := X.E.P) (r := l') (o := .loop { r' with state := .exhausted }) hw4 (by intro _ _ _ hh; cases hh)
                show (do
                  if r'.state == .busy then Go.runtimePanic (.error "range function recovered a loop body panic and did not resume panicking")
                  Go.setObj l' (.loop { r' with state := .exhausted })
                  Pure.pure r'.pending : Sem (Option Code)).run X.E.P w4 = _
                rw [hns]
                simp only [Bool.false_eq_true, if_false]
                rw [run_bind', hso]
                simp only [hpe']
                rfl
              have H5 := (H4.rd l).setObj hl4 p0 ho (o := .loop (lp .exhausted)) (o' := .loop { r' with state := .exhausted }) ⟨_, rfl, rfl, hpe'⟩ (fun _ _ _ hh => by cases hh)
              refine ⟨.normal, { a with defers := [{ target := .collected d', args := #[] }] ++ a.defers }, _, ⟨rfl, σ4, d, d', x14, H5, hA.mono x14.sub, rfl, rfl, hd4⟩, ?_⟩
              refine Steps.head hstep (Steps.trans hcomes (Steps.head (step_leave_returned hleave) ?_))
              have hfin : (b.at { a with defers := [{ target := .collected d', args := #[] }] ++ a.defers } (.inRangeFunc l' :: k)).finish v' = b.at { a with defers := [{ target := .collected d', args := #[] }] ++ a.defers } (.endRangeFunc l' :: k) := by
                simp [Frame.finish, Frame.at]
              rw [hfin]
              exact Steps.one (step_endRange hend)
          · cases eE
end
end Go.Ev

namespace Go.Ev
open Go.RowKit
set_option linter.unusedVariables false
set_option linter.unusedSimpArgs false

theorem ret_ok {α : Type} {a b : α} {h h' : Hp} (e : M.pure a h = .ok (b, h')) : b = a ∧ h' = h := ret_ok' e
/-- a Sem program that leaves the world as it is -/
def StillS {α : Type} (s : Sem α) : Prop := ∀ (P : Program) (w : World) (a : α) (w' : World), s.run P w = .ok a w' → w' = w
theorem StillS.pure {α : Type} (a : α) : StillS (Pure.pure a : Sem α) := by
  intro P w b w' e
  cases e
  rfl
theorem StillS.halt {α : Type} (x : Halt) : StillS (Sem.halt x : Sem α) := by
  intro P w b w' e
  cases e
theorem StillS.bind {α β : Type} {s : Sem α} {f : α → Sem β} (h : StillS s) (hf : ∀ a, StillS (f a)) : StillS (s >>= f) := by
  intro P w b w' e
  rw [run_bind'] at e
  cases hs : s.run P w with
  | ok a w1 =>
    rw [hs] at e
    have h1 := h P w a w1 hs
    have h2 := hf a P w1 b w' e
    rw [h2, h1]
  | halt x w1 => rw [hs] at e; cases e
theorem StillS.load (a : Addr) (m : Mode) : StillS (Go.load a m) := by
  intro P w v w' e
  change (Sem.load m a .pure).run P w = _ at e
  simp only [Sem.run] at e
  split at e
  · cases e; rfl
  · split at e
    · cases e; rfl
    · cases e
theorem StillS.program : StillS Go.program := by
  intro P w v w' e
  cases e
  rfl
theorem StillS.underlying (t : TypeId) : StillS (Go.underlying t) := by
  refine StillS.bind StillS.program fun P => ?_
  split
  · exact StillS.pure _
  · exact StillS.halt _
theorem StillS.typeInfo (t : TypeId) : StillS (Go.typeInfo t) := by
  refine StillS.bind StillS.program fun P => ?_
  split
  · exact StillS.pure _
  · exact StillS.halt _
theorem StillS.loadCellsFrom (a : Addr) : ∀ (n i : Nat) (acc : Array Value), StillS (Go.loadCellsFrom a i n acc)
  | 0, i, acc => StillS.pure _
  | n + 1, i, acc => StillS.bind (StillS.load _ _) fun v => StillS.loadCellsFrom a n (i + 1) _
theorem StillS.loadVar (t : TypeId) (a : Addr) : StillS (Go.loadVar t a) := by
  refine StillS.bind (StillS.bind (StillS.underlying t) fun d => ?_) fun b => ?_
  · split <;> exact StillS.pure _
  · cases b
    · exact StillS.load _ _
    · exact StillS.bind (StillS.bind (StillS.typeInfo t) fun i => StillS.pure _) fun n => StillS.bind (StillS.loadCellsFrom a n 0 #[]) fun c => StillS.pure _

section
variable {X : Cx}
/-- a variable of the result -/
def resOne (tmps : Array Value) : ResultVar → Sem Value
  | .tmp t => Pure.pure (tmps.getD t undef)
  | .cell a t => do loadVar t (← asAddr (tmps.getD a undef))
theorem results_R : ∀ (rs : List ResultVar) {σ : S} {t : Tm} {a : Array Value} {h h' : Hp} {w : World} {vs : List Value}, RT σ t a → HR X σ h w → resultsL X.E t rs h = .ok (vs, h') → (∀ b, h.n ≤ b → b < h'.n → σ b = none) →
    ∃ σ' vs', Ext σ σ' h.n h'.n ∧ HR X σ' h' w ∧ VRL σ' vs vs' ∧ (rs.mapM (resOne a)).run X.E.P w = .ok vs' w
  | [], σ, t, a, h, h', w, vs, hV, H, e, hfree => by
    obtain ⟨rfl, rfl⟩ := ret_ok e
    exact ⟨σ, [], Ext.refl _ _ _, H, .nil, rfl⟩
  | .tmp i :: rs, σ, t, a, h, h', w, vs, hV, H, e, hfree => by
    obtain ⟨us, h1, e1, e2⟩ := bind_ok e
    obtain ⟨rfl, rfl⟩ := ret_ok e2
    obtain ⟨σ1, us', x1, H1, hU, r1⟩ := results_R rs hV H e1 hfree
    refine ⟨σ1, a.getD i undef :: us', x1, H1, .cons _ _ _ _ ((hV.getD i).mono x1.sub) hU, ?_⟩
    rw [List.mapM_cons]
    show ((Pure.pure (a.getD i undef) : Sem Value) >>= fun v => rs.mapM (resOne a) >>= fun vs => Pure.pure (v :: vs)).run X.E.P w = _
    rw [run_bind']
    show (rs.mapM (resOne a) >>= fun vs => Pure.pure (a.getD i undef :: vs)).run X.E.P w = _
    rw [run_bind', r1]
    rfl
  | .cell i ty :: rs, σ, t, a, h, h', w, vs, hV, H, e, hfree => by
    unfold resultsL at e
    have hv := hV.getD i
    cases hi : t.getD i with
    | pointer p =>
      cases p with
      | none => rw [hi] at e; cases e
      | some p =>
        rw [hi] at e hv
        dsimp only at e
        obtain ⟨v, h1, e1, eA⟩ := bind_ok e
        clear e
        obtain ⟨us, h2, e2, e3⟩ := bind_ok eA
        obtain ⟨rfl, rfl⟩ := ret_ok e3
        have m1 := (Fr.crun (E := X.E) (loadVar ty p)).mono e1
        have m2 := (Fr.resultsL (E := X.E) t rs).mono e2
        generalize ha : a.getD i undef = u at hv
        cases hv with
        | ptr b r o hb =>
          obtain ⟨σ1, v', w1, x1, r1, H1, hvv⟩ := RelS.loadVar (X := X) ty (a := ⟨b, o, none⟩) (a' := ⟨r, o, none⟩) ⟨hb, rfl, rfl, rfl⟩ h w v h1 H e1 (fun c hc hl => hfree c hc (by omega))
          have hw := StillS.loadVar ty ⟨r, o, none⟩ X.E.P w v' w1 r1
          subst hw
          obtain ⟨σ2, us', x2, H2, hU, r2⟩ := results_R rs (hV.mono x1.sub) H1 e2 (fun c hc hl => x1.out c (hfree c (by omega) hl) (by omega))
          refine ⟨σ2, v' :: us', x1.trans x2 m1 m2, H2, .cons _ _ _ _ (hvv.mono x2.sub) hU, ?_⟩
          rw [List.mapM_cons]
          have hone : (resOne a (.cell i ty)).run X.E.P w1 = .ok v' w1 := by
            show (asAddr (a.getD i undef) >>= fun x => loadVar ty x).run X.E.P w1 = _
            rw [ha]
            exact r1
          rw [run_bind', hone]
          show (rs.mapM (resOne a) >>= fun vs => Pure.pure (v' :: vs)).run X.E.P w1 = _
          rw [run_bind', r2]
          rfl
    | _ => rw [hi] at e; cases e
theorem results_eq (fn : Func) (tmps : Array Value) : results fn tmps = (do
    let vs ← fn.results.mapM (resOne tmps)
    Pure.pure (if h : vs.size = 1 then vs[0] else .tuple vs)) := by
  unfold results
  congr 1
theorem oneOf_R {σ : S} {vs vs' : List Value} (h : VRL σ vs vs') : VR σ (oneOf vs) (if h : vs'.toArray.size = 1 then vs'.toArray[0] else .tuple vs'.toArray) := by
  cases h with
  | nil => exact .tuple [] [] .nil
  | cons v v' xs xs' hv hs => cases hs with
    | nil => exact hv
    | cons u u' ys ys' hu hy =>
      have : ¬ (v' :: u' :: ys').toArray.size = 1 := by simp
      rw [dif_neg this]
      exact .tuple _ _ (.cons _ _ _ _ hv (.cons _ _ _ _ hu hy))
end
end Go.Ev

namespace Go.Ev
open Go.RowKit
/-- the globals as the canonical run takes them, and as they stand -/
def GlOk (E : Env) (W : World) : Prop := ∀ b o, b < E.base → glGet E.gl b = some o → ∃ c e c' e', o = .cells c e (0, 0) ∧ W.heap[b]? = some (.cells c' e' (0, 0)) ∧ c.size ≤ c'.size ∧ ∀ (i : Nat) (v : Value), c[i]? = some v → gr v = true ∧ c'[i]? = some v
end Go.Ev

namespace Go.Ev
open Go.RowKit
set_option linter.unusedVariables false
set_option linter.unusedSimpArgs false

/-- what a call comes to -/
def OutR (σ : S) : Out → Ending → Prop
  | .ret v, e => ∃ v', e = .returned v' ∧ VR σ v v'
  | .pan v, e => ∃ v', e = .panicked [{ v := v', recovered := false }] ∧ VR σ v v'
def CallXOk (X : Cx) (call : CallX) : Prop := ∀ (σ : S) (f : FuncId) (args args' : Array Value) (h : Hp) (w : World) (o : Out) (h' : Hp), HR X σ h w → VRA σ args args' → call f args h = .ok (o, h') →
  (∀ b, h.n ≤ b → b < h'.n → σ b = none) → Calls X.E.P f args' w fun e w' => ∃ σ', Ext σ σ' h.n h'.n ∧ HR X σ' h' w' ∧ OutR σ' o e
structure AcXR (σ : S) (t : AcX) (a : Act) : Prop where
  tmps : RT σ t.t a.tmps
  defers : DfL σ t.ds a.defers
def XR (σ : S) : XEx → Exit → Prop
  | .ex e0, e => e = ExR e0
  | .pan v, e => ∃ v', e = .panic [{ v := v', recovered := false }] ∧ VR σ v v'
def PostX (X : Cx) (σ : S) (n : Nat) (h' : Hp) (x : XEx) (t' : AcX) : Exit → Act → World → Prop := fun e a' w' =>
  ∃ σ', Ext σ σ' n h'.n ∧ HR X σ' h' w' ∧ AcXR σ' t' a' ∧ XR σ' x e

section
variable {X : Cx} {call : CallX}
theorem plain_ok (hc : CallXOk X call) : CallOk X (plain call) := by
  intro σ f args args' h w v h' H hV e hfree
  obtain ⟨o, h1, e1, e2⟩ := bind_ok e
  cases o with
  | ret u =>
    obtain ⟨rfl, rfl⟩ := ret_ok e2
    refine (hc σ f args args' h w _ _ H hV e1 hfree).mono fun en w' hE => ?_
    obtain ⟨σ', x', H', v', rfl, hv⟩ := hE
    exact ⟨σ', v', rfl, x', H', hv⟩
  | pan u => cases e2
theorem PostX.trans {σ σ1 : S} {n m : Nat} {h' : Hp} {x : XEx} {t' : AcX} {e : Exit} {a' : Act} {w' : World} (hx : Ext σ σ1 n m) (h1 : n ≤ m) (h2 : m ≤ h'.n) (h : PostX X σ1 m h' x t' e a' w') : PostX X σ n h' x t' e a' w' := by
  obtain ⟨σ', x', H', A', hxr⟩ := h
  exact ⟨σ', hx.trans x' h1 h2, H', A', hxr⟩
/-- an operation -/
theorem evOpX_wp (hc : CallXOk X call) (hF : ∀ f args, Fr X.E (call f args)) {σ : S} {ops : Array Oper} {tmps : Tm} {o : Oper} {a : Act} {h h' : Hp} {w : World} {x : XO} {Q : Exit → Act → World → Prop} {K : Act → World → Prop} (hV : RT σ tmps a.tmps) (H : HR X σ h w)
    (e : evOpX X.E call ops tmps o h = .ok (x, h')) (hx : x ≠ .rcv) (hfree : ∀ b, h.n ≤ b → b < h'.n → σ b = none)
    (hval : ∀ σ' v v' w', x = .val v → Ext σ σ' h.n h'.n → HR X σ' h' w' → VR σ' v v' → K (a.put o.dst v') w')
    (hdfr : ∀ σ' d d' w', x = .dfr d → Ext σ σ' h.n h'.n → HR X σ' h' w' → DfR σ' d d' → K ({ a with defers := d' :: a.defers }.put o.dst undef) w')
    (hpan : ∀ σ' v v' w', x = .pan v → Ext σ σ' h.n h'.n → HR X σ' h' w' → VR σ' v v' → Q (.panic [{ v := v', recovered := false }]) a w') :
    if Region.wanted o (yielded ops a.tmps) then o.wp X.E.P a w K Q else K (a.put o.dst undef) w := by
  have hw : Region.wanted o (yielded ops a.tmps) = Region.wanted o (yieldedT ops tmps) := wanted_R ops o fun t _ => hV.get? t
  unfold evOpX at e
  rw [hw]
  by_cases hwant : Region.wanted o (yieldedT ops tmps) = true
  · rw [if_pos hwant] at e
    rw [if_pos hwant]
    cases hp : panOf o.op with
    | none =>
      rw [hp] at e
      dsimp only at e
      obtain ⟨n, h1, e1, e2⟩ := bind_ok e
      have hok := exec_ok e1
      have hops := ev_R H hok (fun t _ => hV.getD t)
      have m1 : h.n ≤ h1.n := (Fr.exec _ _).mono e1
      have m2 : h1.n ≤ h'.n := (Fr.evNx hF n).mono e2
      obtain ⟨σ1, n', w1, x1, r1, H1, hN⟩ := exec_R (X := X) o hops h w n h1 H e1 (fun b hb hl => hfree b hb (by omega))
      unfold Oper.wp
      rw [r1]
      cases hN with
      | val u u' hu =>
        obtain ⟨rfl, rfl⟩ := ret_ok e2
        exact hval σ1 u u' w1 rfl x1 H1 hu
      | skip =>
        obtain ⟨rfl, rfl⟩ := ret_ok e2
        exact hval σ1 undef undef w1 rfl x1 H1 (undef_VR σ1)
      | dfr d d' hd =>
        obtain ⟨rfl, rfl⟩ := ret_ok e2
        exact hdfr σ1 d d' w1 rfl x1 H1 hd
      | rcv =>
        obtain ⟨rfl, rfl⟩ := ret_ok e2
        exact absurd rfl hx
      | enter f args args' hargs =>
        unfold evNx at e2
        obtain ⟨out, h2, e3, e4⟩ := bind_ok e2
        have hh : h2 = h' := by
          cases out <;> (obtain ⟨_, rfl⟩ := ret_ok e4; rfl)
        subst hh
        refine (hc σ1 f args args' h1 w1 out h2 H1 hargs e3 (fun b hb hl => x1.out b (hfree b (by omega) hl) (by omega))).mono fun en w2 hen => ?_
        obtain ⟨σ2, x2, H2, hO⟩ := hen
        cases out with
        | ret v =>
          obtain ⟨rfl, _⟩ := ret_ok e4
          obtain ⟨v', rfl, hv⟩ := hO
          exact hval σ2 v v' w2 rfl (x1.trans x2 m1 m2) H2 hv
        | pan v =>
          obtain ⟨rfl, _⟩ := ret_ok e4
          obtain ⟨v', rfl, hv⟩ := hO
          exact hpan σ2 v v' w2 rfl (x1.trans x2 m1 m2) H2 hv
    | some y =>
      rw [hp] at e
      dsimp only at e
      by_cases hok : operOk X.E o = true
      · rw [if_pos hok] at e
        have hops := ev_R H hok (fun t _ => hV.getD t)
        obtain ⟨dst, op, type, pos, after, guard⟩ := o
        cases op with
        | panic z =>
          cases hp
          have hy := hops y (by simp [Op.operands])
          cases hev : ev tmps y with
          | iface t v =>
            rw [hev] at e hy
            obtain ⟨rfl, rfl⟩ := ret_ok e
            show Oper.upon X.E.P _ a K Q _
            have hrun : ∀ v' : Value, (execOp a.eval { dst := dst, op := .panic y, type := type, pos := pos, after := after, guard := guard }) = (do Pure.pure (Next.value (← Instr.panic (a.eval y)))) := fun _ => rfl
            generalize hae : a.eval y = u at *
            cases hy with
            | iface _ _ v' hv =>
              have : (execOp a.eval { dst := dst, op := .panic y, type := type, pos := pos, after := after, guard := guard }).run X.E.P w = .halt (.panic (.iface t v')) w := by
                rw [hrun (.iface t v')]
                rfl
              rw [this]
              exact hpan σ _ _ w rfl (Ext.refl _ _ _) H (.iface _ _ _ hv)
          | _ => rw [hev] at e; cases e
        | _ => cases hp
      · rw [if_neg hok] at e
        cases e
  · rw [if_neg hwant] at e
    rw [if_neg hwant]
    obtain ⟨rfl, rfl⟩ := ret_ok e
    exact hval σ undef undef w rfl (Ext.refl _ _ _) H (undef_VR σ)
/-- a region in the order of its text -/
theorem evOpsX_wp (hc : CallXOk X call) (hF : ∀ f args, Fr X.E (call f args)) {ops : Array Oper} {Q : Exit → Act → World → Prop} {r : Option Value} {t' : AcX} {h' : Hp} : ∀ (l : List Oper) (i : Nat) {σ : S} (t : AcX) (a : Act) (h : Hp) (w : World),
    ops.toList.drop i = l → AcXR σ t a → HR X σ h w → evOpsX X.E call ops l t h = .ok ((r, t'), h') → (∀ b, h.n ≤ b → b < h'.n → σ b = none) →
    (∀ en a' w', PostX X σ h.n h' (ofPan r) t' en a' w' → Q en a' w') → wpOps X.E.P ops Q (List.range' i l.length) a w
  | [], i, σ, t, a, h, w, hl, hA, H, e, hfree, hQ => by
    obtain ⟨e1, rfl⟩ := ret_ok e
    cases e1
    exact hQ .normal a w ⟨σ, Ext.refl _ _ _, H, hA, rfl⟩
  | o :: rest, i, σ, t, a, h, w, hl, hA, H, e, hfree, hQ => by
    have hi : ops[i]? = some o := by
      have : (ops.toList.drop i)[0]? = some o := by rw [hl]; rfl
      simpa using this
    have hrest : ops.toList.drop (i + 1) = rest := by
      rw [← List.drop_drop, hl]
      rfl
    obtain ⟨x, h1, e1, e2⟩ := bind_ok e
    have m1 : h.n ≤ h1.n := (Fr.evOpX hF _ _ _).mono e1
    have m2 : h1.n ≤ h'.n := by
      cases x with
      | val v => exact (Fr.evOpsX hF _ _ _).mono e2
      | dfr d => exact (Fr.evOpsX hF _ _ _).mono e2
      | pan v => obtain ⟨_, rfl⟩ := ret_ok e2; exact Nat.le_refl _
      | rcv => cases e2
    have key := evOpX_wp (Q := Q) (K := wpOps X.E.P ops Q (List.range' (i + 1) rest.length)) hc hF hA.tmps H e1 (fun hx => by subst hx; cases e2) (fun b hb hlt => hfree b hb (by omega))
      (fun σ1 v v' w1 hx x1 H1 hv => by
        subst hx
        exact evOpsX_wp hc hF rest (i + 1) { t with t := putT t.t o.dst v } (a.put o.dst v') h1 w1 hrest ⟨putT_R (hA.tmps.mono x1.sub) _ hv, by rw [put_defers']; exact hA.defers.mono x1.sub⟩ H1 e2 (fun b hb hlt => x1.out b (hfree b (by omega) hlt) (by omega))
          fun en a2 w2 hP => hQ en a2 w2 (hP.trans x1 m1 m2))
      (fun σ1 d d' w1 hx x1 H1 hd => by
        subst hx
        refine evOpsX_wp hc hF rest (i + 1) { t := putT t.t o.dst undef, ds := d :: t.ds } _ h1 w1 hrest ⟨putT_R (a := { a with defers := d' :: a.defers }) (hA.tmps.mono x1.sub) _ (undef_VR σ1), ?_⟩ H1 e2 (fun b hb hlt => x1.out b (hfree b (by omega) hlt) (by omega))
          fun en a2 w2 hP => hQ en a2 w2 (hP.trans x1 m1 m2)
        rw [put_defers']
        exact ⟨d', a.defers, rfl, hd, hA.defers.mono x1.sub⟩)
      (fun σ1 v v' w1 hx x1 H1 hv => by
        subst hx
        obtain ⟨e3, rfl⟩ := ret_ok e2
        cases e3
        exact hQ _ a w1 ⟨σ1, x1, H1, ⟨hA.tmps.mono x1.sub, hA.defers.mono x1.sub⟩, v', rfl, hv⟩)
    rw [List.length_cons, List.range'_succ, wpOps_cons]
    unfold wpOp
    rw [hi]
    simp only
    split
    · rename_i hwant
      rw [if_pos hwant] at key
      exact .inl key
    · rename_i hwant
      rw [if_neg hwant] at key
      exact key
end
end Go.Ev

namespace Go.Ev
open Go.RowKit
set_option linter.unusedVariables false
set_option linter.unusedSimpArgs false
section
variable {X : Cx} {call : CallX}
theorem XR.exit {σ : S} {x : XEx} {e : Exit} (h : XR σ x e) : e = .normal → x = .ex .normal := by
  intro he
  subst he
  cases x with
  | ex e0 => cases e0 <;> first | rfl | cases h
  | pan v => obtain ⟨v', h, _⟩ := h; cases h
theorem then_of {X : Cx} {σ : S} {n : Nat} {h' : Hp} {x : XEx} {t' : AcX} {e : Exit} {a' : Act} {w' : World} {next : Act → World → Prop} {Q : Exit → Act → World → Prop} (hx : x ≠ .ex .normal) (h : PostX X σ n h' x t' e a' w') (hq : PostX X σ n h' x t' e a' w' → Q e a' w') : Exit.then next Q e a' w' := by
  obtain ⟨σ', x', H', A', hxr⟩ := h
  cases e with
  | normal => exact absurd (hxr.exit rfl) hx
  | _ => exact hq ⟨σ', x', H', A', hxr⟩
theorem evCodeX_wp (hm : X.E.P.follows .mixedOrders = true) (hc : CallXOk X call) (hF : ∀ f args, Fr X.E (call f args)) : ∀ (k : Nat),
    (∀ (c : Code) {σ : S} (t t' : AcX) (a : Act) (h h' : Hp) (w : World) (x : XEx), AcXR σ t a → HR X σ h w → evCodeX X.E call k c t h = .ok ((x, t'), h') → (∀ b, h.n ≤ b → b < h'.n → σ b = none) → c.wp X.E.P (PostX X σ h.n h' x t') a w) ∧
    (∀ (c : Code) {σ : S} (t t' : AcX) (a : Act) (h h' : Hp) (w : World) (x : XEx), AcXR σ t a → HR X σ h w → evCodeX X.E call k (.loop c) t h = .ok ((x, t'), h') → (∀ b, h.n ≤ b → b < h'.n → σ b = none) → Code.rounds X.E.P c (PostX X σ h.n h' x t') k a w) := by
  intro k
  induction k with
  | zero =>
    constructor
    · intro c σ t t' a h h' w x _ _ e
      cases e
    · intro c σ t t' a h h' w x _ _ e
      cases e
  | succ k ih =>
    obtain ⟨ih1, ih2⟩ := ih
    have FC := fun c t => Fr.evCodeX (E := X.E) hF k c t
    have loopS : ∀ (c : Code) {σ : S} (t t' : AcX) (a : Act) (h h' : Hp) (w : World) (x : XEx), AcXR σ t a → HR X σ h w → evCodeX X.E call (k + 1) (.loop c) t h = .ok ((x, t'), h') → (∀ b, h.n ≤ b → b < h'.n → σ b = none) → Code.rounds X.E.P c (PostX X σ h.n h' x t') (k + 1) a w := by
      intro c σ t t' a h h' w x hA H e hfree
      unfold evCodeX at e
      dsimp only at e
      obtain ⟨⟨x1, t1⟩, h1, e1, e2⟩ := bind_ok e
      have m1 := (FC c t).mono e1
      show c.wp X.E.P (Exit.then (Code.rounds X.E.P c (PostX X σ h.n h' x t') k) (PostX X σ h.n h' x t')) a w
      by_cases hn : x1 = .ex .normal
      · subst hn
        have m2 := (FC (.loop c) t1).mono e2
        refine wp_mono (ih1 c t t1 a h h1 w _ hA H e1 (fun b hb hl => hfree b hb (by omega))) fun en a1 w1 hP => ?_
        obtain ⟨σ1, y1, H1, A1, hxr⟩ := hP
        cases hxr
        show Code.rounds X.E.P c (PostX X σ h.n h' x t') k a1 w1
        have := ih2 c t1 t' a1 h1 h' w1 x A1 H1 e2 (fun b hb hl => y1.out b (hfree b (by omega) hl) (by omega))
        have mono : ∀ (n : Nat) (a : Act) (w : World), Code.rounds X.E.P c (PostX X σ1 h1.n h' x t') n a w → Code.rounds X.E.P c (PostX X σ h.n h' x t') n a w := by
          intro n
          induction n with
          | zero => intro a w h; exact h
          | succ n ihn =>
            intro a w h
            refine wp_mono h fun en a2 w2 hh => ?_
            cases en with
            | normal => exact ihn a2 w2 hh
            | _ => exact PostX.trans y1 m1 m2 hh
        exact mono k a1 w1 this
      · have e3 : x = x1 ∧ t' = t1 ∧ h' = h1 := by
          cases x1 with
          | ex ex1 =>
            cases ex1 with
            | normal => exact absurd rfl hn
            | _ => obtain ⟨h5, rfl⟩ := ret_ok e2; cases h5; exact ⟨rfl, rfl, rfl⟩
          | pan v => obtain ⟨h5, rfl⟩ := ret_ok e2; cases h5; exact ⟨rfl, rfl, rfl⟩
        obtain ⟨rfl, rfl, rfl⟩ := e3
        exact wp_mono (ih1 c t _ a h _ w _ hA H e1 hfree) fun en a1 w1 hP => then_of hn hP id
    refine ⟨?_, loopS⟩
    intro c σ t t' a h h' w x hA H e hfree
    cases c with
    | skip =>
      unfold evCodeX at e
      obtain ⟨h5, rfl⟩ := ret_ok e
      cases h5
      exact wp_skip ⟨σ, Ext.refl _ _ _, H, hA, rfl⟩
    | label l =>
      unfold evCodeX at e
      obtain ⟨h5, rfl⟩ := ret_ok e
      cases h5
      exact wp_label ⟨σ, Ext.refl _ _ _, H, hA, rfl⟩
    | exit id =>
      unfold evCodeX at e
      obtain ⟨h5, rfl⟩ := ret_ok e
      cases h5
      exact wp_exit ⟨σ, Ext.refl _ _ _, H, hA, rfl⟩
    | ret =>
      unfold evCodeX at e
      obtain ⟨h5, rfl⟩ := ret_ok e
      cases h5
      exact wp_ret ⟨σ, Ext.refl _ _ _, H, hA, rfl⟩
    | seq u v =>
      unfold evCodeX at e
      dsimp only at e
      obtain ⟨⟨x1, t1⟩, h1, e1, e2⟩ := bind_ok e
      have m1 := (FC u t).mono e1
      refine wp_seq ?_
      by_cases hn : x1 = .ex .normal
      · subst hn
        have m2 := (FC v t1).mono e2
        refine wp_mono (ih1 u t t1 a h h1 w _ hA H e1 (fun b hb hl => hfree b hb (by omega))) fun en a1 w1 hP => ?_
        obtain ⟨σ1, y1, H1, A1, hxr⟩ := hP
        cases hxr
        show v.wp X.E.P (PostX X σ h.n h' x t') a1 w1
        exact wp_mono (ih1 v t1 t' a1 h1 h' w1 x A1 H1 e2 (fun b hb hl => y1.out b (hfree b (by omega) hl) (by omega))) fun en a2 w2 hh => PostX.trans y1 m1 m2 hh
      · have e3 : x = x1 ∧ t' = t1 ∧ h' = h1 := by
          cases x1 with
          | ex ex1 =>
            cases ex1 with
            | normal => exact absurd rfl hn
            | _ => obtain ⟨h5, rfl⟩ := ret_ok e2; cases h5; exact ⟨rfl, rfl, rfl⟩
          | pan v => obtain ⟨h5, rfl⟩ := ret_ok e2; cases h5; exact ⟨rfl, rfl, rfl⟩
        obtain ⟨rfl, rfl, rfl⟩ := e3
        exact wp_mono (ih1 u t _ a h _ w _ hA H e1 hfree) fun en a1 w1 hP => then_of hn hP id
    | cond q u v =>
      unfold evCodeX at e
      dsimp only at e
      cases hq : ev t.t q with
      | bool z =>
        rw [hq] at e
        exact wp_cond (cond_R hA.tmps hq) (ih1 _ t t' a h h' w x hA H e hfree)
      | _ => rw [hq] at e; cases e
    | block id u =>
      unfold evCodeX at e
      dsimp only at e
      obtain ⟨⟨x1, t1⟩, h1, e1, e2⟩ := bind_ok e
      refine wp_block ?_
      cases x1 with
      | ex ex1 =>
        cases ex1 with
        | exit id' =>
          have e3 : (if id' = id then M.pure (XEx.ex .normal, t1) else M.pure (XEx.ex (.exit id'), t1) : M (XEx × AcX)) h1 = .ok ((x, t'), h') := e2
          split at e3
          · rename_i hid
            obtain ⟨h5, rfl⟩ := ret_ok e3
            cases h5
            refine wp_mono (ih1 u t _ a h _ w _ hA H e1 hfree) fun en a1 w1 hP => ?_
            obtain ⟨σ1, y1, H1, A1, hxr⟩ := hP
            cases hxr
            show (if id' = id then PostX X σ h.n h' (.ex .normal) t' .normal a1 w1 else PostX X σ h.n h' (.ex .normal) t' (.exit id') a1 w1)
            rw [if_pos hid]
            exact ⟨σ1, y1, H1, A1, rfl⟩
          · rename_i hid
            obtain ⟨h5, rfl⟩ := ret_ok e3
            cases h5
            refine wp_mono (ih1 u t _ a h _ w _ hA H e1 hfree) fun en a1 w1 hP => ?_
            obtain ⟨σ1, y1, H1, A1, hxr⟩ := hP
            cases hxr
            show (if id' = id then PostX X σ h.n h' (.ex (.exit id')) t' .normal a1 w1 else PostX X σ h.n h' (.ex (.exit id')) t' (.exit id') a1 w1)
            rw [if_neg hid]
            exact ⟨σ1, y1, H1, A1, rfl⟩
        | _ =>
          obtain ⟨h5, rfl⟩ := ret_ok e2
          cases h5
          refine wp_mono (ih1 u t _ a h _ w _ hA H e1 hfree) fun en a1 w1 hP => ?_
          obtain ⟨σ1, y1, H1, A1, hxr⟩ := hP
          cases hxr
          exact ⟨σ1, y1, H1, A1, rfl⟩
      | pan v =>
        obtain ⟨h5, rfl⟩ := ret_ok e2
        cases h5
        refine wp_mono (ih1 u t _ a h _ w _ hA H e1 hfree) fun en a1 w1 hP => ?_
        obtain ⟨σ1, y1, H1, A1, v', rfl, hv⟩ := hP
        exact ⟨σ1, y1, H1, A1, v', rfl, hv⟩
    | scope u =>
      unfold evCodeX at e
      dsimp only at e
      obtain ⟨⟨x1, t1⟩, h1, e1, e2⟩ := bind_ok e
      refine wp_scope_straight ?_
      cases x1 with
      | ex ex1 =>
        cases ex1 with
        | goto l => cases e2
        | _ =>
          obtain ⟨h5, rfl⟩ := ret_ok e2
          cases h5
          refine wp_mono (ih1 u t _ a h _ w _ hA H e1 hfree) fun en a1 w1 hP => ?_
          obtain ⟨σ1, y1, H1, A1, hxr⟩ := hP
          cases hxr
          exact ⟨σ1, y1, H1, A1, rfl⟩
      | pan v =>
        obtain ⟨h5, rfl⟩ := ret_ok e2
        cases h5
        refine wp_mono (ih1 u t _ a h _ w _ hA H e1 hfree) fun en a1 w1 hP => ?_
        obtain ⟨σ1, y1, H1, A1, v', rfl, hv⟩ := hP
        exact ⟨σ1, y1, H1, A1, v', rfl, hv⟩
    | loop u => exact wp_loop_rounds (k + 1) (loopS u t t' a h h' w x hA H e hfree)
    | region id ops draw =>
      unfold evCodeX at e
      cases draw with
      | false =>
        dsimp only at e
        obtain ⟨⟨r, t1⟩, h1, e1, e2⟩ := bind_ok e
        obtain ⟨h5, rfl⟩ := ret_ok e2
        cases h5
        refine wp_region ?_
        rw [List.range_eq_range', ← Array.length_toList]
        exact evOpsX_wp hc hF ops.toList 0 t a h w rfl hA H e1 hfree fun en a' w' hP => hP
      | true =>
        dsimp only at e
        obtain ⟨u, h1, e1, e2⟩ := bind_ok e
        obtain ⟨h5, rfl⟩ := ret_ok e2
        cases h5
        refine evDrawn_wp (ds := a.defers) hm (plain_ok hc) (Fr.plain hF) hA.tmps rfl H e1 hfree fun σ1 a1 w1 x1 H1 hV hd => ⟨σ1, x1, H1, ⟨hV, ?_⟩, rfl⟩
        rw [hd]
        exact hA.defers.mono x1.sub
    | rangeFunc f ps assign body =>
      unfold evCodeX at e
      dsimp only at e
      obtain ⟨⟨ex, t1⟩, h1, e1, e2⟩ := bind_ok e
      obtain ⟨h5, rfl⟩ := ret_ok e2
      cases h5
      refine wp_mono (evRange_core (plain_ok hc) (Fr.plain hF) (t := { t := t.t, ds := [] }) hA.tmps H e1 hfree) fun en a1 w1 hP => ?_
      obtain ⟨rfl, σ1, d, d', y1, H1, hV, hds, hdf, hd⟩ := hP
      refine ⟨σ1, y1, H1, ⟨hV, ?_⟩, rfl⟩
      rw [hds, hdf]
      exact ⟨_, a.defers, rfl, ⟨⟨d', rfl, hd⟩, .nil⟩, hA.defers.mono y1.sub⟩
    | goto l =>
      unfold evCodeX at e
      cases e
    | refuse why =>
      unfold evCodeX at e
      cases e
end
end Go.Ev

namespace Go.Ev
open Go.RowKit
set_option linter.unusedVariables false
set_option linter.unusedSimpArgs false

/-- how a frame goes on -/
def MdR (σ : S) : Pm → FrameMode → Prop
  | .ret, m => m = .returning
  | .pan v, m => ∃ v', m = .panicking [{ v := v', recovered := false }] ∧ VR σ v v'
  | .was v, m => ∃ v', m = .panicking [{ v := v', recovered := true }] ∧ VR σ v v'
theorem MdR.mono {σ σ' : S} (hs : Sub σ σ') {p : Pm} {m : FrameMode} (h : MdR σ p m) : MdR σ' p m := by
  cases p with
  | ret => exact h
  | pan v => obtain ⟨v', e, hv⟩ := h; exact ⟨v', e, hv.mono hs⟩
  | was v => obtain ⟨v', e, hv⟩ := h; exact ⟨v', e, hv.mono hs⟩
theorem MdR.notRun {σ : S} {p : Pm} {m : FrameMode} (h : MdR σ p m) : m ≠ .run := by
  intro e
  subst e
  cases p with
  | ret => cases h
  | pan v => obtain ⟨v', e, hv⟩ := h; cases e
  | was v => obtain ⟨v', e, hv⟩ := h; cases e
theorem MdR.settle {σ : S} {p : Pm} {m : FrameMode} (h : MdR σ p m) : MdR σ (settleM p) (settle m) := by
  cases p with
  | ret => cases h; rfl
  | pan v => obtain ⟨v', rfl, hv⟩ := h; exact ⟨v', rfl, hv⟩
  | was v => obtain ⟨v', rfl, hv⟩ := h; rfl
/-- what a piece of a deferred function's code leaves -/
def PostD (X : Cx) (σ : S) (n : Nat) (h' : Hp) (c₀ : Frame) (cs : List Frame) (ex : Ex) (t' : Tm) (pm' : Pm) : Exit → Act → List Frame → World → Prop := fun e a' cs' w' =>
  ∃ (σ' : S) (m : FrameMode), Ext σ σ' n h'.n ∧ HR X σ' h' w' ∧ RT σ' t' a'.tmps ∧ a'.defers = [] ∧ e = ExR ex ∧ cs' = { c₀ with mode := m } :: cs ∧ MdR σ' pm' m

section
variable {X : Cx} {call : CallX}
theorem evOpX_rcv {σ : S} {a : Act} {w : World} {ops : Array Oper} {tmps : Tm} {o : Oper} {h h' : Hp} (hV : RT σ tmps a.tmps) (H : HR X σ h w) (hfree : ∀ b, h.n ≤ b → b < h'.n → σ b = none) (e : evOpX X.E call ops tmps o h = .ok (.rcv, h')) : Region.wanted o (yieldedT ops tmps) = true ∧ ∃ σ1 w1, (execOp a.eval o).run X.E.P w = .ok .recover w1 ∧ Ext σ σ1 h.n h'.n ∧ HR X σ1 h' w1 := by
  unfold evOpX at e
  by_cases hwant : Region.wanted o (yieldedT ops tmps) = true
  · rw [if_pos hwant] at e
    refine ⟨hwant, ?_⟩
    cases hp : panOf o.op with
    | some y =>
      rw [hp] at e
      dsimp only at e
      split at e
      · generalize ev tmps y = u at e
        cases u with
        | iface t v => obtain ⟨h5, _⟩ := ret_ok e; cases h5
        | _ => cases e
      · cases e
    | none =>
      rw [hp] at e
      dsimp only at e
      obtain ⟨n, h1, e1, e2⟩ := bind_ok e
      have hn : n = .rcv ∧ h' = h1 := by
        cases n with
        | val v => obtain ⟨h5, _⟩ := ret_ok e2; cases h5
        | skip => obtain ⟨h5, _⟩ := ret_ok e2; cases h5
        | dfr d => obtain ⟨h5, _⟩ := ret_ok e2; cases h5
        | rcv => obtain ⟨_, rfl⟩ := ret_ok e2; exact ⟨rfl, rfl⟩
        | enter f args =>
          unfold evNx at e2
          obtain ⟨out, h2, e3, e4⟩ := bind_ok e2
          cases out <;> (obtain ⟨h5, _⟩ := ret_ok e4; cases h5)
      obtain ⟨rfl, rfl⟩ := hn
      obtain ⟨σ1, n', w1, x1, r1, H1, hN⟩ := exec_R (X := X) o (ev_R H (exec_ok e1) (fun t _ => hV.getD t)) h w _ h' H e1 hfree
      cases hN
      exact ⟨σ1, w1, r1, x1, H1⟩
  · rw [if_neg hwant] at e
    obtain ⟨h5, _⟩ := ret_ok e
    cases h5
theorem evOpsD_wp (hc : CallXOk X call) (hF : ∀ f args, Fr X.E (call f args)) {ops : Array Oper} {t' : Tm} {pm' : Pm} {h' : Hp} {c₀ : Frame} {cs : List Frame} {Q : Exit → Act → List Frame → World → Prop} : ∀ (l : List Oper) (i : Nat) {σ : S} (t : Tm) (pm : Pm) (m : FrameMode) (a : Act) (h : Hp) (w : World),
    ops.toList.drop i = l → RT σ t a.tmps → a.defers = [] → MdR σ pm m → HR X σ h w → evOpsD X.E call ops l t pm h = .ok ((t', pm'), h') → (∀ b, h.n ≤ b → b < h'.n → σ b = none) →
    (∀ en a' cs' w', PostD X σ h.n h' c₀ cs .normal t' pm' en a' cs' w' → Q en a' cs' w') → wpOpsS X.E.P ops Q (List.range' i l.length) a ({ c₀ with mode := m } :: cs) w
  | [], i, σ, t, pm, m, a, h, w, hl, hV, hd, hM, H, e, hfree, hQ => by
    obtain ⟨e1, rfl⟩ := ret_ok e
    cases e1
    exact hQ .normal a _ w ⟨σ, m, Ext.refl _ _ _, H, hV, hd, rfl, rfl, hM⟩
  | o :: rest, i, σ, t, pm, m, a, h, w, hl, hV, hd, hM, H, e, hfree, hQ => by
    have hi : ops[i]? = some o := by
      have : (ops.toList.drop i)[0]? = some o := by rw [hl]; rfl
      simpa using this
    have hrest : ops.toList.drop (i + 1) = rest := by
      rw [← List.drop_drop, hl]
      rfl
    obtain ⟨x, h1, e1, e2⟩ := bind_ok e
    have m1 : h.n ≤ h1.n := (Fr.evOpX hF _ _ _).mono e1
    have hwR : Region.wanted o (yielded ops a.tmps) = Region.wanted o (yieldedT ops t) := wanted_R ops o fun t _ => hV.get? t
    rw [List.length_cons, List.range'_succ]
    show (match ops[i]? with | none => _ | some o => _ : Prop)
    rw [hi]
    dsimp only
    by_cases hx : x = .rcv
    · subst hx
      have m2 : h1.n ≤ h'.n := by
        cases pm <;> exact (Fr.evOpsD hF _ _ _ _).mono e2
      obtain ⟨hwant, σ1, w1, hrec, x1, H1⟩ := evOpX_rcv hV H (fun b hb hlt => hfree b hb (by omega)) e1
      have hV1 := hV.mono x1.sub
      have hf1 : ∀ b, h1.n ≤ b → b < h'.n → σ1 b = none := fun b hb hlt => x1.out b (hfree b (by omega) hlt) (by omega)
      have hQ1 : ∀ en a' cs' w', PostD X σ1 h1.n h' c₀ cs .normal t' pm' en a' cs' w' → Q en a' cs' w' := fun en a2 cs2 w2 hP => hQ en a2 cs2 w2 (by
              obtain ⟨σ2, m', y, H2, hV2, hd2, he2, hcs2, hM2⟩ := hP
              exact ⟨σ2, m', x1.trans y m1 m2, H2, hV2, hd2, he2, hcs2, hM2⟩)
      rw [hwR, if_pos hwant, hrec]
      cases pm with
      | ret =>
        cases hM
        show wpOpsS X.E.P ops Q (List.range' (i + 1) rest.length) (a.put o.dst .nilIface) ({ c₀ with mode := .returning } :: cs) w1
        exact evOpsD_wp hc hF rest (i + 1) (putT t o.dst .nilIface) .ret .returning _ h1 w1 hrest (putT_R hV1 _ .nilIface) (by rw [put_defers']; exact hd) rfl H1 e2 hf1 hQ1
      | pan v =>
        obtain ⟨v', rfl, hv⟩ := hM
        show wpOpsS X.E.P ops Q (List.range' (i + 1) rest.length) (a.put o.dst v') ({ c₀ with mode := .panicking [{ v := v', recovered := true }] } :: cs) w1
        exact evOpsD_wp hc hF rest (i + 1) (putT t o.dst v) (.was v) _ _ h1 w1 hrest (putT_R hV1 _ (hv.mono x1.sub)) (by rw [put_defers']; exact hd) ⟨v', rfl, hv.mono x1.sub⟩ H1 e2 hf1 hQ1
      | was v =>
        obtain ⟨v', rfl, hv⟩ := hM
        show wpOpsS X.E.P ops Q (List.range' (i + 1) rest.length) (a.put o.dst .nilIface) ({ c₀ with mode := .panicking [{ v := v', recovered := true }] } :: cs) w1
        exact evOpsD_wp hc hF rest (i + 1) (putT t o.dst .nilIface) (.was v) _ _ h1 w1 hrest (putT_R hV1 _ .nilIface) (by rw [put_defers']; exact hd) ⟨v', rfl, hv.mono x1.sub⟩ H1 e2 hf1 hQ1
    · have key := evOpX_wp (Q := fun e a' w' => Q e a' ({ c₀ with mode := m } :: cs) w') (K := fun a' w' => wpOpsS X.E.P ops Q (List.range' (i + 1) rest.length) a' ({ c₀ with mode := m } :: cs) w') hc hF hV H e1 hx (fun b hb hlt => hfree b hb (by
          have : h1.n ≤ h'.n := by
            cases x with
            | val v => exact (Fr.evOpsD hF _ _ _ _).mono e2
            | dfr d => cases e2
            | pan v => cases e2
            | rcv => exact absurd rfl hx
          omega))
        (fun σ1 v v' w1 hxe x1 H1 hv => by
          subst hxe
          have m2 : h1.n ≤ h'.n := (Fr.evOpsD hF _ _ _ _).mono e2
          exact evOpsD_wp hc hF rest (i + 1) (putT t o.dst v) pm m (a.put o.dst v') h1 w1 hrest (putT_R (hV.mono x1.sub) _ hv) (by rw [put_defers']; exact hd) (hM.mono x1.sub) H1 e2 (fun b hb hlt => x1.out b (hfree b (by omega) hlt) (by omega))
            fun en a2 cs2 w2 hP => hQ en a2 cs2 w2 (by
              obtain ⟨σ2, m', y, H2, hV2, hd2, he2, hcs2, hM2⟩ := hP
              exact ⟨σ2, m', x1.trans y m1 m2, H2, hV2, hd2, he2, hcs2, hM2⟩))
        (fun σ1 d d' w1 hxe x1 H1 hd' => by subst hxe; cases e2)
        (fun σ1 v v' w1 hxe x1 H1 hv => by subst hxe; cases e2)
      by_cases hwant : Region.wanted o (yielded ops a.tmps) = true
      · rw [if_pos hwant] at key ⊢
        unfold Oper.wp at key
        generalize (execOp a.eval o).run X.E.P w = r at key
        cases r with
        | ok n w' =>
          cases n with
          | recover => exact key.elim
          | _ => exact key
        | halt y w' => exact key
      · rw [if_neg hwant] at key ⊢
        exact key
theorem PostD.trans {σ σ1 : S} {n m : Nat} {h' : Hp} {c₀ : Frame} {md : FrameMode} {cs cs' : List Frame} {ex : Ex} {t' : Tm} {pm' : Pm} {e : Exit} {a' : Act} {w' : World} (hx : Ext σ σ1 n m) (h1 : n ≤ m) (h2 : m ≤ h'.n) (h : PostD X σ1 m h' { c₀ with mode := md } cs ex t' pm' e a' cs' w') : PostD X σ n h' c₀ cs ex t' pm' e a' cs' w' := by
  obtain ⟨σ2, m', y, H2, hV2, hd2, he2, hcs2, hM2⟩ := h
  exact ⟨σ2, m', hx.trans y h1 h2, H2, hV2, hd2, he2, hcs2, hM2⟩
theorem evCodeD_wp (hm : X.E.P.follows .mixedOrders = true) (hc : CallXOk X call) (hF : ∀ f args, Fr X.E (call f args)) : ∀ (k : Nat) (c : Code) {σ : S} (t t' : Tm) (pm pm' : Pm) (c₀ : Frame) (cs : List Frame) (m : FrameMode) (a : Act) (h h' : Hp) (w : World) (ex : Ex),
    RT σ t a.tmps → a.defers = [] → MdR σ pm m → HR X σ h w → evCodeD X.E call k c t pm h = .ok ((ex, t', pm'), h') → (∀ b, h.n ≤ b → b < h'.n → σ b = none) →
    c.wpS X.E.P (PostD X σ h.n h' c₀ cs ex t' pm') a ({ c₀ with mode := m } :: cs) w := by
  intro k
  induction k with
  | zero => intro c σ t t' pm pm' c₀ cs m a h h' w ex _ _ _ _ e; cases e
  | succ k ih =>
    intro c σ t t' pm pm' c₀ cs m a h h' w ex hV hd hM H e hfree
    have plainly : ∀ (j : Nat), M.bind (evCodeX X.E call j c { t, ds := [] }) (fun r => match r.1, r.2.ds with
      | .ex e, [] => M.pure (e, r.2.t, pm)
      | _, _ => fail "in a deferred function") h = .ok ((ex, t', pm'), h') → c.wpS X.E.P (PostD X σ h.n h' c₀ cs ex t' pm') a ({ c₀ with mode := m } :: cs) w := by
      intro j e
      obtain ⟨⟨x, t1⟩, h1, e1, e2⟩ := bind_ok e
      obtain ⟨t1, ds1⟩ := t1
      cases x with
      | pan v => cases e2
      | ex ex1 =>
        cases ds1 with
        | cons d ds => cases e2
        | nil =>
          obtain ⟨h5, rfl⟩ := ret_ok e2
          cases h5
          refine wpS_of_wp (wp_mono ((evCodeX_wp hm hc hF j).1 c { t, ds := [] } _ a h h' w _ ⟨hV, hd⟩ H e1 hfree) fun en a1 w1 hP => ?_)
          obtain ⟨σ1, y1, H1, A1, hxr⟩ := hP
          have hds : a1.defers = [] := A1.defers
          exact ⟨σ1, m, y1, H1, A1.tmps, hds, hxr, rfl, hM.mono y1.sub⟩
    cases c with
    | seq u v =>
      unfold evCodeD at e
      dsimp only at e
      obtain ⟨⟨ex1, t1, pm1⟩, h1, e1, e2⟩ := bind_ok e
      have m1 := (Fr.evCodeD hF k u t pm).mono e1
      refine wpS_seq ?_
      by_cases hn : ex1 = .normal
      · subst hn
        have m2 := (Fr.evCodeD hF k v t1 pm1).mono e2
        have := ih u t t1 pm pm1 c₀ cs m a h h1 w .normal hV hd hM H e1 (fun b hb hl => hfree b hb (by omega))
        intro b kk hb hr
        obtain ⟨en, a1, cs1, w1, hP, harr⟩ := this b kk hb hr
        obtain ⟨σ1, m', y1, H1, V1, d1, he1, hcs1, M1⟩ := hP
        subst he1 hcs1
        refine ⟨_, a1, _, w1, ?_, harr⟩
        show v.wpS X.E.P (PostD X σ h.n h' c₀ cs ex t' pm') a1 ({ c₀ with mode := m' } :: cs) w1
        have h2 := ih v t1 t' pm1 pm' c₀ cs m' a1 h1 h' w1 ex V1 d1 M1 H1 e2 (fun b hb hl => y1.out b (hfree b (by omega) hl) (by omega))
        intro b kk hb hr
        obtain ⟨en, a2, cs2, w2, hP, harr⟩ := h2 b kk hb hr
        exact ⟨en, a2, cs2, w2, PostD.trans (md := m') y1 m1 m2 hP, harr⟩
      · have e3 : ex = ex1 ∧ t' = t1 ∧ pm' = pm1 ∧ h' = h1 := by
          cases ex1 with
          | normal => exact absurd rfl hn
          | _ => obtain ⟨h5, rfl⟩ := ret_ok e2; cases h5; exact ⟨rfl, rfl, rfl, rfl⟩
        obtain ⟨rfl, rfl, rfl, rfl⟩ := e3
        have := ih u t _ pm _ c₀ cs m a h _ w _ hV hd hM H e1 hfree
        intro b kk hb hr
        obtain ⟨en, a1, cs1, w1, hP, harr⟩ := this b kk hb hr
        obtain ⟨σ1, m', y1, H1, V1, d1, he1, hcs1, M1⟩ := hP
        subst he1
        refine ⟨_, a1, cs1, w1, ?_, harr⟩
        cases ex with
        | normal => exact absurd rfl hn
        | _ => exact ⟨σ1, m', y1, H1, V1, d1, rfl, hcs1, M1⟩
    | cond q u v =>
      unfold evCodeD at e
      dsimp only at e
      cases hq : ev t q with
      | bool z =>
        rw [hq] at e
        have hcond : a.eval q = .bool z := by
          obtain ⟨at', ad⟩ := a
          exact cond_R hV hq
        exact wpS_cond hcond (ih _ t t' pm pm' c₀ cs m a h h' w ex hV hd hM H e hfree)
      | _ => rw [hq] at e; cases e
    | region id ops draw =>
      unfold evCodeD at e
      cases draw with
      | true => exact plainly _ e
      | false =>
        dsimp only at e
        by_cases hr : hasRecover ops = true
        · rw [if_pos hr] at e
          obtain ⟨⟨t1, pm1⟩, h1, e1, e2⟩ := bind_ok e
          obtain ⟨h5, rfl⟩ := ret_ok e2
          cases h5
          refine wpS_region ?_
          rw [List.range_eq_range', ← Array.length_toList]
          exact evOpsD_wp hc hF ops.toList 0 t pm m a h w rfl hV hd hM H e1 hfree fun en a' cs' w' hP => hP
        · rw [if_neg hr] at e
          exact plainly _ e
    | skip => unfold evCodeD at e; exact plainly _ e
    | block id u => unfold evCodeD at e; exact plainly _ e
    | loop u => unfold evCodeD at e; exact plainly _ e
    | rangeFunc f ps as b => unfold evCodeD at e; exact plainly _ e
    | exit id => unfold evCodeD at e; exact plainly _ e
    | scope u => unfold evCodeD at e; exact plainly _ e
    | label l => unfold evCodeD at e; exact plainly _ e
    | goto l => unfold evCodeD at e; exact plainly _ e
    | ret => unfold evCodeD at e; exact plainly _ e
    | refuse why => unfold evCodeD at e; exact plainly _ e
end
end Go.Ev

namespace Go.Ev
open Go.RowKit
set_option linter.unusedVariables false
set_option linter.unusedSimpArgs false
section
variable {X : Cx} {call : CallX}
theorem run_results {P : Program} {w : World} {fn : Func} {tmps : Array Value} {vs : List Value} (h : (fn.results.toList.mapM (resOne tmps)).run P w = .ok vs w) : (results fn tmps).run P w = .ok (if h : vs.toArray.size = 1 then vs.toArray[0] else .tuple vs.toArray) w := by
  rw [results_eq, Array.mapM_eq_mapM_toList, map_eq_pure_bind]
  rw [run_bind', run_bind', h]
  rfl
/-- a deferred call -/
theorem evDef_ok (hm : X.E.P.follows .mixedOrders = true) (hc : CallXOk X call) (hF : ∀ f args, Fr X.E (call f args)) (fuel : Nat) {σ : S} {f : FuncId} {args args' : Array Value} {pm pm' : Pm} {m : FrameMode} {h h' : Hp} {w : World} (hV : VRA σ args args') (hM : MdR σ pm m) (H : HR X σ h w)
    (e : evDef X.E call fuel f args pm h = .ok (pm', h')) (hfree : ∀ b, h.n ≤ b → b < h'.n → σ b = none) :
    CallsD X.E.P f args' m w fun e u' w' => ∃ (v : Value) (σ' : S), e = .returned v ∧ Ext σ σ' h.n h'.n ∧ HR X σ' h' w' ∧ MdR σ' pm' u' := by
  unfold evDef at e
  cases hf : X.E.P.funcs[f]? with
  | none => rw [hf] at e; cases e
  | some fn =>
    rw [hf] at e
    dsimp only at e
    cases hb : fn.body with
    | none => rw [hb] at e; cases e
    | some c =>
      rw [hb] at e
      dsimp only at e
      obtain ⟨t0, h0, e0, ef⟩ := bind_ok e
      obtain ⟨h0e, hA⟩ := frameT_R hV e0
      subst h0
      obtain ⟨⟨ex, t1, pm1⟩, h1, e1, e2⟩ := bind_ok ef
      clear e ef
      have hex : ex = .normal ∨ ex = .ret := by
        cases ex with
        | normal => exact .inl rfl
        | ret => exact .inr rfl
        | exit id => cases e2
        | goto l => cases e2
      have e3 : M.bind (resultsL X.E t1 fn.results.toList) (fun _ => M.pure pm1) h1 = .ok (pm', h') := by
        rcases hex with rfl | rfl <;> exact e2
      clear e2
      obtain ⟨vs, h2, e4, e5⟩ := bind_ok e3
      obtain ⟨rfl, rfl⟩ := ret_ok e5
      have m1 := (Fr.evCodeD hF fuel c _ pm).mono e1
      have m2 := (Fr.resultsL (E := X.E) t1 fn.results.toList).mono e4
      refine callsD_of_wpS hf hb fun c₀ cs hmode => ?_
      have hc0 : ({ c₀ with mode := m } : Frame) = c₀ := by subst hmode; rfl
      have := evCodeD_wp hm hc hF fuel c _ t1 pm _ c₀ cs m { tmps := args' ++ Array.replicate (fn.ntmps - args'.size) undef, defers := [] } h h1 w ex hA rfl hM H e1 (fun b hb hl => hfree b hb (by omega))
      rw [hc0] at this
      intro b kk hbk hr
      obtain ⟨en, a1, cs1, w1, hP, harr⟩ := this b kk hbk hr
      obtain ⟨σ1, m', y1, H1, V1, d1, he1, hcs1, M1⟩ := hP
      obtain ⟨σ2, vs', y2, H2, hvs, hres⟩ := results_R fn.results.toList V1 H1 e4 (fun b hb hl => y1.out b (hfree b (by omega) hl) (by omega))
      refine ⟨en, a1, cs1, w1, ?_, harr⟩
      have fin : a1.defers = [] ∧ ∃ u', cs1 = { c₀ with mode := u' } :: cs ∧ ∃ v, (results fn a1.tmps).run X.E.P w1 = .ok v w1 ∧ ∃ (v' : Value) (σ' : S), Ending.returned v = .returned v' ∧ Ext σ σ' h.n h'.n ∧ HR X σ' h' w1 ∧ MdR σ' pm' u' :=
        ⟨d1, m', hcs1, _, run_results hres, _, σ2, rfl, y1.trans y2 m1 m2, H2, M1.mono y2.sub⟩
      rcases hex with rfl | rfl
      · subst he1; exact fin
      · subst he1; exact fin
/-- a collected mark is taken off -/
theorem step_takeM {P : Program} {b : Frame} {tmps : Array Value} {todo : List Item} {cs : List Frame} {w w' : World} {r : Nat} {args : Array Value} {l : List Deferred} {md : FrameMode} (hmd : md ≠ .run) (h : (Instr.takeDeferred r).run P w = .ok [] w') :
    step P (lone { b.at { tmps, defers := { target := .collected r, args := args } :: l } todo with mode := md } cs w) = .next (lone { b.at { tmps, defers := l } todo with mode := md } cs w') := by
  cases md with
  | run => exact absurd rfl hmd
  | returning => exact step_lone_go (by simp [stepG, unwind, Frame.at, Sem.runT_eq, h, GStep.bare_after])
  | panicking ch => exact step_lone_go (by simp [stepG, unwind, Frame.at, Sem.runT_eq, h, GStep.bare_after])
theorem evLeave_ok (hm : X.E.P.follows .mixedOrders = true) (hc : CallXOk X call) (hF : ∀ f args, Fr X.E (call f args)) (fuel : Nat) {b : Frame} {tmps : Array Value} {todo : List Item} {cs : List Frame} {pm' : Pm} {h' : Hp} : ∀ (ds : List Deferred) {σ : S} {l : List Deferred} {pm : Pm} {md : FrameMode} {h : Hp} {w : World}, DfL σ ds l → MdR σ pm md → HR X σ h w →
    evLeave X.E call fuel ds pm h = .ok (pm', h') → (∀ b, h.n ≤ b → b < h'.n → σ b = none) →
    ∃ (σ' : S) (md' : FrameMode) (w' : World), Ext σ σ' h.n h'.n ∧ HR X σ' h' w' ∧ MdR σ' pm' md' ∧ Steps X.E.P (lone { b.at { tmps, defers := l } todo with mode := md } cs w) (lone { b.at { tmps, defers := [] } todo with mode := md' } cs w')
  | [], σ, l, pm, md, h, w, hl, hM, H, e, hfree => by
    obtain ⟨rfl, rfl⟩ := ret_ok e
    cases hl
    exact ⟨σ, md, w, Ext.refl _ _ _, H, hM, Steps.refl _ _⟩
  | d :: ds, σ, l, pm, md, h, w, ⟨d', l', el, hd, hl⟩, hM, H, e, hfree => by
    subst el
    obtain ⟨tg, args⟩ := d
    obtain ⟨tg', args'⟩ := d'
    obtain ⟨htg, hargs⟩ := hd
    simp only at htg hargs
    unfold evLeave at e
    dsimp only at e
    cases tg with
    | collected r =>
      obtain ⟨r', rfl, hr⟩ := htg
      dsimp only at e
      obtain ⟨o, h1, e1, e2⟩ := bind_ok e
      clear e
      obtain ⟨ho, rfl, _⟩ := obj_ok e1
      obtain ⟨q, o', hq, hw, hO⟩ := H.live _ _ ho
      rw [hr] at hq
      cases hq
      cases o with
      | deferred x =>
        cases x with
        | none => cases e2
        | some x =>
          cases x with
          | cons y ys => cases e2
          | nil =>
            obtain ⟨ds', rfl, hds⟩ := hO
            cases hds
            obtain ⟨u, h2, e3, e4⟩ := bind_ok e2
            obtain ⟨p0, _, rfl⟩ := put_ok e3
            have hget := run_getObj_at (P := X.E.P) hw (by intro _ _ _ hh; cases hh)
            have hset := run_setObj (P := X.E.P) (r := r') (o := .deferred none) hw (by intro _ _ _ hh; cases hh)
            have htake : (Instr.takeDeferred r').run X.E.P w = .ok [] { w with heap := w.heap.setIfInBounds r' (.deferred none) } := by
              unfold Instr.takeDeferred
              rw [run_bind', hget]
              show (Go.setObj r' (.deferred none) >>= fun _ => (Pure.pure [] : Sem (List Deferred))).run X.E.P w = _
              rw [run_bind', hset]
              rfl
            have H2 := (H.rd r).setObj hr p0 ho (o := .deferred none) (o' := .deferred none) rfl (fun _ _ _ hh => by cases hh)
            obtain ⟨σ', md', w', x', H', M', hs⟩ := evLeave_ok hm hc hF fuel ds hl hM H2 e4 hfree
            exact ⟨σ', md', w', x', H', M', Steps.head (step_takeM hM.notRun htake) hs⟩
      | _ => cases e2
    | fn fv cap =>
      obtain ⟨fv', cap', rfl, hfv, hcap⟩ := htg
      cases fv with
      | func f =>
        have hfe : fv' = .func f := by
          rcases hfv with ⟨rfl, _⟩ | ⟨l0, r0, h0, _⟩
          · rfl
          · cases h0
        subst hfe
        dsimp only at e
        obtain ⟨n, h1, e1, e2⟩ := bind_ok e
        clear e
        cases n with
        | enter g as =>
          obtain ⟨rfl, rfl, rfl, hrun⟩ := callFunc_enter (args' := args') e1
          obtain ⟨pm1, h2, e3, e4⟩ := bind_ok e2
          have m1 := (Fr.evDef hF fuel g _ pm).mono e3
          have m2 := (Fr.evLeave hF fuel ds (settleM pm1)).mono e4
          have hcallD := evDef_ok hm hc hF fuel (hargs.append hcap) hM H e3 (fun b hb hl => hfree b hb (by omega))
          have hinv : (invoke (.fn (.func g) cap') args').run X.E.P w = .ok (.enter g (args' ++ cap')) w := hrun (args' ++ cap') w
          have hstep := step_defer (P := X.E.P) (fr := { b.at { tmps, defers := { target := .fn (.func g) cap', args := args' } :: l' } todo with mode := md }) (cs := cs) (w := w) (d := { target := .fn (.func g) cap', args := args' }) (ds := l') (fv := .func g) (cap := cap') hM.notRun rfl rfl hinv
          obtain ⟨en, u', w1, fr, hR, hcomes, hkind, hgo⟩ := hcallD { b.at { tmps, defers := l' } todo with mode := md } cs rfl
          obtain ⟨v, σ1, rfl, y1, H1, M1⟩ := hR
          have hback := step_going_returned (P := X.E.P) (c := { { b.at { tmps, defers := l' } todo with mode := md } with mode := u' }) (cs := cs) hkind hgo
          obtain ⟨σ2, md', w2, y2, H2, M2, hs⟩ := evLeave_ok hm hc hF fuel ds (hl.mono y1.sub) M1.settle H1 e4 (fun b hb hl => y1.out b (hfree b (by omega) hl) (by omega))
          exact ⟨σ2, md', w2, y1.trans y2 m1 m2, H2, M2, Steps.head hstep (Steps.trans hcomes (Steps.head hback hs))⟩
        | _ => cases e2
      | _ => cases e
    | _ => cases e
theorem callBody_ok (hm : X.E.P.follows .mixedOrders = true) (fuel : Nat) {call : CallX} (ih : CallXOk X call) (hF : ∀ f args, Fr X.E (call f args)) : CallXOk X (callBody X.E fuel call) := by
  intro σ f args args' h w o h' H hV e hfree
  unfold callBody at e
  cases hf : X.E.P.funcs[f]? with
  | none => rw [hf] at e; cases e
  | some fn =>
    rw [hf] at e
    dsimp only at e
    cases hb : fn.body with
    | none => rw [hb] at e; cases e
    | some c =>
      rw [hb] at e
      dsimp only at e
      obtain ⟨t0, h0, e0, ef⟩ := bind_ok e
      obtain ⟨h0e, hV0⟩ := frameT_R hV e0
      subst h0
      obtain ⟨⟨x, t'⟩, h1, e1, eA⟩ := bind_ok ef
      clear e ef
      have m1 := (Fr.evCodeX hF fuel c _).mono e1
      obtain ⟨pm, h1b, e2, eB⟩ := bind_ok eA
      clear eA
      have hpm : h1b = h1 ∧ ((x = .ex .normal ∧ pm = .ret) ∨ (x = .ex .ret ∧ pm = .ret) ∨ ∃ v, x = .pan v ∧ pm = .pan v) := by
        cases x with
        | ex ex1 =>
          cases ex1 with
          | normal => obtain ⟨rfl, rfl⟩ := ret_ok e2; exact ⟨rfl, .inl ⟨rfl, rfl⟩⟩
          | ret => obtain ⟨rfl, rfl⟩ := ret_ok e2; exact ⟨rfl, .inr (.inl ⟨rfl, rfl⟩)⟩
          | exit id => cases e2
          | goto l => cases e2
        | pan v => obtain ⟨rfl, rfl⟩ := ret_ok e2; exact ⟨rfl, .inr (.inr ⟨v, rfl, rfl⟩)⟩
      obtain ⟨rfl, hpm⟩ := hpm
      obtain ⟨pm', h2, e3, e4⟩ := bind_ok eB
      clear eB
      have m2 := (Fr.evLeave hF fuel t'.ds pm).mono e3
      have m3 : h2.n ≤ h'.n := by
        cases pm' with
        | ret => exact (Fr.bind (Fr.resultsL _ _) fun _ => Fr.pure _ : Fr X.E _).mono e4
        | pan v => obtain ⟨_, rfl⟩ := ret_ok e4; exact Nat.le_refl _
        | was v => cases e4
      intro cs
      let b : Frame := { (default : Frame) with fn := f, kind := .normal }
      have henter : Frame.enter X.E.P f args' .normal = b.at { tmps := args' ++ Array.replicate (fn.ntmps - args'.size) undef, defers := [] } [.code c] := by
        simp [Frame.enter, Frame.at, hf, hb, b]
      have hA : AcXR σ { t := t0, ds := [] } { tmps := args' ++ Array.replicate (fn.ntmps - args'.size) undef, defers := [] } := ⟨hV0, rfl⟩
      obtain ⟨en, a1, w1, ⟨σ1, x1, H1, A1, hxr⟩, harr⟩ := (evCodeX_wp hm ih hF fuel).1 c _ t' _ h h1b w x hA H e1 (fun b hb hl => hfree b hb (by omega)) b [] cs
      rw [← henter] at harr
      obtain ⟨todo, md, hM, hs⟩ : ∃ todo md, MdR σ1 pm md ∧ Steps X.E.P (lone (Frame.enter X.E.P f args' .normal) cs w) (lone { b.at a1 todo with mode := md } cs w1) := by
        rcases hpm with ⟨rfl, rfl⟩ | ⟨rfl, rfl⟩ | ⟨v, rfl, rfl⟩
        · cases hxr
          exact ⟨[], .returning, rfl, Steps.trans harr (.one step_end)⟩
        · cases hxr
          obtain ⟨todo, hs⟩ := harr
          exact ⟨todo, .returning, rfl, hs⟩
        · obtain ⟨v', rfl, hv⟩ := hxr
          obtain ⟨todo, hs⟩ := harr
          exact ⟨todo, _, ⟨v', rfl, hv⟩, hs⟩
      obtain ⟨σ2, md', w2, x2, H2, M2, hs2⟩ := evLeave_ok hm ih hF fuel (b := b) (tmps := a1.tmps) (todo := todo) (cs := cs) t'.ds (l := a1.defers) A1.defers hM H1 e3 (fun b hb hl => x1.out b (hfree b (by omega) (by omega)) (by omega))
      have x12 := x1.trans x2 m1 m2
      cases pm' with
      | was v => cases e4
      | pan v =>
        obtain ⟨rfl, rfl⟩ := ret_ok e4
        obtain ⟨v', rfl, hv⟩ := M2
        exact ⟨.panicked [{ v := v', recovered := false }], w2, { b.at { tmps := a1.tmps, defers := [] } todo with mode := .panicking [{ v := v', recovered := false }] }, ⟨σ2, x12, H2, v', rfl, hv⟩, Steps.trans hs hs2, rfl, rfl, rfl, fn, hf⟩
      | ret =>
        cases M2
        obtain ⟨vs, h3, e5, e6⟩ := bind_ok e4
        obtain ⟨rfl, rfl⟩ := ret_ok e6
        obtain ⟨σ3, vs', x3, H3, hvs, hres⟩ := results_R fn.results.toList (A1.tmps.mono x2.sub) H2 e5 (fun b hb hl => x12.out b (hfree b (by omega) hl) (by omega))
        exact ⟨.returned (if h : vs'.toArray.size = 1 then vs'.toArray[0] else .tuple vs'.toArray), w2, { b.at { tmps := a1.tmps, defers := [] } todo with mode := .returning }, ⟨σ3, x12.trans x3 (by omega) m3, H3, _, rfl, oneOf_R hvs⟩, Steps.trans hs hs2, rfl, rfl, rfl, rfl, fn, hf, run_results hres⟩
theorem evCallX_ok (hm : X.E.P.follows .mixedOrders = true) (fuel : Nat) : ∀ k, CallXOk X (evCallX X.E fuel k) := by
  intro k
  induction k with
  | zero => intro σ f args args' h w v h' H hV e; cases e
  | succ k ih => exact callBody_ok hm fuel ih (Fr.evCallX fuel k)
end
def outcX : R (Out × Hp) → Nat
  | .ok (.ret (.bool true), _) => 1
  | .ok _ => 2
  | .error _ => 3
theorem outcX_spec {r : R (Out × Hp)} (h : outcX r = 1) : ∃ h', r = .ok (.ret (.bool true), h') := by
  unfold outcX at h
  split at h
  · exact ⟨_, rfl⟩
  · cases h
  · cases h
/-- the beginning of a canonical run -/
theorem begin_HR (E : Env) (W : World) (hb : E.base ≤ W.heap.size) (hg : GlOk E W) : ∃ σ : S, HR ⟨E, W⟩ σ { n := E.base, t := .e, lg := [] } W ∧ ∀ b, E.base ≤ b → σ b = none := by
  let σ : S := ⟨fun b => if b < E.base then some b else none, fun _ => 0⟩
  have hσ : ∀ b, b < E.base → σ b = some b := fun b hb => if_pos hb
  have hσ' : ∀ b r, σ b = some r → b < E.base ∧ r = b := by
    intro b r h
    change (if b < E.base then some b else none) = some r at h
    split at h
    · cases h; exact ⟨‹_›, rfl⟩
    · cases h
  refine ⟨σ, ?_, fun b h0 => if_neg (Nat.not_lt.2 h0)⟩
  have hlive : ∀ b o, getB E { n := E.base, t := .e, lg := [] } b = some o → b < E.base ∧ glGet E.gl b = some o := by
    intro b o ho
    unfold getB at ho
    split at ho
    · exact ⟨‹_›, ho⟩
    · split at ho
      · change T.get D .e b = some o at ho
        rw [T.get_e] at ho
        cases ho
      · cases ho
  refine ⟨?_, ?_, hσ, hb, ?_, ?_, ?_, Below.refl _ _⟩
  · intro b o ho
    obtain ⟨hlt, hgo⟩ := hlive b o ho
    obtain ⟨c, e, c', e', rfl, hw, hsz, hc⟩ := hg b o hlt hgo
    exact ⟨b, _, hσ b hlt, hw, c', e', (0, 0), rfl, hsz, fun i v hv => ⟨v, (hc i v hv).2, gr_self σ (hc i v hv).1⟩, fun i _ => by simp, fun _ => rfl⟩
  · intro a b o p r _ _ ha hb
    rw [← (hσ' a r ha).2, (hσ' b r hb).2]
  · intro b r hr h0
    exact absurd (hσ' b r hr).1 (Nat.not_lt.2 h0)
  · intro b r hr
    obtain ⟨h1, rfl⟩ := hσ' b r hr
    exact Nat.lt_of_lt_of_le h1 hb
  · intro b c e fr r c' e' fr' i _ _ _ _
    show 0 * i.size ≤ _
    simp
/-- A closed call that the canonical run ends by true ends so in the machine. -/
theorem closed_callX (E : Env) (hm : E.P.follows .mixedOrders = true) (fuel k : Nat) (f : FuncId) (he : outcX (evCallX E fuel k f #[] { n := E.base, t := .e, lg := [] }) = 1) (W : World) (hb : E.base ≤ W.heap.size) (hg : GlOk E W) :
    Calls E.P f #[] W fun e w' => e = .returned (.bool true) ∧ Below W.heap.size W w' := by
  obtain ⟨h', hrun⟩ := outcX_spec he
  obtain ⟨σ, H, hfree⟩ := begin_HR E W hb hg
  refine (evCallX_ok (X := ⟨E, W⟩) hm fuel k σ f #[] #[] _ W _ h' H VRL.nil hrun (fun b h0 _ => hfree b h0)).mono fun e w' hR => ?_
  obtain ⟨σ', _, H', v', rfl, hv⟩ := hR
  cases hv
  exact ⟨rfl, H'.below⟩
end Go.Ev

namespace Go.Ev
open Go.RowKit
set_option linter.unusedVariables false
set_option linter.unusedSimpArgs false

theorem laidVars_mem {P : Program} {w : World} : ∀ {l : List (String × DataW Unit)} {ps : List MemPlace} {n : String} {d : DataW Unit}, DataW.LaidVars P w l ps → (n, d) ∈ l →
    ∃ g t cs fuel p, P.globalNamed n = some g ∧ (P.globals[g]?).map (·.type) = some t ∧ w.var? P n = some cs ∧ DataW.trod (fun _ => ()) P w 0 (fun _ => true) false fuel t cs.toList = some (d, p) ∧ ∀ x ∈ MemPlace.row ⟨g, 0, none⟩ cs.size, x ∈ ps
  | [], _, _, _, _, hm => by cases hm
  | (n, d) :: r, ps, n', d', h, hm => by
    obtain ⟨g, t, cs, fuel, p, q, h1, h2, h3, h4, h5, rfl⟩ := h
    rcases List.mem_cons.1 hm with he | hm
    · cases he
      exact ⟨g, t, cs, fuel, p, h1, h2, h3, h4, fun x hx => List.mem_append_left _ (List.mem_append_left _ hx)⟩
    · obtain ⟨g', t', cs', fuel', p', a1, a2, a3, a4, a5⟩ := laidVars_mem h5 hm
      exact ⟨g', t', cs', fuel', p', a1, a2, a3, a4, fun x hx => List.mem_append_right _ (a5 x hx)⟩
/-- a listed variable of plain cells -/
theorem gl_of {P : Program} {W : World} {laid : List (String × DataW Unit)} {n : String} {d : DataW Unit} {g : Nat} {t : TypeId} {vs : List Value} (h : laidMet P laid W) (hm : (n, d) ∈ laid) (hg : P.globalNamed n = some g) (ht : (P.globals[g]?).map (·.type) = some t) (hne : 0 < vs.length)
    (hflat : ∀ fuel cs p, DataW.trod (fun _ => ()) P W 0 (fun _ => true) false fuel t cs = some (d, p) → cs = vs) : ∃ e', W.heap[g]? = some (.cells vs.toArray e' (0, 0)) := by
  obtain ⟨ps, hv, _, hfree⟩ := h
  obtain ⟨g', t', cs, fuel, p, h1, h2, h3, h4, h5⟩ := laidVars_mem hv hm
  obtain rfl := Option.some.inj (hg.symm.trans h1)
  obtain rfl := Option.some.inj (ht.symm.trans h2)
  have hcs := hflat _ _ _ h4
  have hsz : cs.size = vs.length := by rw [← hcs]; simp
  obtain ⟨⟨c, e, hc⟩, _⟩ := hfree g 0 (h5 _ (MemPlace.mem_row.2 ⟨0, by omega, rfl⟩))
  refine ⟨e, ?_⟩
  rw [hc]
  have : c = vs.toArray := by
    apply Array.ext'
    rw [← hcs]
    apply List.ext_getElem?
    intro i
    have := World.var?_cell hg h3 i
    simp only [World.cell?, hc] at this
    simpa using this
  rw [this]
theorem glGet_mem : ∀ {l : List (Nat × Obj)} {b : Nat} {o : Obj}, glGet l b = some o → (b, o) ∈ l
  | [], _, _, h => by cases h
  | (i, x) :: r, b, o, h => by
    unfold glGet at h
    split at h
    · rename_i e
      cases h
      subst e
      exact List.mem_cons_self
    · exact List.mem_cons_of_mem _ (glGet_mem h)
theorem allL_mem {f : Value → Bool} : ∀ {l : List Value} {v : Value}, allL f l = true → v ∈ l → f v = true
  | [], _, _, h => by cases h
  | x :: r, v, h, hm => by
    simp only [allL, Bool.and_eq_true] at h
    rcases List.mem_cons.1 hm with rfl | hm
    · exact h.1
    · exact allL_mem h.2 hm
theorem GlOk.mk {E : Env} {W : World} (h : ∀ x ∈ E.gl, ∃ c e e', x.2 = .cells c e (0, 0) ∧ W.heap[x.1]? = some (.cells c e' (0, 0)) ∧ allL gr c.toList = true) : GlOk E W := by
  intro b o hb hg
  obtain ⟨c, e, e', h1, h2, h3⟩ := h _ (glGet_mem hg)
  refine ⟨c, e, c, e', h1, h2, Nat.le_refl _, fun i v hv => ⟨allL_mem h3 ?_, hv⟩⟩
  exact List.mem_of_getElem? (by simpa using hv)
theorem size_of_some {W : World} {b : Nat} {o : Obj} (h : W.heap[b]? = some o) : b + 1 ≤ W.heap.size := (Array.getElem?_eq_some_iff.1 h).1
theorem chunks {k : Nat} : ∀ {ls : List (List Value)} {cs : List Value}, cs.length = ls.length * k → (∀ i, i < ls.length → some ((cs.drop (i * k)).take k) = ls[i]?) → cs = ls.flatten
  | [], cs, hl, _ => by
    simp at hl
    simp [hl]
  | l :: ls, cs, hl, h => by
    have h0 := h 0 (by simp)
    simp at h0
    rw [List.flatten_cons, ← h0]
    have := chunks (k := k) (ls := ls) (cs := cs.drop k) (by simp [List.length_drop, hl, Nat.add_mul]) (fun i hi => by
      have := h (i + 1) (by simpa using hi)
      rw [List.getElem?_cons_succ] at this
      rw [← this, List.drop_drop]
      congr 3
      rw [Nat.add_mul]
      omega)
    rw [← this, List.take_append_drop]
section
variable {P : Program} {w : World} {fuel : Nat} {t e : TypeId} {n : Nat} {cs : List Value} {d : DataW Unit} {p : List MemPlace}
abbrev trd (P : Program) (w : World) := DataW.trod (fun _ => ()) P w 0 (fun _ => true) false
def partsOf : DataW Unit → List (DataW Unit)
  | .agg ps => ps
  | _ => []
/-- the cells of an array, out of those of its elements -/
theorem flat_array (ht : P.underlying t = some (.array n e)) {k : Nat} (hk : P.cellsOf e = k) (hn : P.cellsOf t = n * k) (f : DataW Unit → List Value)
    (hf : ∀ fuel cs d p, trd P w fuel e cs = some (d, p) → cs = f d) (h : trd P w fuel t cs = some (d, p)) : cs = ((partsOf d).map f).flatten := by
  obtain ⟨xs, m, _, hx, hlen, hxl, hel⟩ := DataW.trod_array ht h
  rw [hk] at hel
  have hd : d = .agg (xs.map (·.1)) := (Prod.mk.inj hx).1
  subst hd
  refine chunks (k := k) (by simp [partsOf, hlen, hn, hxl]) fun i hi => ?_
  have hi' : i < n := by simpa [partsOf, hxl] using hi
  have := hel i hi'
  rw [List.getElem?_eq_getElem (by omega : i < xs.length)] at this
  have h2 := hf m _ xs[i].1 xs[i].2 this
  rw [h2]
  simp [partsOf, hi', hxl]
def flatS : DataW Unit → List Value
  | .lit (.string bs) => [.string ⟨bs.toArray⟩]
  | .lit (.int k n) => [.int k n]
  | .lit (.bool b) => [.bool b]
  | _ => []
theorem flat_string (ht : P.underlying t = some .string) (h : trd P w fuel t cs = some (d, p)) : cs = flatS d := by
  obtain ⟨s, rfl, hx, _⟩ := DataW.trod_string ht h
  have hd : d = .lit (.string s.data.toList) := (Prod.mk.inj hx).1
  subst hd
  simp [flatS]
theorem flat_int {k : IntKind} (ht : P.underlying t = some (.int k)) (h : trd P w fuel t cs = some (d, p)) : cs = flatS d := by
  obtain ⟨s, rfl, hx, _⟩ := DataW.trod_int ht h
  have hd : d = .lit (.int k s) := (Prod.mk.inj hx).1
  subst hd
  simp [flatS]
/-- a struct of three parts of one cell each -/
theorem flat_three {fs : Array Field} {t0 t1 t2 : TypeId} (ht : P.underlying t = some (.struct fs)) (hs : fs.toList.map (fun f => (f.type, f.offset)) = [(t0, 0), (t1, 1), (t2, 2)]) (h0 : P.cellsOf t0 = 1) (h1 : P.cellsOf t1 = 1) (h2 : P.cellsOf t2 = 1) (h3 : P.cellsOf t = 3)
    (f0 : ∀ fuel cs d p, trd P w fuel t0 cs = some (d, p) → cs = flatS d) (f1 : ∀ fuel cs d p, trd P w fuel t1 cs = some (d, p) → cs = flatS d) (f2 : ∀ fuel cs d p, trd P w fuel t2 cs = some (d, p) → cs = flatS d)
    (h : trd P w fuel t cs = some (d, p)) : cs = ((partsOf d).map flatS).flatten := by
  obtain ⟨xs, m, _, hx, hlen, hxl, hel⟩ := DataW.trod_struct ht h
  have hd : d = .agg (xs.map (·.1)) := (Prod.mk.inj hx).1
  subst hd
  obtain ⟨fs⟩ := fs
  simp only at hs hxl hel
  obtain ⟨a, b, c, rfl⟩ : ∃ a b c, fs = [a, b, c] := by
    have := congrArg List.length hs
    simp at this
    match fs, this with
    | [a, b, c], _ => exact ⟨a, b, c, rfl⟩
  simp only [List.map_cons, List.map_nil, List.cons.injEq, Prod.mk.injEq, and_true] at hs
  obtain ⟨⟨a1, a2⟩, ⟨b1, b2⟩, c1, c2⟩ := hs
  have e0 := hel 0 a (by simp)
  have e1 := hel 1 b (by simp)
  have e2 := hel 2 c (by simp)
  rw [a1, a2, h0] at e0
  rw [b1, b2, h1] at e1
  rw [c1, c2, h2] at e2
  rw [h3] at hlen
  obtain ⟨x0, x1, x2, rfl⟩ : ∃ a b c, xs = [a, b, c] := by
    simp at hxl
    match xs, hxl with
    | [a, b, c], _ => exact ⟨a, b, c, rfl⟩
  have g0 := f0 m _ x0.1 x0.2 e0
  have g1 := f1 m _ x1.1 x1.2 e1
  have g2 := f2 m _ x2.1 x2.2 e2
  obtain ⟨u0, u1, u2, rfl⟩ : ∃ a b c, cs = [a, b, c] := by
    match cs, hlen with
    | [a, b, c], _ => exact ⟨a, b, c, rfl⟩
  simp at g0 g1 g2
  simp [partsOf, ← g0, ← g1, ← g2]
end
end Go.Ev
