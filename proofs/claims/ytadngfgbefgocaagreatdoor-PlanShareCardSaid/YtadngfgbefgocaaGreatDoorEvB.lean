/- A part of a verified evaluator of closed calls (a canonical run, and why the machine ends every such call as it does). No condition. -/
import Derived.Test.YtadngfgbefgocaaGreatDoorEvA
import Derived.Laws.Sem
import Derived.LaidEqlPtr

namespace Go.Ev
open Go.RowKit
set_option linter.unusedVariables false

theorem run_bind' {α β : Type} (P : Program) (s : Sem α) (f : α → Sem β) (w : World) :
    (s >>= f).run P w = (match s.run P w with | .ok a w1 => (f a).run P w1 | .halt x w1 => .halt x w1) := by
  show (Sem.bind s f).run P w = _
  induction s generalizing w with
  | pure a => rfl
  | load m a k ih =>
    simp only [Sem.bind, Sem.run]
    cases w.cell? a with
    | some v => exact ih v w
    | none =>
      simp only []
      cases w.farLoad P a (m == .atomic) with
      | ok x => exact ih x.1 w
      | error e => rfl
  | store m a v k ih =>
    cases v <;> simp only [Sem.bind, Sem.run] <;>
      first
        | rfl
        | (cases w.cell? a with
           | some u =>
             simp only []
             split
             · rfl
             · exact ih _
           | none =>
             simp only []
             split
             · exact ih _
             · rfl)
  | new o k ih => exact ih _ _
  | shape r k ih => exact ih _ _
  | freeze a n k ih => exact ih _
  | frozen a k ih => exact ih _ _
  | getObj r k ih =>
    simp only [Sem.bind, Sem.run]
    split
    · rfl
    · exact ih _ _
    · rfl
  | setObj r o k ih =>
    simp only [Sem.bind, Sem.run]
    split
    · rfl
    · exact ih _
    · rfl
  | choose q k ih =>
    simp only [Sem.bind, Sem.run]
    split
    · exact ih _ _
    · exact ih _ _
  | sys c k ih => exact ih _ _
  | program k ih => exact ih _ _
  | mark m k ih => exact ih _
  | halt h => rfl

theorem crun_bind {α β : Type} (E : Env) (s : Sem α) (f : α → Sem β) : crun E (s >>= f) = M.bind (crun E s) (fun a => crun E (f a)) := by
  show crun E (Sem.bind s f) = _
  have as : ∀ {γ δ ε : Type} (m : M γ) (f : γ → M δ) (g : δ → M ε), M.bind (M.bind m f) g = M.bind m (fun a => M.bind (f a) g) := by
    intro γ δ ε m f g
    funext h
    unfold M.bind
    cases m h <;> rfl
  have fl : ∀ {γ δ : Type} (s : String) (g : γ → M δ), M.bind (fail s) g = fail s := fun s g => rfl
  induction s with
  | pure a => rfl
  | load m a k ih =>
    simp only [Sem.bind, crun, as]
    congr 1
    funext c
    split
    · rfl
    · split
      · exact ih _
      · rfl
  | store m a v k ih =>
    simp only [Sem.bind, crun]
    split
    · rfl
    · rw [as]
      congr 1
      funext c
      split
      · rw [as]
        congr 1
        funext _
        exact ih
      · rfl
  | new o k ih =>
    simp only [Sem.bind, crun, as]
    congr 1
    funext b
    exact ih _
  | shape r k ih => rfl
  | freeze a n k ih => rfl
  | frozen a k ih => rfl
  | getObj r k ih =>
    simp only [Sem.bind, crun, as]
    congr 1
    funext b
    exact ih _
  | setObj r o k ih =>
    simp only [Sem.bind, crun]
    split
    · rfl
    · simp only [as]
      congr 1
      funext _
      congr 1
      funext _
      exact ih
  | choose q k ih =>
    simp only [Sem.bind, crun]
    split
    · exact ih _
    · rfl
  | sys c k ih => rfl
  | program k ih => exact ih _
  | mark m k ih => exact ih
  | halt x => cases x <;> rfl
theorem Fr.mono {α : Type} {E : Env} {m : M α} (hm : Fr E m) {h : Hp} {a : α} {h' : Hp} (e : m h = .ok (a, h')) : h.n ≤ h'.n := (hm h a h' e).1

theorem prun_run {α : Type} (P : Program) (s : Sem α) : ∀ (a : α), prun P s = .ok a → ∀ w, s.run P w = .ok a w := by
  induction s with
  | pure a => intro b e w; simp only [prun] at e; cases e; rfl
  | program k ih => intro b e w; exact ih _ _ e w
  | mark m k ih => intro b e w; exact ih _ e w
  | halt x => intro b e; cases x <;> cases e
  | _ => intro b e; cases e

/-- The canonical run of m, the real run of s': what comes out is so related. -/
def RelM (X : Cx) {α β : Type} (A : S → α → β → Prop) (σ : S) (m : M α) (s' : Sem β) : Prop :=
  ∀ h w a h', HR X σ h w → m h = .ok (a, h') → (∀ b, h.n ≤ b → b < h'.n → σ b = none) →
    ∃ σ' a' w', Ext σ σ' h.n h'.n ∧ s'.run X.E.P w = .ok a' w' ∧ HR X σ' h' w' ∧ A σ' a a'
abbrev RelS (X : Cx) {α β : Type} (A : S → α → β → Prop) (σ : S) (s : Sem α) (s' : Sem β) : Prop := RelM X A σ (crun X.E s) s'

section
variable {X : Cx} {σ : S} {α β γ δ : Type}
theorem RelS.pure {A : S → α → β → Prop} {a : α} {b : β} (h : A σ a b) : RelS X A σ (Pure.pure a) (Pure.pure b) := by
  intro hp w a' h' H e _
  change Except.ok (a, hp) = Except.ok (a', h') at e
  cases e
  exact ⟨σ, b, w, Ext.refl _ _ _, rfl, H, h⟩
theorem RelM.bind {A : S → α → β → Prop} {B : S → γ → δ → Prop} {m : M α} {s' : Sem β} {f : α → M γ} {f' : β → Sem δ} (hm : Fr X.E m) (hF : ∀ a, Fr X.E (f a)) (h : RelM X A σ m s')
    (hf : ∀ σ' a b, Sub σ σ' → A σ' a b → RelM X B σ' (f a) (f' b)) : RelM X B σ (M.bind m f) (s' >>= f') := by
  intro hp w c h2 H e hfree
  unfold M.bind at e
  split at e
  · rename_i r e1
    obtain ⟨a, h1⟩ := r
    have m1 := hm.mono e1
    have m2 : h1.n ≤ h2.n := (hF a).mono e
    obtain ⟨σ1, b, w1, x1, r1, H1, hA⟩ := h hp w a h1 H e1 (fun b hb hl => hfree b hb (by omega))
    obtain ⟨σ2, d, w2, x2, r2, H2, hB⟩ := hf σ1 a b x1.sub hA h1 w1 c h2 H1 e (fun b hb hl => x1.out b (hfree b (by omega) hl) (by omega))
    exact ⟨σ2, d, w2, x1.trans x2 m1 m2, by rw [run_bind', r1]; exact r2, H2, hB⟩
  · cases e
/-- the first part looks at the canonical side alone -/
theorem RelM.left {B : S → γ → δ → Prop} {m : M α} {f : α → M γ} {s' : Sem δ} (hp : ∀ h a h', m h = .ok (a, h') → h' = h ∧ RelM X B σ (f a) s') : RelM X B σ (M.bind m f) s' := by
  intro h w c h2 H e hfree
  unfold M.bind at e
  split at e
  · rename_i r e1
    obtain ⟨a, h1⟩ := r
    obtain ⟨rfl, hR⟩ := hp _ _ _ e1
    exact hR _ w c h2 H e hfree
  · cases e
theorem RelM.liftO {B : S → γ → δ → Prop} {why : String} {o : Option α} {f : α → M γ} {s' : Sem δ} (hf : ∀ a, o = some a → RelM X B σ (f a) s') : RelM X B σ (M.bind (Ev.liftO why o) f) s' := by
  refine RelM.left fun h a h' e => ?_
  cases o with
  | none => cases e
  | some x => cases e; exact ⟨rfl, hf _ rfl⟩
theorem RelM.pure {A : S → α → β → Prop} {a : α} {b : β} (h : A σ a b) : RelM X A σ (M.pure a) (Pure.pure b) := RelS.pure (X := X) h
theorem RelM.fail {A : S → α → β → Prop} {s : String} {s' : Sem β} : RelM X A σ (Ev.fail s) s' := by
  intro hp w c h2 H e _
  cases e
theorem RelM.ite {A : S → α → β → Prop} {c : Prop} [Decidable c] {m k : M α} {s' : Sem β} (h1 : c → RelM X A σ m s') (h2 : ¬ c → RelM X A σ k s') : RelM X A σ (if c then m else k) s' := by
  split
  · exact h1 ‹_›
  · exact h2 ‹_›
theorem RelM.imp {A B : S → α → β → Prop} {m : M α} {s' : Sem β} (h : RelM X A σ m s') (hi : ∀ σ' a b, Sub σ σ' → A σ' a b → B σ' a b) : RelM X B σ m s' := by
  intro hp w c h2 H e hfree
  obtain ⟨σ1, b, w1, x1, r1, H1, hA⟩ := h hp w c h2 H e hfree
  exact ⟨σ1, b, w1, x1, r1, H1, hi _ _ _ x1.sub hA⟩
theorem RelS.bind {A : S → α → β → Prop} {B : S → γ → δ → Prop} {s : Sem α} {s' : Sem β} {f : α → Sem γ} {f' : β → Sem δ} (h : RelS X A σ s s')
    (hf : ∀ σ' a b, Sub σ σ' → A σ' a b → RelS X B σ' (f a) (f' b)) : RelS X B σ (s >>= f) (s' >>= f') := by
  unfold RelS
  rw [crun_bind]
  exact RelM.bind (Fr.crun _) (fun _ => Fr.crun _) h hf
theorem RelS.imp {A B : S → α → β → Prop} {s : Sem α} {s' : Sem β} (h : RelS X A σ s s') (hi : ∀ σ' a b, Sub σ σ' → A σ' a b → B σ' a b) : RelS X B σ s s' := by
  intro hp w c h2 H e hfree
  obtain ⟨σ1, b, w1, x1, r1, H1, hA⟩ := h hp w c h2 H e hfree
  exact ⟨σ1, b, w1, x1, r1, H1, hi _ _ _ x1.sub hA⟩
theorem RelS.halt {A : S → α → β → Prop} {x : Halt} {s' : Sem β} : RelS X A σ (Sem.halt x) s' := by
  intro hp w c h2 H e hfree
  cases x <;> cases e
theorem RelS.stuck {A : S → α → β → Prop} {x : String} {s' : Sem β} : RelS X A σ (Go.stuck x) s' := RelS.halt
theorem RelS.unsupported {A : S → α → β → Prop} {x : Unsupported} {s' : Sem β} : RelS X A σ (Go.unsupported x) s' := RelS.halt
theorem RelS.halt_bind {A : S → γ → β → Prop} {x : Halt} {f : α → Sem γ} {s' : Sem β} : RelS X A σ (Sem.halt x >>= f) s' := by
  intro hp w c h2 H e hfree
  cases x <;> cases e
theorem RelS.program : RelS X (fun _ a b => a = X.E.P ∧ b = X.E.P) σ Go.program Go.program := by
  intro hp w c h2 H e hfree
  change Except.ok (X.E.P, hp) = Except.ok (c, h2) at e
  cases e
  exact ⟨σ, X.E.P, w, Ext.refl _ _ _, rfl, H, rfl, rfl⟩
theorem RelS.mark {m m' : Mark} : RelS X (fun _ _ _ => True) σ (Go.mark m) (Go.mark m') := by
  intro hp w c h2 H e hfree
  change Except.ok ((), hp) = Except.ok (c, h2) at e
  cases e
  exact ⟨σ, (), w, Ext.refl _ _ _, rfl, H, trivial⟩
theorem RelS.underlying (t : TypeId) : RelS X (fun _ a b => b = a ∧ X.E.P.underlying t = some a) σ (Go.underlying t) (Go.underlying t) := by
  intro hp w c h2 H e hfree
  have e0 : crun X.E (Go.underlying t) hp = (match X.E.P.underlying t with | some d => .ok (d, hp) | none => .error "no such type") := by
    show crun X.E (match X.E.P.underlying t with | some d => Pure.pure d | none => Go.stuck "no such type") hp = _
    cases X.E.P.underlying t <;> rfl
  rw [e0] at e
  cases hu : X.E.P.underlying t with
  | none => rw [hu] at e; cases e
  | some d =>
    rw [hu] at e
    cases e
    refine ⟨σ, _, w, Ext.refl _ _ _, ?_, H, rfl, rfl⟩
    show (match X.E.P.underlying t with | some d => Pure.pure d | none => Go.stuck "no such type" : Sem TypeDesc).run X.E.P w = _
    rw [hu]
    rfl
theorem RelS.typeInfo (t : TypeId) : RelS X (fun _ a b => b = a ∧ X.E.P.info? t = some a) σ (Go.typeInfo t) (Go.typeInfo t) := by
  intro hp w c h2 H e hfree
  have e0 : crun X.E (Go.typeInfo t) hp = (match X.E.P.info? t with | some d => .ok (d, hp) | none => .error "no such type") := by
    show crun X.E (match X.E.P.info? t with | some d => Pure.pure d | none => Go.stuck "no such type") hp = _
    cases X.E.P.info? t <;> rfl
  rw [e0] at e
  cases hu : X.E.P.info? t with
  | none => rw [hu] at e; cases e
  | some d =>
    rw [hu] at e
    cases e
    refine ⟨σ, _, w, Ext.refl _ _ _, ?_, H, rfl, rfl⟩
    show (match X.E.P.info? t with | some d => Pure.pure d | none => Go.stuck "no such type" : Sem TypeInfo).run X.E.P w = _
    rw [hu]
    rfl
theorem RelS.sizeOf (t : TypeId) : RelS X (fun _ a b => b = a) σ (Go.sizeOf t) (Go.sizeOf t) :=
  RelS.bind (RelS.typeInfo t) fun _ _ _ _ h => RelS.pure (by rw [h.1])
theorem RelS.isAgg (t : TypeId) : RelS X (fun _ a b => b = a) σ (Go.isAgg t) (Go.isAgg t) :=
  RelS.bind (RelS.underlying t) fun _ a b _ h => by
    obtain ⟨e, _⟩ := h
    rw [e]
    cases a <;> exact RelS.pure rfl

/-- An address: the block of the other, the place the same. -/
structure AdR (σ : S) (a a' : Addr) : Prop where
  block : σ a.block = some a'.block
  off : a'.off = a.off
  spot : a.spot = none
  spot' : a'.spot = none
theorem AdR.add {a a' : Addr} (h : AdR σ a a') (n : Nat) : AdR σ (a.add n) (a'.add n) := by
  unfold Addr.add
  split
  · exact h
  · exact ⟨h.block, by simp [h.off], rfl, rfl⟩
theorem AdR.mono {σ' : S} (hs : Sub σ σ') {a a' : Addr} (h : AdR σ a a') : AdR σ' a a' := ⟨hs.f _ _ h.block, h.off, h.spot, h.spot'⟩
theorem VR.ofAd {a a' : Addr} (h : AdR σ a a') : VR σ (.pointer (some a)) (.pointer (some a')) := by
  obtain ⟨b, o, s⟩ := a
  obtain ⟨r, o', s'⟩ := a'
  obtain ⟨h1, h2, h3, h4⟩ := h
  simp only at h1 h2 h3 h4
  subst h2 h3 h4
  exact .ptr b r o' h1

theorem HR.cell {h : Hp} {w : World} (H : HR X σ h w) {a a' : Addr} (ha : AdR σ a a') {c : Array Value} {e : TypeId} {fr : Nat × Nat} (hb : getB X.E h a.block = some (.cells c e fr)) {v : Value} (hv : c[a.off]? = some v) :
    ∃ v', w.cell? a' = some v' ∧ VR σ v v' := by
  obtain ⟨r, o', hr, hw, hO⟩ := H.live _ _ hb
  obtain ⟨c', e', fr', rfl, hC⟩ := hO
  rw [ha.block] at hr
  cases hr
  obtain ⟨v', hv', hV⟩ := hC.get _ _ hv
  exact ⟨v', by simp [World.cell?, hw, ha.spot', ha.off, hv'], hV⟩
theorem RelM.cells {b r : Nat} (hb : σ b = some r) {β : Type} {B : S → γ → β → Prop} {f : Array Value × TypeId × (Nat × Nat) → M γ} {s' : Sem β}
    (hf : ∀ h w c e fr c' e' fr', HR X σ h w → getB X.E h b = some (.cells c e fr) → w.heap[r]? = some (.cells c' e' fr') → CelR σ c c' fr fr' → ∀ x h', f (c, e, fr) h = .ok (x, h') → (∀ b, h.n ≤ b → b < h'.n → σ b = none) →
      ∃ σ' a' w', Ext σ σ' h.n h'.n ∧ s'.run X.E.P w = .ok a' w' ∧ HR X σ' h' w' ∧ B σ' x a') : RelM X B σ (M.bind (Ev.cells X.E b) f) s' := by
  intro h w x h' H e hfree
  unfold M.bind Ev.cells at e
  split at e
  · rename_i q eq
    split at eq
    · rename_i c el fr hc
      cases eq
      obtain ⟨r', o', hr, hw, hO⟩ := H.live _ _ hc
      obtain ⟨c', e', fr', rfl, hC⟩ := hO
      rw [hb] at hr
      cases hr
      exact hf (h.rd b) w c el fr c' e' fr' (H.rd b) hc hw hC x h' e hfree
    · cases eq
  · cases e
theorem cells_ok {E : Env} {h : Hp} {b : Nat} {q : Array Value × TypeId × (Nat × Nat)} {h' : Hp} (e : Ev.cells E b h = .ok (q, h')) : getB E h b = some (.cells q.1 q.2.1 q.2.2) ∧ h' = h.rd b := by
  unfold Ev.cells at e
  split at e
  · rename_i hc; cases e; exact ⟨hc, rfl⟩
  · cases e
theorem obj_ok {E : Env} {h : Hp} {b : Nat} {o : Obj} {h' : Hp} (e : Ev.obj E b h = .ok (o, h')) : getB E h b = some o ∧ h' = h.rd b ∧ ∀ c el fr, o ≠ .cells c el fr := by
  unfold Ev.obj at e
  split at e
  · cases e
  · rename_i hn hc
    cases e
    exact ⟨hc, rfl, fun c el fr h => hn c el fr h⟩
  · cases e
theorem put_ok {E : Env} {h : Hp} {b : Nat} {o : Option Obj} {h' : Hp} {u : Unit} (e : Ev.put E b o h = .ok (u, h')) : E.base ≤ b ∧ (∃ x, getB E h b = some x) ∧ h' = h.put b o := by
  unfold Ev.put at e
  split at e
  · cases e
  · rename_i h0
    split at e
    · rename_i x hc
      cases e
      exact ⟨by omega, ⟨x, hc⟩, rfl⟩
    · cases e
theorem new_ok {E : Env} {h : Hp} {b : Nat} {o : Obj} {h' : Hp} (e : Ev.new E o h = .ok (b, h')) : E.base ≤ h.n ∧ h.n < 2 ^ D ∧ b = h.n ∧ h' = h.new o := by
  unfold Ev.new at e
  split at e
  · rename_i h0
    cases e
    exact ⟨h0.1, h0.2, rfl, rfl⟩
  · cases e
theorem bind_ok {α β : Type} {m : M α} {f : α → M β} {h : Hp} {x : β} {h' : Hp} (e : M.bind m f h = .ok (x, h')) : ∃ a h1, m h = .ok (a, h1) ∧ f a h1 = .ok (x, h') := by
  unfold M.bind at e
  split at e
  · rename_i r e1
    exact ⟨r.1, r.2, e1, e⟩
  · cases e
theorem RelS.load {a a' : Addr} {m m' : Mode} (ha : AdR σ a a') : RelS X (fun σ' v v' => VR σ' v v') σ (Go.load a m) (Go.load a' m') := by
  intro hp w c h2 H e hfree
  simp only [Go.load, crun] at e
  obtain ⟨q, h1, e1, e⟩ := bind_ok e
  obtain ⟨hb, rfl⟩ := cells_ok e1
  split at e
  · cases e
  · cases hv : q.1[a.off]? with
    | none => rw [hv] at e; cases e
    | some v =>
      rw [hv] at e
      change Except.ok (v, _) = _ at e
      cases e
      obtain ⟨v', hc, hV⟩ := H.cell ha hb hv
      refine ⟨σ, v', w, Ext.refl _ _ _, ?_, H.rd _, hV⟩
      show (Sem.load m' a' .pure).run X.E.P w = _
      simp [Sem.run, hc]

theorem run_store_one (P : Program) (w : World) (a : Addr) (v u : Value) (m : Mode) (hv : one v = true) (hc : w.cell? a = some u) (hf : w.frozen? a = false) : (Go.store a v m).run P w = .ok () (w.setCell a v) := by
  show (Sem.store m a v (.pure ())).run P w = _
  cases v <;> first | (simp [one] at hv; done) | simp [Sem.run, hc, hf]
theorem one_VR {v v' : Value} (h : VR σ v v') : one v' = one v := by cases h <;> rfl
theorem HR.store {h : Hp} {w : World} (H : HR X σ h w) {a a' : Addr} (ha : AdR σ a a') {c : Array Value} {e : TypeId} {fr : Nat × Nat} (hb : getB X.E h a.block = some (.cells c e fr)) (h0 : X.E.base ≤ a.block) (hlt : a.off < c.size)
    {v v' : Value} (hV : VR σ v v') : (∃ u, w.cell? a' = some u) ∧ w.frozen? a' = false ∧ HR X σ (h.put a.block (some (.cells (c.setIfInBounds a.off v) e fr))) (w.setCell a' v') := by
  have hbs := ha.block
  obtain ⟨r, o', hr, hw, hO⟩ := H.live _ _ hb
  obtain ⟨c', e', fr', rfl, hC⟩ := hO
  rw [hbs] at hr
  cases hr
  have hlt' : a.off < c'.size := by have := hC.size; omega
  refine ⟨⟨c'[a.off], ?_⟩, ?_, ?_⟩
  · simp [World.cell?, hw, ha.spot', ha.off, Array.getElem?_eq_getElem hlt']
  · have := hC.free a.off hlt
    simpa [World.frozen?, hw, ha.off] using this
  · have hr0 : a'.block < w.heap.size := H.lt _ _ hbs
    refine H.put (o' := .cells (c'.setIfInBounds a.off v') e' fr') hb h0 hbs ?_ ⟨_, _, _, rfl, ?_, ?_, ?_, hC.plain⟩ (fun c2 e2 fr2 c2' e2' fr2' i ho ho' hi => by cases ho; cases ho'; have := H.cap _ _ _ _ _ _ _ _ i hb hbs hw hi; simpa using this) ?_ ?_ rfl rfl rfl
    · simp [World.setCell, Array.getElem?_modify, hw, ha.spot', ha.off]
    · simpa using hC.size
    · intro i u hu
      by_cases hi : a.off = i
      · subst hi
        have hlt2 : a.off < (c.setIfInBounds a.off v).size := by simpa using hlt
        rw [Array.getElem?_setIfInBounds_self_of_lt hlt] at hu
        cases hu
        exact ⟨v', Array.getElem?_setIfInBounds_self_of_lt hlt', hV⟩
      · rw [Array.getElem?_setIfInBounds_ne hi] at hu
        rw [Array.getElem?_setIfInBounds_ne hi]
        exact hC.get i u hu
    · intro i hi
      exact hC.free i (by simpa using hi)
    · intro k hk
      simp [World.setCell, Array.getElem?_modify, Ne.symm hk]
    · simp [World.setCell]
theorem RelS.store {a a' : Addr} {v v' : Value} {m m' : Mode} (ha : AdR σ a a') (hV : VR σ v v') : RelS X (fun _ _ _ => True) σ (Go.store a v m) (Go.store a' v' m') := by
  intro hp w c h2 H e hfree
  change (if _ then _ else M.bind (Ev.cells X.E a.block) _ : M Unit) hp = _ at e
  split at e
  · cases e
  · rename_i hcond
    obtain ⟨q, h1, e1, e⟩ := bind_ok e
    obtain ⟨hb, rfl⟩ := cells_ok e1
    split at e
    · rename_i hlt
      obtain ⟨u, h3, e3, e⟩ := bind_ok e
      obtain ⟨h0, _, rfl⟩ := put_ok e3
      change Except.ok (_, _) = _ at e
      cases e
      have hone : one v = true := by
        simp only [Bool.or_eq_true, Bool.not_eq_true', not_or] at hcond
        simpa using hcond.2
      obtain ⟨⟨u, hu⟩, hf, H'⟩ := (H.rd a.block).store ha hb h0 hlt hV
      refine ⟨σ, (), w.setCell a' v', Ext.refl _ _ _, ?_, H', trivial⟩
      exact run_store_one _ _ _ _ u _ (by rw [one_VR hV]; exact hone) hu hf
    · cases e
theorem RelM.new {o o' : Obj} (hO : ∀ σ', Sub σ σ' → ObR σ' o o') : RelM X (fun σ' b r => σ' b = some r ∧ X.E.base ≤ b) σ (Ev.new X.E o) (Go.newObj o') := by
  intro hp w c h2 H e hfree
  obtain ⟨h0, h1, rfl, rfl⟩ := new_ok e
  obtain ⟨σ', hx, hs, _, H'⟩ := H.alloc (o := o) (o' := o') 0 h0 h1 (hfree _ (Nat.le_refl _) (by simp [Hp.new])) (fun σ' hs _ => hO σ' hs) (fun _ _ _ _ _ _ _ _ _ _ => by simp)
  exact ⟨σ', w.heap.size, _, hx, rfl, H', hs, h0⟩
theorem bind_pure {α : Type} (m : M α) : M.bind m M.pure = m := by
  funext h
  unfold M.bind M.pure
  cases m h <;> rfl
theorem RelS.newObj {o o' : Obj} (hO : ∀ σ', Sub σ σ' → ObR σ' o o') : RelS X (fun σ' b r => σ' b = some r ∧ X.E.base ≤ b) σ (Go.newObj o) (Go.newObj o') := by
  have := RelM.new (X := X) hO
  rw [← bind_pure (Ev.new X.E o)] at this
  exact this
theorem RelM.obj {b r : Nat} (hb : σ b = some r) : RelM X (fun σ' o o' => ObR σ' o o') σ (Ev.obj X.E b) (Go.getObj r) := by
  intro hp w c h2 H e hfree
  obtain ⟨ho, rfl, hnot⟩ := obj_ok e
  obtain ⟨s, o', hs, hw, hO⟩ := H.live _ _ ho
  rw [hb] at hs
  cases hs
  refine ⟨σ, o', w, Ext.refl _ _ _, ?_, H.rd _, hO⟩
  show (Sem.getObj r .pure).run X.E.P w = _
  simp only [Sem.run, hw]
  cases c with
  | cells c _ fr => exact absurd rfl (hnot c _ fr)
  | map es k => obtain ⟨es', rfl, _⟩ := hO; rfl
  | stringIter s p => cases hO; rfl
  | mapIter m a b d => obtain ⟨m', rfl, _⟩ := hO; rfl
  | loop l => obtain ⟨l', rfl, _⟩ := hO; rfl
  | deferred ds =>
    cases ds with
    | none => cases hO; rfl
    | some ds => obtain ⟨ds', rfl, _⟩ := hO; rfl
  | _ => exact hO.elim
theorem RelS.getObj {b r : Nat} (hb : σ b = some r) : RelS X (fun σ' o o' => ObR σ' o o') σ (Go.getObj b) (Go.getObj r) := by
  have := RelM.obj (X := X) hb
  rw [← bind_pure (Ev.obj X.E b)] at this
  exact this
/-- a block that is no cells is written -/
theorem HR.setObj {h : Hp} {w : World} (H : HR X σ h w) {b r : Nat} (hb : σ b = some r) (h0 : X.E.base ≤ b) {x o o' : Obj} (hx : getB X.E h b = some x) (hO : ObR σ o o') (hn : ∀ c e fr, o ≠ .cells c e fr) :
    HR X σ (h.put b (some o)) { w with heap := w.heap.setIfInBounds r o' } := by
  have hlt := H.lt _ _ hb
  refine H.put (o' := o') hx h0 hb ?_ hO (fun _ _ _ _ _ _ _ ho => absurd ho (hn _ _ _)) ?_ ?_ rfl rfl rfl
  · simp [hlt]
  · intro k hk
    exact Array.getElem?_setIfInBounds_ne (Ne.symm hk)
  · exact Array.size_setIfInBounds
theorem run_setObj {P : Program} {w : World} {r : Nat} {x o : Obj} (hx : w.heap[r]? = some x) (hn : ∀ c e fr, x ≠ .cells c e fr) : (Go.setObj r o).run P w = .ok () { w with heap := w.heap.setIfInBounds r o } := by
  show (Sem.setObj r o (.pure ())).run P w = _
  simp only [Sem.run, hx]
theorem ObR.notCells {x x' : Obj} (h : ObR σ x x') (hn : ∀ c e fr, x ≠ .cells c e fr) : ∀ c e fr, x' ≠ .cells c e fr := by
  intro c e fr hx
  subst hx
  cases x with
  | cells c e fr => exact hn _ _ _ rfl
  | map es k => obtain ⟨es', h, _⟩ := h; cases h
  | stringIter s p => cases h
  | mapIter m a b d => obtain ⟨m', h, _⟩ := h; cases h
  | loop l => obtain ⟨l', h, _⟩ := h; cases h
  | deferred ds =>
    cases ds with
    | none => cases h
    | some ds => obtain ⟨ds', h, _⟩ := h; cases h
  | _ => exact h.elim
theorem RelS.setObj {b r : Nat} (hb : σ b = some r) {o o' : Obj} (hO : ObR σ o o') : RelS X (fun _ _ _ => True) σ (Go.setObj b o) (Go.setObj r o') := by
  intro hp w c h2 H e hfree
  change (if _ then _ else M.bind (Ev.obj X.E b) _ : M Unit) hp = _ at e
  split at e
  · cases e
  · rename_i hC
    obtain ⟨x, h1, e1, e⟩ := bind_ok e
    obtain ⟨hx, rfl, hn⟩ := obj_ok e1
    obtain ⟨u, h3, e3, e⟩ := bind_ok e
    obtain ⟨h0, _, rfl⟩ := put_ok e3
    change Except.ok (_, _) = _ at e
    cases e
    obtain ⟨s, x', hs, hw, hX⟩ := H.live _ _ hx
    rw [hb] at hs
    cases hs
    exact ⟨σ, (), _, Ext.refl _ _ _, run_setObj hw (hX.notCells hn), (H.rd b).setObj hb h0 hx hO (fun c e fr ho => by subst ho; exact hC rfl), trivial⟩
theorem RelS.choose1 {q q' : Question} (hq : q'.forced = q.forced) : RelS X (fun _ a b => a = 0 ∧ b = 0) σ (Go.choose q) (Go.choose q') := by
  intro hp w c h2 H e hfree
  change (if _ then _ else _ : M Nat) hp = _ at e
  split at e
  · rename_i hf
    change Except.ok (_, _) = _ at e
    cases e
    refine ⟨σ, 0, w, Ext.refl _ _ _, ?_, H, rfl, rfl⟩
    show (Sem.choose q' .pure).run X.E.P w = _
    simp [Sem.run, hq, hf]
  · cases e
end
end Go.Ev

namespace Go.Ev
open Go.RowKit
set_option linter.unusedVariables false

section
variable {X : Cx} {σ : S}

theorem RelS.ite {α β : Type} {A : S → α → β → Prop} {c c' : Prop} [Decidable c] [Decidable c'] {s k : Sem α} {s' k' : Sem β} (hcc : c' ↔ c) (h1 : c → RelS X A σ s s') (h2 : ¬ c → RelS X A σ k k') :
    RelS X A σ (if c then s else k) (if c' then s' else k') := by
  by_cases h : c
  · rw [if_pos h, if_pos (hcc.2 h)]; exact h1 h
  · rw [if_neg h, if_neg (fun x => h (hcc.1 x))]; exact h2 h

theorem VR.cells {v v' : Value} (h : VR σ v v') : VRA σ v.cells v'.cells := by
  cases h with
  | agg xs xs' h => exact h
  | bool b => exact .cons _ _ _ _ (.bool b) .nil
  | int k n => exact .cons _ _ _ _ (.int k n) .nil
  | float k n => exact .cons _ _ _ _ (.float k n) .nil
  | complex k x y => exact .cons _ _ _ _ (.complex k x y) .nil
  | string s => exact .cons _ _ _ _ (.string s) .nil
  | ptrNil => exact .cons _ _ _ _ .ptrNil .nil
  | ptr b r o h => exact .cons _ _ _ _ (.ptr b r o h) .nil
  | sliceNil n c c' hc hw => exact .cons _ _ _ _ (.sliceNil n c c' hc hw) .nil
  | slice b r o n c c' h hc hk hw => exact .cons _ _ _ _ (.slice b r o n c c' h hc hk hw) .nil
  | sliceE b o c r' o' c' hw => exact .cons _ _ _ _ (.sliceE b o c r' o' c' hw) .nil
  | mapNil => exact .cons _ _ _ _ .mapNil .nil
  | map b r h => exact .cons _ _ _ _ (.map b r h) .nil
  | chanNil => exact .cons _ _ _ _ .chanNil .nil
  | func fn xs ys xs' ys' hn hx hy => exact .cons _ _ _ _ (.func fn xs ys xs' ys' hn hx hy) .nil
  | yield l r xs ys xs' ys' h hx hy => exact .cons _ _ _ _ (.yield l r xs ys xs' ys' h hx hy) .nil
  | nilFunc => exact .cons _ _ _ _ .nilFunc .nil
  | iface t v v' h => exact .cons _ _ _ _ (.iface t v v' h) .nil
  | nilIface => exact .cons _ _ _ _ .nilIface .nil
  | tuple xs xs' h => exact .cons _ _ _ _ (.tuple xs xs' h) .nil

theorem RelS.zeroValue (t : TypeId) (hz : zeroOk X.E t = true) : RelS X (fun _ a b => b = a ∧ gr a = true) σ (Go.zeroValue t) (Go.zeroValue t) := by
  refine RelS.bind (RelS.typeInfo t) fun σ' a b _ h => ?_
  obtain ⟨e, hi⟩ := h
  subst e
  cases hv : b.zero with
  | none => exact RelS.unsupported
  | some v => exact RelS.pure ⟨rfl, by simpa [zeroOk, hi, hv] using hz⟩
theorem RelS.asBool {v v' : Value} (h : VR σ v v') : RelS X (fun _ a b => b = a) σ (Go.asBool v) (Go.asBool v') := by
  cases h <;> first | exact RelS.pure rfl | exact RelS.stuck
theorem RelS.asIntOf {v v' : Value} (h : VR σ v v') : RelS X (fun _ a b => b = a ∧ v = .int a.1 a.2) σ (Go.asIntOf v) (Go.asIntOf v') := by
  cases h <;> first | exact RelS.pure ⟨rfl, rfl⟩ | exact RelS.stuck | exact RelS.unsupported
theorem RelS.asInt {v v' : Value} (h : VR σ v v') : RelS X (fun _ a b => b = a ∧ ∃ k, v = .int k a) σ (Go.asInt v) (Go.asInt v') :=
  RelS.bind (RelS.asIntOf h) fun _ a _ _ e => RelS.pure ⟨by rw [e.1], a.1, e.2⟩
theorem RelS.sureAddr {v v' : Value} (h : VR σ v v') : RelS X (fun σ' a b => AdR σ' a b) σ (Go.Instr.sureAddr v) (Go.Instr.sureAddr v') := by
  cases h <;> first | exact RelS.stuck | (rename_i h; exact RelS.pure ⟨h, rfl, rfl, rfl⟩)
theorem RelS.asAgg {v v' : Value} (h : VR σ v v') : RelS X (fun σ' a b => VRA σ' a b) σ (Go.asAgg v) (Go.asAgg v') := by
  cases h <;> first | exact RelS.stuck | (rename_i h; exact RelS.pure h)

theorem RelS.loadCellsFrom : ∀ (n i : Nat) {σ : S} {a a' : Addr} {acc acc' : Array Value}, AdR σ a a' → VRA σ acc acc' →
    RelS X (fun σ' x y => VRA σ' x y) σ (Go.loadCellsFrom a i n acc) (Go.loadCellsFrom a' i n acc')
  | 0, i, σ, a, a', acc, acc', ha, hc => RelS.pure hc
  | n + 1, i, σ, a, a', acc, acc', ha, hc =>
    RelS.bind (RelS.load (ha.add i)) fun σ' v v' hs hv => RelS.loadCellsFrom n (i + 1) (ha.mono hs) (VRA.push (hc.mono hs) hv)
theorem RelS.loadCells {a a' : Addr} (ha : AdR σ a a') (n : Nat) : RelS X (fun σ' x y => VRA σ' x y) σ (Go.loadCells a n) (Go.loadCells a' n) :=
  RelS.loadCellsFrom n 0 ha VRL.nil
theorem RelS.storeCells : ∀ (vs vs' : List Value) (i : Nat) {σ : S} {a a' : Addr}, AdR σ a a' → VRL σ vs vs' →
    RelS X (fun _ _ _ => True) σ (Go.storeCells a vs i) (Go.storeCells a' vs' i)
  | [], _, i, σ, a, a', ha, h => by cases h; exact RelS.pure trivial
  | v :: rest, _, i, σ, a, a', ha, h => by
    cases h with
    | cons _ v' _ rest' hv hr =>
      exact RelS.bind (RelS.store (ha.add i) hv) fun σ' _ _ hs _ => RelS.storeCells rest rest' (i + 1) (ha.mono hs) (hr.mono hs)
theorem RelS.loadVar (t : TypeId) {a a' : Addr} (ha : AdR σ a a') : RelS X (fun σ' x y => VR σ' x y) σ (Go.loadVar t a) (Go.loadVar t a') := by
  refine RelS.bind (RelS.isAgg t) fun σ1 x y s1 e => ?_
  subst e
  cases y with
  | false => exact RelS.load (ha.mono s1)
  | true =>
    refine RelS.bind (RelS.sizeOf t) fun σ2 n n' s2 e => ?_
    subst e
    refine RelS.bind (RelS.loadCells ((ha.mono s1).mono s2) n') fun σ3 x y s3 h => ?_
    obtain ⟨x⟩ := x
    obtain ⟨y⟩ := y
    exact RelS.pure (.agg _ _ h)
theorem RelS.storeVar (t : TypeId) {a a' : Addr} {v v' : Value} (ha : AdR σ a a') (hv : VR σ v v') : RelS X (fun _ _ _ => True) σ (Go.storeVar t a v) (Go.storeVar t a' v') := by
  refine RelS.bind (RelS.sizeOf t) fun σ2 n n' s2 e => ?_
  subst e
  have hs := hv.cells.size
  have rest : RelS X (fun _ _ _ => True) σ2 (Go.storeCells a v.cells.toList) (Go.storeCells a' v'.cells.toList) := RelS.storeCells _ _ 0 (ha.mono s2) ((hv.mono s2).cells)
  exact RelS.ite (by rw [hs]) (fun _ => RelS.halt_bind) (fun _ => rest)
theorem RelS.newRow (t : TypeId) {c c' : Array Value} (h : VRA σ c c') : RelS X (fun σ' a b => AdR σ' a b) σ (Go.newRow t c) (Go.newRow t c') := by
  refine RelS.bind (RelS.newObj (fun σ' hs => ⟨_, _, _, rfl, ?_⟩)) fun σ1 b r s1 h => RelS.pure ⟨h.1, rfl, rfl, rfl⟩
  refine ⟨by rw [h.size]; exact Nat.le_refl _, fun i v hv => ?_, fun i _ => by simp, fun e => e⟩
  obtain ⟨v', e, k⟩ := h.get i v hv
  exact ⟨v', e, k.mono hs⟩
theorem RelS.newVar (t : TypeId) {v v' : Value} (h : VR σ v v') : RelS X (fun σ' a b => AdR σ' a b) σ (Go.newVar t v) (Go.newVar t v') := RelS.newRow t h.cells
theorem VRA.extract {a b : Array Value} (h : VRA σ a b) (i j : Nat) : VRA σ (a.extract i j) (b.extract i j) := by
  have := VRL.take (VRL.drop h i) (j - i)
  simpa [VRA] using this
theorem RelS.part (t : TypeId) {c c' : Array Value} (off : Nat) (h : VRA σ c c') : RelS X (fun σ' x y => VR σ' x y) σ (Go.part t c off) (Go.part t c' off) := by
  refine RelS.bind (RelS.isAgg t) fun σ1 x y s1 e => ?_
  subst e
  cases y with
  | true =>
    refine RelS.bind (RelS.sizeOf t) fun σ2 n n' s2 e => ?_
    subst e
    have := ((h.mono s1).mono s2).extract off (off + n')
    generalize c.extract off (off + n') = p at this
    generalize c'.extract off (off + n') = q at this
    obtain ⟨p⟩ := p
    obtain ⟨q⟩ := q
    exact RelS.pure (.agg _ _ this)
  | false =>
    cases hc : c[off]? with
    | none => exact RelS.stuck
    | some v =>
      obtain ⟨v', e, k⟩ := (h.mono s1).get off v hc
      simp only [e]
      exact RelS.pure k

/-! ### build -/
inductive PL (σ : S) : List (Nat × Value) → List (Nat × Value) → Prop
  | nil : PL σ [] []
  | cons (i : Nat) (v v' : Value) (r r' : List (Nat × Value)) (h : VR σ v v') (hs : PL σ r r') : PL σ ((i, v) :: r) ((i, v') :: r')
theorem PL.mono {σ' : S} (hs : Sub σ σ') {a b : List (Nat × Value)} (h : PL σ a b) : PL σ' a b := by
  induction h with
  | nil => exact .nil
  | cons i v v' r r' h _ ih => exact .cons _ _ _ _ _ (h.mono hs) ih
theorem foldl_set (off : Nat) : ∀ {xs ys : List Value} (k : Nat) {c c' : Array Value}, VRL σ xs ys → VRA σ c c' →
    VRA σ ((xs.zipIdx k).foldl (fun cs (p : Value × Nat) => cs.setIfInBounds (off + p.2) p.1) c) ((ys.zipIdx k).foldl (fun cs (p : Value × Nat) => cs.setIfInBounds (off + p.2) p.1) c')
  | [], _, k, c, c', h, hc => by cases h; exact hc
  | x :: xs, _, k, c, c', h, hc => by
    cases h with
    | cons _ y _ ys hv hr =>
      simp only [List.zipIdx_cons, List.foldl_cons]
      exact foldl_set off (k + 1) hr (hc.set _ hv)
theorem fill_R (place : Nat → Option (Nat × Nat)) : ∀ {ps ps' : List (Nat × Value)} {c c' r : Array Value}, PL σ ps ps' → VRA σ c c' → Instr.fill place c ps = some r → ∃ r', Instr.fill place c' ps' = some r' ∧ VRA σ r r'
  | [], _, c, c', r, h, hc, e => by
    cases h
    simp only [Instr.fill, Option.some.injEq] at e ⊢
    subst e
    exact ⟨c', rfl, hc⟩
  | (i, v) :: ps, _, c, c', r, h, hc, e => by
    cases h with
    | cons _ _ v' _ ps' hv hr =>
      have hsz := hv.cells.size
      have hcs := hc.size
      unfold Instr.fill at e ⊢
      split at e
      · cases e
      · rename_i off size hp
        split at e
        · cases e
        · rename_i hcond
          rw [← hsz, ← hcs, if_neg hcond]
          refine fill_R place hr ?_ e
          have h1 := foldl_set off 0 hv.cells hc
          have q : ∀ (a : Array Value) (c : Array Value), a.zipIdx.foldl (fun cs (x : Value × Nat) => match x with | (c, j) => cs.setIfInBounds (off + j) c) c = (a.toList.zipIdx 0).foldl (fun cs (p : Value × Nat) => cs.setIfInBounds (off + p.2) p.1) c := by
            intro a c
            rw [← Array.foldl_toList]
            simp
          rw [q, q]
          exact h1
/-! ### what ends the canonical run -/
def CFail {α : Type} (E : Env) (s : Sem α) : Prop := ∀ h a h', crun E s h ≠ .ok (a, h')
theorem CFail.halt {α : Type} {E : Env} (x : Halt) : CFail E (Sem.halt x : Sem α) := by
  intro h a h' e
  cases x <;> cases e
theorem CFail.right {α β : Type} {E : Env} {s : Sem α} {f : α → Sem β} (h : ∀ a, CFail E (f a)) : CFail E (s >>= f) := by
  intro hp a h' e
  rw [crun_bind] at e
  obtain ⟨x, h1, _, e⟩ := bind_ok e
  exact h x _ _ _ e
theorem CFail.left {α β : Type} {E : Env} {s : Sem α} {f : α → Sem β} (h : CFail E s) : CFail E (s >>= f) := by
  intro hp a h' e
  rw [crun_bind] at e
  obtain ⟨x, h1, e, _⟩ := bind_ok e
  exact h _ _ _ e
theorem CFail.rel {α β : Type} {A : S → α → β → Prop} {s : Sem α} {s' : Sem β} (h : CFail X.E s) : RelS X A σ s s' := by
  intro hp w a h' H e _
  exact absurd e (h _ _ _)
theorem CFail.runtimePanic {α : Type} {E : Env} (e : RuntimeError) : CFail E (Go.runtimePanic e : Sem α) := by
  unfold Go.runtimePanic
  refine CFail.right fun p => ?_
  cases e <;> first | exact CFail.halt _ | exact CFail.right fun _ => CFail.halt _ | (refine CFail.right fun _ => CFail.right fun _ => CFail.halt _)
theorem CFail.boundsPanic {α : Type} {E : Env} (k : IntKind) (x y : Int) (c : BoundsCode) : CFail E (Go.boundsPanic k x y c : Sem α) := by
  unfold Go.boundsPanic
  dsimp only
  split
  · exact CFail.right fun _ => CFail.runtimePanic _
  · exact CFail.right fun _ => CFail.runtimePanic _

theorem RelS.mapM {α β : Type} {f : α → Sem β} (hf : ∀ x (σ : S), RelS X (fun _ a b => b = a) σ (f x) (f x)) : ∀ (l : List α) (σ : S),
    RelS X (fun _ a b => b = a) σ (l.mapM f) (l.mapM f)
  | [], σ => by rw [List.mapM_nil]; exact RelS.pure rfl
  | x :: l, σ => by
    rw [List.mapM_cons]
    refine RelS.bind (hf x σ) fun σ1 a b _ e => ?_
    subst e
    refine RelS.bind (RelS.mapM hf l σ1) fun σ2 a b _ e => ?_
    subst e
    exact RelS.pure rfl
theorem RelS.mapMA {α β : Type} {f : α → Sem β} (hf : ∀ x (σ : S), RelS X (fun _ a b => b = a) σ (f x) (f x)) (l : Array α) (σ : S) :
    RelS X (fun _ a b => b = a) σ (l.mapM f) (l.mapM f) := by
  rw [Array.mapM_eq_mapM_toList, map_eq_pure_bind]
  refine RelS.bind (RelS.mapM hf _ _) fun σ2 a b _ e => ?_
  subst e
  exact RelS.pure rfl
theorem VRA.ofGr (σ : S) {c : Array Value} (h : ∀ v ∈ c.toList, gr v = true) : VRA σ c c := by
  unfold VRA
  generalize c.toList = l at h
  induction l with
  | nil => exact .nil
  | cons x xs ih => exact .cons _ _ _ _ (gr_self σ (h x (by simp))) (ih fun v hv => h v (by simp [hv]))
theorem VRA.self (σ : S) {v : Value} (h : gr v = true) : VRA σ v.cells v.cells := (gr_self σ h).cells
theorem VRA.getBang {a : Array Value} (h : VRA σ a a) (i : Nat) : VR σ a[i]! a[i]! := by
  rw [Array.getElem!_eq_getD, Array.getD_eq_getD_getElem?]
  cases hv : a[i]? with
  | none => exact gr_self σ (by rfl)
  | some v =>
    obtain ⟨v', e, k⟩ := h.get i v hv
    rw [hv] at e
    cases e
    exact k
theorem VRA.mapNat {f : Nat → Value} (h : ∀ i, VR σ (f i) (f i)) (n : Nat) : VRA σ ((Array.range n).map f) ((Array.range n).map f) := by
  have : ∀ l : List Nat, VRL σ (l.map f) (l.map f) := by
    intro l
    induction l with
    | nil => exact .nil
    | cons x xs ih => exact .cons _ _ _ _ (h x) ih
  unfold VRA
  rw [Array.toList_map]
  exact this _
end
end Go.Ev

namespace Go.Ev
open Go.RowKit
set_option linter.unusedVariables false

inductive NxR (σ : S) : Nx → Next → Prop
  | val (v v' : Value) (h : VR σ v v') : NxR σ (.val v) (.value v')
  | skip : NxR σ .skip .skip
  | enter (f : FuncId) (a a' : Array Value) (h : VRA σ a a') : NxR σ (.enter f a) (.enter f a')
  | dfr (d d' : Deferred) (h : DfR σ d d') : NxR σ (.dfr d) (.defer d')
  | rcv : NxR σ .rcv .recover

section
variable {X : Cx} {σ : S}

theorem viaV_R {s s' : Sem Value} (h : RelS X (fun σ' a b => VR σ' a b) σ s s') : RelM X NxR σ (viaV X.E s) (do Pure.pure (Next.value (← s'))) :=
  RelM.bind (Fr.crun _) (fun _ => Fr.pure _) h fun _ _ _ _ hv => RelM.pure (.val _ _ hv)
theorem viaU_R {s s' : Sem Unit} (h : RelS X (fun _ _ _ => True) σ s s') : RelM X NxR σ (viaU X.E s) (do s'; Pure.pure Next.skip) :=
  RelM.bind (Fr.crun _) (fun _ => Fr.pure _) h fun _ _ _ _ hv => RelM.pure .skip
theorem viaG_R (s : Sem Value) : RelM X NxR σ (viaG X.E s) (do Pure.pure (Next.value (← s))) := by
  unfold viaG
  split
  · rename_i v hp
    refine RelM.ite (fun hv => ?_) fun _ => RelM.fail
    intro h w c h2 H e _
    cases e
    refine ⟨σ, _, w, Ext.refl _ _ _, ?_, H, .val _ _ (gr_self σ hv)⟩
    rw [run_bind', prun_run _ _ _ hp w]
    rfl
  · exact RelM.fail
theorem RelS.ptr {s s' : Sem Addr} (h : RelS X (fun σ' a b => AdR σ' a b) σ s s') : RelS X (fun σ' a b => VR σ' a b) σ (do Pure.pure (Value.pointer (some (← s)))) (do Pure.pure (Value.pointer (some (← s')))) :=
  RelS.bind h fun _ _ _ _ h => RelS.pure (VR.ofAd h)

theorem RelS.alloc (t : TypeId) (hz : zeroOk X.E t = true) : RelS X (fun σ' a b => VR σ' a b) σ (Instr.alloc t true (.tuple #[])) (Instr.alloc t true (.tuple #[])) := by
  unfold Instr.alloc
  refine RelS.bind (RelS.zeroValue t hz) fun σ1 a b s1 h => ?_
  obtain ⟨rfl, hg⟩ := h
  exact RelS.ptr (RelS.newVar t (gr_self σ1 hg))
theorem RelS.box (t : TypeId) {v v' : Value} (h : VR σ v v') : RelS X (fun σ' a b => VR σ' a b) σ (Instr.box t v) (Instr.box t v') := RelS.ptr (RelS.newVar t h)
theorem RelS.build (t : TypeId) (hz : zeroOk X.E t = true) {ps ps' : Array (Nat × Value)} (h : PL σ ps.toList ps'.toList) : RelS X (fun σ' a b => VR σ' a b) σ (Instr.build t ps) (Instr.build t ps') := by
  unfold Instr.build
  refine RelS.bind (RelS.zeroValue t hz) fun σ1 z z' s1 hzz => ?_
  obtain ⟨rfl, hg⟩ := hzz
  refine RelS.bind (RelS.underlying t) fun σ2 d d' s2 hd => ?_
  obtain ⟨rfl, hd⟩ := hd
  have fin : ∀ (σ3 : S) (place : Nat → Option (Nat × Nat)) (msg : String), Sub σ2 σ3 →
      RelS X (fun σ' a b => VR σ' a b) σ3 (match Instr.fill place z'.cells ps.toList with | some cells => Pure.pure (.agg cells) | _ => Go.stuck msg) (match Instr.fill place z'.cells ps'.toList with | some cells => Pure.pure (.agg cells) | _ => Go.stuck msg) := by
    intro σ3 place msg s3
    cases hf : Instr.fill place z'.cells ps.toList with
    | none => exact RelS.stuck
    | some r =>
      obtain ⟨r', e, hr⟩ := fill_R place (h.mono (s1.trans (s2.trans s3))) (VRA.self σ3 hg) hf
      rw [e]
      obtain ⟨r⟩ := r
      obtain ⟨r'⟩ := r'
      exact RelS.pure (.agg _ _ hr)
  cases d' with
  | struct fields =>
    refine RelS.bind (RelS.mapMA (fun f σ3 => ?_) fields σ2) fun σ3 p p' s3 e => ?_
    · refine RelS.bind (RelS.sizeOf f.type) fun _ a b _ e => ?_
      subst e
      exact RelS.pure rfl
    · subst e
      exact fin σ3 _ _ s3
  | array n elem =>
    refine RelS.bind (RelS.sizeOf elem) fun σ3 p p' s3 e => ?_
    subst e
    exact fin σ3 _ _ s3
  | _ => exact RelS.stuck
theorem RelS.buildSlice (t : TypeId) (n : Nat) (hz : zerosOk X.E (.buildSlice t n #[]) = true) {ps ps' : Array (Nat × Value)} (h : PL σ ps.toList ps'.toList) : RelS X (fun σ' a b => VR σ' a b) σ (Instr.buildSlice t n ps) (Instr.buildSlice t n ps') := by
  unfold Instr.buildSlice
  refine RelS.bind (RelS.underlying t) fun σ1 d d' s1 hd => ?_
  obtain ⟨rfl, hd⟩ := hd
  cases d' with
  | slice elem =>
    have hz0 : n < U ∧ zeroOk X.E elem = true := by simpa [zerosOk, hd] using hz
    obtain ⟨hnU, hz'⟩ := hz0
    refine RelS.bind (RelS.sizeOf elem) fun σ2 k k' s2 e => ?_
    subst e
    refine RelS.ite Iff.rfl (fun _ => RelS.halt_bind) fun hk => ?_
    have fin : ∀ (σ3 : S) (z : Array Value), Sub σ2 σ3 → VRA σ3 z z → RelS X (fun σ' a b => VR σ' a b) σ3
        (match Instr.fill (fun i => some (i * k', k')) ((Array.range (n * k')).map (z[· % z.size]!)) ps.toList with | some cells => do Pure.pure (.slice (some (← Go.newRow elem cells)) n n) | _ => Go.stuck "buildSlice: a part of the wrong size")
        (match Instr.fill (fun i => some (i * k', k')) ((Array.range (n * k')).map (z[· % z.size]!)) ps'.toList with | some cells => do Pure.pure (.slice (some (← Go.newRow elem cells)) n n) | _ => Go.stuck "buildSlice: a part of the wrong size") := by
      intro σ3 z s3 hz3
      cases hf : Instr.fill (fun i => some (i * k', k')) ((Array.range (n * k')).map (z[· % z.size]!)) ps.toList with
      | none => exact RelS.stuck
      | some r =>
        obtain ⟨r', e, hr⟩ := fill_R _ (h.mono (s1.trans (s2.trans s3))) (VRA.mapNat (fun i => VRA.getBang hz3 _) (n * k')) hf
        rw [e]
        refine RelS.bind (RelS.newRow elem hr) fun σ4 a b s4 hab => ?_
        obtain ⟨ab, ao, as⟩ := a
        obtain ⟨bb, bo, bs⟩ := b
        obtain ⟨h1, h2, h3, h4⟩ := hab
        simp only at h1 h2 h3 h4
        subst h2 h3 h4
        have hUW : U < Wc := by decide
        exact RelS.pure (.slice _ _ _ _ _ _ h1 ⟨fun _ => rfl, fun hU => by omega⟩ (fun hU _ => by omega) (by omega))
    refine RelS.ite Iff.rfl (fun _ => fin σ2 #[] (Sub.refl _) .nil) fun hnz => ?_
    refine RelS.bind (RelS.zeroValue elem hz') fun σ3 z z' s3 hzz => ?_
    obtain ⟨rfl, hg⟩ := hzz
    exact fin σ3 _ s3 (VRA.self σ3 hg)
  | _ => exact RelS.stuck
theorem RelS.askRoom (n : Nat) : RelS X (fun _ _ _ => True) σ (Go.askRoom n) (Go.askRoom n) := by
  unfold Go.askRoom
  exact RelS.ite Iff.rfl (fun _ => RelS.mark) (fun _ => RelS.pure trivial)
theorem RelS.makeSlice (t : TypeId) (l c : Operand) (hz : zerosOk X.E (.makeSlice t l c) = true) {x x' y y' : Value} (hx : VR σ x x') (hy : VR σ y y') (hc : capOk y = true) : RelS X (fun σ' a b => VR σ' a b) σ (Instr.makeSlice t x y) (Instr.makeSlice t x' y') := by
  unfold Instr.makeSlice
  refine RelS.bind (RelS.underlying t) fun σ1 d d' s1 hd => ?_
  obtain ⟨rfl, hd⟩ := hd
  cases d' with
  | slice elem =>
    have hz' : zeroOk X.E elem = true := by simpa [zerosOk, hd] using hz
    refine RelS.bind (RelS.asInt (hx.mono s1)) fun σ2 n n' s2 e => ?_
    obtain ⟨rfl, _⟩ := e
    refine RelS.bind (RelS.asInt (hy.mono (s1.trans s2))) fun σ3 m m' s3 e => ?_
    obtain ⟨rfl, k0, hk0⟩ := e
    have hcU : (IntKind.i64.wrap m').toNat < U := by
      subst hk0
      simpa [capOk] using hc
    refine RelS.bind (RelS.typeInfo elem) fun σ4 i i' s4 e => ?_
    obtain ⟨rfl, hi⟩ := e
    dsimp only
    refine RelS.ite Iff.rfl (fun _ => ?_) (fun _ => ?_)
    · refine CFail.rel ?_
      split
      · exact CFail.left (CFail.runtimePanic _)
      · split
        · exact CFail.left (CFail.runtimePanic _)
        · exact CFail.right fun _ => CFail.left (CFail.runtimePanic _)
    · refine RelS.bind (RelS.askRoom _) fun σ5 _ _ s5 _ => ?_
      refine RelS.bind (RelS.sizeOf elem) fun σ6 k k' s6 e => ?_
      subst e
      have fin : ∀ (σ7 : S) (z : Array Value), VRA σ7 z z → RelS X (fun σ' a b => VR σ' a b) σ7
          (do let a ← Go.newRow elem ((Array.range ((IntKind.i64.wrap m').toNat * k')).map (z[· % z.size]!)); Pure.pure (Value.slice (some a) (IntKind.i64.wrap n').toNat (IntKind.i64.wrap m').toNat))
          (do let a ← Go.newRow elem ((Array.range ((IntKind.i64.wrap m').toNat * k')).map (z[· % z.size]!)); Pure.pure (Value.slice (some a) (IntKind.i64.wrap n').toNat (IntKind.i64.wrap m').toNat)) := by
        intro σ7 z hz3
        refine RelS.bind (RelS.newRow elem (VRA.mapNat (fun i => VRA.getBang hz3 _) _)) fun σ4 a b s4 hab => ?_
        obtain ⟨ab, ao, as⟩ := a
        obtain ⟨bb, bo, bs⟩ := b
        obtain ⟨h1, h2, h3, h4⟩ := hab
        simp only at h1 h2 h3 h4
        subst h2 h3 h4
        have hUW : U < Wc := by decide
        exact RelS.pure (.slice _ _ _ _ _ _ h1 ⟨fun _ => rfl, fun hU => Nat.sub_le _ _⟩ (fun hU _ => by omega) (by omega))
      refine RelS.ite Iff.rfl (fun _ => fin σ6 #[] .nil) fun hnz => ?_
      refine RelS.bind (RelS.zeroValue elem hz') fun σ7 z z' s7 hzz => ?_
      obtain ⟨rfl, hg⟩ := hzz
      exact fin σ7 _ (VRA.self σ7 hg)
  | _ => exact RelS.stuck
theorem RelS.makeMap (t : TypeId) {x x' : Option Value} (h : (x = none ∧ x' = none) ∨ ∃ v v', x = some v ∧ x' = some v' ∧ VR σ v v') : RelS X (fun σ' a b => VR σ' a b) σ (Instr.makeMap t x) (Instr.makeMap t x') := by
  have fin : ∀ σ1, RelS X (fun σ' a b => VR σ' a b) σ1 (do Pure.pure (Value.map (some (← Go.newObj (.map #[] 0))))) (do Pure.pure (Value.map (some (← Go.newObj (.map #[] 0))))) := fun σ1 =>
    RelS.bind (RelS.newObj fun σ' _ => ⟨#[], rfl, rfl⟩) fun σ2 a b s h => RelS.pure (.map _ _ h.1)
  unfold Instr.makeMap
  rcases h with ⟨rfl, rfl⟩ | ⟨v, v', rfl, rfl, hv⟩
  · exact fin σ
  · refine RelS.bind (RelS.underlying t) fun σ1 d d' s1 hd => ?_
    obtain ⟨rfl, hd⟩ := hd
    cases d' with
    | map k e =>
      exact RelS.bind (RelS.asInt (hv.mono s1)) fun σ2 n n' s2 e => fin σ2
    | _ => exact RelS.halt_bind
theorem RelS.makeInterface (t : TypeId) {v v' : Value} (h : VR σ v v') : RelS X (fun σ' a b => VR σ' a b) σ (Instr.makeInterface t v) (Instr.makeInterface t v') := by
  unfold Instr.makeInterface
  refine RelS.bind (RelS.underlying t) fun σ1 d d' s1 hd => ?_
  obtain ⟨rfl, hd⟩ := hd
  cases d' <;> first | exact RelS.stuck | exact RelS.pure (.iface _ _ _ (h.mono s1))
theorem RelS.field (t : TypeId) {v v' : Value} (i : Nat) (h : VR σ v v') : RelS X (fun σ' a b => VR σ' a b) σ (Instr.field t v i) (Instr.field t v' i) := by
  unfold Instr.field
  refine RelS.bind (RelS.underlying t) fun σ1 d d' s1 hd => ?_
  obtain ⟨rfl, hd⟩ := hd
  cases d' with
  | struct fields =>
    simp only
    cases hf : fields[i]? with
    | none => exact RelS.stuck
    | some f => exact RelS.bind (RelS.asAgg (h.mono s1)) fun σ2 a b s2 hab => RelS.part _ _ hab
  | _ => exact RelS.stuck
theorem RelS.extract {v v' : Value} (i : Nat) (h : VR σ v v') : RelS X (fun σ' a b => VR σ' a b) σ (Instr.extract v i) (Instr.extract v' i) := by
  unfold Instr.extract
  cases h with
  | tuple xs ys h =>
    simp only
    cases hx : (⟨xs⟩ : Array Value)[i]? with
    | none => exact RelS.stuck
    | some v =>
      obtain ⟨v', e, k⟩ := VRA.get (a := ⟨xs⟩) (b := ⟨ys⟩) h i v hx
      simp only [e]
      exact RelS.pure k
  | _ => exact RelS.stuck
theorem RelS.index (t : TypeId) {v v' x x' : Value} (h : VR σ v v') (hx : VR σ x x') : RelS X (fun σ' a b => VR σ' a b) σ (Instr.index t v x) (Instr.index t v' x') := by
  unfold Instr.index
  refine RelS.bind (RelS.asIntOf hx) fun σ1 p p' s1 e => ?_
  obtain ⟨e, _⟩ := e
  subst e
  obtain ⟨k, i⟩ := p'
  refine RelS.bind (RelS.underlying t) fun σ2 d d' s2 hd => ?_
  obtain ⟨rfl, hd⟩ := hd
  have h2 := h.mono (s1.trans s2)
  cases d' with
  | array len elem =>
    cases h2 with
    | agg xs ys h3 =>
      refine RelS.ite Iff.rfl (fun _ => ?_) (fun _ => CFail.rel (CFail.boundsPanic _ _ _ _))
      refine RelS.bind (RelS.sizeOf elem) fun σ3 n n' s3 e => ?_
      subst e
      exact RelS.part _ _ (VRA.mono (a := ⟨xs⟩) (b := ⟨ys⟩) s3 h3)
    | _ => exact RelS.stuck
  | string =>
    cases h2 with
    | string s =>
      simp only
      split
      · exact RelS.pure (.int _ _)
      · exact CFail.rel (CFail.boundsPanic _ _ _ _)
    | _ => exact RelS.stuck
  | _ => cases h2 <;> exact RelS.stuck
theorem RelS.loadAt (t : TypeId) {v v' : Value} (h : VR σ v v') : RelS X (fun σ' a b => VR σ' a b) σ (Instr.loadAt t v) (Instr.loadAt t v') :=
  RelS.bind (RelS.sureAddr h) fun _ _ _ _ ha => RelS.loadVar t ha
theorem RelS.storeAt (t : TypeId) {v v' x x' : Value} (h : VR σ v v') (hx : VR σ x x') : RelS X (fun _ _ _ => True) σ (Instr.storeAt t v x) (Instr.storeAt t v' x') :=
  RelS.bind (RelS.sureAddr h) fun _ _ _ s ha => RelS.storeVar t ha (hx.mono s)
end
end Go.Ev

namespace Go.Ev
open Go.RowKit
set_option linter.unusedVariables false
section
variable {X : Cx} {σ : S}

def BaseR (σ : S) (p p' : Option Addr × Nat × TypeId) : Prop := p'.2 = p.2 ∧ ((p.1 = none ∧ p'.1 = none) ∨ ∃ a a', p.1 = some a ∧ p'.1 = some a' ∧ AdR σ a a')
theorem RelS.indexAt (t : TypeId) {v v' x x' : Value} (h : VR σ v v') (hx : VR σ x x') : RelS X (fun σ' a b => VR σ' a b) σ (Instr.indexAt t v x) (Instr.indexAt t v' x') := by
  unfold Instr.indexAt
  refine RelS.bind (RelS.asIntOf hx) fun σ1 p p' s1 e => ?_
  obtain ⟨e, _⟩ := e
  subst e
  obtain ⟨k, i⟩ := p'
  refine RelS.bind (RelS.underlying t) fun σ2 d d' s2 hd => ?_
  obtain ⟨rfl, hd⟩ := hd
  have h2 := h.mono (s1.trans s2)
  have fin : ∀ (σ3 : S) (base base' : Option Addr) (len : Nat) (elem : TypeId), ((base = none ∧ base' = none) ∨ ∃ a a', base = some a ∧ base' = some a' ∧ AdR σ3 a a') →
      RelS X (fun σ' a b => VR σ' a b) σ3
        (do
          let u ← Go.underlying t
          let tiny := len ≤ 1 && (match u with | .array .. => true | _ => false)
          match base with
          | some a =>
            if 0 ≤ i ∧ i < len then Pure.pure (Value.pointer (some (a.add (i.toNat * (← Go.sizeOf elem)))))
            else if tiny then Go.unsupported (.noEntry "op/indexAddr.an index out of range at an array of length 0 or 1 (ledger 616)")
            else Go.boundsPanic k i len .index
          | none => Go.boundsPanic k i 0 .index)
        (do
          let u ← Go.underlying t
          let tiny := len ≤ 1 && (match u with | .array .. => true | _ => false)
          match base' with
          | some a =>
            if 0 ≤ i ∧ i < len then Pure.pure (Value.pointer (some (a.add (i.toNat * (← Go.sizeOf elem)))))
            else if tiny then Go.unsupported (.noEntry "op/indexAddr.an index out of range at an array of length 0 or 1 (ledger 616)")
            else Go.boundsPanic k i len .index
          | none => Go.boundsPanic k i 0 .index) := by
    intro σ3 base base' len elem hb
    refine RelS.bind (RelS.underlying t) fun σ4 u u' s4 hu => ?_
    obtain ⟨rfl, hu⟩ := hu
    rcases hb with ⟨rfl, rfl⟩ | ⟨a, a', rfl, rfl, ha⟩
    · exact CFail.rel (CFail.boundsPanic _ _ _ _)
    · refine RelS.ite Iff.rfl (fun _ => ?_) (fun _ => RelS.ite Iff.rfl (fun _ => RelS.unsupported) (fun _ => CFail.rel (CFail.boundsPanic _ _ _ _)))
      refine RelS.bind (RelS.sizeOf elem) fun σ5 n n' s5 e => ?_
      subst e
      exact RelS.pure (VR.ofAd (((ha.mono s4).mono s5).add _))
  cases d' with
  | array len elem =>
    refine RelS.bind (RelS.sureAddr h2) fun σ3 a a' s3 ha => ?_
    exact fin σ3 _ _ len elem (.inr ⟨a, a', rfl, rfl, ha⟩)
  | slice elem =>
    cases h2 with
    | sliceE b o c r' o' c' hw =>
      have key : CFail X.E (do
          let u ← Go.underlying t
          let tiny := (0 : Nat) ≤ 1 && (match u with | .array .. => true | _ => false)
          match (some ⟨b, o, none⟩ : Option Addr) with
          | some a =>
            if 0 ≤ i ∧ i < (0 : Nat) then Pure.pure (Value.pointer (some (a.add (i.toNat * (← Go.sizeOf elem)))))
            else if tiny then Go.unsupported (.noEntry "op/indexAddr.an index out of range at an array of length 0 or 1 (ledger 616)")
            else Go.boundsPanic k i (0 : Nat) .index
          | none => Go.boundsPanic k i 0 .index) := by
        refine CFail.right fun u => ?_
        dsimp only
        rw [if_neg (by omega)]
        split
        · exact CFail.halt _
        · exact CFail.boundsPanic _ _ _ _
      exact CFail.rel key
    | sliceNil n c c' hc hw => exact fin σ2 _ _ n elem (.inl ⟨rfl, rfl⟩)
    | slice b r o n c c' hb hc hk hw => exact fin σ2 (some ⟨b, o, none⟩) (some ⟨r, o, none⟩) n elem (.inr ⟨_, _, rfl, rfl, ⟨hb, rfl, rfl, rfl⟩⟩)
    | _ => exact RelS.halt_bind
  | _ => cases h2 <;> exact RelS.halt_bind

theorem PL.map {ρ ρ' : Operand → Value} : ∀ (ps : List (Nat × Operand)), (∀ p ∈ ps, VR σ (ρ p.2) (ρ' p.2)) → PL σ (ps.map fun (i, x) => (i, ρ x)) (ps.map fun (i, x) => (i, ρ' x))
  | [], _ => .nil
  | (i, x) :: ps, h => .cons _ _ _ _ _ (h (i, x) (by simp)) (PL.map ps fun p hp => h p (by simp [hp]))
theorem VRA.map {ρ ρ' : Operand → Value} (xs : Array Operand) (h : ∀ x ∈ xs, VR σ (ρ x) (ρ' x)) : VRA σ (xs.map ρ) (xs.map ρ') := by
  obtain ⟨xs⟩ := xs
  have h' : ∀ x ∈ xs, VR σ (ρ x) (ρ' x) := fun x hx => h x (by simpa using hx)
  clear h
  unfold VRA
  rw [Array.toList_map, Array.toList_map]
  show VRL σ (xs.map ρ) (xs.map ρ')
  induction xs with
  | nil => exact .nil
  | cons x xs ih => exact .cons _ _ _ _ (h' x (by simp)) (ih fun y hy => h' y (by simp [hy]))

end
end Go.Ev

namespace Go.Ev
open Go.RowKit
set_option linter.unusedVariables false
set_option linter.unusedSimpArgs false
section
variable {X : Cx} {σ : S}

def opOf : Bool → BinOp
  | false => .eql
  | true => .neq
theorem RelM.ofRun {α β : Type} {A : S → α → β → Prop} {a : α} {b : β} {s' : Sem β} (h : ∀ w, s'.run X.E.P w = .ok b w) (hA : A σ a b) : RelM X A σ (M.pure a) s' := by
  intro hp w c h2 H e _
  cases e
  exact ⟨σ, b, w, Ext.refl _ _ _, h w, H, hA⟩
theorem bool_xor (ne b : Bool) : (if ne = true then !b else b) = (ne != b) := by cases ne <;> cases b <;> rfl

def encB (ne b : Bool) : Value := .bool (if ne then !b else b)
/-- how the equality of two values runs -/
theorem eq_run {P : Program} {w : World} {t : TypeId} {x y : Value} {b : Bool} (ne : Bool) (ox oy : Operand) (hg : ∀ op, eqGuard op t ox oy x y = (if !(op matches .eql | .neq) then Pure.pure () else Pure.pure ()))
    (hb : ∀ op, op = .eql ∨ op = .neq → binOp op t x y = (match op with | .neq => (do Pure.pure (.bool (!(← Op.equal t x y)))) | _ => (do Pure.pure (.bool (← Op.equal t x y)))))
    (h : ∀ d, (Op.equalIn (d + 1) t x y).run P w = .ok b w) : (do eqGuard (opOf ne) t ox oy x y; binOp (opOf ne) t x y : Sem Value).run P w = .ok (encB ne b) w := by
  have h9 := h 9999
  rw [hg, hb _ (by cases ne <;> simp [opOf])]
  cases ne <;> simp [opOf, Op.equal, Op.maxDepth, h9, encB]

theorem eqPtr_R {e : TypeId} {a a' b b' : Addr} {t : TypeId} (ht : X.E.P.underlying t = some (.pointer e)) (ha : AdR σ a a') (hb : AdR σ b b') (ne : Bool) (ox oy : Operand) :
    RelM X (fun _ b v => v = encB ne b) σ (eqPtr X.E e a b) (do eqGuard (opOf ne) t ox oy (.pointer (some a')) (.pointer (some b')); binOp (opOf ne) t (.pointer (some a')) (.pointer (some b'))) := by
  unfold eqPtr
  refine RelM.liftO fun i hi => RelM.ite (fun _ => RelM.fail) fun hc => ?_
  simp only [Bool.or_eq_true, decide_eq_true_eq, not_or] at hc
  refine RelM.cells ha.block fun h w c el fr c' el' fr' H hB hW hC x h' e hfree => ?_
  obtain ⟨q, h1, e1, e⟩ := bind_ok e
  obtain ⟨hB2, rfl⟩ := cells_ok e1
  obtain ⟨r2, o2, hr2, hW2, hO2⟩ := H.live _ _ hB2
  obtain ⟨c2', el2', fr2', rfl, hC2⟩ := hO2
  rw [hb.block] at hr2
  cases hr2
  have fin : ∀ r, (∀ d, (Op.equalIn (d + 1) t (.pointer (some a')) (.pointer (some b'))).run X.E.P w = .ok r w) →
      (do eqGuard (opOf ne) t ox oy (.pointer (some a')) (.pointer (some b')); binOp (opOf ne) t (.pointer (some a')) (.pointer (some b')) : Sem Value).run X.E.P w = .ok (encB ne r) w := fun r hr =>
    eq_run ne ox oy (fun op => by cases op <;> rfl) (fun op ho => by rcases ho with rfl | rfl <;> rfl) hr
  have hsz : i.size ≠ 0 := hc.1.1
  split at e
  · rename_i heq
    have hblk : a'.block = b'.block := by
      have := ha.block
      rw [heq, hb.block] at this
      exact (Option.some.inj this).symm
    cases e
    refine ⟨σ, _, w, Ext.refl _ _ _, fin (a.off == b.off) fun d => ?_, H.rd _, rfl⟩
    have hs1 := ha.spot'
    have hs2 := hb.spot'
    have ho1 := ha.off
    have ho2 := hb.off
    have : (a' == b') = (a.off == b.off) := by
      obtain ⟨ab, ao, as⟩ := a'
      obtain ⟨bb, bo, bs⟩ := b'
      simp only at hs1 hs2 ho1 ho2 hblk
      subst hs1 hs2 ho1 ho2 hblk
      rw [Bool.eq_iff_iff]
      simp
    simp [Op.equalIn, run_underlying ht, sizeOf, typeInfo, hi, hsz, sameAddr, hblk, this]
  · rename_i hne
    split at e
    · cases e
    · rename_i hfr
      cases e
      simp only [Bool.or_eq_true, decide_eq_true_eq, not_or, ne_eq, Decidable.not_not] at hfr
      have f1 := hC.plain hfr.1
      have f2 := hC2.plain hfr.2
      subst f1 f2
      have hab : a' ≠ b' := by
        intro hx
        subst hx
        exact hne (H.inj _ _ _ _ _ hB hB2 ha.block hb.block)
      refine ⟨σ, _, w, Ext.refl _ _ _, fin false fun d => ?_, H.rd _, rfl⟩
      simp [Op.equalIn, run_underlying ht, sizeOf, typeInfo, hi, hsz, run_sameAddr_other w hab hW hW2]
theorem eq_R {t : TypeId} {x x' y y' : Value} (hx : VR σ x x') (hy : VR σ y y') (ne : Bool) (ox oy : Operand) :
    RelM X (fun _ b v => v = encB ne b) σ (eq' X.E t x y) (do eqGuard (opOf ne) t ox oy x' y'; binOp (opOf ne) t x' y') := by
  unfold eq'
  refine RelM.liftO fun d hd => ?_
  split
  · cases hx
    cases hy <;> refine RelM.ofRun (fun w => eq_run ne ox oy (fun op => by cases op <;> rfl) (fun op ho => by rcases ho with rfl | rfl <;> rfl) fun d => ?_) rfl <;> simp [Op.equalIn, run_underlying hd]
  · cases hx
    cases hy
    refine RelM.ofRun (fun w => eq_run ne ox oy (fun op => by cases op <;> rfl) (fun op ho => by rcases ho with rfl | rfl <;> rfl) fun d => ?_) rfl
    simp [Op.equalIn, run_underlying hd]
  · cases hx with
    | ptr b r o h => cases hy with
      | ptr b2 r2 o2 h2 => exact eqPtr_R (a := ⟨b, o, none⟩) (a' := ⟨r, o, none⟩) (b := ⟨b2, o2, none⟩) (b' := ⟨r2, o2, none⟩) hd ⟨h, rfl, rfl, rfl⟩ ⟨h2, rfl, rfl, rfl⟩ ne ox oy
  · cases hx
    cases hy
    refine RelM.ofRun (fun w => eq_run ne ox oy (fun op => by cases op <;> rfl) (fun op ho => by rcases ho with rfl | rfl <;> rfl) fun d => ?_) rfl
    simp [Op.equalIn, run_underlying hd]
  · cases hx
    cases hy
    refine RelM.ofRun (fun w => eq_run ne ox oy (fun op => by cases op <;> rfl) (fun op ho => by rcases ho with rfl | rfl <;> rfl) fun d => ?_) rfl
    simp [Op.equalIn, run_underlying hd]
  · cases hx
    cases hy <;> refine RelM.ofRun (fun w => eq_run ne ox oy (fun op => by cases op <;> rfl) (fun op ho => by rcases ho with rfl | rfl <;> rfl) fun d => ?_) rfl <;> simp [Op.equalIn, run_underlying hd]
  · cases hx <;> cases hy <;> refine RelM.ofRun (fun w => eq_run ne ox oy (fun op => by cases op <;> rfl) (fun op ho => by rcases ho with rfl | rfl <;> rfl) fun d => ?_) rfl <;> simp [Op.equalIn, run_underlying hd]
  · cases hx
    cases hy <;> refine RelM.ofRun (fun w => eq_run ne ox oy (fun op => by cases op <;> rfl) (fun op ho => by rcases ho with rfl | rfl <;> rfl) fun d => ?_) rfl <;> simp [Op.equalIn, run_underlying hd]
  · cases hx
    cases hy
    refine RelM.ofRun (fun w => eq_run ne ox oy (fun op => by cases op <;> rfl) (fun op ho => by rcases ho with rfl | rfl <;> rfl) fun d => ?_) rfl
    simp [Op.equalIn, run_underlying hd]
  · cases hx
    cases hy
    refine RelM.ofRun (fun w => eq_run ne ox oy (fun op => by cases op <;> rfl) (fun op ho => by rcases ho with rfl | rfl <;> rfl) fun d => ?_) rfl
    simp [Op.equalIn, run_underlying hd]
  · cases hx
    cases hy <;> refine RelM.ofRun (fun w => eq_run ne ox oy (fun op => by cases op <;> rfl) (fun op ho => by rcases ho with rfl | rfl <;> rfl) fun d => ?_) rfl <;> simp [Op.equalIn, run_underlying hd]
  · cases hy
    cases hx <;> refine RelM.ofRun (fun w => eq_run ne ox oy (fun op => by cases op <;> rfl) (fun op ho => by rcases ho with rfl | rfl <;> rfl) fun d => ?_) rfl <;> simp [Op.equalIn, run_underlying hd]
  · exact RelM.fail
end
end Go.Ev
