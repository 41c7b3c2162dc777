/- A part of a verified evaluator of closed calls: runs that are cut at calls. No condition. -/
import Derived.Test.YtadngfgbefgocaaGreatDoorEvE

namespace Go.Ev
open Go.RowKit
set_option linter.unusedVariables false
set_option linter.unusedSimpArgs false

/-! ### calls whose outcome is known: a canonical run may be cut at calls -/
def sameBytes : List UInt8 → List UInt8 → Bool
  | [], [] => true
  | a :: r, b :: s => match Nat.beq a.toNat b.toNat with
    | true => sameBytes r s
    | false => false
  | _, _ => false
theorem sameBytes_eq : ∀ {a b : List UInt8}, sameBytes a b = true → a = b
  | [], [], _ => rfl
  | a :: r, b :: s, h => by
    unfold sameBytes at h
    split at h
    · rename_i e
      rw [UInt8.toNat_inj.1 (Nat.eq_of_beq_eq_true e), sameBytes_eq h]
    · cases h
def sameA : Option Addr → Option Addr → Bool
  | none, none => true
  | some a, some b => Nat.beq a.block b.block && (Nat.beq a.off b.off && (a.spot.isNone && b.spot.isNone))
  | _, _ => false
theorem sameA_eq {a b : Option Addr} (h : sameA a b = true) : a = b := by
  cases a with
  | none => cases b with
    | none => rfl
    | some b => cases h
  | some a => cases b with
    | none => cases h
    | some b =>
      obtain ⟨ab, ao, as⟩ := a
      obtain ⟨bb, bo, bs⟩ := b
      simp only [sameA, Bool.and_eq_true, Option.isNone_iff_eq_none] at h
      obtain ⟨h1, h2, rfl, rfl⟩ := h
      rw [Nat.eq_of_beq_eq_true h1, Nat.eq_of_beq_eq_true h2]
def sameN : Option Nat → Option Nat → Bool
  | none, none => true
  | some a, some b => Nat.beq a b
  | _, _ => false
theorem sameN_eq {a b : Option Nat} (h : sameN a b = true) : a = b := by
  cases a with
  | none => cases b with
    | none => rfl
    | some b => cases h
  | some a => cases b with
    | none => cases h
    | some b => rw [Nat.eq_of_beq_eq_true h]
def sameL {α : Type} (f : α → α → Bool) : List α → List α → Bool
  | [], [] => true
  | a :: r, b :: s => match f a b with
    | true => sameL f r s
    | false => false
  | _, _ => false
theorem sameL_eq {α : Type} {f : α → α → Bool} (hf : ∀ a b, f a b = true → a = b) : ∀ {a b : List α}, sameL f a b = true → a = b
  | [], [], _ => rfl
  | a :: r, b :: s, h => by
    unfold sameL at h
    split at h
    · rename_i e
      rw [hf _ _ e, sameL_eq hf h]
    · cases h
def sameV : Nat → Value → Value → Bool
  | 0, _, _ => false
  | n + 1, v, w => match v with
    | .bool a => match w with | .bool b => a == b | _ => false
    | .int k a => match w with | .int l b => decide (k = l) && decide (a = b) | _ => false
    | .float k a => match w with | .float l b => decide (k = l) && Nat.beq a b | _ => false
    | .string s => match w with | .string t => sameBytes s.data.toList t.data.toList | _ => false
    | .pointer a => match w with | .pointer b => sameA a b | _ => false
    | .slice a l c => match w with | .slice b m d => sameA a b && (Nat.beq l m && Nat.beq c d) | _ => false
    | .map a => match w with | .map b => sameN a b | _ => false
    | .func f xs ys => match w with | .func g us vs => decide (f = g) && (sameL (sameV n) xs.toList us.toList && sameL (sameV n) ys.toList vs.toList) | _ => false
    | .nilFunc => match w with | .nilFunc => true | _ => false
    | .iface t x => match w with | .iface u y => Nat.beq t u && sameV n x y | _ => false
    | .nilIface => match w with | .nilIface => true | _ => false
    | .agg xs => match w with | .agg ys => sameL (sameV n) xs.toList ys.toList | _ => false
    | .tuple xs => match w with | .tuple ys => sameL (sameV n) xs.toList ys.toList | _ => false
    | _ => false
theorem sameV_eq : ∀ (n : Nat) (v w : Value), sameV n v w = true → v = w := by
  intro n
  induction n with
  | zero => intro v w h; cases h
  | succ n ih =>
    intro v w h
    have il : ∀ {xs ys : Array Value}, sameL (sameV n) xs.toList ys.toList = true → xs = ys := fun h => Array.ext' (sameL_eq ih h)
    cases v with
    | bool a => cases w <;> first | (cases h; done) | (rw [eq_of_beq (α := Bool) h])
    | int k a =>
      cases w <;> first
        | (cases h; done)
        | (simp only [sameV, Bool.and_eq_true, decide_eq_true_eq] at h; rw [h.1, h.2])
    | float k a =>
      cases w <;> first
        | (cases h; done)
        | (simp only [sameV, Bool.and_eq_true, decide_eq_true_eq] at h; rw [h.1, Nat.eq_of_beq_eq_true h.2])
    | string s =>
      cases w <;> first
        | (cases h; done)
        | (rename_i t
           obtain ⟨s⟩ := s
           obtain ⟨t⟩ := t
           rw [show s = t from Array.ext' (sameBytes_eq h)])
    | pointer a => cases w <;> first | (cases h; done) | (rw [sameA_eq h])
    | slice a l c =>
      cases w <;> first
        | (cases h; done)
        | (simp only [sameV, Bool.and_eq_true] at h; rw [sameA_eq h.1, Nat.eq_of_beq_eq_true h.2.1, Nat.eq_of_beq_eq_true h.2.2])
    | map a => cases w <;> first | (cases h; done) | (rw [sameN_eq h])
    | func f xs ys =>
      cases w <;> first
        | (cases h; done)
        | (simp only [sameV, Bool.and_eq_true, decide_eq_true_eq] at h; rw [h.1, il h.2.1, il h.2.2])
    | nilFunc => cases w <;> first | (cases h; done) | rfl
    | iface t x =>
      cases w <;> first
        | (cases h; done)
        | (simp only [sameV, Bool.and_eq_true] at h; rw [Nat.eq_of_beq_eq_true h.1, ih _ _ h.2])
    | nilIface => cases w <;> first | (cases h; done) | rfl
    | agg xs => cases w <;> first | (cases h; done) | (rw [il h])
    | tuple xs => cases w <;> first | (cases h; done) | (rw [il h])
    | _ => cases h
def sameE (a b : MapEntry) : Bool := sameV 30 a.key b.key && (sameV 30 a.val b.val && Nat.beq a.born b.born)
theorem sameE_eq (a b : MapEntry) (h : sameE a b = true) : a = b := by
  obtain ⟨k, v, n⟩ := a
  obtain ⟨k', v', n'⟩ := b
  simp only [sameE, Bool.and_eq_true] at h
  rw [sameV_eq _ _ _ h.1, sameV_eq _ _ _ h.2.1, Nat.eq_of_beq_eq_true h.2.2]
def sameO : Option Obj → Obj → Bool
  | some (.cells c e f), o => match o with
    | .cells d e' f' => Nat.beq e e' && (Nat.beq f.1 f'.1 && (Nat.beq f.2 f'.2 && sameL (sameV 30) c.toList d.toList))
    | _ => false
  | some (.map es c), o => match o with
    | .map es' c' => Nat.beq c c' && sameL sameE es.toList es'.toList
    | _ => false
  | _, _ => false
theorem sameO_eq {a : Option Obj} {b : Obj} (h : sameO a b = true) : a = some b := by
  unfold sameO at h
  split at h
  · split at h
    · rename_i c e f _ d e' f'
      simp only [Bool.and_eq_true] at h
      obtain ⟨f1, f2⟩ := f
      obtain ⟨g1, g2⟩ := f'
      obtain ⟨h1, h2, h3, h4⟩ := h
      rw [show c = d from Array.ext' (sameL_eq (sameV_eq 30) h4), show e = e' from Nat.eq_of_beq_eq_true h1, show f1 = g1 from Nat.eq_of_beq_eq_true h2, show f2 = g2 from Nat.eq_of_beq_eq_true h3]
    · cases h
  · split at h
    · rename_i es c _ es' c'
      simp only [Bool.and_eq_true] at h
      rw [show es = es' from Array.ext' (sameL_eq sameE_eq h.2), show c = c' from Nat.eq_of_beq_eq_true h.1]
    · cases h
  · cases h

def setL : T → List (Nat × Obj) → T
  | t, [] => t
  | t, p :: r => setL (T.set D t p.1 (some p.2)) r
def lastOf : List (Nat × Obj) → Nat → Option Obj
  | [], _ => none
  | p :: r, b => match lastOf r b with
    | some o => some o
    | none => if p.1 = b then some p.2 else none
def hasK : List (Nat × Obj) → Nat → Bool
  | [], _ => false
  | p :: r, b => match Nat.beq p.1 b with
    | true => true
    | false => hasK r b
theorem lastOf_none {l : List (Nat × Obj)} {b : Nat} (h : hasK l b = false) : lastOf l b = none := by
  induction l with
  | nil => rfl
  | cons p r ih =>
    unfold hasK at h
    split at h
    · cases h
    · rename_i e
      unfold lastOf
      rw [ih h]
      simp only
      rw [if_neg]
      intro he
      rw [he] at e
      simp at e
theorem lastOf_mem {l : List (Nat × Obj)} {b : Nat} {o : Obj} (h : lastOf l b = some o) : (b, o) ∈ l := by
  induction l with
  | nil => cases h
  | cons p r ih =>
    unfold lastOf at h
    split at h
    · rename_i e
      cases h
      exact List.mem_cons_of_mem _ (ih e)
    · split at h
      · rename_i e
        cases h
        subst e
        exact List.mem_cons_self
      · cases h
theorem hasK_mem {l : List (Nat × Obj)} {b : Nat} {o : Obj} (h : (b, o) ∈ l) : hasK l b = true := by
  induction l with
  | nil => cases h
  | cons p r ih =>
    unfold hasK
    split
    · rfl
    · rename_i e
      rcases List.mem_cons.1 h with rfl | h
      · simp at e
      · exact ih h
theorem lastOf_some {l : List (Nat × Obj)} {b : Nat} (h : hasK l b = true) : ∃ o, lastOf l b = some o := by
  induction l with
  | nil => cases h
  | cons p r ih =>
    unfold lastOf
    unfold hasK at h
    split at h
    · rename_i e
      have := Nat.eq_of_beq_eq_true e
      cases lastOf r b with
      | some o => exact ⟨o, rfl⟩
      | none => exact ⟨p.2, by simp [this]⟩
    · obtain ⟨o, ho⟩ := ih h
      rw [ho]
      exact ⟨o, rfl⟩
def okL (E : Env) : List (Nat × Obj) → Bool
  | [] => true
  | p :: r => match Nat.ble E.base p.1 && Nat.blt p.1 (2 ^ D) with
    | true => okL E r
    | false => false
theorem getB_setL (E : Env) : ∀ (l : List (Nat × Obj)) (h : Hp) (n : Nat) (lg : List (Nat × Bool)) (b : Nat), okL E l = true → getB E { n := n, t := setL h.t l, lg := lg } b = match lastOf l b with | some o => some o | none => getB E h b
  | [], h, n, lg, b, _ => rfl
  | p :: r, h, n, lg, b, hk => by
    unfold okL at hk
    split at hk
    · rename_i hp
      simp only [Bool.and_eq_true, Nat.ble_eq, Nat.blt_eq] at hp
      have ih := getB_setL E r (h.put p.1 (some p.2)) n lg b hk
      show getB E { n := n, t := setL (T.set D h.t p.1 (some p.2)) r, lg := lg } b = _
      have e1 : getB E { n := n, t := setL (T.set D h.t p.1 (some p.2)) r, lg := lg } b = getB E { n := n, t := setL (h.put p.1 (some p.2)).t r, lg := lg } b := rfl
      rw [e1, ih]
      show _ = match (match lastOf r b with | some o => some o | none => if p.1 = b then some p.2 else none) with | some o => some o | none => getB E h b
      cases lastOf r b with
      | some o => rfl
      | none =>
        simp only
        by_cases hb : p.1 = b
        · rw [if_pos hb, ← hb, getB_put_same E h p.1 _ hp.1 hp.2]
        · rw [if_neg hb, getB_put_ne E h p.1 b _ hp.2 hb]
    · cases hk

/-- a call, what it meets, and what it comes to -/
structure Memo where
  f : FuncId
  n : Nat
  args : List Value
  pre : List (Nat × Obj)
  out : Out
  n' : Nat
  post : List (Nat × Obj)
def Memo.h0 (m : Memo) : Hp := { n := m.n, t := setL .e m.pre, lg := [] }
def allOf {α : Type} (f : α → Bool) : List α → Bool
  | [] => true
  | a :: r => match f a with
    | true => allOf f r
    | false => false
theorem allOf_mem {α : Type} {f : α → Bool} : ∀ {l : List α}, allOf f l = true → ∀ a ∈ l, f a = true
  | [], _, _, h => by cases h
  | a :: r, h, b, hb => by
    unfold allOf at h
    split at h
    · rename_i e
      rcases List.mem_cons.1 hb with rfl | hb
      · exact e
      · exact allOf_mem h b hb
    · cases h
theorem allOf_of {α : Type} {f : α → Bool} : ∀ {l : List α}, (∀ a ∈ l, f a = true) → allOf f l = true
  | [], _ => rfl
  | a :: r, h => by
    unfold allOf
    rw [h a List.mem_cons_self]
    exact allOf_of fun b hb => h b (List.mem_cons_of_mem _ hb)
/-- nothing stands at n, n + 1, .. -/
def freeB (E : Env) (h : Hp) : Nat → Nat → Bool
  | 0, _ => true
  | k + 1, n => match getB E h n with
    | none => freeB E h k (n + 1)
    | some _ => false
theorem freeB_spec {E : Env} {h : Hp} : ∀ {k n : Nat}, freeB E h k n = true → ∀ b, n ≤ b → b < n + k → getB E h b = none
  | 0, n, _, b, h1, h2 => by omega
  | k + 1, n, e, b, h1, h2 => by
    unfold freeB at e
    split at e
    · rename_i e1
      by_cases hb : b = n
      · subst hb; exact e1
      · exact freeB_spec e b (by omega) (by omega)
    · cases e
theorem freeB_of {E : Env} {h : Hp} : ∀ {k n : Nat}, (∀ b, n ≤ b → b < n + k → getB E h b = none) → freeB E h k n = true
  | 0, n, _ => rfl
  | k + 1, n, e => by
    unfold freeB
    rw [e n (Nat.le_refl _) (by omega)]
    exact freeB_of fun b h1 h2 => e b (by omega) (by omega)
def Memo.fits (E : Env) (m : Memo) (args : Array Value) (h : Hp) : Bool :=
  sameL (sameV 30) args.toList m.args && (Nat.ble m.n m.n' && (okL E m.post && (allOf (fun p => sameO (getB E h p.1) p.2) m.pre && freeB E h (m.n' - m.n) m.n)))
def Memo.lg (m : Memo) : List (Nat × Bool) := (List.range' m.n (m.n' - m.n)).map (·, true) ++ (m.post.map fun p => (p.1, true)) ++ (m.pre.map fun p => (p.1, false))
def Memo.run (E : Env) (m : Memo) (args : Array Value) : M Out := fun h =>
  if m.fits E args h then .ok (m.out, { n := m.n', t := setL h.t m.post, lg := m.lg ++ h.lg }) else .error "not what is known"
def logOk (E : Env) (m : Memo) : List (Nat × Bool) → Bool
  | [] => true
  | p :: r => match Nat.ble m.n p.1 with
    | true => match Nat.blt p.1 m.n' with
      | true => logOk E m r
      | false => false
    | false => match (match p.2 with
        | true => hasK m.pre p.1 && hasK m.post p.1
        | false => Nat.blt p.1 E.base || hasK m.pre p.1) with
      | true => logOk E m r
      | false => false
theorem logOk_mem {E : Env} {m : Memo} : ∀ {l : List (Nat × Bool)}, logOk E m l = true → ∀ b w, (b, w) ∈ l → (m.n ≤ b ∧ b < m.n') ∨ (b < m.n ∧ ((w = true ∧ hasK m.pre b = true ∧ hasK m.post b = true) ∨ (w = false ∧ (b < E.base ∨ hasK m.pre b = true))))
  | [], _, _, _, h => by cases h
  | p :: r, e, b, w, h => by
    unfold logOk at e
    split at e
    · rename_i e1
      split at e
      · rename_i e2
        rcases List.mem_cons.1 h with rfl | h
        · exact .inl ⟨Nat.le_of_ble_eq_true e1, by simpa [Nat.blt_eq] using e2⟩
        · exact logOk_mem e b w h
      · cases e
    · rename_i e1
      split at e
      · rename_i e2
        rcases List.mem_cons.1 h with rfl | h
        · have hlt : b < m.n := by
            rcases Nat.lt_or_ge b m.n with h | h
            · exact h
            · have := Nat.ble_eq_true_of_le h
              rw [this] at e1
              cases e1
          refine .inr ⟨hlt, ?_⟩
          cases w with
          | true =>
            simp only [Bool.and_eq_true] at e2
            exact .inl ⟨rfl, e2⟩
          | false =>
            simp only [Bool.or_eq_true, Nat.blt_eq] at e2
            exact .inr ⟨rfl, e2⟩
        · exact logOk_mem e b w h
      · cases e
def Memo.res (E : Env) (call : CallX) (m : Memo) : Option (Out × Nat × List (Option Obj) × Bool) := match call m.f m.args.toArray m.h0 with
  | .ok (o, h') => some (o, h'.n, m.post.map (fun p => getB E h' p.1), logOk E m h'.lg)
  | .error _ => none
/-- the outcome is shown by a run that is sound -/
def MemoOk (E : Env) (m : Memo) : Prop := ∃ call : CallX, (∀ X : Cx, X.E = E → CallXOk X call) ∧ (∀ f a, Fr E (call f a)) ∧ okL E m.pre = true ∧ m.res E call = some (m.out, m.n', m.post.map (fun p => some p.2), true)

theorem HR.less {X : Cx} {σ : S} {h h' : Hp} {w : World} (H : HR X σ h w) (e : ∀ b o, getB X.E h' b = some o → getB X.E h b = some o) : HR X σ h' w :=
  ⟨fun b o hb => H.live b o (e b o hb), fun a b o p r ha hb => H.inj a b o p r (e a o ha) (e b p hb), H.glob, H.base, H.new, H.lt,
    fun b c el fr r c' e' fr' i hb => H.cap b c el fr r c' e' fr' i (e _ _ hb), H.below⟩
theorem map_eq_mem {α β : Type} {f g : α → β} : ∀ {l : List α}, l.map f = l.map g → ∀ a ∈ l, f a = g a
  | [], _, _, h => by cases h
  | a :: r, e, b, hb => by
    simp only [List.map_cons, List.cons.injEq] at e
    rcases List.mem_cons.1 hb with rfl | hb
    · exact e.1
    · exact map_eq_mem e.2 b hb
theorem Memo.fits_spec {E : Env} {m : Memo} {args : Array Value} {h : Hp} (e : m.fits E args h = true) : args = m.args.toArray ∧ m.n ≤ m.n' ∧ okL E m.post = true ∧ (∀ p ∈ m.pre, getB E h p.1 = some p.2) ∧ ∀ b, m.n ≤ b → b < m.n' → getB E h b = none := by
  simp only [Memo.fits, Bool.and_eq_true] at e
  obtain ⟨h1, h2, h3, h4, h5⟩ := e
  have hn := Nat.le_of_ble_eq_true h2
  refine ⟨Array.ext' (by rw [List.toList_toArray]; exact sameL_eq (sameV_eq 30) h1), hn, h3, fun p hp => sameO_eq (allOf_mem h4 p hp), fun b b1 b2 => freeB_spec h5 b b1 (by omega)⟩
theorem Memo.mem_range {m : Memo} {b : Nat} (h1 : m.n ≤ b) (h2 : b < m.n') : (b, true) ∈ m.lg := by
  unfold Memo.lg
  refine List.mem_append_left _ (List.mem_append_left _ (List.mem_map.2 ⟨b, ?_, rfl⟩))
  rw [List.mem_range'_1]
  omega
theorem Memo.mem_post {m : Memo} {p : Nat × Obj} (h : p ∈ m.post) : (p.1, true) ∈ m.lg := by
  unfold Memo.lg
  exact List.mem_append_left _ (List.mem_append_right _ (List.mem_map.2 ⟨p, h, rfl⟩))
theorem Memo.mem_pre {m : Memo} {p : Nat × Obj} (h : p ∈ m.pre) : (p.1, false) ∈ m.lg := by
  unfold Memo.lg
  exact List.mem_append_right _ (List.mem_map.2 ⟨p, h, rfl⟩)
theorem Memo.of_mem {m : Memo} {b : Nat} (h : (b, true) ∈ m.lg) : (m.n ≤ b ∧ b < m.n') ∨ hasK m.post b = true := by
  unfold Memo.lg at h
  rcases List.mem_append.1 h with h | h
  · rcases List.mem_append.1 h with h | h
    · obtain ⟨c, hc, e⟩ := List.mem_map.1 h
      cases e
      rw [List.mem_range'_1] at hc
      exact .inl ⟨hc.1, by omega⟩
    · obtain ⟨p, hp, e⟩ := List.mem_map.1 h
      cases e
      exact .inr (hasK_mem (o := p.2) hp)
  · obtain ⟨p, hp, e⟩ := List.mem_map.1 h
    cases e
theorem Fr.memo {E : Env} (m : Memo) (args : Array Value) {k : M Out} (hk : Fr E k) : Fr E (fun h => if Nat.beq m.n h.n = true then m.run E args h else k h) := by
  intro h a h' e
  dsimp only at e
  split at e
  · rename_i hn
    have hn' := Nat.eq_of_beq_eq_true hn
    unfold Memo.run at e
    split at e
    · rename_i hfit
      cases e
      obtain ⟨ha, hle, hok, hpre, hfree⟩ := Memo.fits_spec hfit
      refine ⟨by rw [← hn']; exact hle, m.lg, rfl, fun b hb => ?_, fun g hg hag => ?_⟩
      · rw [getB_setL E m.post h m.n' _ b hok]
        rw [lastOf_none]
        cases hh : hasK m.post b with
        | false => rfl
        | true =>
          obtain ⟨o, ho⟩ := lastOf_some hh
          exact absurd (Memo.mem_post (lastOf_mem ho)) hb
      · have hfg : m.fits E args g = true := by
          simp only [Memo.fits, Bool.and_eq_true] at hfit ⊢
          obtain ⟨h1, h2, h3, h4, h5⟩ := hfit
          refine ⟨h1, h2, h3, allOf_of fun p hp => ?_, freeB_of fun b b1 b2 => ?_⟩
          · rw [hag p.1 false (Memo.mem_pre hp)]
            exact allOf_mem h4 p hp
          · rw [hag b true (Memo.mem_range b1 (by omega))]
            exact hfree b b1 (by omega)
        refine ⟨{ n := m.n', t := setL g.t m.post, lg := m.lg ++ g.lg }, ?_, rfl, rfl, fun b hb => ?_, fun b hb => ?_⟩
        · show (if Nat.beq m.n g.n = true then m.run E args g else k g) = _
          rw [if_pos (by rw [hg]; exact hn)]
          unfold Memo.run
          rw [if_pos hfg]
        · rw [getB_setL E m.post g m.n' _ b hok, getB_setL E m.post h m.n' _ b hok]
          cases hl : lastOf m.post b with
          | some o => rfl
          | none => exact hag b true hb
        · rw [getB_setL E m.post g m.n' _ b hok]
          rw [lastOf_none]
          cases hh : hasK m.post b with
          | false => rfl
          | true =>
            obtain ⟨o, ho⟩ := lastOf_some hh
            exact absurd (Memo.mem_post (lastOf_mem ho)) hb
    · cases e
  · rename_i hn
    obtain ⟨h1, L, h2, h3, h4⟩ := hk h a h' e
    refine ⟨h1, L, h2, h3, fun g hg hag => ?_⟩
    obtain ⟨g', e1, e2⟩ := h4 g hg hag
    exact ⟨g', by show (if Nat.beq m.n g.n = true then m.run E args g else k g) = _; rw [if_neg (by rw [hg]; exact hn)]; exact e1, e2⟩
theorem Memo.run_ok {X : Cx} {m : Memo} (hm : MemoOk X.E m) {σ : S} {args args' : Array Value} {h h' : Hp} {w : World} {o : Out} (hn : m.n = h.n) (H : HR X σ h w) (hV : VRA σ args args') (e : m.run X.E args h = .ok (o, h')) (hfree : ∀ b, h.n ≤ b → b < h'.n → σ b = none) :
    Calls X.E.P m.f args' w fun e w' => ∃ σ', Ext σ σ' h.n h'.n ∧ HR X σ' h' w' ∧ OutR σ' o e := by
  obtain ⟨call, hok, hfr, hpk, hres⟩ := hm
  unfold Memo.run at e
  split at e
  · rename_i hfit
    obtain ⟨ha, hle, hpo, hpre, hnone⟩ := Memo.fits_spec hfit
    have e1 : o = m.out ∧ h' = { n := m.n', t := setL h.t m.post, lg := m.lg ++ h.lg } := by
      cases e
      exact ⟨rfl, rfl⟩
    obtain ⟨rfl, rfl⟩ := e1
    unfold Memo.res at hres
    split at hres
    · rename_i o1 he hc
      simp only [Option.some.injEq, Prod.mk.injEq] at hres
      obtain ⟨rfl, hn', hpost, hlog⟩ := hres
      obtain ⟨f1, L, f2, f3, f4⟩ := hfr _ _ _ _ _ hc
      have hL : he.lg = L := by rw [f2]; show L ++ [] = L; simp
      rw [hL] at hlog
      -- what it meets stands so
      have hag : ∀ b wr, (b, wr) ∈ L → getB X.E h b = getB X.E m.h0 b := by
        intro b wr hb
        have key : hasK m.pre b = true → getB X.E h b = getB X.E m.h0 b := by
          intro hk
          obtain ⟨ob, hob⟩ := lastOf_some hk
          have h1 := getB_setL X.E m.pre { n := 0, t := .e, lg := [] } m.n [] b hpk
          rw [hob] at h1
          show _ = getB X.E { n := m.n, t := setL .e m.pre, lg := [] } b
          rw [h1]
          exact hpre _ (lastOf_mem hob)
        rcases logOk_mem hlog b wr hb with ⟨c1, c2⟩ | ⟨c1, c2⟩
        · cases hk : hasK m.pre b with
          | true => exact key hk
          | false =>
            rw [hnone b c1 c2]
            have h1 := getB_setL X.E m.pre { n := 0, t := .e, lg := [] } m.n [] b hpk
            rw [lastOf_none hk] at h1
            show _ = getB X.E { n := m.n, t := setL .e m.pre, lg := [] } b
            rw [h1]
            dsimp only
            unfold getB
            by_cases hb0 : b < X.E.base
            · have h2 := hnone b c1 c2
              unfold getB at h2
              rw [if_pos hb0] at h2 ⊢
              exact h2.symm
            · rw [if_neg hb0]
              split
              · exact (T.get_e _ _).symm
              · rfl
        · rcases c2 with ⟨_, c2, _⟩ | ⟨_, c2 | c2⟩
          · exact key c2
          · show getB X.E h b = getB X.E { n := m.n, t := setL .e m.pre, lg := [] } b
            unfold getB
            rw [if_pos c2, if_pos c2]
          · exact key c2
      obtain ⟨g', r1, r2, r3, r4, r5⟩ := f4 h hn.symm hag
      have hcall := hok X rfl σ m.f m.args.toArray args' h w _ g' H (by rw [← ha]; exact hV) r1 (fun b hb hl => hfree b hb (by rw [r2] at hl; rw [← hn']; exact hl))
      refine hcall.mono fun en w' hE => ?_
      obtain ⟨σ', x', H', hO⟩ := hE
      have hgn : g'.n = m.n' := by rw [r2]; exact hn'
      refine ⟨σ', by rw [hgn] at x'; exact x', H'.less fun b ob hb => ?_, hO⟩
      rw [getB_setL X.E m.post h m.n' _ b hpo] at hb
      cases hl : lastOf m.post b with
      | some q =>
        rw [hl] at hb
        cases hb
        have hq := map_eq_mem hpost _ (lastOf_mem hl)
        simp only at hq
        by_cases hw : (b, true) ∈ L
        · rw [r4 b hw]
          exact hq
        · rw [r5 b hw]
          rw [f3 b hw] at hq
          cases hk : hasK m.pre b with
          | true =>
            obtain ⟨oc, hoc⟩ := lastOf_some hk
            have h1 := getB_setL X.E m.pre { n := 0, t := .e, lg := [] } m.n [] b hpk
            rw [hoc] at h1
            have h2 : getB X.E m.h0 b = some oc := h1
            rw [h2] at hq
            cases hq
            exact hpre _ (lastOf_mem hoc)
          | false =>
            have h1 := getB_setL X.E m.pre { n := 0, t := .e, lg := [] } m.n [] b hpk
            rw [lastOf_none hk] at h1
            have h2 : getB X.E m.h0 b = getB X.E { n := 0, t := .e, lg := [] } b := h1
            rw [h2] at hq
            unfold getB at hq ⊢
            split at hq
            · rename_i hlt
              rw [if_pos hlt]
              exact hq
            · split at hq
              · rw [T.get_e] at hq; cases hq
              · cases hq
      | none =>
        rw [hl] at hb
        simp only at hb
        by_cases hw : (b, true) ∈ L
        · rcases logOk_mem hlog b true hw with ⟨c1, c2⟩ | ⟨c1, c2⟩
          · rw [hnone b c1 c2] at hb
            cases hb
          · rcases c2 with ⟨_, _, c2⟩ | ⟨c2, _⟩
            · obtain ⟨q, hq⟩ := lastOf_some c2
              rw [hl] at hq
              cases hq
            · cases c2
        · rw [r5 b hw]
          exact hb
    · cases hres
  · cases e

/-- with the outcomes of ms -/
def callMs (E : Env) : List Memo → CallX → CallX
  | [], call => call
  | m :: ms, call => fun f args => match Nat.beq m.f f with
    | true => fun h => if Nat.beq m.n h.n = true then m.run E args h else callMs E ms call f args h
    | false => callMs E ms call f args
theorem Fr.callMs {E : Env} {call : CallX} (hF : ∀ f a, Fr E (call f a)) : ∀ (ms : List Memo) (f : FuncId) (args : Array Value), Fr E (callMs E ms call f args)
  | [], f, args => hF f args
  | m :: ms, f, args => by
    unfold Ev.callMs
    split
    · exact Fr.memo m args (Fr.callMs hF ms f args)
    · exact Fr.callMs hF ms f args
theorem callMs_ok {X : Cx} {call : CallX} (hc : CallXOk X call) : ∀ (ms : List Memo), (∀ m ∈ ms, MemoOk X.E m) → CallXOk X (callMs X.E ms call)
  | [], _ => hc
  | m :: ms, hms => by
    intro σ f args args' h w o h' H hV e hfree
    unfold callMs at e
    cases hf : Nat.beq m.f f with
    | true =>
      rw [hf] at e
      dsimp only at e
      by_cases hn : Nat.beq m.n h.n = true
      · rw [if_pos hn] at e
        have := Memo.run_ok (hms m List.mem_cons_self) (Nat.eq_of_beq_eq_true hn) H hV e hfree
        rw [Nat.eq_of_beq_eq_true hf] at this
        exact this
      · rw [if_neg hn] at e
        exact callMs_ok hc ms (fun q hq => hms q (List.mem_cons_of_mem _ hq)) σ f args args' h w o h' H hV e hfree
    | false =>
      rw [hf] at e
      exact callMs_ok hc ms (fun q hq => hms q (List.mem_cons_of_mem _ hq)) σ f args args' h w o h' H hV e hfree
def evCallY (E : Env) (ms : List Memo) (fuel : Nat) : Nat → CallX
  | 0, _, _ => fail "out of fuel"
  | k + 1, f, args => callMs E ms (callBody E fuel (evCallY E ms fuel k)) f args
theorem Fr.evCallY {E : Env} (ms : List Memo) (fuel : Nat) : ∀ (k : Nat) (f : FuncId) (args : Array Value), Fr E (evCallY E ms fuel k f args) := by
  intro k
  induction k with
  | zero => intro f args; exact Fr.fail _
  | succ k ih => intro f args; exact Fr.callMs (fun f a => Fr.callBody fuel ih f a) ms f args
theorem evCallY_ok {X : Cx} (hm : X.E.P.follows .mixedOrders = true) (ms : List Memo) (hms : ∀ m ∈ ms, MemoOk X.E m) (fuel : Nat) : ∀ k, CallXOk X (evCallY X.E ms fuel k) := by
  intro k
  induction k with
  | zero => intro σ f args args' h w v h' H hV e; cases e
  | succ k ih => exact callMs_ok (callBody_ok hm fuel ih (Fr.evCallY ms fuel k)) ms hms
/-- a known outcome, by a run that may take others as known -/
theorem MemoOk.by {E : Env} (hm : E.P.follows .mixedOrders = true) (ms : List Memo) (hms : ∀ m ∈ ms, MemoOk E m) (fuel k : Nat) (m : Memo) (hp : okL E m.pre = true) (h : m.res E (callBody E fuel (evCallY E ms fuel k)) = some (m.out, m.n', m.post.map (fun p => some p.2), true)) : MemoOk E m := by
  refine ⟨callBody E fuel (evCallY E ms fuel k), fun X hX => ?_, fun f a => Fr.callBody fuel (Fr.evCallY ms fuel k) f a, hp, h⟩
  subst hX
  exact callBody_ok hm fuel (evCallY_ok hm ms hms fuel k) (Fr.evCallY ms fuel k)
/-- A closed call that the canonical run, cut at calls whose outcome is known, ends by true ends so in the machine. -/
theorem closed_callY (E : Env) (hm : E.P.follows .mixedOrders = true) (ms : List Memo) (hms : ∀ m ∈ ms, MemoOk E m) (fuel k : Nat) (f : FuncId) (he : outcX (evCallY E ms fuel k f #[] { n := E.base, t := .e, lg := [] }) = 1) (W : World) (hb : E.base ≤ W.heap.size) (hg : GlOk E W) :
    Calls E.P f #[] W fun e w' => e = .returned (.bool true) ∧ Below W.heap.size W w' := by
  obtain ⟨h', hrun⟩ := outcX_spec he
  obtain ⟨σ, H, hfree⟩ := begin_HR E W hb hg
  refine (evCallY_ok (X := ⟨E, W⟩) hm ms hms fuel k σ f #[] #[] _ W _ h' H VRL.nil hrun (fun b h0 _ => hfree b h0)).mono fun e w' hR => ?_
  obtain ⟨σ', _, H', v', rfl, hv⟩ := hR
  cases hv
  exact ⟨rfl, H'.below⟩
end Go.Ev
