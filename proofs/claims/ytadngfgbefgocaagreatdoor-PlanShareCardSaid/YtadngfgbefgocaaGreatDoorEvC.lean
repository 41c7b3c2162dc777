/- A part of a verified evaluator of closed calls (a canonical run, and why the machine ends every such call as it does). No condition. -/
import Derived.Test.YtadngfgbefgocaaGreatDoorEvB
import Derived.Deep.AppendSrc
import Derived.Laws.BytesString

namespace Go.Ev
open Go.RowKit
set_option linter.unusedVariables false
set_option linter.unusedSimpArgs false
section
variable {X : Cx} {σ : S}

theorem RelM.ofRun' {α β : Type} {A : S → α → β → Prop} {a : α} {s' : Sem β} (h : ∀ w, ∃ b, s'.run X.E.P w = .ok b w ∧ A σ a b) : RelM X A σ (M.pure a) s' := by
  intro hp w c h2 H e _
  cases e
  obtain ⟨b, hr, hA⟩ := h w
  exact ⟨σ, b, w, Ext.refl _ _ _, hr, H, hA⟩
theorem bind_assoc {α β γ : Type} (m : M α) (f : α → M β) (g : β → M γ) : M.bind (M.bind m f) g = M.bind m (fun a => M.bind (f a) g) := by
  funext h
  unfold M.bind
  cases m h <;> rfl
theorem RelM.liftR {α γ δ : Type} {B : S → γ → δ → Prop} {o : R α} {f : α → M γ} {s' : Sem δ} (hf : ∀ a, o = .ok a → RelM X B σ (f a) s') : RelM X B σ (M.bind (Ev.liftR o) f) s' := by
  refine RelM.left fun h a h' e => ?_
  cases o with
  | error m => cases e
  | ok x => cases e; exact ⟨rfl, hf _ rfl⟩
/-- the real side takes a step that reads no world -/
theorem RelM.right {α β γ : Type} {A : S → α → γ → Prop} {m : M α} {s' : Sem β} {f' : β → Sem γ} {b : β} (h : ∀ w, s'.run X.E.P w = .ok b w) (hr : RelM X A σ m (f' b)) : RelM X A σ m (s' >>= f') := by
  intro hp w c h2 H e hfree
  obtain ⟨σ1, b1, w1, x1, r1, H1, hA⟩ := hr hp w c h2 H e hfree
  exact ⟨σ1, b1, w1, x1, by rw [run_bind', h w]; exact r1, H1, hA⟩
/-- what the real side computes may be written otherwise -/
theorem RelM.val {α : Type} {m : M Value} {s' : Sem Value} (h : RelM X (fun σ' a b => VR σ' a b) σ m s') (hm : Fr X.E m) : RelM X NxR σ (M.bind m fun v => M.pure (.val v)) (do Pure.pure (Next.value (← s'))) :=
  RelM.bind hm (fun _ => Fr.pure _) h fun _ _ _ _ hv => RelM.pure (.val _ _ hv)

theorem loadN_run {a a' : Addr} (ha : AdR σ a a') {n : Nat} {h h' : Hp} {w : World} {vs : List Value} (H : HR X σ h w) (e : loadN X.E a n h = .ok (vs, h')) :
    h' = h.rd a.block ∧ vs.length = n ∧ ∃ cs : List Value, VRL σ vs cs ∧ ∀ j v, cs[j]? = some v → w.cell? (a'.add j) = some v := by
  unfold loadN at e
  split at e
  · cases e
  · obtain ⟨q, h1, e1, e⟩ := bind_ok e
    obtain ⟨hB, rfl⟩ := cells_ok e1
    obtain ⟨c, el, fr⟩ := q
    obtain ⟨r, o', hr, hW, hO⟩ := H.live _ _ hB
    obtain ⟨c', e', fr', rfl, hC⟩ := hO
    rw [ha.block] at hr
    cases hr
    split at e
    · rename_i hle
      cases e
      have hsz : c.size ≤ c'.size := hC.size
      simp only at hle
      refine ⟨rfl, by simp; omega, (c'.toList.drop a'.off).take n, ?_, ?_⟩
      · simp only
        refine VRL.ofGet ?_ fun i v hv => ?_
        · simp
          rw [ha.off]
          omega
        · rw [List.getElem?_take] at hv
          split at hv
          · rename_i hi
            rw [List.getElem?_drop] at hv
            obtain ⟨v', e', hV⟩ := hC.get (a.off + i) v (by simpa using hv)
            refine ⟨v', ?_, hV⟩
            rw [List.getElem?_take, if_pos hi, List.getElem?_drop, ha.off]
            simpa using e'
          · cases hv
      · intro j v hv
        rw [List.getElem?_take] at hv
        split at hv
        · rw [List.getElem?_drop] at hv
          have hv' : c'[a'.off + j]? = some v := by simpa using hv
          unfold Addr.add
          split
          · rename_i h0
            subst h0
            simpa [World.cell?, hW, ha.spot'] using hv'
          · simpa [World.cell?, hW] using hv'
        · cases hv
    · cases e
theorem bytesOf_R : ∀ {vs vs' : List Value} {bs : List UInt8}, VRL σ vs vs' → bytesOf' vs = .ok bs → ∃ ns : List Int, vs' = ns.map (Value.int .u8) ∧ bs = ns.map (fun n => UInt8.ofNat n.toNat)
  | [], _, bs, h, e => by
    cases h
    cases e
    exact ⟨[], rfl, rfl⟩
  | v :: vs, _, bs, h, e => by
    cases h with
    | cons _ v' _ vs' hv hr =>
      unfold bytesOf' at e
      split at e
      · rename_i heq
        cases heq
      · rename_i n r heq
        cases heq
        split at e
        · rename_i s hs
          cases e
          obtain ⟨ns, rfl, rfl⟩ := bytesOf_R hr hs
          cases hv
          exact ⟨n :: ns, rfl, rfl⟩
        · cases e
      · cases e
theorem foldl_push (ns : List Int) : ∀ (s : ByteArray), ns.foldl (fun r (n : Int) => r.push (UInt8.ofNat n.toNat)) s = ⟨s.data ++ (ns.map (fun n => UInt8.ofNat n.toNat)).toArray⟩ := by
  induction ns with
  | nil => intro s; simp
  | cons n ns ih =>
    intro s
    rw [List.foldl_cons, ih]
    simp [ByteArray.push]
theorem convertM_R {s d : TypeId} {x x' : Value} {ds dd : TypeDesc} : VR σ x x' → X.E.P.underlying s = some ds → X.E.P.underlying d = some dd →
    RelM X NxR σ (match ds, dd, x with
      | .slice e, .string, .slice (some a) len _ => M.bind (liftO "convert" (X.E.P.underlying e)) fun de => match de with
        | .int .u8 => M.bind (loadN X.E a len) fun vs => M.bind (liftR (bytesOf' vs)) fun bs => M.pure (.val (.string ⟨bs.toArray⟩))
        | _ => fail "convert"
      | _, _, _ => fail "convert") (do Pure.pure (Next.value (← convert s d x'))) := by
  intro hx hs hd
  split
  · rename_i e0 a0 len0 cap0
    refine RelM.liftO fun de hde => ?_
    split
    · cases hx with
      | sliceE b o c r' o' c' hw =>
        intro hp w y h' H e hfree
        obtain ⟨vs, h1, e1, e⟩ := bind_ok e
        obtain ⟨bs, h2, e2, e3⟩ := bind_ok e
        clear e
        have hvs : vs = [] ∧ h1.n = hp.n ∧ HR X σ h1 w := by
          unfold loadN at e1
          split at e1
          · cases e1
          · obtain ⟨q, h3, e4, e5⟩ := bind_ok e1
            obtain ⟨_, rfl⟩ := cells_ok e4
            split at e5
            · cases e5
              exact ⟨by simp, rfl, H.rd _⟩
            · cases e5
        obtain ⟨rfl, hn1, H1⟩ := hvs
        have hbs : bs = [] ∧ h2 = h1 := by
          cases e2
          exact ⟨rfl, rfl⟩
        obtain ⟨rfl, rfl⟩ := hbs
        cases e3
        have r1 := run_loadCells_list (P := X.E.P) w ⟨r', o', none⟩ [] (by simp)
        refine ⟨σ, _, w, by rw [hn1]; exact Ext.refl _ _ _, ?_, H1, .val _ _ (.string _)⟩
        have hcv : (convert s d (.slice (some ⟨r', o', none⟩) 0 c')).run X.E.P w = (Conv.bytesToString (.slice (some ⟨r', o', none⟩) 0 c')).run X.E.P w := by
          simp [convert, run_underlying hs, run_underlying hd, run_underlying hde]
        have hb := run_bytesToString (P := X.E.P) w ⟨r', o', none⟩ 0 c' [] (by simpa using r1)
        rw [run_bind', hcv, hb]
        rfl
      | slice b r o n c c' h hc hk hw =>
        intro hp w y h' H e hfree
        obtain ⟨vs, h1, e1, e⟩ := bind_ok e
        obtain ⟨bs, h2, e2, e3⟩ := bind_ok e
        clear e
        have hbs : bytesOf' vs = .ok bs ∧ h2 = h1 := by
          cases hb : bytesOf' vs with
          | error m => rw [hb] at e2; cases e2
          | ok z => rw [hb] at e2; cases e2; exact ⟨rfl, rfl⟩
        obtain ⟨hbs, rfl⟩ := hbs
        cases e3
        obtain ⟨rfl, hl, cs, hV, hcell⟩ := loadN_run (a := ⟨b, o, none⟩) (a' := ⟨r, o, none⟩) ⟨h, rfl, rfl, rfl⟩ H e1
        obtain ⟨ns, rfl, rfl⟩ := bytesOf_R hV hbs
        have r1 := run_loadCells_list (P := X.E.P) w ⟨r, o, none⟩ _ hcell
        rw [← hV.length, hl] at r1
        refine ⟨σ, _, w, Ext.refl _ _ _, ?_, H.rd _, .val _ _ (.string _)⟩
        have hcv : ∀ n, (convert s d (.slice (some ⟨r, o, none⟩) n c')).run X.E.P w = (Conv.bytesToString (.slice (some ⟨r, o, none⟩) n c')).run X.E.P w := fun n => by
          simp [convert, run_underlying hs, run_underlying hd, run_underlying hde]
        rw [run_bind', hcv, run_bytesToString w _ _ _ ns r1, foldl_push]
        simp
    · exact RelM.fail
  · exact RelM.fail
theorem convert_R (s d : TypeId) {x x' : Value} (hx : VR σ x x') : RelM X NxR σ (convert' X.E s d x) (do Pure.pure (Next.value (← convert s d x'))) := by
  unfold convert'
  refine RelM.ite (fun hg => ?_) fun _ => RelM.liftO fun ds hs => RelM.liftO fun dd hd => convertM_R hx hs hd
  rw [gr_eq hx hg]
  exact viaG_R _
theorem nil_R {x x' : Value} (hx : VR σ x x') (o : Oper) (ρ' : Operand → Value) (y : Operand) (ho : o.op = .nilCheck y) (e2 : ρ' y = x') : RelM X NxR σ (nil' x) (execOp ρ' o) := by
  obtain ⟨dst, op, type, pos, after, guard⟩ := o
  simp only at ho
  subst ho e2
  simp only [execOp]
  generalize ρ' y = x' at *
  cases hx with
  | ptrNil => exact RelM.fail
  | nilIface => exact RelM.fail
  | nilFunc => exact RelM.fail
  | func fn xs ys xs' ys' hn hx hy =>
    cases fn <;> first | exact RelM.fail | exact RelM.pure (.val _ _ (.func _ _ _ _ _ hn hx hy))
  | bool b => exact RelM.pure (.val _ _ (.bool b))
  | int k n => exact RelM.pure (.val _ _ (.int k n))
  | float k n => exact RelM.pure (.val _ _ (.float k n))
  | complex k x y => exact RelM.pure (.val _ _ (.complex k x y))
  | string s => exact RelM.pure (.val _ _ (.string s))
  | ptr b r o h => exact RelM.pure (.val _ _ (.ptr b r o h))
  | sliceNil n c c' hc hw => exact RelM.pure (.val _ _ (.sliceNil n c c' hc hw))
  | slice b r o n c c' h hc hk hw => exact RelM.pure (.val _ _ (.slice b r o n c c' h hc hk hw))
  | sliceE b o c r' o' c' hw => exact RelM.pure (.val _ _ (.sliceE b o c r' o' c' hw))
  | mapNil => exact RelM.pure (.val _ _ .mapNil)
  | map b r h => exact RelM.pure (.val _ _ (.map b r h))
  | chanNil => exact RelM.pure (.val _ _ .chanNil)
  | yield l r xs ys xs' ys' h hx hy => exact RelM.pure (.val _ _ (.yield l r xs ys xs' ys' h hx hy))
  | iface t v v' h => exact RelM.pure (.val _ _ (.iface t v v' h))
  | agg xs xs' h => exact RelM.pure (.val _ _ (.agg xs xs' h))
  | tuple xs xs' h => exact RelM.pure (.val _ _ (.tuple xs xs' h))

/-! ### maps -/
theorem EntL.length : ∀ {es es' : List MapEntry}, EntL σ es es' → es'.length = es.length
  | [], _, h => by cases h; rfl
  | _ :: _, _, ⟨d', ds', e, _, h⟩ => by subst e; simp [EntL.length h]
theorem findNow_R (d : TypeDesc) (k : Value) : ∀ {es es' : List MapEntry} (i : Nat) {r : Option (Nat × Value)}, EntL σ es es' → Instr.findNow d k es i = some r →
    ∃ r', Instr.findNow d k es' i = some r' ∧ ((r = none ∧ r' = none) ∨ ∃ j v v', r = some (j, v) ∧ r' = some (j, v') ∧ VR σ v v')
  | [], _, i, r, h, e => by
    cases h
    cases e
    exact ⟨none, rfl, .inl ⟨rfl, rfl⟩⟩
  | a :: es, _, i, r, ⟨a', es', e', ha, hs⟩, e => by
    subst e'
    unfold Instr.findNow at e ⊢
    rw [ha.key]
    cases hs2 : Instr.sameNow d k a.key with
    | none => rw [hs2] at e; cases e
    | some b =>
      rw [hs2] at e
      cases b with
      | true =>
        cases e
        exact ⟨_, rfl, .inr ⟨_, _, _, rfl, rfl, ha.val⟩⟩
      | false => exact findNow_R d k (i + 1) hs e
theorem findNow_none (d : TypeDesc) (k : Value) : ∀ {es es' : List MapEntry} (i : Nat), EntL σ es es' → Instr.findNow d k es i = none → Instr.findNow d k es' i = none
  | [], _, i, h, e => by cases e
  | a :: es, _, i, ⟨a', es', e', ha, hs⟩, e => by
    subst e'
    unfold Instr.findNow at e ⊢
    rw [ha.key]
    cases hs2 : Instr.sameNow d k a.key with
    | none => rfl
    | some b =>
      rw [hs2] at e
      cases b with
      | true => cases e
      | false => exact findNow_none d k (i + 1) hs e
theorem prun_bind {α β : Type} (P : Program) (s : Sem α) (f : α → Sem β) : prun P (s >>= f) = (match prun P s with | .ok a => prun P (f a) | .error e => .error e) := by
  show prun P (Sem.bind s f) = _
  induction s with
  | pure a => rfl
  | program k ih => exact ih _
  | mark m k ih => exact ih
  | halt x => cases x <;> rfl
  | _ => rfl
theorem findAsking_R (P : Program) (key : TypeId) (k : Value) : ∀ {es es' : List MapEntry} (i : Nat) {r : Option (Nat × Value)}, EntL σ es es' → prun P (Instr.findAsking key k es i) = .ok r →
    ∃ r', (∀ w, (Instr.findAsking key k es' i).run P w = .ok r' w) ∧ ((r = none ∧ r' = none) ∨ ∃ j v v', r = some (j, v) ∧ r' = some (j, v') ∧ VR σ v v')
  | [], _, i, r, h, e => by
    cases h
    cases e
    exact ⟨none, fun _ => rfl, .inl ⟨rfl, rfl⟩⟩
  | a :: es, _, i, r, ⟨a', es', e', ha, hs⟩, e => by
    subst e'
    unfold Instr.findAsking at e ⊢
    rw [prun_bind] at e
    cases hq : prun P (Op.equal key k a.key) with
    | error m => rw [hq] at e; cases e
    | ok b =>
      rw [hq] at e
      have hr := prun_run P _ _ hq
      cases b with
      | true =>
        cases e
        refine ⟨some (i, a'.val), fun w => ?_, .inr ⟨_, _, _, rfl, rfl, ha.val⟩⟩
        rw [run_bind', ha.key, hr w]
        rfl
      | false =>
        obtain ⟨r', h1, h2⟩ := findAsking_R P key k (i + 1) hs e
        refine ⟨r', fun w => ?_, h2⟩
        rw [run_bind', ha.key, hr w]
        exact h1 w
theorem findKey_R (P : Program) (key : TypeId) (k : Value) {es es' : List MapEntry} {r : Option (Nat × Value)} (hes : EntL σ es es') (e : prun P (Instr.findKey key k es) = .ok r) :
    ∃ r', (∀ w, (Instr.findKey key k es').run P w = .ok r' w) ∧ ((r = none ∧ r' = none) ∨ ∃ j v v', r = some (j, v) ∧ r' = some (j, v') ∧ VR σ v v') := by
  unfold Instr.findKey at e ⊢
  rw [prun_bind] at e
  cases hu : P.underlying key with
  | none =>
    have : prun P (Go.underlying key) = .error "no such type" := by
      show prun P (match P.underlying key with | some d => Pure.pure d | none => Go.stuck "no such type") = _
      rw [hu]
      rfl
    rw [this] at e
    cases e
  | some dk =>
    have : prun P (Go.underlying key) = .ok dk := by
      show prun P (match P.underlying key with | some d => Pure.pure d | none => Go.stuck "no such type") = _
      rw [hu]
      rfl
    rw [this] at e
    dsimp only at e
    cases hn : Instr.findNow dk k es 0 with
    | some q =>
      rw [hn] at e
      cases e
      obtain ⟨r', h1, h2⟩ := findNow_R dk k 0 hes hn
      refine ⟨r', fun w => ?_, h2⟩
      rw [run_bind', run_underlying hu w]
      simp [h1]
    | none =>
      rw [hn] at e
      obtain ⟨r', h1, h2⟩ := findAsking_R P key k 0 hes e
      refine ⟨r', fun w => ?_, h2⟩
      rw [run_bind', run_underlying hu w]
      simp [findNow_none dk k 0 hes hn, h1]
theorem lookup_R (t : TypeId) {x x' k : Value} (ok : Bool) (hx : VR σ x x') (hk : gr k = true) : RelM X (fun σ' a b => VR σ' a b) σ (lookup' X.E t x k ok) (Instr.lookup t x' k ok) := by
  unfold lookup' Instr.lookup
  refine RelM.liftO fun d hd => RelM.right (fun w => run_underlying hd w) ?_
  cases d with
  | map key elem =>
    simp only
    have fin : ∀ (σ1 : S) (es es' : Array MapEntry), Sub σ σ1 → EntL σ1 es.toList es'.toList → RelM X (fun σ' a b => VR σ' a b) σ1
        (M.bind (Ev.liftR (prun X.E.P (Instr.checkKey es.isEmpty 10000 key k))) fun _ =>
          M.bind (Ev.liftR (prun X.E.P (Instr.findKey key k es.toList))) fun r => match r with
          | some (_, v) => M.pure (if ok then .tuple #[v, .bool true] else v)
          | none => M.bind (liftO "lookup" (X.E.P.info? elem)) fun i => M.bind (liftO "lookup" i.zero) fun v => if gr v then M.pure (if ok then .tuple #[v, .bool false] else v) else fail "lookup: zero")
        (do
          Instr.checkKey es'.isEmpty 10000 key k
          let (v, ok') ← match ← Instr.findKey key k es'.toList with
            | some (_, v) => Pure.pure (v, true)
            | none => Pure.pure (← Go.zeroValue elem, false)
          Pure.pure (if ok then .tuple #[v, .bool ok'] else v)) := by
      intro σ1 es es' s1 hes
      have hemp : es'.isEmpty = es.isEmpty := by
        have := hes.length
        simp only [Array.length_toList] at this
        simp [Array.isEmpty, this]
      refine RelM.liftR fun _ hck => RelM.right (b := ()) (fun w => by rw [hemp]; exact prun_run _ _ _ hck w) ?_
      refine RelM.liftR fun r hr => ?_
      obtain ⟨r', hfk, hrr⟩ := findKey_R X.E.P key k hes hr
      refine RelM.right hfk ?_
      rcases hrr with ⟨rfl, rfl⟩ | ⟨j, v, v', rfl, rfl, hv⟩
      · refine RelM.liftO fun i hi => RelM.liftO fun z hz => RelM.ite (fun hg => ?_) fun _ => RelM.fail
        refine RelM.ofRun' fun w => ⟨if ok then .tuple #[z, .bool false] else z, ?_, ?_⟩
        · simp [Go.zeroValue, typeInfo, hi, hz]
        · cases ok
          · exact gr_self _ hg
          · exact .tuple _ _ (.cons _ _ _ _ (gr_self _ hg) (.cons _ _ _ _ (.bool _) .nil))
      · refine RelM.ofRun' fun w => ⟨if ok then .tuple #[v', .bool true] else v', ?_, ?_⟩
        · simp
        · cases ok
          · exact hv
          · exact .tuple _ _ (.cons _ _ _ _ hv (.cons _ _ _ _ (.bool _) .nil))
    cases hx with
    | mapNil => exact fin σ #[] #[] (Sub.refl _) rfl
    | map b r h =>
      unfold mapOf
      rw [bind_assoc]
      refine RelM.bind (Fr.obj _) (fun o => ?_) (RelM.obj h) fun σ1 o o' s1 ho => ?_
      · cases o <;> first
          | exact Fr.fail _
          | (refine Fr.bind (Fr.pure _) fun _ => Fr.bind (Fr.liftR _) fun _ => Fr.bind (Fr.liftR _) fun _ => ?_
             split
             · exact Fr.pure _
             · exact Fr.bind (Fr.liftO _ _) fun _ => Fr.bind (Fr.liftO _ _) fun _ => Fr.ite (Fr.pure _) (Fr.fail _))
      · cases o with
        | map es clock =>
          obtain ⟨es', rfl, hes⟩ := ho
          exact fin σ1 es es' s1 hes
        | _ => exact RelM.fail
    | _ => exact RelM.fail
  | _ => exact RelM.fail
theorem EntL.get : ∀ {es es' : List MapEntry} (i : Nat), EntL σ es es' → (es'[i]?).map (·.key) = (es[i]?).map (·.key)
  | [], _, i, h => by cases h; rfl
  | a :: es, _, i, ⟨a', es', e', ha, hs⟩ => by
    subst e'
    cases i with
    | zero => simp [ha.key]
    | succ i => simpa using EntL.get i hs
theorem EntL.modify {f f' : MapEntry → MapEntry} (hf : ∀ e e', EntR σ e e' → EntR σ (f e) (f' e')) : ∀ {es es' : List MapEntry} (i : Nat), EntL σ es es' → EntL σ (es.modify i f) (es'.modify i f')
  | [], _, i, h => by cases h; cases i <;> rfl
  | a :: es, _, i, ⟨a', es', e', ha, hs⟩ => by
    subst e'
    cases i with
    | zero => exact ⟨f' a', es', by simp, hf _ _ ha, hs⟩
    | succ i => exact ⟨a', es'.modify i f', by simp, ha, EntL.modify hf i hs⟩
theorem EntL.push {e e' : MapEntry} (he : EntR σ e e') : ∀ {es es' : List MapEntry}, EntL σ es es' → EntL σ (es ++ [e]) (es' ++ [e'])
  | [], _, h => by cases h; exact ⟨e', [], rfl, he, rfl⟩
  | a :: es, _, ⟨a', es', e1, ha, hs⟩ => by
    subst e1
    exact ⟨a', es' ++ [e'], rfl, ha, EntL.push he hs⟩
theorem liftO_ok {α : Type} {why : String} {o : Option α} {h h' : Hp} {a : α} (e : liftO why o h = .ok (a, h')) : o = some a ∧ h' = h := by
  cases o with
  | none => cases e
  | some x => cases e; exact ⟨rfl, rfl⟩
theorem liftR_ok {α : Type} {o : R α} {h h' : Hp} {a : α} (e : liftR o h = .ok (a, h')) : o = .ok a ∧ h' = h := by
  cases o with
  | error m => cases e
  | ok x => cases e; exact ⟨rfl, rfl⟩
theorem mapUpdate_R (t : TypeId) {m m' k x x' : Value} (hm : VR σ m m') (hk : gr k = true) (hx : VR σ x x') : RelM X (fun _ _ _ => True) σ (mapUpdate' X.E t m k x) (Instr.mapUpdate t m' k x') := by
  unfold mapUpdate' Instr.mapUpdate
  refine RelM.liftO fun d hd => RelM.right (fun w => run_underlying hd w) ?_
  cases d with
  | map key elem =>
    simp only
    cases hm with
    | map b r h =>
      intro hp w u h' H e hfree
      simp only at e
      obtain ⟨o, h1, e1, e⟩ := bind_ok e
      obtain ⟨ho, rfl, hn⟩ := obj_ok e1
      obtain ⟨s, o', hs, hw, hO⟩ := H.live _ _ ho
      rw [h] at hs
      cases hs
      cases o with
      | map es clock =>
        obtain ⟨es', rfl, hes⟩ := hO
        simp only at e
        obtain ⟨_, h2, e2, e⟩ := bind_ok e
        obtain ⟨hck, rfl⟩ := liftR_ok e2
        obtain ⟨f, h4, e4, e⟩ := bind_ok e
        obtain ⟨hf, rfl⟩ := liftR_ok e4
        obtain ⟨f', hf', hff⟩ := findKey_R X.E.P key k hes hf
        have hget : (Go.getObj r).run X.E.P w = .ok (.map es' clock) w := by
          show (Sem.getObj r .pure).run X.E.P w = _
          simp only [Sem.run, hw]
        have hck' := prun_run _ _ _ hck w
        have hfk := hf' w
        rcases hff with ⟨rfl, rfl⟩ | ⟨j, v, v', rfl, rfl, hv⟩
        · obtain ⟨h0, _, rfl⟩ := put_ok e
          have hO' : ObR σ (.map (es.push { key := k, val := x, born := clock }) (clock + 1)) (.map (es'.push { key := k, val := x', born := clock }) (clock + 1)) :=
            ⟨_, rfl, by simpa using EntL.push (e := { key := k, val := x, born := clock }) (e' := { key := k, val := x', born := clock }) ⟨rfl, hk, hx, rfl⟩ hes⟩
          refine ⟨σ, (), _, Ext.refl _ _ _, ?_, (H.rd b).setObj h h0 ho hO' (fun _ _ _ hh => by cases hh), trivial⟩
          rw [run_bind', hget]
          simp only
          rw [run_bind', hck']
          simp only
          rw [run_bind', hfk]
          exact run_setObj hw (by intro _ _ _ hh; cases hh)
        · simp only at e
          split at e
          · rename_i hsb
            obtain ⟨h0, _, rfl⟩ := put_ok e
            have hO' : ObR σ (.map (es.modify j fun e => { e with key := k, val := x }) clock) (.map (es'.modify j fun e => { e with key := k, val := x' }) clock) :=
              ⟨_, rfl, by
                rw [Array.toList_modify, Array.toList_modify]
                exact EntL.modify (f := fun e => { e with key := k, val := x }) (f' := fun e => { e with key := k, val := x' }) (fun e e' he => ⟨rfl, hk, hx, he.born⟩) j hes⟩
            refine ⟨σ, (), _, Ext.refl _ _ _, ?_, (H.rd b).setObj h h0 ho hO' (fun _ _ _ hh => by cases hh), trivial⟩
            have hkey : ((es'[j]?).map (·.key)).getD k = ((es[j]?).map (·.key)).getD k := by
              have := EntL.get j hes
              simp only [Array.getElem?_toList] at this
              rw [this]
            rw [run_bind', hget]
            simp only
            rw [run_bind', hck']
            simp only
            rw [run_bind', hfk]
            simp only
            rw [run_bind', hkey]
            have hst : (Instr.keyThatStays (((es[j]?).map (·.key)).getD k) k).run X.E.P w = .ok k w := by
              simp [Instr.keyThatStays, hsb]
            rw [hst]
            exact run_setObj hw (by intro _ _ _ hh; cases hh)
          · cases e
      | _ => cases e
    | _ => exact RelM.fail
  | _ => exact RelM.fail
end
end Go.Ev

namespace Go.Ev
open Go.RowKit
set_option linter.unusedVariables false
set_option linter.unusedSimpArgs false
section
variable {X : Cx} {σ : S}

theorem fieldAddr_R (s : TypeId) {x x' : Value} (f : Nat) : VR σ x x' →
    RelM X NxR σ (fieldAddr' X.E s x f) (do Pure.pure (Next.value (← Instr.fieldAt s x' f))) := by
  intro hx
  unfold fieldAddr'
  refine RelM.liftO fun d hd => ?_
  cases d with
  | struct fields =>
    simp only
    refine RelM.liftO fun fl hfl => RelM.liftO fun i hi => RelM.ite (fun _ => RelM.fail) fun hsz => ?_
    cases hx with
    | ptr b r o h =>
      refine RelM.ofRun' fun w => ⟨.value (.pointer (some ((⟨r, o, none⟩ : Addr).add fl.offset))), ?_, .val _ _ (VR.ofAd (AdR.add (a := ⟨b, o, none⟩) (a' := ⟨r, o, none⟩) ⟨h, rfl, rfl, rfl⟩ _))⟩
      simp [Instr.fieldAt, run_underlying hd, hfl, Instr.sureAddr, fieldPlace, sizeOf, typeInfo, hi, hsz]
    | _ => exact RelM.fail
  | _ => exact RelM.fail

theorem range_R (t : TypeId) {x x' : Value} : VR σ x x' →
    RelM X NxR σ (range' X.E t x) (do Pure.pure (Next.value (← Instr.range t x'))) := by
  intro hx
  unfold range'
  cases hx with
  | string s =>
    refine RelM.liftO fun d hd => ?_
    cases d with
    | string =>
      have key : RelM X NxR σ (M.bind (new X.E (.stringIter s 0)) fun b => M.pure (.val (.pointer (some ⟨b, 0, none⟩)))) (do
            let q ← Go.newObj (.stringIter s 0)
            Pure.pure (Next.value (.pointer (some ⟨q, 0, none⟩)))) :=
        RelM.bind (Fr.new _) (fun _ => Fr.pure _) (RelM.new fun σ2 s2 => rfl) fun σ2 q q' s2 hq => RelM.pure (.val _ _ (.ptr _ _ _ hq.1))
      intro hp w y h' H e hfree
      obtain ⟨σ1, b1, w1, x1, r1, H1, hA⟩ := key hp w y h' H e hfree
      refine ⟨σ1, b1, w1, x1, ?_, H1, hA⟩
      rw [← r1]
      simp [Instr.range, run_underlying hd]
    | _ => exact RelM.fail
  | map b r h =>
    refine RelM.liftO fun d hd => ?_
    cases d with
    | map k v =>
      simp only
      have key : RelM X NxR σ (M.bind (obj X.E b) fun m => match m with
        | .map _ clock => M.bind (new X.E (.mapIter (some b) clock #[] clock)) fun b => M.pure (.val (.pointer (some ⟨b, 0, none⟩)))
        | _ => fail "range") (do
          let o ← Go.getObj r
          match o with
          | .map _ clock => do
            let q ← Go.newObj (.mapIter (some r) clock #[] clock)
            Pure.pure (Next.value (.pointer (some ⟨q, 0, none⟩)))
          | _ => Go.stuck "Range: map expected") := by
        refine RelM.bind (Fr.obj _) (fun o => ?_) (RelM.obj h) fun σ1 o o' s1 ho => ?_
        · cases o <;> first | exact Fr.fail _ | exact Fr.bind (Fr.new _) fun _ => Fr.pure _
        · cases o with
          | map es clock =>
            obtain ⟨es', rfl, hes⟩ := ho
            refine RelM.bind (Fr.new _) (fun _ => Fr.pure _) (RelM.new fun σ2 s2 => ⟨some r, rfl, r, rfl, s2.f _ _ (s1.f _ _ h)⟩) fun σ2 q q' s2 hq => ?_
            exact RelM.pure (.val _ _ (.ptr _ _ _ hq.1))
          | _ => exact RelM.fail
      intro hp w y h' H e hfree
      obtain ⟨σ1, b1, w1, x1, r1, H1, hA⟩ := key hp w y h' H e hfree
      refine ⟨σ1, b1, w1, x1, ?_, H1, hA⟩
      rw [← r1]
      simp [Instr.range, run_underlying hd]
      cases hg : (Go.getObj r).run X.E.P w with
      | ok o w2 => cases o <;> simp
      | halt x w2 => simp
    | _ => exact RelM.fail
  | _ => exact RelM.fail
theorem run_getObj_at {P : Program} {w : World} {r : Nat} {o : Obj} (hw : w.heap[r]? = some o) (hn : ∀ c e fr, o ≠ .cells c e fr) : (Go.getObj r).run P w = .ok o w := by
  show (Sem.getObj r .pure).run P w = _
  simp only [Sem.run, hw]
theorem next_R (isString : Bool) (ty : TypeId) {x x' : Value} : VR σ x x' →
    RelM X NxR σ (next' X.E x isString) (do Pure.pure (Next.value (← Instr.next x' isString ty))) := by
  intro hx
  unfold next'
  split
  · rename_i r0
    cases hx with
    | ptr b r o h =>
      intro hp w y h' H e hfree
      obtain ⟨i, h1, e1, eA⟩ := bind_ok e
      clear e
      obtain ⟨hi, rfl, hn⟩ := obj_ok e1
      obtain ⟨q, i', hq, hw, hO⟩ := H.live _ _ hi
      rw [h] at hq
      cases hq
      cases i with
      | stringIter s pos =>
        cases hO
        have hg := run_getObj_at (P := X.E.P) hw (by intro _ _ _ hh; cases hh)
        dsimp only at eA
        split at eA
        · rename_i hlt
          obtain ⟨u, h2, e2, e3⟩ := bind_ok eA
          obtain ⟨p0, _, rfl⟩ := put_ok e2
          cases e3
          have hs := run_setObj (P := X.E.P) (r := r) (o := .stringIter s (pos + (Utf8.decode s pos).2)) hw (by intro _ _ _ hh; cases hh)
          refine ⟨σ, .value (.tuple #[.bool true, goInt pos, .int .i32 (Utf8.decode s pos).1]), _, Ext.refl _ _ _, ?_, (H.rd _).setObj h p0 hi (o' := .stringIter s (pos + (Utf8.decode s pos).2)) rfl (fun _ _ _ hh => by cases hh), .val _ _ (.tuple _ _ (.cons _ _ _ _ (.bool _) (.cons _ _ _ _ (.int _ _) (.cons _ _ _ _ (.int _ _) .nil))))⟩
          simp only [Instr.next]
          rw [run_bind', run_bind', hg]
          simp only [hlt, if_true]
          rw [run_bind', hs]
          rfl
        · rename_i hlt
          cases eA
          refine ⟨σ, .value (.tuple #[.bool false]), w, Ext.refl _ _ _, ?_, H.rd _, .val _ _ (.tuple _ _ (.cons _ _ _ _ (.bool _) .nil))⟩
          simp only [Instr.next]
          rw [run_bind', run_bind', hg]
          simp only [hlt, if_false]
          rfl
      | _ => cases eA
  · rename_i r0
    cases hx with
    | ptr b r o h =>
      intro hp w y h' H e hfree
      obtain ⟨i, h1, e1, e⟩ := bind_ok e
      obtain ⟨hi, rfl, hn⟩ := obj_ok e1
      obtain ⟨q, i', hq, hw, hO⟩ := H.live _ _ hi
      rw [h] at hq
      cases hq
      cases i with
      | mapIter m since seen last =>
        cases m with
        | none => cases e
        | some m =>
          obtain ⟨m', rfl, hm⟩ := hO
          obtain ⟨mr, rfl, hm⟩ := hm
          simp only at e
          obtain ⟨o, h2, e2, e⟩ := bind_ok e
          obtain ⟨ho, rfl, hn2⟩ := obj_ok e2
          obtain ⟨q2, o', hq2, hw2, hO2⟩ := H.live m o ho
          rw [hm] at hq2
          cases hq2
          cases o with
          | map es clock =>
            obtain ⟨es', rfl, hes⟩ := hO2
            simp only at e
            split at e
            · rename_i hz
              cases e
              have hz' : es' = #[] := by
                have := hes.length
                simp only [Array.length_toList] at this
                exact Array.size_eq_zero_iff.1 (by omega)
              subst hz'
              refine ⟨σ, .value (.tuple #[.bool false]), w, Ext.refl _ _ _, ?_, (H.rd _).rd _, .val _ _ (.tuple _ _ (.cons _ _ _ _ (.bool _) .nil))⟩
              have g1 := run_getObj_at (P := X.E.P) hw (by intro _ _ _ hh; cases hh)
              have g2 := run_getObj_at (P := X.E.P) hw2 (by intro _ _ _ hh; cases hh)
              simp [Instr.next, g1, g2, Question.forced]
            · cases e
          | _ => cases e
      | _ => cases e
  · exact RelM.fail
theorem allL_eq : ∀ {xs ys : List Value}, VRL σ xs ys → allL gr xs = true → ys = xs
  | [], _, h, _ => by cases h; rfl
  | x :: xs, _, h, hg => by
    cases h with
    | cons _ y _ ys hv hs =>
      simp only [allL, Bool.and_eq_true] at hg
      rw [gr_eq hv hg.1, allL_eq hs hg.2]
theorem allA_eq {a b : Array Value} (h : VRA σ a b) (hg : allL gr a.toList = true) : b = a := Array.ext' (allL_eq h hg)
theorem byPrun_R {args args' : Array Value} (h : VRA σ args args') (s : Array Value → Sem Value) : RelM X NxR σ (byPrun X.E args (s args)) (do Pure.pure (Next.value (← s args'))) := by
  unfold byPrun
  refine RelM.ite (fun hg => ?_) fun _ => RelM.fail
  have := allA_eq h hg
  subst this
  split
  · rename_i v hp
    refine RelM.ite (fun hv => RelM.ofRun' fun w => ⟨.value v, ?_, .val _ _ (gr_self σ hv)⟩) fun _ => RelM.fail
    rw [run_bind', prun_run _ _ _ hp w]
    rfl
  · exact RelM.fail
theorem callFunc_R (f : FuncId) {args args' : Array Value} (h : VRA σ args args') : RelM X NxR σ (callFunc' X.E f args) (Go.callFunc f args') := by
  unfold callFunc'
  split
  · exact RelM.fail
  · rename_i fn hfn
    refine RelM.ite (fun _ => RelM.fail) fun hc => RelM.ite (fun hb => RelM.ite (fun hg => ?_) fun _ => RelM.fail) fun hb => RelM.ofRun' fun w => ⟨.enter f args', ?_, .enter _ _ _ h⟩
    · have := allA_eq h hg
      subst this
      split
      · rename_i v hp
        exact RelM.ite (fun hv => RelM.ofRun' fun w => ⟨.value v, prun_run _ _ _ hp w, .val _ _ (gr_self σ hv)⟩) fun _ => RelM.fail
      · exact RelM.fail
      · exact RelM.fail
    · have h2 : (fn.name == "runtime.NumGoroutine") = false := by simpa using hc
      have h3 : ¬ fn.body = none := by
        intro hh
        rw [hh] at hb
        exact hb rfl
      have h4 : ¬ fn.name = "runtime.NumGoroutine" := by simpa using h2
      simp [Go.callFunc, hfn, h3, h4]
/-- a call that enters a function's text runs so in every world -/
theorem callFunc_enter {E : Env} {f g : FuncId} {args args' as : Array Value} {h h' : Hp} (e : callFunc' E f args h = .ok (.enter g as, h')) : g = f ∧ as = args ∧ h' = h ∧ ∀ (args' : Array Value) w, (Go.callFunc f args').run E.P w = .ok (.enter f args') w := by
  unfold callFunc' at e
  cases hfn : E.P.funcs[f]? with
  | none => rw [hfn] at e; cases e
  | some fn =>
    rw [hfn] at e
    dsimp only at e
    by_cases hc : (fn.name == "runtime.NumGoroutine") = true
    · rw [if_pos hc] at e
      cases e
    · rw [if_neg hc] at e
      by_cases hb : fn.body.isNone = true
      · rw [if_pos hb] at e
        by_cases hg : allL gr args.toList = true
        · rw [if_pos hg] at e
          cases hp : prun E.P (Go.callFunc f args) with
          | error m => rw [hp] at e; cases e
          | ok x =>
            rw [hp] at e
            cases x with
            | value v =>
              dsimp only at e
              by_cases hv : gr v = true
              · rw [if_pos hv] at e
                cases e
              · rw [if_neg hv] at e
                cases e
            | _ => cases e
        · rw [if_neg hg] at e
          cases e
      · rw [if_neg hb] at e
        cases e
        refine ⟨rfl, rfl, rfl, fun args' w => ?_⟩
        have h2 : (fn.name == "runtime.NumGoroutine") = false := by simpa using hc
        have h3 : ¬ fn.body = none := by
          intro hh
          rw [hh] at hb
          exact hb rfl
        have h4 : ¬ fn.name = "runtime.NumGoroutine" := by simpa using h2
        simp [Go.callFunc, hfn, h3, h4]
theorem method_R {t : TypeId} {v v' : Value} (hv : VR σ v v') (name : String) (n : Nat) : RelM X (fun σ' r r' => r'.1 = r.1 ∧ VR σ' r.2 r'.2) σ (method' X.E t v name) (Go.method (n + 1) t v' name) := by
  intro h w r h' H e hfree
  unfold method' at e
  obtain ⟨i, h1, e1, eA⟩ := bind_ok e
  clear e
  obtain ⟨hi, rfl⟩ := liftO_ok e1
  obtain ⟨m, h2, e2, eB⟩ := bind_ok eA
  clear eA
  obtain ⟨hm, rfl⟩ := liftO_ok e2
  split at eB
  · cases eB
  · rename_i hp
    obtain ⟨d, h3, e3, e⟩ := bind_ok eB
    clear eB
    obtain ⟨hd, rfl⟩ := liftO_ok e3
    have hpath : m.path.toList = [] := by
      have : m.path.isEmpty = true := by simpa using hp
      have := Array.isEmpty_iff.1 this
      rw [this]
    have hpe : m.path.isEmpty = true := by simpa using hp
    cases hmf : m.func with
    | none =>
      rw [hmf] at e
      cases d <;> cases e
    | some p =>
      obtain ⟨f, b⟩ := p
      rw [hmf] at e
      cases b with
      | true =>
        cases d <;> first
          | (cases e; done)
          | (cases e
             refine ⟨σ, (f, v'), w, Ext.refl _ _ _, ?_, H, rfl, hv⟩
             simp [Go.method, typeInfo, hi, hm, hpath, Go.follow, hmf, receiverAt, run_underlying hd, Place.get])
      | false =>
        cases d with
        | pointer elem =>
          dsimp only at e
          cases hv with
          | ptr b r o hb =>
            dsimp only at e
            obtain ⟨u, h4, e4, e5⟩ := bind_ok e
            cases e5
            obtain ⟨σ1, u', w1, x1, r1, H1, hu⟩ := RelS.loadVar (X := X) elem (a := ⟨b, o, none⟩) (a' := ⟨r, o, none⟩) ⟨hb, rfl, rfl, rfl⟩ _ w u _ H e4 hfree
            refine ⟨σ1, (f, u'), w1, x1, ?_, H1, rfl, hu⟩
            have hwrap : ∀ s m : String, Builtin.ssaWrapNilChk_ #[t] t #[.pointer (some ⟨r, o, none⟩), strVal s, strVal m] = Pure.pure (.pointer (some ⟨r, o, none⟩)) := fun _ _ => rfl
            simp [Go.method, typeInfo, hi, hm, hpath, Go.follow, hmf, receiverAt, run_underlying hd, Place.get, hwrap, asAddr, r1]
            split <;> rw [r1] <;> rfl
          | _ => cases e
        | _ =>
          cases e
          refine ⟨σ, (f, v'), w, Ext.refl _ _ _, ?_, H, rfl, hv⟩
          simp [Go.method, typeInfo, hi, hm, hpath, Go.follow, hmf, receiverAt, run_underlying hd, Place.get]
theorem len_R (ats : Array TypeId) (ty : TypeId) {args args' : Array Value} (h : VRA σ args args') : RelS X (fun σ' a b => VR σ' a b) σ (Builtin.len_ ats ty args) (Builtin.len_ ats ty args') := by
  unfold Builtin.len_
  cases ha : ats[0]? with
  | none => exact RelS.stuck
  | some t =>
    cases hx : args[0]? with
    | none => exact RelS.stuck
    | some x =>
      obtain ⟨x', e, hv⟩ := h.get 0 x hx
      rw [e]
      refine RelS.bind (RelS.underlying t) fun σ1 d d' s1 hd => ?_
      obtain ⟨rfl, hd⟩ := hd
      have hv1 := hv.mono s1
      cases d' with
      | array n e => cases hv1 <;> exact RelS.pure (.int _ _)
      | string => cases hv1 <;> first | exact RelS.pure (.int _ _) | exact RelS.stuck
      | slice e => cases hv1 <;> first | exact RelS.pure (.int _ _) | exact RelS.stuck
      | pointer arr =>
        have : RelS X (fun σ' a b => VR σ' a b) σ1 (do
            let .array n _ ← Go.underlying arr | Go.stuck "len: pointer to array expected"
            Pure.pure (goInt n)) (do
            let .array n _ ← Go.underlying arr | Go.stuck "len: pointer to array expected"
            Pure.pure (goInt n)) := by
          refine RelS.bind (RelS.underlying arr) fun σ2 d d' s2 hd => ?_
          obtain ⟨rfl, hd⟩ := hd
          cases d' <;> first | exact RelS.pure (.int _ _) | exact RelS.stuck
        cases hv1 <;> exact this
      | map k e =>
        cases hv1 with
        | mapNil => exact RelS.pure (.int _ _)
        | map b r hb =>
          refine RelS.bind (RelS.getObj hb) fun σ2 o o' s2 ho => ?_
          cases o with
          | map es c =>
            obtain ⟨es', rfl, hes⟩ := ho
            have := hes.length
            simp only [Array.length_toList] at this
            simp only [this]
            exact RelS.pure (.int _ _)
          | _ => exact RelS.stuck
        | _ => exact RelS.stuck
      | chan a b =>
        cases hv1 with
        | chanNil => exact RelS.pure (.int _ _)
        | _ => exact RelS.stuck
      | _ => cases hv1 <;> exact RelS.stuck
/-! ### slices of slices -/
theorem ret_ok' {α : Type} {a b : α} {h h' : Hp} (e : M.pure a h = .ok (b, h')) : b = a ∧ h' = h := by
  cases e
  exact ⟨rfl, rfl⟩
theorem CapR.low {c c' : Nat} (h : CapR c c') {n : Nat} (hn : n ≤ capLow c) : n ≤ c' := by
  unfold capLow at hn
  split at hn
  · rename_i hU
    rw [h.1 hU]
    exact hn
  · rename_i hU
    split at hn
    · exact Nat.le_trans hn (h.2 (Nat.le_of_not_lt hU))
    · omega
theorem boundOf_ok {d : Nat} {o o' : Option Value} {h h' : Hp} {k : Nat} (ho : (o = none ∧ o' = none) ∨ ∃ v v', o = some v ∧ o' = some v' ∧ VR σ v v') (e : boundOf d o h = .ok (k, h')) :
    h' = h ∧ ((o' = none ∧ k = d) ∨ ∃ ik, o' = some (.int ik (k : Int))) := by
  rcases ho with ⟨rfl, rfl⟩ | ⟨v, v', rfl, rfl, hv⟩
  · cases e
    exact ⟨rfl, .inl ⟨rfl, rfl⟩⟩
  · unfold boundOf at e
    cases hv with
    | int ik n =>
      dsimp only at e
      split at e
      · rename_i hn
        cases e
        exact ⟨rfl, .inr ⟨ik, by rw [Int.toNat_of_nonneg hn]⟩⟩
      · cases e
    | _ => cases e
theorem run_sliceBound {P : Program} {w : World} {ik : IntKind} {k y : Nat} {code : BoundsCode} (hk : k ≤ y) : (Instr.sliceBound (.int ik (k : Int)) y code).run P w = .ok k w := by
  have h1 : (0 : Int) ≤ (k : Int) := by omega
  have h2 : (k : Int) ≤ (y : Int) := by omega
  simp [Instr.sliceBound, asIntOf, h1, h2]
theorem run_sliceBounds {P : Program} {w : World} {n cap l h : Nat} {lo hi : Option Value} (hh : (hi = none ∧ h = n) ∨ ∃ ik, hi = some (.int ik (h : Int))) (hl : (lo = none ∧ l = 0) ∨ ∃ ik, lo = some (.int ik (l : Int))) (h1 : l ≤ h) (h2 : h ≤ cap) :
    (Instr.sliceBounds true n cap lo hi none).run P w = .ok (l, h, cap) w := by
  unfold Instr.sliceBounds
  rcases hh with ⟨rfl, rfl⟩ | ⟨ik, rfl⟩ <;> rcases hl with ⟨rfl, rfl⟩ | ⟨il, rfl⟩ <;> simp [run_sliceBound, h1, h2]
theorem slice_R (t : TypeId) {x x' : Value} {lo hi lo' hi' : Option Value} (hx : VR σ x x') (hlo : (lo = none ∧ lo' = none) ∨ ∃ v v', lo = some v ∧ lo' = some v' ∧ VR σ v v') (hhi : (hi = none ∧ hi' = none) ∨ ∃ v v', hi = some v ∧ hi' = some v' ∧ VR σ v v') :
    RelM X (fun σ' a b => VR σ' a b) σ (slice' X.E t x lo hi) (Instr.sliceAt t x' lo' hi' none) := by
  intro hp w y h' H e hfree
  unfold slice' at e
  obtain ⟨d, h1, e1, eA⟩ := bind_ok e
  clear e
  obtain ⟨hd, rfl⟩ := liftO_ok e1
  cases d with
  | slice elem =>
    have real : ∀ (a' : Option Addr) (n c' l h : Nat) (i : TypeInfo), X.E.P.info? elem = some i → ((hi' = none ∧ h = n) ∨ ∃ ik, hi' = some (.int ik (h : Int))) → ((lo' = none ∧ l = 0) ∨ ∃ ik, lo' = some (.int ik (l : Int))) → l ≤ h → h ≤ c' →
        (Instr.sliceAt t (.slice a' n c') lo' hi' none).run X.E.P w = .ok (.slice (if c' = l then a' else a'.map (·.add (l * i.size))) (h - l) (c' - l)) w := by
      intro a' n c' l h i hinfo hh hl h1 h2
      have hb := run_sliceBounds (P := X.E.P) (w := w) (n := n) hh hl h1 h2
      simp [Instr.sliceAt, run_underlying hd, Instr.slice, hb, sizeOf, typeInfo, hinfo]
    have core : ∀ (a : Option Addr) (n c : Nat), x = .slice a n c → ∃ (i : TypeInfo) (h l : Nat), X.E.P.info? elem = some i ∧ True ∧ ((hi' = none ∧ h = n) ∨ ∃ ik, hi' = some (.int ik (h : Int))) ∧ ((lo' = none ∧ l = 0) ∨ ∃ ik, lo' = some (.int ik (l : Int))) ∧ l ≤ h ∧ h ≤ capLow c ∧
        (if c < U then M.pure (.slice (if c = l then a else a.map (·.add (l * i.size))) (h - l) (c - l)) else
          if c < Wc then match a with
            | none => fail "slice: nil with a capacity"
            | some a =>
              if l = 0 then M.pure (.slice (some a) h c) else
              if i.size = 0 || a.spot.isSome then fail "slice: no size" else
              if l < c - U then M.pure (.slice (some (a.add (l * i.size))) (h - l) (c - l)) else
              M.pure (.slice (some a) 0 Wc)
          else M.pure x : M Value) h1 = .ok (y, h') := by
      intro a n c hxe
      subst hxe
      obtain ⟨i, h2, e2, eB⟩ := bind_ok eA
      obtain ⟨hi2, rfl⟩ := liftO_ok e2
      obtain ⟨h, h3, e3, eC⟩ := bind_ok eB
      obtain ⟨rfl, hh⟩ := boundOf_ok hhi e3
      obtain ⟨l, h4, e4, eD⟩ := bind_ok eC
      obtain ⟨rfl, hl⟩ := boundOf_ok hlo e4
      split at eD
      · cases eD
      · rename_i hb
        simp only [Bool.not_eq_true', Bool.and_eq_false_iff, decide_eq_false_iff_not, not_or, Decidable.not_not] at hb
        exact ⟨i, h, l, hi2, trivial, hh, hl, hb.1, hb.2, eD⟩
    cases hx with
    | sliceNil n c c' hc hw =>
      obtain ⟨i, h, l, hi2, _, hh, hl, h1', h2', eD⟩ := core none n c rfl
      have hle := hc.low h2'
      have hr := real none n c' l h i hi2 hh hl h1' hle
      by_cases hU : c < U
      · rw [if_pos hU] at eD
        obtain ⟨rfl, rfl⟩ := ret_ok' eD
        have := hc.1 hU
        subst this
        have e0 : (if c' = l then (none : Option Addr) else (none : Option Addr).map (·.add (l * i.size))) = none := by split <;> rfl
        refine ⟨σ, _, w, Ext.refl _ _ _, hr, H, ?_⟩
        rw [e0]
        exact .sliceNil _ _ _ ⟨fun _ => rfl, fun hh => by omega⟩ (by omega)
      · rw [if_neg hU, if_pos hw] at eD
        cases eD
    | sliceE b o c r' o' c' hw =>
      obtain ⟨i, h, l, hi2, _, hh, hl, h1', h2', eD⟩ := core (some ⟨b, o, none⟩) 0 c rfl
      have hUW : U < Wc := by decide
      have hcl : capLow c = 0 := by
        unfold capLow
        rw [if_neg (by omega), if_neg (by omega)]
      rw [hcl] at h2'
      have hr := real (some ⟨r', o', none⟩) 0 c' l h i hi2 hh hl h1' (by omega)
      rw [if_neg (by omega), if_neg (by omega)] at eD
      obtain ⟨rfl, rfl⟩ := ret_ok' eD
      have h0 : h = 0 := by omega
      have l0 : l = 0 := by omega
      subst h0 l0
      refine ⟨σ, _, w, Ext.refl _ _ _, hr, H, ?_⟩
      have e0 : (if c' = 0 then some (⟨r', o', none⟩ : Addr) else (some (⟨r', o', none⟩ : Addr)).map (·.add (0 * i.size))) = some ⟨r', o', none⟩ := by
        split
        · rfl
        · simp [Addr.add]
      rw [e0]
      exact .sliceE _ _ _ _ _ _ hw
    | slice b r o n c c' hb hc hk hw =>
      obtain ⟨i, h, l, hi2, _, hh, hl, h1', h2', eD⟩ := core (some ⟨b, o, none⟩) n c rfl
      have hle := hc.low h2'
      have hr := real (some ⟨r, o, none⟩) n c' l h i hi2 hh hl h1' hle
      by_cases hU : c < U
      · rw [if_pos hU] at eD
        obtain ⟨rfl, rfl⟩ := ret_ok' eD
        have := hc.1 hU
        subst this
        refine ⟨σ, _, w, Ext.refl _ _ _, hr, H, ?_⟩
        split
        · exact .slice _ _ _ _ _ _ hb ⟨fun _ => rfl, fun hh => by omega⟩ (fun hh _ => by omega) (by omega)
        · have had := AdR.add (a := ⟨b, o, none⟩) (a' := ⟨r, o, none⟩) (σ := σ) ⟨hb, rfl, rfl, rfl⟩ (l * i.size)
          simp only [Option.map_some]
          generalize (⟨b, o, none⟩ : Addr).add (l * i.size) = p at had
          generalize (⟨r, o, none⟩ : Addr).add (l * i.size) = p' at had
          obtain ⟨pb, po, ps⟩ := p
          obtain ⟨pb', po', ps'⟩ := p'
          obtain ⟨q1, q2, q3, q4⟩ := had
          simp only at q1 q2 q3 q4
          subst q2 q3 q4
          exact .slice _ _ _ _ _ _ q1 ⟨fun _ => rfl, fun hh => by omega⟩ (fun hh _ => by omega) (by omega)
      · rw [if_neg hU, if_pos hw] at eD
        dsimp only at eD
        have hcl : capLow c = c - U := by
          unfold capLow
          rw [if_neg hU, if_pos hw]
        rw [hcl] at h2'
        have hcc := hc.2 (by omega)
        by_cases hl0 : l = 0
        · rw [if_pos hl0] at eD
          obtain ⟨rfl, rfl⟩ := ret_ok' eD
          subst hl0
          refine ⟨σ, _, w, Ext.refl _ _ _, hr, H, ?_⟩
          have e0 : (if c' = 0 then some (⟨r, o, none⟩ : Addr) else (some (⟨r, o, none⟩ : Addr)).map (·.add (0 * i.size))) = some ⟨r, o, none⟩ := by
            split
            · rfl
            · simp [Addr.add]
          rw [e0]
          exact .slice _ _ _ _ _ _ hb hc hk hw
        · rw [if_neg hl0] at eD
          split at eD
          · cases eD
          · rename_i hsz
            simp only [Bool.or_eq_true, decide_eq_true_eq, not_or] at hsz
            split at eD
            · rename_i hlt
              obtain ⟨rfl, rfl⟩ := ret_ok' eD
              refine ⟨σ, _, w, Ext.refl _ _ _, hr, H, ?_⟩
              rw [if_neg (by omega)]
              have hmul : l * i.size ≠ 0 := Nat.mul_ne_zero hl0 hsz.1
              simp only [Option.map_some, Addr.add, hmul, if_false]
              exact .slice _ _ _ _ _ _ hb ⟨fun hh => by omega, fun _ => by omega⟩ (fun _ h0 => by omega) (by omega)
            · rename_i hlt
              obtain ⟨rfl, rfl⟩ := ret_ok' eD
              have hlh : h - l = 0 := by omega
              rw [hlh] at hr
              have : ∃ p q : Nat, (if c' = l then some (⟨r, o, none⟩ : Addr) else (some (⟨r, o, none⟩ : Addr)).map (·.add (l * i.size))) = some ⟨p, q, none⟩ := by
                split
                · exact ⟨_, _, rfl⟩
                · have had := AdR.add (a := ⟨b, o, none⟩) (a' := ⟨r, o, none⟩) (σ := σ) ⟨hb, rfl, rfl, rfl⟩ (l * i.size)
                  simp only [Option.map_some]
                  generalize (⟨r, o, none⟩ : Addr).add (l * i.size) = p' at had
                  obtain ⟨pb', po', ps'⟩ := p'
                  have := had.spot'
                  simp only at this
                  subst this
                  exact ⟨_, _, rfl⟩
              obtain ⟨p, q, hpp⟩ := this
              rw [hpp] at hr
              exact ⟨σ, _, w, Ext.refl _ _ _, hr, H, .sliceE _ _ _ _ _ _ (Nat.le_refl _)⟩
    | _ => cases eA
  | _ => cases eA
end
end Go.Ev

namespace Go.Ev
open Go.RowKit
set_option linter.unusedVariables false
set_option linter.unusedSimpArgs false
theorem setCells_all (b : Nat) : ∀ (vs : List Value) (o : Nat) (w : World) (cur : Array Value) (e : TypeId) (fr : Nat × Nat), w.heap[b]? = some (.cells cur e fr) → o + vs.length ≤ cur.size →
    (w.setCells b o vs).heap[b]? = some (.cells (putAt cur.toList o vs).toArray e fr) ∧ (∀ k, k ≠ b → (w.setCells b o vs).heap[k]? = w.heap[k]?) ∧ (w.setCells b o vs).heap.size = w.heap.size ∧
    (w.setCells b o vs).os = w.os ∧ (w.setCells b o vs).tape = w.tape ∧ (w.setCells b o vs).output = w.output
  | [], o, w, cur, e, fr, hb, hl => by
    refine ⟨?_, fun _ _ => rfl, rfl, rfl, rfl, rfl⟩
    simp [World.setCells, putAt, hb]
  | v :: r, o, w, cur, e, fr, hb, hl => by
    simp only [List.length_cons] at hl
    have h1 : (w.setCell ⟨b, o, none⟩ v).heap[b]? = some (.cells (cur.setIfInBounds o v) e fr) := by
      simp [World.setCell, Array.getElem?_modify, hb]
    obtain ⟨a1, a2, a3, a4, a5, a6⟩ := setCells_all b r (o + 1) (w.setCell ⟨b, o, none⟩ v) (cur.setIfInBounds o v) e fr h1 (by simp; omega)
    refine ⟨?_, fun k hk => ?_, ?_, a4, a5, a6⟩
    · rw [World.setCells, a1]
      congr 3
      have := list_seg_step cur.toList o v r (by simp; omega)
      simp only [putAt, Array.toList_setIfInBounds, List.length_cons]
      rw [this]
    · rw [World.setCells, a2 k hk]
      simp [World.setCell, Array.getElem?_modify, Ne.symm hk]
    · rw [World.setCells, a3]
      simp [World.setCell]
section
variable {X : Cx} {σ : S}
theorem one_cell {v v' : Value} (h : VR σ v v') (h1 : one v = true) : v'.oneCell' = true := by
  cases h <;> first | rfl | (cases h1; done)
theorem allL_one : ∀ {vs vs' : List Value}, VRL σ vs vs' → allL one vs = true → ∀ u ∈ vs', u.oneCell' = true
  | [], _, h, _, u, hu => by cases h; cases hu
  | v :: vs, _, h, h1, u, hu => by
    cases h with
    | cons _ v' _ vs' hv hr =>
      simp only [allL, Bool.and_eq_true] at h1
      rcases List.mem_cons.1 hu with rfl | hu
      · exact one_cell hv h1.1
      · exact allL_one hr h1.2 u hu
theorem src_R {size n : Nat} {tx : TypeId} {dx : TypeDesc} {x x' : Value} {h h1 h2 : Hp} {w : World} {vs : List Value} (H : HR X σ h w) (hx : VR σ x x') (hdx : X.E.P.underlying tx = some dx) (hok : srcOk dx x = true)
    (e1 : lenOf' x h = .ok (n, h1)) (e2 : firstN X.E size n x h1 = .ok (vs, h2)) (hl : vs.length = n * size) (h1' : allL one vs = true) :
    HR X σ h2 w ∧ h2.n = h.n ∧ ∃ vs', VRL σ vs vs' ∧ Src X.E.P size tx x' n vs' w := by
  cases hx with
  | sliceE b o c r' o' c' hw =>
    cases e1
    have hvs : vs = [] := by
      have : vs.length = 0 := by rw [hl]; simp
      exact List.length_eq_zero_iff.1 this
    subst hvs
    have h2n : HR X σ h2 w ∧ h2.n = h.n := by
      change loadN X.E ⟨b, o, none⟩ (0 * size) h = _ at e2
      unfold loadN at e2
      split at e2
      · cases e2
      · obtain ⟨q, h3, e4, e5⟩ := bind_ok e2
        obtain ⟨_, rfl⟩ := cells_ok e4
        split at e5
        · obtain ⟨_, rfl⟩ := ret_ok' e5
          exact ⟨H.rd _, rfl⟩
        · cases e5
    cases dx <;> first
      | (cases hok; done)
      | exact ⟨h2n.1, h2n.2, [], .nil, Src.ofSlice w hdx ⟨r', o', none⟩ 0 c' [] (by simp) (by simp) (by simp)⟩
  | sliceNil m c c' hc hw =>
    cases e1
    change (if _ then M.pure [] else fail "firstN" : M (List Value)) _ = _ at e2
    split at e2
    · rename_i h0
      subst h0
      cases e2
      cases dx <;> first | (cases hok; done) | exact ⟨H, rfl, [], .nil, Src.ofNil w hdx c'⟩
    · cases e2
  | slice b r o m c c' hb hc hk hw =>
    cases e1
    obtain ⟨rfl, hlen, cs, hV, hcell⟩ := loadN_run (a := ⟨b, o, none⟩) (a' := ⟨r, o, none⟩) ⟨hb, rfl, rfl, rfl⟩ H e2
    cases dx <;> first
      | (cases hok; done)
      | exact ⟨H.rd _, rfl, cs, hV, Src.ofSlice w hdx _ _ _ _ (by rw [← hV.length]; exact hl) hcell (allL_one hV h1')⟩
  | string s =>
    cases e1
    change (if (decide (s.size = s.size) && decide (size = 1)) = true then M.pure (s.data.toList.map (fun b => .int .u8 b.toNat)) else fail "firstN" : M (List Value)) _ = _ at e2
    split at e2
    · rename_i h0
      simp only [Bool.and_eq_true, decide_eq_true_eq] at h0
      obtain ⟨_, rfl⟩ := h0
      cases e2
      have hs : Src X.E.P 1 tx (.string s) s.size (byteCells s) w := by
        cases dx <;> first | (cases hok; done) | exact Src.ofString w hdx s
      refine ⟨H, rfl, byteCells s, ?_, hs⟩
      unfold byteCells
      generalize s.data.toList = l
      induction l with
      | nil => exact .nil
      | cons a l ih => exact .cons _ _ _ _ (.int _ _) ih
    · cases e2
  | _ => cases e1
end
end Go.Ev

namespace Go.Ev
open Go.RowKit
set_option linter.unusedVariables false
set_option linter.unusedSimpArgs false
section
variable {X : Cx} {σ : S}
/-- into what is there -/
theorem append_room {elem t tx : TypeId} {i : TypeInfo} (ty : TypeId) {b r o sLen sCap n : Nat} {h : Hp} {w : World} {x' : Value} {vs vs' : List Value} {c : Array Value} {el : TypeId} {fr : Nat × Nat} (H : HR X σ h w) (hb : σ b = some r) (h0 : X.E.base ≤ b)
    (ht : X.E.P.underlying t = some (.slice elem)) (hi : X.E.P.info? elem = some i) (hB : getB X.E h b = some (.cells c el fr)) (hV : VRL σ vs vs') (hS : Src X.E.P i.size tx x' n vs' w) (hroom : sLen + n ≤ sCap) (hle : o + sLen * i.size + vs.length ≤ c.size) :
    ∃ w', (Builtin.append_ #[t, tx] ty #[.slice (some ⟨r, o, none⟩) sLen sCap, x']).run X.E.P w = .ok (.slice (some ⟨r, o, none⟩) (sLen + n) sCap) w' ∧
      HR X σ (h.put b (some (.cells (putAt c.toList (o + sLen * i.size) vs).toArray el fr))) w' := by
  obtain ⟨q, o', hq, hw, hO⟩ := H.live _ _ hB
  rw [hb] at hq
  cases hq
  obtain ⟨c', el', fr', rfl, hC⟩ := hO
  have hsz : c.size ≤ c'.size := hC.size
  have hlen := hV.length
  refine ⟨w.setCells r (o + sLen * i.size) vs', run_append_room_src w t tx ty elem i ht hi r o sLen sCap x' n vs' hS hroom ?_ ?_, ?_⟩
  · intro j hj
    have : o + sLen * i.size + j < c'.size := by omega
    simp [World.cell?, hw, Array.getElem?_eq_getElem this]
  · intro j hj
    have := hC.free (o + sLen * i.size + j) (by omega)
    simpa [World.frozen?, hw] using this
  · obtain ⟨a1, a2, a3, a4, a5, a6⟩ := setCells_all r vs' (o + sLen * i.size) w c' el' fr' hw (by omega)
    refine H.put hB h0 hb a1 ⟨_, _, _, rfl, ?_, ?_, ?_, hC.plain⟩ (fun c2 e2 fr2 c2' e2' fr2' i2 ho ho' hi2 => ?_) a2 a3 a4 a5 a6
    · simp [putAt]
      omega
    · have hcc : ∀ (k : Nat) (v : Value), (putAt c.toList (o + sLen * i.size) vs)[k]? = some v → ∃ v', (putAt c'.toList (o + sLen * i.size) vs')[k]? = some v' ∧ VR σ v v' := by
        intro k v hk
        unfold putAt at hk ⊢
        generalize o + sLen * i.size = p at *
        rw [List.append_assoc] at hk ⊢
        have l1 : (c.toList.take p).length = p := by simp; omega
        have l2 : (c'.toList.take p).length = p := by simp; omega
        rw [List.getElem?_append] at hk ⊢
        rw [l1] at hk
        rw [l2]
        split at hk
        · rename_i hkp
          rw [if_pos hkp]
          rw [List.getElem?_take, if_pos hkp] at hk ⊢
          obtain ⟨v', e, kk⟩ := hC.get k v (by simpa using hk)
          exact ⟨v', by simpa using e, kk⟩
        · rename_i hkp
          rw [if_neg hkp]
          rw [List.getElem?_append] at hk ⊢
          rw [← hlen]
          split at hk
          · rename_i hk2
            rw [if_pos hk2]
            exact hV.get _ _ hk
          · rename_i hk2
            rw [if_neg hk2]
            rw [List.getElem?_drop] at hk ⊢
            obtain ⟨v', e, kk⟩ := hC.get _ v (by simpa using hk)
            exact ⟨v', by simpa using e, kk⟩
      intro k v hk
      obtain ⟨v', e, kk⟩ := hcc k v (by simpa using hk)
      exact ⟨v', by simpa using e, kk⟩
    · intro k hk
      refine hC.free k ?_
      simp [putAt] at hk
      omega
    · cases ho
      cases ho'
      have := H.cap _ _ _ _ _ _ _ _ i2 hB hb hw hi2
      simp [putAt]
      omega
end
end Go.Ev

namespace Go.Ev
open Go.RowKit
set_option linter.unusedVariables false
set_option linter.unusedSimpArgs false
section
variable {X : Cx} {σ : S}
theorem grown_ge (w : World) (need old : Nat) (e : TypeId) : need ≤ grownCap w need old e := by
  unfold grownCap Question.cut
  exact Nat.le_add_right _ _
theorem nextcap_le (need old : Nat) (h : old < need) (hn : need ≤ 2 ^ 24) : Builtin.nextslicecap need old ≤ 2 ^ 26 := by
  unfold Builtin.nextslicecap
  split
  · omega
  · split
    · omega
    · have g : ∀ (k c : Nat), c ≤ 2 ^ 25 → Builtin.growBy need k c ≤ 2 ^ 25 := by
        intro k
        induction k with
        | zero => intro c h1; exact h1
        | succ k ih =>
          intro c h1
          unfold Builtin.growBy
          split
          · exact h1
          · exact ih _ (by omega)
      have := g 4 old (by omega)
      omega
theorem zeroCells_size (z : Array Value) (n : Nat) : (Builtin.zeroCells z n).size = n * z.size := by
  simp [Builtin.zeroCells]
/-- a new row -/
theorem append_grow {elem t tx : TypeId} {i : TypeInfo} {z : Value} (ty : TypeId) {sLen sCap n : Nat} {base : Option Addr} {h : Hp} {w : World} {x' : Value} {os vs os' vs' : List Value} (H : HR X σ h w) (h0 : X.E.base ≤ h.n) (h1 : h.n < 2 ^ D) (hf : σ h.n = none)
    (ht : X.E.P.underlying t = some (.slice elem)) (hi : X.E.P.info? elem = some i) (hz : i.zero = some z) (hzs : z.cells.size = i.size) (hVn : vs.length = n * i.size) (hV : VRL σ vs vs') (hO : VRL σ os os') (hS : Src X.E.P i.size tx x' n vs' w)
    (hold : (Builtin.firstCells i.size sLen (.slice base sLen sCap)).run X.E.P w.drew = .ok os'.toArray w.drew) (hol : os.length = sLen * i.size) (hg : sCap < sLen + n) (hs : sLen + n ≤ 2 ^ 24) (hb : i.bytes ≤ 2 ^ 20) :
    ∃ σ' w' r k, Ext σ σ' h.n (h.n + 1) ∧ σ' h.n = some r ∧ σ'.k h.n = k ∧ sLen + n ≤ k ∧
      (Builtin.append_ #[t, tx] ty #[.slice base sLen sCap, x']).run X.E.P w = .ok (.slice (some ⟨r, 0, none⟩) (sLen + n) k) w' ∧ HR X σ' (h.new (.cells (os ++ vs).toArray elem)) w' := by
  have hfit : Builtin.nextslicecap (sLen + n) sCap * i.bytes ≤ 281474976710656 := by
    have a := nextcap_le (sLen + n) sCap hg hs
    calc Builtin.nextslicecap (sLen + n) sCap * i.bytes ≤ 2 ^ 26 * 2 ^ 20 := Nat.mul_le_mul a hb
      _ ≤ 281474976710656 := by decide
  have hrun := run_append_grow_src w t tx ty elem i z ht hi hz base sLen sCap os' hold x' n vs' hS hg (by omega) hfit
  have hge := grown_ge w (sLen + n) sCap elem
  have hVO := hO.append hV
  obtain ⟨σ', hx, hr, hk, H'⟩ := H.drew.alloc (o := .cells (os ++ vs).toArray elem) (o' := .cells ((os' ++ vs').toArray ++ Builtin.zeroCells z.cells (grownCap w (sLen + n) sCap elem - (sLen + n))) elem (0, 0)) (grownCap w (sLen + n) sCap elem) h0 h1 hf
    (fun σ' hs _ => ⟨_, _, _, rfl, by have := hVO.length; simp at this ⊢; omega, fun j v hv => by
      obtain ⟨v', e, kk⟩ := hVO.get j v (by simpa using hv)
      refine ⟨v', ?_, kk.mono hs⟩
      rw [Array.getElem?_append_left]
      · simpa using e
      · have := List.getElem?_eq_some_iff.1 e
        simpa using this.1, fun _ _ => by simp, fun e => e⟩)
    (fun c e fr c' e' fr' j ho ho' hj => by
      cases ho
      cases ho'
      rw [hi] at hj
      cases hj
      have l1 := hO.length
      have l2 := hV.length
      have l3 := hS.newsLen
      simp only [Array.size_append, List.size_toArray, List.length_append, zeroCells_size, hzs]
      rw [← l1, ← l2, hol, hVn, ← Nat.add_mul, ← Nat.add_mul]
      rw [Nat.add_sub_cancel' hge]
      exact Nat.le_refl _)
  exact ⟨σ', _, _, _, hx, hr, hk, hge, hrun, H'⟩
end
end Go.Ev

namespace Go.Ev
open Go.RowKit
set_option linter.unusedVariables false
set_option linter.unusedSimpArgs false
section
variable {X : Cx} {σ : S}
theorem getB_dead (E : Env) (h : Hp) (b a : Nat) (o : Obj) (hb : E.base ≤ b) (hb2 : b < 2 ^ D) (h1 : h.n < 2 ^ D) (ha : a ≠ h.n) : getB E ((h.put b none).new o) a = if a = b then none else getB E h a := by
  rw [getB_new_ne E (h.put b none) a o h1 (Ne.symm ha)]
  split
  · rename_i e
    subst e
    exact getB_put_same E h a none hb hb2
  · rename_i e
    exact getB_put_ne E h b a none hb2 (Ne.symm e)
theorem HR.rebind {h : Hp} {w w' : World} (H : HR X σ h w) {b r : Nat} {c c2 : Array Value} {el : TypeId} {fr : Nat × Nat} {o' : Obj} (hB : getB X.E h b = some (.cells c el fr)) (hb : σ b = some r) (h0 : X.E.base ≤ b) (hn0 : X.E.base ≤ h.n) (hn1 : h.n < 2 ^ D) (hf : σ h.n = none)
    (hw : w'.heap[r]? = some o') (hO : ∀ σ', Sub σ σ' → ObR σ' (.cells c2 el (0, 0)) o') (hcap : ∀ c' e' fr' i, o' = .cells c' e' fr' → X.E.P.info? el = some i → σ.k b * i.size ≤ c'.size)
    (hne : ∀ k, k ≠ r → w'.heap[k]? = w.heap[k]?) (hsz : w'.heap.size = w.heap.size) (hos : w'.os = w.os) (ht : w'.tape = w.tape) (hout : w'.output = w.output) :
    ∃ σ', Ext σ σ' h.n (h.n + 1) ∧ σ' h.n = some r ∧ σ'.k h.n = σ.k b ∧ HR X σ' ((h.put b none).new (.cells c2 el)) w' := by
  have hlt := getB_lt X.E h b _ hB h0
  have hbn : b ≠ h.n := fun e => by subst e; rw [hf] at hb; cases hb
  have hsub : Sub σ ⟨fun a => if a = h.n then some r else σ a, fun a => if a = h.n then σ.k b else σ.k a⟩ := ⟨fun a s ha => by
      show (if a = h.n then _ else _) = _
      rw [if_neg (fun e => by subst e; rw [hf] at ha; cases ha)]
      exact ha, fun a s ha => by
      show (if a = h.n then _ else _) = _
      rw [if_neg (fun e => by subst e; rw [hf] at ha; cases ha)]⟩
  have same : getB X.E ((h.put b none).new (.cells c2 el)) h.n = some (.cells c2 el) := getB_new_same X.E (h.put b none) _ hn0 hn1
  have other : ∀ a o, a ≠ h.n → getB X.E ((h.put b none).new (.cells c2 el)) a = some o → a ≠ b ∧ getB X.E h a = some o := by
    intro a o ha ho
    rw [getB_dead X.E h b a _ h0 hlt hn1 ha] at ho
    split at ho
    · cases ho
    · exact ⟨‹_›, ho⟩
  refine ⟨⟨fun a => if a = h.n then some r else σ a, fun a => if a = h.n then σ.k b else σ.k a⟩, ⟨hsub, fun a ha hn => ?_⟩, by simp, by simp, ?_⟩
  · show (if a = h.n then _ else _) = _
    rw [if_neg (by omega)]
    exact ha
  · refine ⟨?_, ?_, ?_, H.base, ?_, ?_, ?_, ?_⟩
    · intro a p hp
      by_cases e : a = h.n
      · subst e
        rw [same] at hp
        cases hp
        exact ⟨r, o', by simp, hw, hO _ hsub⟩
      · obtain ⟨hab, hp⟩ := other a p e hp
        obtain ⟨s, p', hs, hws, hop⟩ := H.live a p hp
        refine ⟨s, p', hsub.f a s hs, ?_, hop.mono hsub⟩
        rw [hne s (fun es => by subst es; exact hab (H.inj a b p _ s hp hB hs hb))]
        exact hws
    · intro a d p q s hp hq hs hd
      by_cases ea : a = h.n <;> by_cases ed : d = h.n
      · rw [ea, ed]
      · obtain ⟨hdb, hq⟩ := other d q ed hq
        simp only [ea, ed, if_true, if_false, Option.some.injEq] at hs hd
        subst hs
        exact absurd (H.inj d b q _ _ hq hB hd hb) hdb
      · obtain ⟨hab, hp⟩ := other a p ea hp
        simp only [ea, ed, if_true, if_false, Option.some.injEq] at hs hd
        subst hd
        exact absurd (H.inj a b p _ _ hp hB hs hb) hab
      · obtain ⟨_, hp⟩ := other a p ea hp
        obtain ⟨_, hq⟩ := other d q ed hq
        simp only [ea, ed, if_false] at hs hd
        exact H.inj a d p q s hp hq hs hd
    · intro a ha
      show (if a = h.n then _ else _) = _
      rw [if_neg (by omega)]
      exact H.glob a ha
    · intro a s hs ha
      by_cases e : a = h.n
      · simp only [e, if_true, Option.some.injEq] at hs
        subst hs
        exact H.new b r hb h0
      · simp only [e, if_false] at hs
        exact H.new a s hs ha
    · intro a s hs
      rw [hsz]
      by_cases e : a = h.n
      · simp only [e, if_true, Option.some.injEq] at hs
        subst hs
        exact H.lt b r hb
      · simp only [e, if_false] at hs
        exact H.lt a s hs
    · intro a d e fr1 s d' e' fr' i ha hs hws hi
      by_cases ea : a = h.n
      · subst ea
        rw [same] at ha
        cases ha
        simp only [if_true, Option.some.injEq] at hs
        subst hs
        rw [hw] at hws
        cases hws
        simp only [if_true]
        exact hcap _ _ _ i rfl hi
      · obtain ⟨hab, ha⟩ := other a _ ea ha
        simp only [ea, if_false] at hs ⊢
        rw [hne s (fun es => by subst es; exact hab (H.inj a b _ _ s ha hB hs hb))] at hws
        exact H.cap a d e fr1 s d' e' fr' i ha hs hws hi
    · refine ⟨hos.trans H.below.os, ht.trans H.below.tape, hout.trans H.below.output, by rw [hsz]; exact H.below.size, fun k hk => ?_⟩
      rw [hne k (fun e => ?_)]
      · exact H.below.block k hk
      · have := H.new b r hb h0
        omega
end
end Go.Ev

namespace Go.Ev
open Go.RowKit
set_option linter.unusedVariables false
set_option linter.unusedSimpArgs false
section
variable {X : Cx} {σ : S}
theorem HR.kill {h : Hp} {w : World} (H : HR X σ h w) {b : Nat} {o : Obj} (hB : getB X.E h b = some o) (h0 : X.E.base ≤ b) : HR X σ (h.put b none) w := by
  have hlt := getB_lt X.E h b _ hB h0
  have other : ∀ a o, getB X.E (h.put b none) a = some o → getB X.E h a = some o := by
    intro a o ho
    by_cases e : b = a
    · subst e
      rw [getB_put_same X.E h b none h0 hlt] at ho
      cases ho
    · rwa [getB_put_ne X.E h b a none hlt e] at ho
  exact ⟨fun a p hp => H.live a p (other a p hp), fun a c p q r hp hq => H.inj a c p q r (other a p hp) (other c q hq), H.glob, H.base, H.new, H.lt,
    fun a c e fr r c' e' fr' i ha => H.cap a c e fr r c' e' fr' i (other a _ ha), H.below⟩
theorem run_append_none {P : Program} (w : World) (t tx ty e : TypeId) (i : TypeInfo) (ht : P.underlying t = some (.slice e)) (hi : P.info? e = some i) (sLen sCap : Nat) (x : Value) (hs : Src P i.size tx x 0 [] w) (hroom : sLen ≤ sCap) :
    (Builtin.append_ #[t, tx] ty #[.slice none sLen sCap, x]).run P w = .ok (.slice none sLen sCap) w := by
  rcases hs.kind with ⟨e', hk⟩ | hk <;> simp [Builtin.append_, run_underlying ht, run_underlying hk, sizeOf, typeInfo, hi, hs.len, hroom, hs.cells]
theorem firstN_old {size sLen sCap sCap' : Nat} {base base' : Option Addr} {h h2 : Hp} {w : World} {os : List Value} (H : HR X σ h w) (hb : (base = none ∧ base' = none) ∨ ∃ a a', base = some a ∧ base' = some a' ∧ AdR σ a a')
    (e : firstN X.E size sLen (.slice base sLen sCap) h = .ok (os, h2)) (hl : os.length = sLen * size) :
    HR X σ h2 w ∧ h2.n = h.n ∧ ∃ os', VRL σ os os' ∧ (Builtin.firstCells size sLen (.slice base' sLen sCap')).run X.E.P w.drew = .ok os'.toArray w.drew := by
  rcases hb with ⟨rfl, rfl⟩ | ⟨a, a', rfl, rfl, ha⟩
  · change (if _ then M.pure [] else fail "firstN" : M (List Value)) _ = _ at e
    split at e
    · cases e
      exact ⟨H, rfl, [], .nil, run_firstCells_none w.drew size sLen sLen sCap'⟩
    · cases e
  · obtain ⟨rfl, hlen, cs, hV, hcell⟩ := loadN_run ha H e
    exact ⟨H.rd _, rfl, cs, hV, run_firstCells_some w.drew size sLen a' sLen sCap' cs (by rw [← hV.length]; exact hl) (by simpa using hcell)⟩
/-- nothing is appended to an empty slice of which nothing is known -/
theorem appendE_R (t tx ty : TypeId) {elem : TypeId} {dx : TypeDesc} {x x' : Value} {b o c r' o' c' : Nat} (hd : X.E.P.underlying t = some (.slice elem)) (hdx : X.E.P.underlying tx = some dx) (hx : VR σ x x') (hw : Wc ≤ c) :
    RelM X (fun σ' a b => VR σ' a b) σ (M.bind (liftO "append: info" (X.E.P.info? elem)) fun i =>
    if !srcOk dx x then fail "append: of what?" else
    M.bind (lenOf' x) fun n =>
    M.bind (firstN X.E i.size n x) fun new' =>
    if new'.length ≠ n * i.size || !allL one new' then fail "append: source" else
    if n = 0 then (if 0 ≤ capLow c then M.pure (.slice (some ⟨b, o, none⟩) 0 c) else fail "append: nothing") else
    if 0 + n ≤ capLow c then
      (if (none : Option Nat).isSome = true then fail "append: spot" else
        M.bind (cells X.E b) fun q =>
        if o + 0 * i.size + new'.length ≤ q.1.size then
          M.bind (put X.E b (some (.cells (putAt q.1.toList (o + 0 * i.size) new').toArray q.2.1 q.2.2))) fun _ =>
          M.pure (.slice (some ⟨b, o, none⟩) (0 + n) c)
        else fail "append: cells")
    else if Wc ≤ c || 0 + n > 2 ^ 24 || i.bytes > 2 ^ 20 || i.bytes = 0 || !zeroFits i then fail "append: too long"
    else if c < U then
      M.bind (firstN X.E i.size 0 (.slice (some ⟨b, o, none⟩) 0 c)) fun old =>
      if old.length ≠ 0 * i.size then fail "append: old" else
      M.bind (new X.E (.cells (old ++ new').toArray elem)) fun b =>
      M.pure (.slice (some ⟨b, 0, none⟩) (0 + n) (U + (0 + n)))
    else (if ((none : Option Nat).isSome || decide (o ≠ 0)) = true then fail "append: may grow, begins inside" else
        M.bind (cells X.E b) fun q =>
        if q.2.2 ≠ (0, 0) then fail "append: may grow, frozen" else
        if q.1.size < 0 * i.size then fail "append: may grow, block shorter" else
        if q.2.1 ≠ elem then fail "append: may grow, type" else
        M.bind (put X.E b none) fun _ =>
        M.bind (new X.E (.cells (q.1.toList.take (0 * i.size) ++ new').toArray elem)) fun b =>
        M.pure (.slice (some ⟨b, 0, none⟩) (0 + n) (U + (0 + n))))) (Builtin.append_ #[t, tx] ty #[.slice (some ⟨r', o', none⟩) 0 c', x']) := by
  refine RelM.liftO fun i hi => RelM.ite (fun _ => RelM.fail) fun hok => ?_
  have hok' : srcOk dx x = true := by simpa using hok
  have hUW : U < Wc := by decide
  have hcl : capLow c = 0 := by
    unfold capLow
    rw [if_neg (by omega), if_neg (by omega)]
  intro h w y h' H e hfree
  obtain ⟨n, h1, e1, eA⟩ := bind_ok e
  clear e
  obtain ⟨vs, h2, e2, e⟩ := bind_ok eA
  clear eA
  split at e
  · cases e
  · rename_i hsrc
    simp only [Bool.or_eq_true, decide_eq_true_eq, not_or, ne_eq, Decidable.not_not, Bool.not_eq_true', Bool.not_eq_false] at hsrc
    obtain ⟨hvl, hv1⟩ := hsrc
    obtain ⟨H2, hn2, vs', hV, hS⟩ := src_R H hx hdx hok' e1 e2 hvl hv1
    by_cases hn0 : n = 0
    · rw [if_pos hn0] at e
      subst hn0
      rw [if_pos (Nat.zero_le _)] at e
      obtain ⟨rfl, rfl⟩ := ret_ok' e
      have hnil : vs' = [] := by
        have := hV.length
        rw [hvl] at this
        simpa using this.symm
      subst hnil
      exact ⟨σ, _, w, by rw [hn2]; exact Ext.refl _ _ _, run_append_room_src w t tx ty elem i hd hi r' o' 0 c' x' 0 [] hS (Nat.zero_le _) (by simp) (by simp), H2, .sliceE _ _ _ _ _ _ hw⟩
    · rw [if_neg hn0, if_neg (by rw [hcl]; omega), if_pos (by simp [hw])] at e
      cases e
set_option maxHeartbeats 4000000 in
theorem append_R (t tx ty : TypeId) {s s' x x' : Value} (hs : VR σ s s') (hx : VR σ x x') :
    RelM X (fun σ' a b => VR σ' a b) σ (append' X.E t tx s x) (Builtin.append_ #[t, tx] ty #[s', x']) := by
  unfold append'
  refine RelM.liftO fun d hd => RelM.liftO fun dx hdx => ?_
  have fin : ∀ (elem : TypeId) (base base' : Option Addr) (sLen sCap sCap' : Nat), d = .slice elem → ((base = none ∧ base' = none) ∨ ∃ a a', base = some a ∧ base' = some a' ∧ AdR σ a a') → CapR sCap sCap' → (∀ a, base = some a → U ≤ sCap → a.off = 0 → sCap' = σ.k a.block) → sCap < Wc →
      RelM X (fun σ' a b => VR σ' a b) σ (M.bind (liftO "append: info" (X.E.P.info? elem)) fun i =>
    if !srcOk dx x then fail "append: of what?" else
    M.bind (lenOf' x) fun n =>
    M.bind (firstN X.E i.size n x) fun new' =>
    if new'.length ≠ n * i.size || !allL one new' then fail "append: source" else
    if n = 0 then (if sLen ≤ capLow sCap then M.pure (.slice base sLen sCap) else fail "append: nothing") else
    if sLen + n ≤ capLow sCap then
      match base with
      | none => fail "append: nil with a capacity"
      | some a =>
        if a.spot.isSome then fail "append: spot" else
        M.bind (cells X.E a.block) fun c =>
        if a.off + sLen * i.size + new'.length ≤ c.1.size then
          M.bind (put X.E a.block (some (.cells (putAt c.1.toList (a.off + sLen * i.size) new').toArray c.2.1 c.2.2))) fun _ =>
          M.pure (.slice base (sLen + n) sCap)
        else fail "append: cells"
    else if Wc ≤ sCap || sLen + n > 2 ^ 24 || i.bytes > 2 ^ 20 || i.bytes = 0 || !zeroFits i then fail "append: too long"
    else if sCap < U then
      M.bind (firstN X.E i.size sLen (.slice base sLen sCap)) fun old =>
      if old.length ≠ sLen * i.size then fail "append: old" else
      M.bind (new X.E (.cells (old ++ new').toArray elem)) fun b =>
      M.pure (.slice (some ⟨b, 0, none⟩) (sLen + n) (U + (sLen + n)))
    else match base with
      | none => fail "append: nil with a capacity"
      | some a =>
        if a.spot.isSome || a.off ≠ 0 then fail "append: may grow, begins inside" else
        M.bind (cells X.E a.block) fun c =>
        if c.2.2 ≠ (0, 0) then fail "append: may grow, frozen" else
        if c.1.size < sLen * i.size then fail "append: may grow, block shorter" else
        if c.2.1 ≠ elem then fail "append: may grow, type" else
        M.bind (put X.E a.block none) fun _ =>
        M.bind (new X.E (.cells (c.1.toList.take (sLen * i.size) ++ new').toArray elem)) fun b =>
        M.pure (.slice (some ⟨b, 0, none⟩) (sLen + n) (U + (sLen + n)))) (Builtin.append_ #[t, tx] ty #[.slice base' sLen sCap', x']) := by
    intro elem base base' sLen sCap sCap' hde hbase hcap hk hwc
    have hUW : U < Wc := by decide
    subst hde
    refine RelM.liftO fun i hi => RelM.ite (fun _ => RelM.fail) fun hok => ?_
    have hok' : srcOk dx x = true := by simpa using hok
    intro h w y h' H e hfree
    obtain ⟨n, h1, e1, eA⟩ := bind_ok e
    clear e
    obtain ⟨vs, h2, e2, e⟩ := bind_ok eA
    clear eA
    split at e
    · cases e
    · rename_i hsrc
      simp only [Bool.or_eq_true, decide_eq_true_eq, not_or, ne_eq, Decidable.not_not, Bool.not_eq_true', Bool.not_eq_false] at hsrc
      obtain ⟨hvl, hv1⟩ := hsrc
      obtain ⟨H2, hn2, vs', hV, hS⟩ := src_R H hx hdx hok' e1 e2 hvl hv1
      clear e1 e2
      split at e
      · -- nothing is appended
        rename_i hn0
        subst hn0
        split at e
        · rename_i hle
          cases e
          have hroom := hcap.low hle
          have hnil : vs' = [] := by
            have := hV.length
            rw [hvl] at this
            simpa using this.symm
          subst hnil
          rcases hbase with ⟨rfl, rfl⟩ | ⟨a, a', rfl, rfl, ha⟩
          · exact ⟨σ, _, w, by rw [hn2]; exact Ext.refl _ _ _, run_append_none w t tx ty elem i hd hi sLen sCap' x' hS hroom, H2, .sliceNil _ _ _ hcap hwc⟩
          · have hs0 := ha.spot
            have hs1 := ha.spot'
            have hoff := ha.off
            have hblk := ha.block
            obtain ⟨ab, ao, as⟩ := a
            obtain ⟨bb, bo, bs⟩ := a'
            simp only at hs0 hs1 hoff hblk
            subst hs0 hs1 hoff
            refine ⟨σ, _, w, by rw [hn2]; exact Ext.refl _ _ _, run_append_room_src w t tx ty elem i hd hi bb bo sLen sCap' x' 0 [] hS (by simpa using hroom) (by simp) (by simp), H2, ?_⟩
            exact .slice _ _ _ _ _ _ hblk hcap (hk _ rfl) hwc
        · cases e
      · rename_i hn0
        split at e
        · -- there is room for sure
          rename_i hroom
          have hroom' := hcap.low hroom
          rcases hbase with ⟨rfl, rfl⟩ | ⟨a, a', rfl, rfl, ha⟩
          · cases e
          · have hs1 := ha.spot'
            have hoff := ha.off
            have hblk := ha.block
            obtain ⟨ab, ao, as⟩ := a
            obtain ⟨bb, bo, bs⟩ := a'
            simp only at hs1 hoff hblk
            subst hs1 hoff
            simp only at e
            split at e
            · cases e
            · rename_i hsp0
              obtain ⟨c, h3, e3, eC⟩ := bind_ok e
              clear e
              have e := eC
              clear eC
              obtain ⟨hB, rfl⟩ := cells_ok e3
              split at e
              · rename_i hle
                obtain ⟨u, h4, e4, eZ⟩ := bind_ok e
                clear e
                have e := eZ
                clear eZ
                obtain ⟨h0, _, rfl⟩ := put_ok e4
                cases e
                obtain ⟨w', hr, H'⟩ := append_room ty (H2.rd ab) hblk h0 hd hi hB hV hS hroom' hle
                have hspot : as = none := by simpa using hsp0
                subst hspot
                refine ⟨σ, _, w', by rw [← hn2]; exact Ext.refl _ _ _, hr, H', .slice _ _ _ _ _ _ hblk hcap (hk _ rfl) hwc⟩
              · cases e
        · rename_i hnoroom
          split at e
          · cases e
          · rename_i hlong
            simp only [Bool.or_eq_true, decide_eq_true_eq, not_or, Bool.not_eq_true', Bool.not_eq_false] at hlong
            obtain ⟨⟨⟨⟨_, hl24⟩, hb20⟩, hb0⟩, hzf⟩ := hlong
            obtain ⟨z, hz, hzs⟩ : ∃ z, i.zero = some z ∧ z.cells.size = i.size := by
              unfold zeroFits at hzf
              cases hz : i.zero with
              | none => rw [hz] at hzf; cases hzf
              | some z => rw [hz] at hzf; exact ⟨z, rfl, by simpa using hzf⟩
            split at e
            · -- it grows for sure
              rename_i hU
              have hcc : sCap' = sCap := hcap.1 hU
              subst hcc
              have hg : sCap' < sLen + n := by
                unfold capLow at hnoroom
                rw [if_pos hU] at hnoroom
                exact Nat.lt_of_not_le hnoroom
              obtain ⟨os, h3, e3, eZ⟩ := bind_ok e
              clear e
              have e := eZ
              clear eZ
              split at e
              · cases e
              · rename_i hol
                simp only [ne_eq, Decidable.not_not] at hol
                obtain ⟨H3, hn3, os', hO, hold⟩ := firstN_old (sCap' := sCap') H2 hbase e3 hol
                obtain ⟨b, h4, e4, eZ⟩ := bind_ok e
                clear e
                have e := eZ
                clear eZ
                obtain ⟨g0, g1, rfl, rfl⟩ := new_ok e4
                cases e
                have hnn : h3.n = h.n := hn3.trans hn2
                obtain ⟨σ', w', r, k, hx', hr, hk', hle, hrun, H'⟩ := append_grow ty H3 g0 g1 (hfree _ (by omega) (by show h3.n < h3.n + 1; omega)) hd hi hz hzs hvl hV hO hS hold hol hg (by omega) (by omega)
                refine ⟨σ', _, w', by rw [← hnn]; exact hx', hrun, H', .slice _ _ _ _ _ _ hr ⟨fun hh => ?_, fun _ => by omega⟩ (fun _ _ => hk'.symm) (by unfold U Wc; omega)⟩
                omega
            · rename_i hU
              have hU' : U ≤ sCap := Nat.le_of_not_lt hU
              rcases hbase with ⟨rfl, rfl⟩ | ⟨a, a', rfl, rfl, ha⟩
              · cases e
              · have hs1 := ha.spot'
                have hoff := ha.off
                have hblk := ha.block
                obtain ⟨ab, ao, as⟩ := a
                obtain ⟨bb, bo, bs⟩ := a'
                simp only at hs1 hoff hblk
                subst hs1 hoff
                simp only at e
                split at e
                · cases e
                · rename_i hsp
                  simp only [Bool.or_eq_true, decide_eq_true_eq, not_or, ne_eq, Decidable.not_not] at hsp
                  obtain ⟨hsp, ho0⟩ := hsp
                  have hspot : as = none := by simpa using hsp
                  subst hspot ho0
                  obtain ⟨c, h3, e3, eZ⟩ := bind_ok e
                  clear e
                  have e := eZ
                  clear eZ
                  obtain ⟨hB, rfl⟩ := cells_ok e3
                  obtain ⟨c, el, fr⟩ := c
                  split at e
                  · cases e
                  · rename_i hfr
                    split at e
                    · cases e
                    · rename_i hcs
                      split at e
                      · cases e
                      · rename_i hel
                        simp only [ne_eq, Decidable.not_not] at hfr hel
                        subst hfr hel
                        obtain ⟨u, h4, e4, eZ⟩ := bind_ok e
                        clear e
                        have e := eZ
                        clear eZ
                        obtain ⟨h0, _, rfl⟩ := put_ok e4
                        obtain ⟨b, h5, e5, eZ⟩ := bind_ok e
                        clear e
                        have e := eZ
                        clear eZ
                        obtain ⟨g0, g1, rfl, rfl⟩ := new_ok e5
                        cases e
                        have hkk : sCap' = σ.k ab := hk _ rfl hU' rfl
                        have hf : σ (h2.rd ab).n = none := hfree _ (by show h.n ≤ h2.n; omega) (by show h2.n < h2.n + 1; omega)
                        have H3 := H2.rd ab
                        obtain ⟨q, o', hq, hw, hO⟩ := H3.live _ _ hB
                        rw [hblk] at hq
                        cases hq
                        obtain ⟨c', el', fr', rfl, hC⟩ := hO
                        have hfr' : fr' = (0, 0) := hC.plain rfl
                        subst hfr'
                        have hsz : c.size ≤ c'.size := hC.size
                        have hcapc := H3.cap _ _ _ _ _ _ _ _ i hB hblk hw hi
                        have hlen := hV.length
                        simp only at hB hcs
                        by_cases hroom : sLen + n ≤ sCap'
                        · -- there was room
                          have hfit : sLen * i.size + vs'.length ≤ c'.size := by
                            rw [← hlen, hvl, ← Nat.add_mul]
                            exact Nat.le_trans (Nat.mul_le_mul_right _ (by omega)) hcapc
                          have hrun := run_append_room_src w t tx ty el i hd hi bb 0 sLen sCap' x' n vs' hS hroom (by
                            intro j hj
                            have : sLen * i.size + j < c'.size := by omega
                            simp [World.cell?, hw, Array.getElem?_eq_getElem this]) (by
                            intro j hj
                            simp [World.frozen?, hw])
                          obtain ⟨a1, a2, a3, a4, a5, a6⟩ := setCells_all bb vs' (0 + sLen * i.size) w c' el' (0, 0) hw (by omega)
                          obtain ⟨σ', hx', hr, hk', H'⟩ := HR.rebind (c2 := (c.toList.take (sLen * i.size) ++ vs).toArray) H3 hB hblk h0 g0 g1 hf a1 (fun σ' hs' => by
                            refine ⟨_, _, _, rfl, ?_, ?_, ?_, fun e => rfl⟩
                            · simp [putAt]; omega
                            · intro j v hv
                              have hv' : (c.toList.take (sLen * i.size) ++ vs)[j]? = some v := by simpa using hv
                              have : ∃ v', (putAt c'.toList (0 + sLen * i.size) vs')[j]? = some v' ∧ VR σ v v' := by
                                unfold putAt
                                rw [List.append_assoc]
                                have l1 : (c'.toList.take (0 + sLen * i.size)).length = sLen * i.size := by simp; omega
                                have l2 : (c.toList.take (sLen * i.size)).length = sLen * i.size := by simp; omega
                                rw [List.getElem?_append] at hv' ⊢
                                rw [l2] at hv'
                                rw [l1]
                                split at hv'
                                · rename_i hj
                                  rw [if_pos hj, List.getElem?_take, if_pos (by omega)]
                                  rw [List.getElem?_take, if_pos (by omega)] at hv'
                                  obtain ⟨v', e', kk⟩ := hC.get j v (by simpa using hv')
                                  exact ⟨v', by simpa using e', kk⟩
                                · rename_i hj
                                  rw [if_neg hj]
                                  obtain ⟨v', e', kk⟩ := hV.get _ _ hv'
                                  refine ⟨v', ?_, kk⟩
                                  rw [List.getElem?_append_left]
                                  · exact e'
                                  · exact (List.getElem?_eq_some_iff.1 e').1
                              obtain ⟨v', e', kk⟩ := this
                              exact ⟨v', by simpa using e', kk.mono hs'⟩
                            · intro j hj
                              simp) (fun c'' e'' fr'' i'' ho hi'' => by
                            cases ho
                            have := H3.cap _ _ _ _ _ _ _ _ i'' hB hblk hw hi''
                            simp [putAt]
                            omega) a2 a3 a4 a5 a6
                          refine ⟨σ', _, _, by rw [← hn2]; exact hx', hrun, H', .slice _ _ _ _ _ _ hr ⟨fun hh => ?_, fun _ => by omega⟩ (fun _ _ => by rw [hkk]; exact hk'.symm) (by unfold U Wc; omega)⟩
                          omega
                        · -- there was none
                          have hol : (c.toList.take (sLen * i.size)).length = sLen * i.size := by simp; omega
                          have hO' : VRL σ (c.toList.take (sLen * i.size)) (c'.toList.take (sLen * i.size)) := by
                            refine VRL.ofGet ?_ fun j v hv => ?_
                            · simp; omega
                            · have hj : j < sLen * i.size := by
                                have := (List.getElem?_eq_some_iff.1 hv).1
                                omega
                              rw [List.getElem?_take, if_pos hj] at hv
                              obtain ⟨v', e', kk⟩ := hC.get j v (by simpa using hv)
                              refine ⟨v', ?_, kk⟩
                              rw [List.getElem?_take, if_pos hj]
                              simpa using e'
                          have hold : (Builtin.firstCells i.size sLen (.slice (some ⟨bb, 0, none⟩) sLen sCap')).run X.E.P w.drew = .ok (c'.toList.take (sLen * i.size)).toArray w.drew := by
                            refine run_firstCells_some w.drew i.size sLen ⟨bb, 0, none⟩ sLen sCap' _ (by simp; omega) ?_
                            intro j v hv
                            rw [List.getElem?_take] at hv
                            split at hv
                            · have hv' : c'[j]? = some v := by simpa using hv
                              have hwd : w.drew.heap[bb]? = some (.cells c' el' (0, 0)) := hw
                              unfold Addr.add
                              split
                              · rename_i h0; subst h0; simpa [World.cell?, hwd] using hv'
                              · simpa [World.cell?, hwd] using hv'
                            · cases hv
                          have H4 := H3.kill hB h0
                          obtain ⟨σ', w', r, k, hx', hr, hk', hle, hrun, H'⟩ := append_grow ty H4 g0 g1 hf hd hi hz hzs hvl hV hO' hS hold hol (Nat.lt_of_not_le hroom) (by omega) (by omega)
                          refine ⟨σ', _, w', by rw [← hn2]; exact hx', hrun, H', .slice _ _ _ _ _ _ hr ⟨fun hh => ?_, fun _ => by omega⟩ (fun _ _ => hk'.symm) (by unfold U Wc; omega)⟩
                          omega
  cases d with
  | slice elem =>
    cases hs with
    | sliceNil n c c' hc hw => exact fin elem none none n c c' rfl (.inl ⟨rfl, rfl⟩) hc (fun _ h => by cases h) hw
    | slice b r o n c c' h hc hk hw => exact fin elem (some ⟨b, o, none⟩) (some ⟨r, o, none⟩) n c c' rfl (.inr ⟨_, _, rfl, rfl, ⟨h, rfl, rfl, rfl⟩⟩) hc (fun a ha hU h0 => by cases ha; exact hk hU h0) hw
    | sliceE b o c r' o' c' hw => exact appendE_R t tx ty hd hdx hx hw
    | _ => exact RelM.fail
  | _ => exact RelM.fail
end
end Go.Ev
