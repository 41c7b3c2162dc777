/- A part of a verified evaluator of closed calls (a canonical run, and why the machine ends every such call as it does). No condition. -/
import Derived.Test.YtadngfgbefgocaaGreatDoorEvC
import Derived.Orders
import Derived.LoopN
import Derived.Scope

namespace Go.Ev
open Go.RowKit
set_option linter.unusedVariables false
set_option linter.unusedSimpArgs false
section
variable {X : Cx} {σ : S}
theorem RelM.real {α β : Type} {A : S → α → β → Prop} {m : M α} {s' s'' : Sem β} (hr : RelM X A σ m s') (h : ∀ w, s''.run X.E.P w = s'.run X.E.P w) : RelM X A σ m s'' := by
  intro hp w c h2 H e hfree
  obtain ⟨σ1, b1, w1, x1, r1, H1, hA⟩ := hr hp w c h2 H e hfree
  exact ⟨σ1, b1, w1, x1, by rw [h]; exact r1, H1, hA⟩
theorem array2 {α : Type} {a : Array α} {x y : α} (h : a.toList = [x, y]) : a = #[x, y] := by
  obtain ⟨l⟩ := a
  simp only at h
  subst h
  rfl
theorem typeAssert_R (t a : TypeId) (ok : Bool) {x x' : Value} (hx : VR σ x x') : RelM X NxR σ (typeAssert' X.E x a ok) (do Pure.pure (Next.value (← Instr.typeAssert x' t a ok))) := by
  unfold typeAssert'
  refine RelM.liftO fun d hd => ?_
  have key : ∀ (ty : TypeId) (v v' : Value), VR σ v v' → (∀ ms, d ≠ .interface ms) → RelM X NxR σ (if ty = a then M.pure (.val (if ok then .tuple #[v, .bool true] else v)) else
    if ok then M.bind (liftO "typeAssert" (X.E.P.info? a)) fun i => M.bind (liftO "typeAssert" i.zero) fun z => if gr z then M.pure (.val (.tuple #[z, .bool false])) else fail "typeAssert: zero"
    else fail "typeAssert: fails") (do Pure.pure (Next.value (← Instr.typeAssert (.iface ty v') t a ok))) := by
    intro ty v v' hv hni
    refine RelM.ite (fun he => ?_) fun he => RelM.ite (fun hok => RelM.liftO fun i hi => RelM.liftO fun z hz => RelM.ite (fun hg => ?_) fun _ => RelM.fail) fun _ => RelM.fail
    · refine RelM.ofRun' fun w => ⟨.value (if ok then .tuple #[v', .bool true] else v'), ?_, ?_⟩
      · subst he
        cases d <;> first | exact absurd rfl (hni _) | simp [Instr.typeAssert, run_underlying hd]
      · cases ok
        · exact .val _ _ hv
        · exact .val _ _ (.tuple _ _ (.cons _ _ _ _ hv (.cons _ _ _ _ (.bool _) .nil)))
    · refine RelM.ofRun' fun w => ⟨.value (.tuple #[z, .bool false]), ?_, .val _ _ (.tuple _ _ (.cons _ _ _ _ (gr_self _ hg) (.cons _ _ _ _ (.bool _) .nil)))⟩
      cases d <;> first | exact absurd rfl (hni _) | simp [Instr.typeAssert, run_underlying hd, he, hok, zeroValue, typeInfo, hi, hz]
  split
  · exact RelM.fail
  · rename_i hni
    cases hx with
    | iface ty v v' hv => exact key _ _ _ hv hni
  · exact RelM.fail
theorem run_zero {P : Program} {w : World} {t : TypeId} {i : TypeInfo} {z : Value} (hi : P.info? t = some i) (hz : i.zero = some z) : (Go.zeroValue t).run P w = .ok z w := by
  simp [zeroValue, typeInfo, hi, hz]
theorem VRA.zeroCells {z : Array Value} (h : VRA σ z z) (n : Nat) : VRA σ (Builtin.zeroCells z n) (Builtin.zeroCells z n) := VRA.mapNat (fun i => VRA.getBang h _) _
theorem clear_R (ats : Array TypeId) (ty : TypeId) {args args' : Array Value} (hz : clearOk X.E ats args = true) (h : VRA σ args args') : RelS X (fun σ' a b => VR σ' a b) σ (Builtin.clear_ ats ty args) (Builtin.clear_ ats ty args') := by
  unfold Builtin.clear_
  unfold clearOk at hz
  cases ha : ats[0]? with
  | none => rw [ha] at hz; cases hz
  | some t =>
    rw [ha] at hz
    cases hx : args[0]? with
    | none => exact RelS.stuck
    | some x =>
      rw [hx] at hz
      obtain ⟨x', e, hv⟩ := h.get 0 x hx
      rw [e]
      refine RelS.bind (RelS.underlying t) fun σ1 d d' s1 hd => ?_
      obtain ⟨rfl, hd⟩ := hd
      have hv1 := hv.mono s1
      have done : RelS X (fun σ' a b => VR σ' a b) σ1 (Pure.pure (Value.tuple #[])) (Pure.pure (Value.tuple #[])) := RelS.pure (X := X) (VR.tuple [] [] .nil)
      cases d' with
      | slice elem =>
        cases hv1 with
        | sliceNil n c c' hc hw => exact done
        | sliceE b o c r' o' c' hw => exact done
        | slice b r o n c c' hb hc hk hw =>
          cases n with
          | zero => exact done
          | succ n =>
            dsimp only at hz
            rw [hd] at hz
            refine RelS.bind (RelS.zeroValue elem hz) fun σ2 z z' s2 hzz => ?_
            obtain ⟨rfl, hg⟩ := hzz
            exact RelS.bind (RelS.storeCells _ _ 0 (AdR.mono s2 ⟨hb, rfl, rfl, rfl⟩) (VRA.zeroCells (VRA.self σ2 hg) (n + 1))) fun _ _ _ _ _ => RelS.pure (X := X) (VR.tuple [] [] .nil)
        | _ => cases hz
      | _ => cases hv1 <;> first
        | (cases hz; done)
        | (dsimp only at hz; rw [hd] at hz; cases hz)
theorem invoke_R {t t' : Target} (ht : TgR σ t t') {args args' : Array Value} (h : VRA σ args args') : RelM X NxR σ (invoke' X.E t args) (Go.invoke t' args') := by
  unfold invoke'
  split
  · rename_i f cap
    obtain ⟨f', c', rfl, hf, hc⟩ := ht
    rcases hf with ⟨rfl, _⟩ | ⟨l, r, h1, _⟩
    · exact callFunc_R f (h.append hc)
    · cases h1
  · rename_i name cap
    obtain ⟨f', c', rfl, hf, hc⟩ := ht
    rcases hf with ⟨rfl, _⟩ | ⟨l, r, h1, _⟩
    · split
      · rename_i ty v hv
        obtain ⟨u, hu, hvu⟩ := h.get 0 _ hv
        cases hvu with
        | iface _ _ v' hv' =>
          have hmd : ∀ p : Program, p.types.size + Made.depth = p.types.size + 99 + 1 := fun _ => rfl
          have hm := method_R (X := X) (t := ty) hv' name (X.E.P.types.size + 99)
          have key : RelM X NxR σ (M.bind (method' X.E ty v name) fun r => callFunc' X.E r.1 (#[r.2] ++ args.extract 1 args.size)) (Go.method (X.E.P.types.size + 99 + 1) ty v' name >>= fun x => Go.callFunc x.1 (#[x.2] ++ args'.extract 1 args'.size)) := by
            refine RelM.bind (Fr.method _ _ _) (fun _ => Fr.callFunc _ _) hm fun σ1 r r' s1 hr => ?_
            rw [hr.1]
            refine callFunc_R _ ?_
            rw [← h.size]
            exact VRA.append (a := #[r.2]) (b := #[r'.2]) (.cons _ _ _ _ hr.2 .nil) ((h.mono s1).extract 1 args.size)
          refine RelM.real key fun w => ?_
          simp only [Go.invoke, hu, callMethod]
          show (Go.program >>= fun p => Go.method (p.types.size + Made.depth) ty v' name >>= fun x => Go.callFunc x.1 (#[x.2] ++ args'.extract 1 args'.size)).run X.E.P w = _
          rw [run_bind']
          rfl
      · exact RelM.fail
    · cases h1
  · rename_i ats ty cs
    subst ht
    split
    · rename_i t tx s x h1 h2
      have ha := array2 h1
      have hb := array2 h2
      subst ha hb
      obtain ⟨s', x', hargs', hs, hx⟩ : ∃ s' x', args' = #[s', x'] ∧ VR σ s s' ∧ VR σ x x' := by
        obtain ⟨l⟩ := args'
        have h' : VRL σ [s, x] l := h
        cases h' with
        | cons _ s' _ r' hs hr => cases hr with
          | cons _ x' _ r'' hx hr2 => cases hr2; exact ⟨s', x', rfl, hs, hx⟩
      subst hargs'
      exact RelM.val (α := Value) (append_R t tx ty hs hx) (Fr.append _ _ _ _)
    · exact RelM.fail
  · rename_i ats ty cs
    subst ht
    exact RelM.val (α := Value) (len_R ats ty h) (Fr.crun _)
  · rename_i ats ty cs
    subst ht
    exact byPrun_R h (fun as => Builtin.min_ ats ty as)
  · rename_i ats ty cs
    subst ht
    exact byPrun_R h (fun as => Builtin.max_ ats ty as)
  · rename_i ats ty cs
    subst ht
    exact RelM.ite (fun hz => RelM.val (α := Value) (clear_R ats ty hz h) (Fr.crun _)) fun _ => RelM.fail
  · exact RelM.fail
theorem resolve_R {ρ ρ' : Operand → Value} (c : Call) (type : TypeId) (h : ∀ x ∈ c.operands, VR σ (ρ x) (ρ' x)) : RelM X (fun σ' a b => DfR σ' a b) σ (resolve' ρ c type) (Go.resolve ρ' c type) := by
  have hargs : VRA σ (c.args.map ρ) (c.args.map ρ') := VRA.map _ fun x hx => h x (by simp [Call.operands, hx])
  unfold resolve' Go.resolve
  obtain ⟨callee, args, ats⟩ := c
  cases callee with
  | builtin b => exact RelM.pure ⟨rfl, hargs⟩
  | invoke r name =>
    refine RelM.pure ⟨⟨_, _, rfl, .inl ⟨rfl, fun l hl => by cases hl⟩, .nil⟩, ?_⟩
    exact VRA.append (a := #[ρ r]) (b := #[ρ' r]) (.cons _ _ _ _ (h r (by simp [Call.operands])) .nil) hargs
  | value f =>
    have hf := h f (by simp [Call.operands])
    simp only
    generalize ρ f = u at *
    generalize ρ' f = u' at *
    cases hf with
    | func fn xs ys xs' ys' hn hx hy => exact RelM.pure ⟨⟨_, _, rfl, .inl ⟨rfl, hn⟩, hy⟩, VRA.append (a := ⟨xs⟩) (b := ⟨xs'⟩) hx hargs⟩
    | yield l r xs ys xs' ys' hl hx hy => exact RelM.pure ⟨⟨_, _, rfl, .inr ⟨l, r, rfl, rfl, hl⟩, hy⟩, VRA.append (a := ⟨xs⟩) (b := ⟨xs'⟩) hx hargs⟩
    | _ => exact RelM.fail
theorem call_R {ρ ρ' : Operand → Value} (c : Call) (type : TypeId) (h : ∀ x ∈ c.operands, VR σ (ρ x) (ρ' x)) :
    RelM X NxR σ (M.bind (resolve' ρ c type) fun d => invoke' X.E d.target d.args) (do let d ← Go.resolve ρ' c type; Go.invoke d.target d.args) :=
  RelM.bind (Fr.resolve _ _ _) (fun _ => Fr.invoke _ _) (resolve_R c type h) fun σ1 d d' s1 hd => invoke_R hd.target hd.args
theorem pick_R {c c' a a' b b' : Value} (hc : VR σ c c') (ha : VR σ a a') (hb : VR σ b b') : RelM X NxR σ (pick' c a b) (do Pure.pure (Next.value (if ← asBool c' then a' else b'))) := by
  unfold pick'
  cases hc with
  | bool t =>
    cases t
    · exact RelM.pure (.val _ _ hb)
    · exact RelM.pure (.val _ _ ha)
  | _ => exact RelM.fail
theorem bin_R (op : BinOp) (t : TypeId) (x y : Operand) {a a' b b' : Value} (ha : VR σ a a') (hb : VR σ b b') : RelM X NxR σ (bin' X.E op t x y a b) (do Pure.pure (Next.value (← (do eqGuard op t x y a' b'; binOp op t a' b')))) := by
  unfold bin'
  refine RelM.ite (fun hg => ?_) fun _ => ?_
  · simp only [Bool.and_eq_true] at hg
    rw [gr_eq ha hg.1, gr_eq hb hg.2]
    exact viaG_R _
  · split
    · intro hp w r h' H e hfree
      have hr := eq_R (X := X) (t := t) ha hb false x y
      obtain ⟨b0, h1, e1, e2⟩ := bind_ok e
      cases e2
      obtain ⟨σ1, b1, w1, x1, r1, H1, hA⟩ := hr hp w b0 h' H e1 hfree
      refine ⟨σ1, .value b1, w1, x1, ?_, H1, ?_⟩
      · simp only [opOf] at r1
        rw [run_bind', r1]
        rfl
      · rw [hA]
        exact .val _ _ (.bool _)
    · intro hp w r h' H e hfree
      have hr := eq_R (X := X) (t := t) ha hb true x y
      obtain ⟨b0, h1, e1, e2⟩ := bind_ok e
      cases e2
      obtain ⟨σ1, b1, w1, x1, r1, H1, hA⟩ := hr hp w b0 h' H e1 hfree
      refine ⟨σ1, .value b1, w1, x1, ?_, H1, ?_⟩
      · simp only [opOf] at r1
        rw [run_bind', r1]
        rfl
      · rw [hA]
        exact .val _ _ (.bool _)
    · exact RelM.fail
theorem un_R (op : UnOp) {a a' : Value} (ha : VR σ a a') : RelM X NxR σ (un' X.E op a) (do Pure.pure (Next.value (← Op.unary op a'))) := by
  unfold un'
  refine RelM.ite (fun hg => ?_) fun _ => RelM.fail
  rw [gr_eq ha hg]
  exact viaG_R _
theorem look_R (t : TypeId) {x x' k k' : Value} (ok : Bool) (hx : VR σ x x') (hk : VR σ k k') : RelM X NxR σ (look' X.E t x k ok) (do Pure.pure (Next.value (← Instr.lookup t x' k' ok))) := by
  unfold look'
  refine RelM.ite (fun hc => ?_) fun _ => RelM.fail
  rw [gr_eq hk hc]
  exact RelM.val (α := Value) (lookup_R t ok hx hc) (Fr.lookup _ _ _ _)
theorem mapUp_R (t : TypeId) {m m' k k' x x' : Value} (hm : VR σ m m') (hk : VR σ k k') (hx : VR σ x x') : RelM X NxR σ (mapUp' X.E t m k x) (do Instr.mapUpdate t m' k' x'; Pure.pure Next.skip) := by
  unfold mapUp'
  refine RelM.ite (fun hc => ?_) fun _ => RelM.fail
  rw [gr_eq hk hc]
  exact RelM.bind (Fr.mapUpdate _ _ _ _) (fun _ => Fr.pure _) (mapUpdate_R t hm hc hx) fun _ _ _ _ _ => RelM.pure .skip
def OpR (σ : S) (o o' : Option Value) : Prop := (o = none ∧ o' = none) ∨ ∃ v v', o = some v ∧ o' = some v' ∧ VR σ v v'
theorem sliceOp_R (t : TypeId) {x x' : Value} {lo lo' hi hi' mx mx' : Option Value} (hx : VR σ x x') (hl : OpR σ lo lo') (hh : OpR σ hi hi') (hm : OpR σ mx mx') : RelM X NxR σ (sliceOp' X.E t x lo hi mx) (do Pure.pure (Next.value (← Instr.sliceAt t x' lo' hi' mx'))) := by
  unfold sliceOp'
  rcases hm with ⟨rfl, rfl⟩ | ⟨v, v', rfl, rfl, hv⟩
  · dsimp only
    split
    · cases hx
      rcases hl with ⟨rfl, rfl⟩ | ⟨l, l', rfl, rfl, hl⟩ <;> rcases hh with ⟨rfl, rfl⟩ | ⟨u, u', rfl, rfl, hu⟩ <;> dsimp only
      · exact viaG_R _
      · refine RelM.ite (fun hg => ?_) fun _ => RelM.fail
        rw [gr_eq hu hg]
        exact viaG_R _
      · refine RelM.ite (fun hg => ?_) fun _ => RelM.fail
        rw [gr_eq hl hg]
        exact viaG_R _
      · refine RelM.ite (fun hg => ?_) fun _ => RelM.fail
        simp only [Bool.and_eq_true] at hg
        rw [gr_eq hl hg.1, gr_eq hu hg.2]
        exact viaG_R _
    · exact RelM.val (α := Value) (slice_R t hx hl hh) (Fr.slice _ _ _ _)
  · exact RelM.fail
theorem opt_R {ρ ρ' : Operand → Value} (o : Option Operand) (ho : ∀ y, o = some y → VR σ (ρ y) (ρ' y)) : OpR σ (o.map ρ) (o.map ρ') := by
  cases o with
  | none => exact .inl ⟨rfl, rfl⟩
  | some y => exact .inr ⟨_, _, rfl, rfl, ho y rfl⟩
theorem zero_R {t : TypeId} {m : M Nx} {s' : Sem Next} (h : zeroOk X.E t = true → RelM X NxR σ m s') : RelM X NxR σ (zero' X.E t m) s' := RelM.ite h fun _ => RelM.fail
theorem recover_R {ρ' : Operand → Value} (c : Call) (type : TypeId) (hr : isRecover c = true) : (do let d ← Go.resolve ρ' c type; Go.invoke d.target d.args : Sem Next) = Pure.pure .recover := by
  obtain ⟨callee, args, ats⟩ := c
  cases callee with
  | builtin b =>
    cases b <;> first | (cases hr; done) | rfl
  | value f => cases hr
  | invoke r n => cases hr
theorem exec2_R {ρ ρ' : Operand → Value} (o : Oper) (hρ : ∀ x ∈ o.op.operands, VR σ (ρ x) (ρ' x)) : RelM X NxR σ (exec2 X.E ρ o.type o.op) (execOp ρ' o) := by
  obtain ⟨dst, op, type, pos, after, guard⟩ := o
  simp only at hρ ⊢
  cases op with
  | move x => exact RelM.pure (.val _ _ (hρ x (by simp [Op.operands])))
  | assign x => exact RelM.pure (.val _ _ (hρ x (by simp [Op.operands])))
  | pick c a b => exact pick_R (hρ c (by simp [Op.operands])) (hρ a (by simp [Op.operands])) (hρ b (by simp [Op.operands]))
  | alloc t => exact zero_R fun hz => viaV_R (RelS.alloc t hz)
  | box t x => exact viaV_R (RelS.box t (hρ x (by simp [Op.operands])))
  | build t ps =>
    refine zero_R fun hz => viaV_R (RelS.build t hz ?_)
    rw [Array.toList_map, Array.toList_map]
    exact PL.map _ fun p hp => hρ p.2 (by simp only [Op.operands, List.mem_toArray]; exact List.mem_map.2 ⟨p, hp, rfl⟩)
  | buildSlice t n ps =>
    refine RelM.ite (fun hz => viaV_R (RelS.buildSlice t n hz ?_)) fun _ => RelM.fail
    rw [Array.toList_map, Array.toList_map]
    exact PL.map _ fun p hp => hρ p.2 (by simp only [Op.operands, List.mem_toArray]; exact List.mem_map.2 ⟨p, hp, rfl⟩)
  | load t a => exact viaV_R (RelS.loadAt t (hρ a (by simp [Op.operands])))
  | store t a x => exact viaU_R (RelS.storeAt t (hρ a (by simp [Op.operands])) (hρ x (by simp [Op.operands])))
  | makeInterface t x => exact viaV_R (RelS.makeInterface t (hρ x (by simp [Op.operands])))
  | makeMap t r => exact viaV_R (RelS.makeMap t (opt_R r fun y hy => hρ y (by subst hy; simp [Op.operands])))
  | field t x f => exact viaV_R (RelS.field t f (hρ x (by simp [Op.operands])))
  | indexAddr t x i => exact viaV_R (RelS.indexAt t (hρ x (by simp [Op.operands])) (hρ i (by simp [Op.operands])))
  | index t x i => exact viaV_R (RelS.index t (hρ x (by simp [Op.operands])) (hρ i (by simp [Op.operands])))
  | extract t i => exact viaV_R (RelS.extract i (hρ t (by simp [Op.operands])))
  | binOp op t x y yt => exact bin_R op t x y (hρ x (by simp [Op.operands])) (hρ y (by simp [Op.operands]))
  | unOp op t x => exact un_R op (hρ x (by simp [Op.operands]))
  | convert s d x => exact convert_R s d (hρ x (by simp [Op.operands]))
  | makeSlice t l c =>
    refine RelM.ite (fun hc => ?_) fun _ => RelM.fail
    simp only [Bool.and_eq_true] at hc
    exact viaV_R (RelS.makeSlice t l c hc.2 (hρ l (by simp [Op.operands])) (hρ c (by simp [Op.operands])) hc.1)
  | nilCheck x => exact nil_R (hρ x (by simp [Op.operands])) { dst, op := .nilCheck x, type, pos, after, guard } ρ' x rfl rfl
  | makeFunc fn a b =>
    refine RelM.ite (fun hc => RelM.fail) fun hc => RelM.pure (.val _ _ ?_)
    have ha := VRA.map (σ := σ) (ρ := ρ) (ρ' := ρ') a fun x hx => hρ x (by simp [Op.operands, hx])
    have hb := VRA.map (σ := σ) (ρ := ρ) (ρ' := ρ') b fun x hx => hρ x (by simp [Op.operands, hx])
    generalize a.map ρ = p at *
    generalize a.map ρ' = p' at *
    generalize b.map ρ = q at *
    generalize b.map ρ' = q' at *
    obtain ⟨p⟩ := p
    obtain ⟨p'⟩ := p'
    obtain ⟨q⟩ := q
    obtain ⟨q'⟩ := q'
    exact .func _ _ _ _ _ (fun l hl => by subst hl; exact hc rfl) ha hb
  | lookup t x k ok => exact look_R t ok (hρ x (by simp [Op.operands])) (hρ k (by simp [Op.operands]))
  | mapUpdate t m k x => exact mapUp_R t (hρ m (by simp [Op.operands])) (hρ k (by simp [Op.operands])) (hρ x (by simp [Op.operands]))
  | fieldAddr s x f => exact fieldAddr_R s f (hρ x (by simp [Op.operands]))
  | range t x => exact range_R t (hρ x (by simp [Op.operands]))
  | next it isString => exact next_R isString type (hρ it (by simp [Op.operands]))
  | call c =>
    refine RelM.ite (fun hr => ?_) fun _ => call_R c type hρ
    show RelM X NxR σ (M.pure .rcv) (do let d ← Go.resolve ρ' c type; Go.invoke d.target d.args)
    rw [recover_R c type hr]
    exact RelM.pure .rcv
  | slice t x lo hi mx => exact sliceOp_R t (hρ x (by simp [Op.operands])) (opt_R lo fun y hy => hρ y (by subst hy; simp [Op.operands])) (opt_R hi fun y hy => hρ y (by subst hy; simp [Op.operands])) (opt_R mx fun y hy => hρ y (by subst hy; simp [Op.operands]))
  | typeAssert x xt a ok => exact typeAssert_R _ _ ok (hρ x (by simp [Op.operands]))
  | defer c =>
    show RelM X NxR σ (M.bind (resolve' ρ c type) fun d => M.pure (.dfr d)) (do Pure.pure (Next.defer (← Go.resolve ρ' c type)))
    exact RelM.bind (Fr.resolve _ _ _) (fun _ => Fr.pure _) (resolve_R c type fun y hy => hρ y hy) fun _ _ _ _ hd => RelM.pure (.dfr _ _ hd)
  | _ => exact RelM.fail
theorem exec_R {ρ ρ' : Operand → Value} (o : Oper) (hρ : ∀ x ∈ o.op.operands, VR σ (ρ x) (ρ' x)) : RelM X NxR σ (exec' X.E ρ o) (execOp ρ' o) :=
  RelM.ite (fun _ => exec2_R o hρ) fun _ => RelM.fail
end
end Go.Ev

namespace Go.Ev
open Go.RowKit
set_option linter.unusedVariables false
set_option linter.unusedSimpArgs false

/-- A call of the canonical run, and the machine's. -/
def CallOk (X : Cx) (call : CallM) : Prop := ∀ (σ : S) (f : FuncId) (args args' : Array Value) (h : Hp) (w : World) (v : Value) (h' : Hp), HR X σ h w → VRA σ args args' → call f args h = .ok (v, h') →
  (∀ b, h.n ≤ b → b < h'.n → σ b = none) → Calls X.E.P f args' w fun e w' => ∃ σ' v', e = .returned v' ∧ Ext σ σ' h.n h'.n ∧ HR X σ' h' w' ∧ VR σ' v v'

section
variable {X : Cx} {σ : S}
theorem putT_R {tmps : Tm} {a : Act} (h : RT σ tmps a.tmps) (dst : Option Tmp) {v v' : Value} (hv : VR σ v v') : RT σ (putT tmps dst v) (a.put dst v').tmps := by
  cases dst with
  | none => exact h
  | some d => exact h.set d hv
theorem put_defers' (a : Act) (dst : Option Tmp) (v : Value) : (a.put dst v).defers = a.defers := by cases dst <;> rfl
theorem ev_R {h : Hp} {w : World} (H : HR X σ h w) {o : Oper} {tmps : Tm} {a : Act} (hok : operOk X.E o = true)
    (ht : ∀ t, Operand.tmp t ∈ o.op.operands → VR σ (tmps.getD t) (a.tmps.getD t undef)) : ∀ x ∈ o.op.operands, VR σ (ev tmps x) (a.eval x) := by
  intro x hx
  have hall : ∀ l : List Operand, allR (fun | .const v => gr v | .global g => g < X.E.base | _ => true) l = true → ∀ x ∈ l, (match x with | .const v => gr v | .global g => decide (g < X.E.base) | _ => true) = true := by
    intro l
    induction l with
    | nil => intro _ x hx; cases hx
    | cons y l ih =>
      intro h x hx
      simp only [allR, Bool.and_eq_true] at h
      rcases List.mem_cons.1 hx with rfl | hx
      · exact h.1
      · exact ih h.2 x hx
  have hg := hall _ hok x (Array.mem_toList_iff.2 hx)
  cases x with
  | tmp t => exact ht t hx
  | const v => exact gr_self σ hg
  | global g =>
    simp only [decide_eq_true_eq] at hg
    exact .ptr _ _ _ (H.glob g hg)
  | func f => exact .func _ _ _ _ _ (fun l hl => by cases hl) .nil .nil
theorem exec_ok {E : Env} {ρ : Operand → Value} {o : Oper} {h h' : Hp} {n : Nx} (e : exec' E ρ o h = .ok (n, h')) : operOk E o = true := by
  unfold exec' at e
  split at e
  · assumption
  · cases e
/-- an operation -/
theorem evOp_wp {call : CallM} (hc : CallOk X call) (hF : ∀ f args, Fr X.E (call f args)) {ops : Array Oper} {tmps : Tm} {o : Oper} {a : Act} {h h' : Hp} {w : World} {v : Value} {Q : Exit → Act → World → Prop}
    (ht : ∀ t, Operand.tmp t ∈ o.op.operands → VR σ (tmps.getD t) (a.tmps.getD t undef)) (hw : Region.wanted o (yielded ops a.tmps) = Region.wanted o (yieldedT ops tmps)) (H : HR X σ h w)
    (e : evOp X.E call ops tmps o h = .ok (v, h')) (hfree : ∀ b, h.n ≤ b → b < h'.n → σ b = none) {K : Act → World → Prop}
    (hK : ∀ σ' v' w', Ext σ σ' h.n h'.n → HR X σ' h' w' → VR σ' v v' → K (a.put o.dst v') w') :
    if Region.wanted o (yielded ops a.tmps) then o.wp X.E.P a w K Q else K (a.put o.dst undef) w := by
  unfold evOp at e
  rw [hw]
  split at e
  · rename_i hwant
    rw [if_pos hwant]
    obtain ⟨n, h1, e1, e2⟩ := bind_ok e
    clear e
    have m1 : h.n ≤ h1.n := (Fr.exec _ _).mono e1
    have m2 : h1.n ≤ h'.n := by
      cases n with
      | val v => cases e2; exact Nat.le_refl _
      | skip => cases e2; exact Nat.le_refl _
      | enter f args => exact (hF f args).mono e2
      | dfr d => cases e2
      | rcv => cases e2
    obtain ⟨σ1, n', w1, x1, r1, H1, hN⟩ := exec_R (X := X) o (ev_R H (exec_ok e1) ht) h w n h1 H e1 (fun b hb hl => hfree b hb (by omega))
    unfold Oper.wp
    rw [r1]
    cases hN with
    | val u u' hu =>
      cases e2
      exact hK σ1 u' w1 x1 H1 hu
    | skip =>
      cases e2
      exact hK σ1 undef w1 x1 H1 (undef_VR σ1)
    | enter f args args' hargs =>
      have := hc σ1 f args args' h1 w1 v h' H1 hargs e2 (fun b hb hl => x1.out b (hfree b (by omega) hl) (by omega))
      refine this.mono fun en w2 hen => ?_
      obtain ⟨σ2, v', rfl, x2, H2, hv⟩ := hen
      exact hK σ2 v' w2 (x1.trans x2 m1 m2) H2 hv
    | dfr d d' hd => cases e2
    | rcv => cases e2
  · rename_i hwant
    rw [if_neg hwant]
    cases e
    exact hK σ undef w (Ext.refl _ _ _) H (undef_VR σ)
theorem yielded_R {tmps : Tm} {a : Act} (ops : Array Oper) (g : Nat) (h : ∀ t, (ops[g]?).bind (·.dst) = some t → (tmps.get? t = none ∧ a.tmps[t]? = none) ∨ ∃ v v', tmps.get? t = some v ∧ a.tmps[t]? = some v' ∧ VR σ v v') :
    yielded ops a.tmps g = yieldedT ops tmps g := by
  unfold yielded yieldedT
  cases hd : (ops[g]?).bind (·.dst) with
  | none => rfl
  | some t =>
    simp only [Option.bind_some]
    rcases h t hd with ⟨h1, h2⟩ | ⟨v, v', h1, h2, hv⟩
    · rw [h1, h2]
    · rw [h1, h2]
      cases hv <;> rfl
theorem wanted_R {tmps : Tm} {a : Act} (ops : Array Oper) (o : Oper) (h : ∀ t, t ∈ o.looksAt ops → (tmps.get? t = none ∧ a.tmps[t]? = none) ∨ ∃ v v', tmps.get? t = some v ∧ a.tmps[t]? = some v' ∧ VR σ v v') :
    Region.wanted o (yielded ops a.tmps) = Region.wanted o (yieldedT ops tmps) := by
  unfold Region.wanted
  cases hg : o.guard with
  | none => rfl
  | some p =>
    obtain ⟨g, want⟩ := p
    simp only
    rw [yielded_R (σ := σ) ops g fun t ht => h t ?_]
    unfold Oper.looksAt
    rw [hg]
    exact List.mem_append_right _ (by simp [ht])
theorem looksAt_tmp {ops : Array Oper} {o : Oper} {t : Tmp} (h : Operand.tmp t ∈ o.op.operands) : t ∈ o.looksAt ops :=
  List.mem_append_left _ (List.mem_filterMap.2 ⟨.tmp t, by simpa using h, rfl⟩)
/-- a region in the order of its text -/
theorem evOps_wp {call : CallM} (hc : CallOk X call) (hF : ∀ f args, Fr X.E (call f args)) {ops : Array Oper} {Q : Exit → Act → World → Prop} {ds : List Deferred} {tmps' : Tm} {h' : Hp} : ∀ (l : List Oper) (i : Nat) {σ : S} (tmps : Tm) (a : Act) (h : Hp) (w : World),
    ops.toList.drop i = l → RT σ tmps a.tmps → a.defers = ds → HR X σ h w → evOps X.E call ops l tmps h = .ok (tmps', h') → (∀ b, h.n ≤ b → b < h'.n → σ b = none) →
    (∀ σ' a' w', Ext σ σ' h.n h'.n → HR X σ' h' w' → RT σ' tmps' a'.tmps → a'.defers = ds → Q .normal a' w') → wpOps X.E.P ops Q (List.range' i l.length) a w
  | [], i, σ, tmps, a, h, w, hl, hV, hd, H, e, hfree, hQ => by
    cases e
    exact hQ σ a w (Ext.refl _ _ _) H hV hd
  | o :: rest, i, σ, tmps, a, h, w, hl, hV, hd, H, e, hfree, hQ => by
    have hi : ops[i]? = some o := by
      have : (ops.toList.drop i)[0]? = some o := by rw [hl]; rfl
      simpa using this
    have hrest : ops.toList.drop (i + 1) = rest := by
      rw [← List.drop_drop, hl]
      rfl
    obtain ⟨v, h1, e1, e2⟩ := bind_ok e
    have m1 : h.n ≤ h1.n := (Fr.evOp hF _ _ _).mono e1
    have m2 : h1.n ≤ h'.n := (Fr.evOps hF _ _ _).mono e2
    have hg : ∀ t, (tmps.get? t = none ∧ a.tmps[t]? = none) ∨ ∃ v v', tmps.get? t = some v ∧ a.tmps[t]? = some v' ∧ VR σ v v' := fun t => hV.get? t
    have key := evOp_wp (Q := Q) (K := wpOps X.E.P ops Q (List.range' (i + 1) rest.length)) hc hF (fun t _ => hV.getD t) (wanted_R ops o fun t _ => hg t) H e1 (fun b hb hlt => hfree b hb (by omega)) fun σ1 v' w1 x1 H1 hv =>
      evOps_wp hc hF rest (i + 1) (putT tmps o.dst v) (a.put o.dst v') h1 w1 hrest (putT_R (hV.mono x1.sub) _ hv) (by rw [put_defers']; exact hd) H1 e2 (fun b hb hlt => x1.out b (hfree b (by omega) hlt) (by omega))
        fun σ2 a2 w2 x2 H2 hV2 hd2 => hQ σ2 a2 w2 (x1.trans x2 m1 m2) H2 hV2 hd2
    rw [List.length_cons, List.range'_succ, wpOps_cons]
    unfold wpOp
    rw [hi]
    simp only
    split
    · rename_i hwant
      rw [if_pos hwant] at key
      exact .inl key
    · rename_i hwant
      rw [if_neg hwant] at key
      exact key
end
end Go.Ev

namespace Go.Ev
open Go.RowKit
set_option linter.unusedVariables false
set_option linter.unusedSimpArgs false

/-! ### what a drawn region's canonical run leaves -/
structure Tr where
  T : Nat → Tm
  H : Nat → Hp
  L : Nat → List (Nat × Bool)
  V : Nat → Value
  PR : Nat → List Nat
def bindsOf (o : Oper) : List Edge := o.after.toList.filter (Region.binds .any)
structure TrAt (E : Env) (call : CallM) (ops : Array Oper) (s : Tr) (i : Nat) (o : Oper) : Prop where
  run : ∃ h1 : Hp, evOp E call ops (s.T i) o { s.H i with lg := [] } = .ok (s.V i, h1) ∧ h1.lg = s.L i ∧ (∀ b, getB E h1 b = getB E (s.H (i + 1)) b) ∧ h1.n = (s.H (i + 1)).n
  put : s.T (i + 1) = putT (s.T i) o.dst (s.V i)
  preds : s.PR i = (bindsOf o).flatMap fun e => e.on :: s.PR e.on
  meet : ∀ j p, j < i → ops[j]? = some p → j ∈ s.PR i ∨ (Foot.apart (footOf (s.L j)) (footOf (s.L i)) = true ∧ Oper.apart ops p o = true)
  back : ∀ e ∈ bindsOf o, e.on < i
def TrOk (E : Env) (call : CallM) (ops : Array Oper) (s : Tr) (m : Nat) : Prop := ∀ i o, i < m → ops[i]? = some o → TrAt E call ops s i o
def DoneOk (ops : Array Oper) (s : Tr) (i : Nat) (done : List Rec) : Prop :=
  (∀ j p, j < i → ops[j]? = some p → ∃ r ∈ done, r.i = j ∧ r.o = p ∧ r.preds = s.PR j ∧ r.foot = footOf (s.L j)) ∧
  (∀ j, j < i → (done.find? (·.i == j)).map (·.preds) = some (s.PR j)) ∧ (∀ r ∈ done, r.i < i)

theorem drawn_trace {E : Env} {call : CallM} {ops : Array Oper} {tmps' : Tm} {h' : Hp} (hF : ∀ f args, Fr E (call f args)) : ∀ (l : List Oper) (i : Nat) (done : List Rec) (s : Tr), ops.toList.drop i = l → TrOk E call ops s i → DoneOk ops s i done → i ≤ ops.size →
    evDrawn E call ops l i done (s.T i) (s.H i) = .ok (tmps', h') →
    ∃ s' : Tr, TrOk E call ops s' ops.size ∧ s'.T 0 = s.T 0 ∧ s'.H 0 = s.H 0 ∧ s'.T ops.size = tmps' ∧ s'.H ops.size = h' ∧ (∀ k, k ≤ i → s'.T k = s.T k ∧ s'.H k = s.H k)
  | [], i, done, s, hl, hs, hd, hle, e => by
    have hi : i = ops.size := by
      have := congrArg List.length hl
      simp at this
      omega
    subst hi
    cases e
    exact ⟨s, hs, rfl, rfl, rfl, rfl, fun _ _ => ⟨rfl, rfl⟩⟩
  | o :: rest, i, done, s, hl, hs, hd, hle, e => by
    have hi : ops[i]? = some o := by
      have : (ops.toList.drop i)[0]? = some o := by rw [hl]; rfl
      simpa using this
    have hlt : i < ops.size := (Array.getElem?_eq_some_iff.1 hi).1
    have hrest : ops.toList.drop (i + 1) = rest := by
      rw [← List.drop_drop, hl]
      rfl
    obtain ⟨r, h1, e1, e2⟩ := bind_ok e
    clear e
    obtain ⟨h0, er, elg, eh⟩ := heard_ok e1
    split at e2
    · rename_i hcond
      simp only [Bool.and_eq_true, List.all_eq_true, decide_eq_true_eq] at hcond
      obtain ⟨hmeet, hback⟩ := hcond
      have hback' : ∀ e ∈ bindsOf o, e.on < i := hback
      have hpreds : predsOf done o = (bindsOf o).flatMap fun e => e.on :: s.PR e.on := by
        unfold predsOf bindsOf
        have : ∀ l : List Edge, (∀ e ∈ l, e.on < i) → (l.flatMap fun e => e.on :: ((done.find? (·.i == e.on)).map (·.preds)).getD []) = l.flatMap fun e => e.on :: s.PR e.on := by
          intro l
          induction l with
          | nil => intro _; rfl
          | cons e l ih =>
            intro h
            rw [List.flatMap_cons, List.flatMap_cons, ih (fun e he => h e (by simp [he])), hd.2.1 e.on (h e (by simp))]
            rfl
        exact this _ hback'
      -- the longer trace
      let s2 : Tr := { T := fun k => if k = i + 1 then putT (s.T i) o.dst r.1 else s.T k, H := fun k => if k = i + 1 then h1 else s.H k, L := fun k => if k = i then r.2 else s.L k, V := fun k => if k = i then r.1 else s.V k, PR := fun k => if k = i then predsOf done o else s.PR k }
      have T2 : ∀ k, k ≤ i → s2.T k = s.T k := fun k hk => if_neg (by omega)
      have H2 : ∀ k, k ≤ i → s2.H k = s.H k := fun k hk => if_neg (by omega)
      have L2 : ∀ k, k < i → s2.L k = s.L k := fun k hk => if_neg (by omega)
      have V2 : ∀ k, k < i → s2.V k = s.V k := fun k hk => if_neg (by omega)
      have P2 : ∀ k, k < i → s2.PR k = s.PR k := fun k hk => if_neg (by omega)
      have T2' : s2.T (i + 1) = putT (s.T i) o.dst r.1 := if_pos rfl
      have H2' : s2.H (i + 1) = h1 := if_pos rfl
      have L2' : s2.L i = r.2 := if_pos rfl
      have V2' : s2.V i = r.1 := if_pos rfl
      have P2' : s2.PR i = predsOf done o := if_pos rfl
      have flat : ∀ l : List Edge, (∀ e ∈ l, e.on < i) → (l.flatMap fun e => e.on :: s2.PR e.on) = l.flatMap fun e => e.on :: s.PR e.on := by
        intro l
        induction l with
        | nil => intro _; rfl
        | cons e l ih =>
          intro h
          rw [List.flatMap_cons, List.flatMap_cons, ih (fun e he => h e (by simp [he])), P2 e.on (h e (by simp))]
      have hs2 : TrOk E call ops s2 (i + 1) := by
        intro k p hk hp
        by_cases hki : k = i
        · subst hki
          rw [hi] at hp
          cases hp
          refine ⟨⟨h0, ?_, ?_, ?_, ?_⟩, ?_, ?_, ?_, hback'⟩
          · rw [T2 k (Nat.le_refl _), H2 k (Nat.le_refl _), V2']
            exact er
          · rw [L2']; exact elg
          · intro b; rw [H2', eh]; rfl
          · rw [H2', eh]
          · rw [T2', T2 k (Nat.le_refl _), V2']
          · rw [P2', flat _ hback']
            exact hpreds
          · intro j p hj hp
            obtain ⟨q, hq, hqi, hqo, hqp, hqf⟩ := hd.1 j p hj hp
            have := hmeet q hq
            unfold meets at this
            simp only [Bool.or_eq_true, Bool.and_eq_true, List.contains_iff_mem] at this
            rw [hqi, hqo, hqf] at this
            rw [P2', L2', L2 j hj]
            exact this
        · have hk' : k < i := by omega
          have A := hs k p hk' hp
          obtain ⟨g1, a1, a2, a3, a4⟩ := A.run
          refine ⟨⟨g1, ?_, ?_, ?_, ?_⟩, ?_, ?_, ?_, A.back⟩
          · rw [T2 k (by omega), H2 k (by omega), V2 k hk']
            exact a1
          · rw [L2 k hk']; exact a2
          · intro b; rw [H2 (k + 1) (by omega)]; exact a3 b
          · rw [H2 (k + 1) (by omega)]; exact a4
          · rw [T2 (k + 1) (by omega), T2 k (by omega), V2 k hk']
            exact A.put
          · rw [P2 k hk', flat _ (fun e he => Nat.lt_trans (A.back e he) hk')]
            exact A.preds
          · intro j q hj hq
            rw [P2 k hk', L2 k hk', L2 j (by omega)]
            exact A.meet j q hj hq
      have hd2 : DoneOk ops s2 (i + 1) ({ i, o, preds := predsOf done o, foot := footOf r.2 } :: done) := by
        refine ⟨?_, ?_, ?_⟩
        · intro j p hj hp
          by_cases hji : j = i
          · subst hji
            rw [hi] at hp
            cases hp
            exact ⟨_, List.mem_cons_self, rfl, rfl, P2'.symm, by rw [L2']⟩
          · obtain ⟨q, hq, hqi, hqo, hqp, hqf⟩ := hd.1 j p (by omega) hp
            exact ⟨q, List.mem_cons_of_mem _ hq, hqi, hqo, by rw [P2 j (by omega)]; exact hqp, by rw [L2 j (by omega)]; exact hqf⟩
        · intro j hj
          by_cases hji : j = i
          · subst hji
            simp [P2']
          · have : (i == j) = false := by simp; omega
            rw [List.find?_cons]
            simp only [this]
            rw [P2 j (by omega)]
            exact hd.2.1 j (by omega)
        · intro q hq
          rcases List.mem_cons.1 hq with rfl | hq
          · exact Nat.lt_succ_self _
          · have := hd.2.2 q hq
            omega
      obtain ⟨s', b1, b2, b3, b4, b5, b6⟩ := drawn_trace hF rest (i + 1) _ s2 hrest hs2 hd2 hlt (by rw [T2', H2']; exact e2)
      exact ⟨s', b1, by rw [b2, T2 0 (by omega)], by rw [b3, H2 0 (by omega)], b4, b5, fun k hk => ⟨by rw [(b6 k (by omega)).1, T2 k hk], by rw [(b6 k (by omega)).2, H2 k hk]⟩⟩
    · cases e2
end Go.Ev

namespace Go.Ev
open Go.RowKit
set_option linter.unusedVariables false
set_option linter.unusedSimpArgs false

/-- what a block holds when those of SS have gone (the last writer in the order of the text) -/
def KS (E : Env) (s : Tr) (SS : Nat → Bool) (b : Nat) : Nat → Option Obj
  | 0 => getB E (s.H 0) b
  | i + 1 => if SS i && (s.L i).contains (b, true) then getB E (s.H (i + 1)) b else KS E s SS b i
/-- what a slot holds -/
def TS (ops : Array Oper) (s : Tr) (SS : Nat → Bool) (t : Nat) : Nat → Option Value
  | 0 => ((s.T 0).get? t)
  | i + 1 => if SS i && ((ops[i]?).bind (·.dst) == some t) then ((s.T (i + 1)).get? t) else TS ops s SS t i

section
variable {E : Env} {call : CallM} {ops : Array Oper} {s : Tr} {SS : Nat → Bool}
theorem KS_skip (b i : Nat) : ∀ k, (∀ j, i ≤ j → j < i + k → SS j = true → (b, true) ∉ s.L j) → KS E s SS b (i + k) = KS E s SS b i
  | 0, _ => rfl
  | k + 1, h => by
    show (if SS (i + k) && (s.L (i + k)).contains (b, true) then _ else KS E s SS b (i + k)) = _
    rw [if_neg, KS_skip b i k fun j h1 h2 => h j h1 (by omega)]
    simp only [Bool.and_eq_true, List.contains_iff_mem, not_and]
    exact h (i + k) (by omega) (by omega)
theorem TS_skip (t i : Nat) : ∀ k, (∀ j, i ≤ j → j < i + k → SS j = true → (ops[j]?).bind (·.dst) ≠ some t) → TS ops s SS t (i + k) = TS ops s SS t i
  | 0, _ => rfl
  | k + 1, h => by
    show (if SS (i + k) && ((ops[i + k]?).bind (·.dst) == some t) then _ else TS ops s SS t (i + k)) = _
    rw [if_neg, TS_skip t i k fun j h1 h2 => h j h1 (by omega)]
    simp only [Bool.and_eq_true, beq_iff_eq, not_and]
    exact h (i + k) (by omega) (by omega)
theorem TrAt.keep {i : Nat} {o : Oper} (hF : ∀ f args, Fr E (call f args)) (A : TrAt E call ops s i o) {b : Nat} (hb : (b, true) ∉ s.L i) : getB E (s.H (i + 1)) b = getB E (s.H i) b := by
  obtain ⟨h1, a1, a2, a3, a4⟩ := A.run
  obtain ⟨n1, L, l1, s1, g1⟩ := Fr.evOp hF ops (s.T i) o _ _ _ a1
  rw [← a3, s1 b]
  · rfl
  · have : L = s.L i := by rw [← a2, l1]; simp
    rw [this]
    exact hb
theorem KS_agree (hF : ∀ f args, Fr E (call f args)) (b : Nat) : ∀ i, TrOk E call ops s ops.size → i ≤ ops.size → (∀ j, j < i → (b, true) ∈ s.L j → SS j = true) → KS E s SS b i = getB E (s.H i) b
  | 0, _, _, _ => rfl
  | i + 1, hs, hi, h => by
    show (if SS i && (s.L i).contains (b, true) then _ else KS E s SS b i) = _
    split
    · rfl
    · rename_i hc
      simp only [Bool.and_eq_true, List.contains_iff_mem, not_and] at hc
      have hn : (b, true) ∉ s.L i := fun hm => hc (h i (by omega) hm) hm
      rw [KS_agree hF b i hs (by omega) fun j hj => h j (by omega)]
      obtain ⟨o, ho⟩ : ∃ o, ops[i]? = some o := ⟨ops[i], by simp⟩
      exact ((hs i o (by omega) ho).keep hF hn).symm
theorem putT_ne {tmps : Tm} {dst : Option Tmp} {v : Value} {t : Nat} (h : dst ≠ some t) : (putT tmps dst v).get? t = tmps.get? t := by
  cases dst with
  | none => rfl
  | some d => exact Tm.get?_set_ne tmps v (fun e => h (by rw [e]))
theorem putT_n {tmps : Tm} {dst : Option Tmp} {v : Value} : (putT tmps dst v).n = tmps.n := by
  cases dst with
  | none => rfl
  | some d => exact Tm.set_n _ _ _
theorem Tr.size (hs : TrOk E call ops s ops.size) : ∀ k, k ≤ ops.size → (s.T k).n = (s.T 0).n := by
  intro k
  induction k with
  | zero => intro _; rfl
  | succ k ih =>
    intro hk
    rw [← ih (by omega), (hs k ops[k] (by omega) (by simp)).put]
    exact putT_n
theorem TS_agree (t : Nat) : ∀ i, TrOk E call ops s ops.size → i ≤ ops.size → (∀ j, j < i → (ops[j]?).bind (·.dst) = some t → SS j = true) → TS ops s SS t i = ((s.T i).get? t)
  | 0, _, _, _ => rfl
  | i + 1, hs, hi, h => by
    show (if SS i && ((ops[i]?).bind (·.dst) == some t) then _ else TS ops s SS t i) = _
    split
    · rfl
    · rename_i hc
      simp only [Bool.and_eq_true, beq_iff_eq, not_and] at hc
      have hn : (ops[i]?).bind (·.dst) ≠ some t := fun hm => hc (h i (by omega) hm) hm
      rw [TS_agree t i hs (by omega) fun j hj => h j (by omega)]
      obtain ⟨o, ho⟩ : ∃ o, ops[i]? = some o := ⟨ops[i], by simp⟩
      rw [(hs i o (by omega) ho).put]
      rw [ho] at hn
      exact (putT_ne hn).symm
theorem KS_congr {SS' : Nat → Bool} (b : Nat) : ∀ i, (∀ j, j < i → (b, true) ∈ s.L j → SS' j = SS j) → KS E s SS' b i = KS E s SS b i
  | 0, _ => rfl
  | i + 1, h => by
    show (if SS' i && (s.L i).contains (b, true) then _ else KS E s SS' b i) = (if SS i && (s.L i).contains (b, true) then _ else KS E s SS b i)
    rw [KS_congr b i fun j hj => h j (by omega)]
    by_cases hm : (b, true) ∈ s.L i
    · rw [h i (by omega) hm]
    · have : (s.L i).contains (b, true) = false := by
        rw [Bool.eq_false_iff]
        intro hh
        exact hm (List.contains_iff_mem.1 hh)
      rw [this]
      simp
theorem TS_congr {SS' : Nat → Bool} (t : Nat) : ∀ i, (∀ j, j < i → (ops[j]?).bind (·.dst) = some t → SS' j = SS j) → TS ops s SS' t i = TS ops s SS t i
  | 0, _ => rfl
  | i + 1, h => by
    show (if SS' i && ((ops[i]?).bind (·.dst) == some t) then _ else TS ops s SS' t i) = (if SS i && ((ops[i]?).bind (·.dst) == some t) then _ else TS ops s SS t i)
    rw [TS_congr t i fun j hj => h j (by omega)]
    by_cases hm : (ops[i]?).bind (·.dst) = some t
    · rw [h i (by omega) hm]
    · have : ((ops[i]?).bind (·.dst) == some t) = false := by simpa using hm
      rw [this]
      simp

theorem apartL_spec {xs ys : List Nat} (h : apartL xs ys = true) {x : Nat} (hx : x ∈ xs) : x ∉ ys := by
  induction xs with
  | nil => cases hx
  | cons a xs ih =>
    simp only [apartL, Bool.and_eq_true, Bool.not_eq_true'] at h
    rcases List.mem_cons.1 hx with rfl | hx
    · intro hy
      have := List.contains_iff_mem.2 hy
      rw [h.1] at this
      cases this
    · exact ih h.2 hx
theorem mem_wr {lg : List (Nat × Bool)} {b : Nat} (h : (b, true) ∈ lg) : b ∈ (footOf lg).wr := List.mem_map.2 ⟨(b, true), List.mem_filter.2 ⟨h, rfl⟩, rfl⟩
theorem mem_rd {lg : List (Nat × Bool)} {b : Nat} (h : (b, false) ∈ lg) : b ∈ (footOf lg).rd := List.mem_map.2 ⟨(b, false), List.mem_filter.2 ⟨h, rfl⟩, rfl⟩
/-- an operation that writes what another meets does not stand apart from it -/
theorem foot_meet {l l' : List (Nat × Bool)} {b : Nat} {w : Bool} (h : Foot.apart (footOf l) (footOf l') = true) (h1 : (b, true) ∈ l) : (b, w) ∉ l' := by
  simp only [Foot.apart, Bool.and_eq_true] at h
  intro h2
  cases w with
  | false => exact apartL_spec h.1.1 (mem_wr h1) (mem_rd h2)
  | true => exact apartL_spec h.1.2 (mem_wr h1) (mem_wr h2)
theorem foot_meet' {l l' : List (Nat × Bool)} {b : Nat} {w : Bool} (h : Foot.apart (footOf l) (footOf l') = true) (h1 : (b, true) ∈ l') : (b, w) ∉ l := by
  simp only [Foot.apart, Bool.and_eq_true] at h
  intro h2
  cases w with
  | false => exact apartL_spec h.2 (mem_wr h1) (mem_rd h2)
  | true => exact apartL_spec h.1.2 (mem_wr h2) (mem_wr h1)
theorem HR.congr {X : Cx} {σ : S} {h h' : Hp} {w : World} (H : HR X σ h w) (e : ∀ b, getB X.E h' b = getB X.E h b) : HR X σ h' w :=
  ⟨fun b o hb => H.live b o (by rw [← e]; exact hb), fun a b o p r ha hb => H.inj a b o p r (by rw [← e]; exact ha) (by rw [← e]; exact hb), H.glob, H.base, H.new, H.lt,
    fun b c el fr r c' e' fr' i hb => H.cap b c el fr r c' e' fr' i (by rw [← e]; exact hb), H.below⟩

/-- the state of a drawn region: those of SS have gone -/
structure DInv (X : Cx) (ops : Array Oper) (s : Tr) (σ₀ : S) (ds : List Deferred) (SS : Nat → Bool) (a : Act) (w : World) : Prop where
  ex : ∃ (σ : S) (g : Hp), HR X σ g w ∧ (∀ b, getB X.E g b = KS X.E s SS b ops.size) ∧ (∀ i, i < ops.size → SS i = false → ∀ b, (s.H i).n ≤ b → b < (s.H (i + 1)).n → σ b = none) ∧
    (∀ t, (TS ops s SS t ops.size = none ∧ a.tmps[t]? = none) ∨ ∃ v v', TS ops s SS t ops.size = some v ∧ a.tmps[t]? = some v' ∧ VR σ v v') ∧ Ext σ₀ σ (s.H 0).n (s.H ops.size).n
  defers : a.defers = ds
  closed : ∀ i, i < ops.size → SS i = true → ∀ j ∈ s.PR i, SS j = true
  small : (s.T 0).n ≤ 4094

theorem Tr.mono (hF : ∀ f args, Fr E (call f args)) (hs : TrOk E call ops s ops.size) {i : Nat} (hi : i < ops.size) : (s.H i).n ≤ (s.H (i + 1)).n := by
  obtain ⟨h1, a1, a2, a3, a4⟩ := (hs i ops[i] hi (by simp)).run
  have := (Fr.evOp hF ops (s.T i) ops[i]).mono a1
  rw [a4] at this
  exact this
theorem Tr.monoL (hF : ∀ f args, Fr E (call f args)) (hs : TrOk E call ops s ops.size) : ∀ {k i : Nat}, i + k ≤ ops.size → (s.H i).n ≤ (s.H (i + k)).n
  | 0, i, _ => Nat.le_refl _
  | k + 1, i, h => Nat.le_trans (Tr.monoL hF hs (k := k) (by omega)) (Tr.mono hF hs (i := i + k) (by omega))
theorem Tr.monoLe (hF : ∀ f args, Fr E (call f args)) (hs : TrOk E call ops s ops.size) {i j : Nat} (hij : i ≤ j) (h : j ≤ ops.size) : (s.H i).n ≤ (s.H j).n := by
  have := Tr.monoL hF hs (k := j - i) (i := i) (by omega)
  rwa [Nat.add_sub_cancel' hij] at this
end
end Go.Ev

namespace Go.Ev
open Go.RowKit
set_option linter.unusedVariables false
set_option linter.unusedSimpArgs false
section
variable {X : Cx} {call : CallM} {ops : Array Oper} {s : Tr}
def withI (SS : Nat → Bool) (i : Nat) : Nat → Bool := fun j => j == i || SS j
theorem KS_last {E : Env} {SS : Nat → Bool} {b i : Nat} (hi : i < ops.size) (hS : SS i = true) (hb : (b, true) ∈ s.L i) (hlater : ∀ j, i < j → j < ops.size → SS j = true → (b, true) ∉ s.L j) :
    KS E s SS b ops.size = getB E (s.H (i + 1)) b := by
  have h1 := KS_skip (E := E) (s := s) (SS := SS) b (i + 1) (ops.size - (i + 1)) fun j hj1 hj2 hj3 => hlater j (by omega) (by omega) hj3
  rw [Nat.add_sub_cancel' (by omega)] at h1
  rw [h1]
  show (if SS i && (s.L i).contains (b, true) then _ else _) = _
  rw [if_pos]
  simp [hS, hb]
theorem TS_last {SS : Nat → Bool} {t i : Nat} (hi : i < ops.size) (hS : SS i = true) (hd : (ops[i]?).bind (·.dst) = some t) (hlater : ∀ j, i < j → j < ops.size → SS j = true → (ops[j]?).bind (·.dst) ≠ some t) :
    TS ops s SS t ops.size = ((s.T (i + 1)).get? t) := by
  have h1 := TS_skip (ops := ops) (s := s) (SS := SS) t (i + 1) (ops.size - (i + 1)) fun j hj1 hj2 hj3 => hlater j (by omega) (by omega) hj3
  rw [Nat.add_sub_cancel' (by omega)] at h1
  rw [h1]
  show (if SS i && ((ops[i]?).bind (·.dst) == some t) then _ else _) = _
  rw [if_pos]
  simp only [Bool.and_eq_true, beq_iff_eq]
  exact ⟨hS, hd⟩
theorem drawn_step (hc : CallOk X call) (hF : ∀ f args, Fr X.E (call f args)) (hs : TrOk X.E call ops s ops.size) {σ₀ : S} {ds : List Deferred} {SS : Nat → Bool} {a : Act} {w : World} (hI : DInv X ops s σ₀ ds SS a w) {i : Nat} {o : Oper} (ho : ops[i]? = some o) (hSi : SS i = false)
    (hpre : ∀ e ∈ bindsOf o, SS e.on = true) {Q : Exit → Act → World → Prop} {K : Act → World → Prop} (hK : ∀ a' w', DInv X ops s σ₀ ds (withI SS i) a' w' → K a' w') :
    if Region.wanted o (yielded ops a.tmps) then o.wp X.E.P a w K Q else K (a.put o.dst undef) w := by
  have hi : i < ops.size := (Array.getElem?_eq_some_iff.1 ho).1
  obtain ⟨⟨σ, g, H, hg, hfree, htm, hext⟩, hdef, hcl, hsm⟩ := hI
  have A := hs i o hi ho
  -- what goes ahead has gone
  have hpr : ∀ j ∈ s.PR i, SS j = true := by
    intro j hj
    rw [A.preds] at hj
    obtain ⟨e, he, hj⟩ := List.mem_flatMap.1 hj
    rcases List.mem_cons.1 hj with rfl | hj
    · exact hpre e he
    · exact hcl e.on (Nat.lt_trans (A.back e he) hi) (hpre e he) j hj
  -- what has gone and stands later stands apart
  have later : ∀ j p, i < j → ops[j]? = some p → SS j = true → Foot.apart (footOf (s.L i)) (footOf (s.L j)) = true ∧ Oper.apart ops o p = true := by
    intro j p hij hp hSj
    have hj : j < ops.size := (Array.getElem?_eq_some_iff.1 hp).1
    rcases (hs j p hj hp).meet i o hij ho with h | h
    · have := hcl j hj hSj i h
      rw [hSi] at this
      cases this
    · exact h
  have earlier : ∀ j p, j < i → ops[j]? = some p → SS j = false → Foot.apart (footOf (s.L j)) (footOf (s.L i)) = true ∧ Oper.apart ops p o = true := by
    intro j p hij hp hSj
    rcases A.meet j p hij hp with h | h
    · have := hpr j h
      rw [hSj] at this
      cases this
    · exact h
  obtain ⟨h1, a1, a2, a3, a4⟩ := A.run
  obtain ⟨n1, L, l1, s1, g1⟩ := Fr.evOp hF ops (s.T i) o _ _ _ a1
  have hL : L = s.L i := by rw [← a2, l1]; simp
  subst hL
  -- what the operation meets holds what it held in the canonical run
  have hsame : ∀ b wr, (b, wr) ∈ s.L i → KS X.E s SS b ops.size = getB X.E (s.H i) b := by
    intro b wr hb
    have h1 := KS_skip (E := X.E) (s := s) (SS := SS) b i (ops.size - i) fun j hj1 hj2 hj3 => by
      rw [Nat.add_sub_cancel' (by omega)] at hj2
      have hne : j ≠ i := fun e => by subst e; rw [hSi] at hj3; cases hj3
      have := later j ops[j] (by omega) (by simp) hj3
      intro hw
      exact foot_meet' this.1 hw hb
    rw [Nat.add_sub_cancel' (by omega)] at h1
    rw [h1]
    refine KS_agree hF b i hs (by omega) fun j hj hw => ?_
    cases hSj : SS j with
    | true => rfl
    | false =>
      have := earlier j ops[j] hj (by simp) hSj
      exact absurd hb (foot_meet this.1 hw)
  have htsame : ∀ t, t ∈ o.looksAt ops → TS ops s SS t ops.size = ((s.T i).get? t) := by
    intro t ht
    have h1 := TS_skip (ops := ops) (s := s) (SS := SS) t i (ops.size - i) fun j hj1 hj2 hj3 => by
      rw [Nat.add_sub_cancel' (by omega)] at hj2
      have hne : j ≠ i := fun e => by subst e; rw [hSi] at hj3; cases hj3
      have := later j ops[j] (by omega) (by simp) hj3
      intro hw
      have hw' : ops[j].dst = some t := by simpa [hj2] using hw
      exact (Oper.apart_spec this.2).2.2 t hw' ht
    rw [Nat.add_sub_cancel' (by omega)] at h1
    rw [h1]
    refine TS_agree t i hs (by omega) fun j hj hw => ?_
    cases hSj : SS j with
    | true => rfl
    | false =>
      have hjs : j < ops.size := by omega
      have := earlier j ops[j] hj (by simp) hSj
      have hw' : ops[j].dst = some t := by simpa [hjs] using hw
      exact absurd ht ((Oper.apart_spec this.2).1 t hw')
  have hrel : ∀ t, t ∈ o.looksAt ops → (((s.T i).get? t) = none ∧ a.tmps[t]? = none) ∨ ∃ v v', ((s.T i).get? t) = some v ∧ a.tmps[t]? = some v' ∧ VR σ v v' := by
    intro t ht
    rw [← htsame t ht]
    exact htm t
  -- the operation from the state as it stands
  have Hg : HR X σ { g with n := (s.H i).n, lg := [] } w := H.congr fun b => rfl
  obtain ⟨g2, e2, gn, gl, gw, gs⟩ := g1 { g with n := (s.H i).n, lg := [] } rfl (fun b wr hb => by
    show getB X.E g b = getB X.E (s.H i) b
    rw [hg b]
    exact hsame b wr hb)
  refine evOp_wp (Q := Q) (K := K) hc hF (tmps := s.T i) (fun t ht => ?_) (wanted_R ops o hrel) Hg e2 (fun b hb hl => ?_) fun σ' v' w' x' H' hv => hK _ _ ⟨⟨σ', g2, H', ?_, ?_, ?_, ?_⟩, ?_, ?_, hsm⟩
  · rcases hrel t (looksAt_tmp ht) with ⟨h1, h2⟩ | ⟨v, v', h1, h2, h3⟩
    · rw [Tm.getD_eq, Array.getD_eq_getD_getElem?, h1, h2]; exact undef_VR σ
    · rw [Tm.getD_eq, Array.getD_eq_getD_getElem?, h1, h2]; exact h3
  · exact hfree i hi hSi b hb (by rw [gn, a4] at hl; exact hl)
  · -- the heap
    intro b
    by_cases hb : (b, true) ∈ s.L i
    · rw [gw b hb, a3]
      refine (KS_last hi (by simp [withI]) hb fun j hj1 hj2 hj3 => ?_).symm
      have hSj : SS j = true := by
        have : (j == i) = false := by simp; omega
        simpa [withI, this] using hj3
      have := later j ops[j] hj1 (by simp) hSj
      exact foot_meet this.1 hb
    · rw [gs b hb]
      show getB X.E g b = _
      rw [hg b]
      refine (KS_congr b ops.size fun j hj hw => ?_).symm
      have : (j == i) = false := by
        simp only [beq_eq_false_iff_ne]
        intro e
        subst e
        exact hb hw
      simp [withI, this]
  · -- what is free
    intro j hj hSj b hb1 hb2
    have hji : j ≠ i := fun e => by subst e; simp [withI] at hSj
    have hSj' : SS j = false := by
      have : (j == i) = false := by simpa using hji
      simpa [withI, this] using hSj
    refine x'.out b (hfree j hj hSj' b hb1 hb2) ?_
    rintro ⟨c1, c2⟩
    rw [gn, a4] at c2
    simp only at c1
    rcases Nat.lt_or_ge j i with h | h
    · have := Tr.monoLe hF hs (i := j + 1) (j := i) (by omega) (by omega)
      omega
    · have := Tr.monoLe hF hs (i := i + 1) (j := j) (by omega) (by omega)
      omega
  · -- the slots
    intro t
    by_cases ht : o.dst = some t
    · have hd : (ops[i]?).bind (·.dst) = some t := by rw [ho]; exact ht
      have hlast := TS_last (ops := ops) (s := s) (SS := withI SS i) (t := t) hi (by simp [withI]) hd fun j hj1 hj2 hj3 => by
        have hSj : SS j = true := by
          have : (j == i) = false := by simp; omega
          simpa [withI, this] using hj3
        have := later j ops[j] hj1 (by simp) hSj
        intro hw
        have hw' : ops[j].dst = some t := by simpa [hj2] using hw
        exact (Oper.apart_spec this.2).2.1 t ht hw'
      rw [hlast, A.put, ht]
      -- sizes: the slot is there in both or in neither
      have hold := htm t
      have hsz : (TS ops s SS t ops.size = none) ↔ ((s.T i).get? t) = none := by
        have hnone : ∀ k, k ≤ ops.size → (((s.T k).get? t) = none ↔ ((s.T 0).get? t) = none) := by
          intro k
          induction k with
          | zero => intro _; exact Iff.rfl
          | succ k ih =>
            intro hk
            rw [Tm.get?_none, Tm.get?_none, Tr.size hs (k + 1) hk]
        have hTS : ∀ k, k ≤ ops.size → (TS ops s SS t k = none ↔ ((s.T 0).get? t) = none) := by
          intro k
          induction k with
          | zero => intro _; exact Iff.rfl
          | succ k ih =>
            intro hk
            show (if SS k && ((ops[k]?).bind (·.dst) == some t) then ((s.T (k + 1)).get? t) else TS ops s SS t k) = none ↔ _
            split
            · exact hnone (k + 1) hk
            · exact ih (by omega)
        rw [hTS ops.size (Nat.le_refl _), hnone i (by omega)]
      rcases hold with ⟨c1, c2⟩ | ⟨v0, v0', c1, c2, c3⟩
      · have c0 := hsz.1 c1
        refine .inl ⟨?_, ?_⟩
        · rw [Tm.get?_none] at c0 ⊢
          rw [putT_n]
          exact c0
        · simpa [Act.put] using c2
      · have c0 : t < (s.T i).n := by
          rcases Nat.lt_or_ge t (s.T i).n with hh | hh
          · exact hh
          · have := hsz.2 (Tm.get?_none _ |>.2 hh)
            rw [c1] at this
            cases this
        have c4 : t < a.tmps.size := by
          rcases Nat.lt_or_ge t a.tmps.size with hh | hh
          · exact hh
          · rw [Array.getElem?_eq_none hh] at c2
            cases c2
        refine .inr ⟨s.V i, v', ?_, ?_, hv⟩
        · exact Tm.get?_set_same _ _ c0 (by rw [Tr.size hs i (by omega)]; exact hsm)
        · simp [Act.put, c4]
    · have : TS ops s (withI SS i) t ops.size = TS ops s SS t ops.size := by
        refine TS_congr t ops.size fun j hj hw => ?_
        have : (j == i) = false := by
          simp only [beq_eq_false_iff_ne]
          intro e
          subst e
          rw [ho] at hw
          exact ht hw
        simp [withI, this]
      rw [this]
      have hput : (a.put o.dst v').tmps[t]? = a.tmps[t]? := by
        cases hd : o.dst with
        | none => rfl
        | some d =>
          refine Array.getElem?_setIfInBounds_ne fun e => ht ?_
          rw [hd, e]
      rw [hput]
      rcases htm t with h | ⟨v, u, c1, c2, c3⟩
      · exact .inl h
      · exact .inr ⟨v, u, c1, c2, c3.mono x'.sub⟩
  · -- the map
    refine ⟨hext.sub.trans x'.sub, fun b hb hn => x'.out b (hext.out b hb hn) ?_⟩
    rintro ⟨c1, c2⟩
    rw [gn, a4] at c2
    simp only at c1
    refine hn ⟨?_, ?_⟩
    · have := Tr.monoLe hF hs (i := 0) (j := i) (by omega) (by omega)
      omega
    · have := Tr.monoLe hF hs (i := i + 1) (j := ops.size) (by omega) (by omega)
      omega
  · rw [put_defers']; exact hdef
  · intro j hj hSj k hk
    by_cases hji : j = i
    · subst hji
      have := hpr k hk
      simp [withI, this]
    · have : (j == i) = false := by simpa using hji
      have hSj' : SS j = true := by simpa [withI, this] using hSj
      have := hcl j hj hSj' k hk
      simp [withI, this]
end
end Go.Ev

namespace Go.Ev
open Go.RowKit
set_option linter.unusedVariables false
set_option linter.unusedSimpArgs false
section
variable {X : Cx} {call : CallM} {ops : Array Oper} {s : Tr}
def SSof (listed : Array Bool) : Nat → Bool := fun i => listed.getD i false
theorem cnt_set : ∀ (l : List Bool) (i : Nat), l[i]? = some false → (l.set i true).countP (fun b => !b) + 1 = l.countP (fun b => !b)
  | [], i, h => by simp at h
  | b :: l, 0, h => by
    simp at h
    subst h
    simp
  | b :: l, i + 1, h => by
    have := cnt_set l i (by simpa using h)
    simp only [List.set_cons_succ, List.countP_cons]
    omega
theorem DInv.congr {X : Cx} {ops : Array Oper} {s : Tr} {σ₀ : S} {ds : List Deferred} {SS SS' : Nat → Bool} {a : Act} {w : World} (h : ∀ i, SS' i = SS i) (hI : DInv X ops s σ₀ ds SS a w) : DInv X ops s σ₀ ds SS' a w := by
  have : SS' = SS := funext h
  rw [this]
  exact hI
theorem drawn_any (hc : CallOk X call) (hF : ∀ f args, Fr X.E (call f args)) (hs : TrOk X.E call ops s ops.size) {σ₀ : S} {ds : List Deferred} {Q : Exit → Act → World → Prop}
    (hQ : ∀ a w, DInv X ops s σ₀ ds (fun i => decide (i < ops.size)) a w → Q .normal a w) : ∀ (fuel : Nat) (listed : Array Bool) (a : Act) (w : World), listed.size = ops.size → listed.toList.countP (fun b => !b) = fuel →
    DInv X ops s σ₀ ds (SSof listed) a w → wpAny X.E.P .any ops Q fuel listed a w := by
  have allOf : ∀ (listed : Array Bool), listed.size = ops.size → Region.ready .any ops listed = [] → ∀ i, SSof listed i = decide (i < ops.size) := by
    intro listed hsz hr
    have step : ∀ n i, i ≤ n → i < ops.size → listed.getD i false = true := by
      intro n
      induction n with
      | zero =>
        intro i hi hlt
        have h0 : i = 0 := by omega
        subst h0
        cases hl : listed.getD 0 false with
        | true => rfl
        | false =>
          exfalso
          have : (0 : Nat) ∈ Region.ready .any ops listed := by
            rw [mem_ready]
            refine ⟨?_, ops[0], by simp, fun e he hb => ?_⟩
            · have : 0 < listed.size := by omega
              simp only [Array.getD_eq_getD_getElem?, Array.getElem?_eq_getElem this, Option.getD_some] at hl ⊢
              exact hl
            · have := (hs 0 ops[0] hlt (by simp)).back e (List.mem_filter.2 ⟨by simpa using he, hb⟩)
              omega
          rw [hr] at this
          cases this
      | succ n ih =>
        intro i hi hlt
        by_cases hin : i ≤ n
        · exact ih i hin hlt
        · have hi' : i = n + 1 := by omega
          cases hl : listed.getD i false with
          | true => rfl
          | false =>
            exfalso
            have : i ∈ Region.ready .any ops listed := by
              rw [mem_ready]
              refine ⟨?_, ops[i], by simp, fun e he hb => ?_⟩
              · have : i < listed.size := by omega
                simp only [Array.getD_eq_getD_getElem?, Array.getElem?_eq_getElem this, Option.getD_some] at hl ⊢
                exact hl
              · have := (hs i ops[i] hlt (by simp)).back e (List.mem_filter.2 ⟨by simpa using he, hb⟩)
                exact ih e.on (by omega) (by omega)
            rw [hr] at this
            cases this
    intro i
    by_cases hi : i < ops.size
    · unfold SSof
      rw [step i i (Nat.le_refl _) hi]
      simp [hi]
    · unfold SSof
      rw [Array.getD_eq_getD_getElem?, Array.getElem?_eq_none (by omega)]
      simp [hi]
  intro fuel
  induction fuel with
  | zero =>
    intro listed a w hsz hcnt hI
    have hr : Region.ready .any ops listed = [] := by
      rw [List.eq_nil_iff_forall_not_mem]
      intro i hi
      obtain ⟨h0, o, ho, _⟩ := mem_ready.1 hi
      have hlt : i < listed.size := by rw [hsz]; exact (Array.getElem?_eq_some_iff.1 ho).1
      rw [List.countP_eq_zero] at hcnt
      have := hcnt listed[i] (by simp)
      simp only [Array.getD_eq_getD_getElem?, Array.getElem?_eq_getElem hlt, Option.getD_some] at h0
      rw [h0] at this
      exact this rfl
    exact ⟨hr, hQ a w (hI.congr fun i => (allOf listed hsz hr i).symm)⟩
  | succ fuel ih =>
    intro listed a w hsz hcnt hI
    refine ⟨fun hr => hQ a w (hI.congr fun i => (allOf listed hsz hr i).symm), fun i hi => ?_⟩
    obtain ⟨h0, o, ho, hall⟩ := mem_ready.1 hi
    have hlt : i < listed.size := by rw [hsz]; exact (Array.getElem?_eq_some_iff.1 ho).1
    have hSi : SSof listed i = false := by
      unfold SSof
      simp only [Array.getD_eq_getD_getElem?, Array.getElem?_eq_getElem hlt, Option.getD_some] at h0 ⊢
      exact h0
    have key := drawn_step (Q := Q) (K := wpAny X.E.P .any ops Q fuel (listed.setIfInBounds i true)) hc hF hs hI ho hSi (fun e he => by
      obtain ⟨he1, he2⟩ := List.mem_filter.1 he
      exact hall e (by simpa using he1) he2) fun a' w' hI' => ih (listed.setIfInBounds i true) a' w' (by simpa using hsz) (by
        have := cnt_set listed.toList i (by
          simp only [Array.getD_eq_getD_getElem?, Array.getElem?_eq_getElem hlt, Option.getD_some] at h0
          simp [hlt, h0])
        rw [Array.toList_setIfInBounds]
        omega) (hI'.congr fun j => by
        show (listed.setIfInBounds i true).getD j false = (j == i || listed.getD j false)
        rw [Array.getD_eq_getD_getElem?, Array.getD_eq_getD_getElem?]
        by_cases hji : j = i
        · subst hji
          simp [hlt]
        · have : (j == i) = false := by simpa using hji
          rw [Array.getElem?_setIfInBounds_ne (Ne.symm hji)]
          simp [this])
    unfold wpOp
    rw [ho]
    simp only
    split
    · rename_i hwant
      rw [if_pos hwant] at key
      exact .inl key
    · rename_i hwant
      rw [if_neg hwant] at key
      exact key
theorem SSof_none (n i : Nat) : SSof (Array.replicate n false) i = false := by
  unfold SSof
  rw [Array.getD_eq_getD_getElem?]
  by_cases hi : i < n
  · simp [hi]
  · rw [Array.getElem?_eq_none (by simp; omega)]
    rfl
/-- a region that draws its order -/
theorem evDrawn_wp (hm : X.E.P.follows .mixedOrders = true) (hc : CallOk X call) (hF : ∀ f args, Fr X.E (call f args)) {id : Nat} {Q : Exit → Act → World → Prop} {ds : List Deferred} {tmps tmps' : Tm} {a : Act} {σ : S} {h h' : Hp} {w : World}
    (hV : RT σ tmps a.tmps) (hd : a.defers = ds) (H : HR X σ h w) (e : evDrawn X.E call ops ops.toList 0 [] tmps h = .ok (tmps', h')) (hfree : ∀ b, h.n ≤ b → b < h'.n → σ b = none)
    (hQ : ∀ σ' a' w', Ext σ σ' h.n h'.n → HR X σ' h' w' → RT σ' tmps' a'.tmps → a'.defers = ds → Q .normal a' w') : (Code.region id ops true).wp X.E.P Q a w := by
  refine wp_region_any hm ?_
  obtain ⟨s, hs, hT0, hH0, hTn, hHn, _⟩ := drawn_trace hF ops.toList 0 [] { T := fun _ => tmps, H := fun _ => h, L := fun _ => [], V := fun _ => undef, PR := fun _ => [] } (by simp) (fun i o hi _ => by omega) ⟨fun j p hj => by omega, fun j hj => by omega, fun r hr => by cases hr⟩ (Nat.zero_le _) e
  simp only at hT0 hH0
  refine drawn_any (s := s) hc hF hs (σ₀ := σ) (ds := ds) ?_ ops.size (Array.replicate ops.size false) a _ (by simp) (by rw [Array.toList_replicate, List.countP_replicate]; rfl) ⟨⟨σ, h, H.drew, ?_, ?_, ?_, Ext.refl _ _ _⟩, hd, ?_, by rw [hT0]; exact hV.small⟩
  · rintro a' w' ⟨⟨σ', g, H', hg, _, ht, hx⟩, hd', _, _⟩
    rw [hH0, hHn] at hx
    refine hQ σ' a' w' hx (H'.congr fun b => ?_) ?_ hd'
    · rw [hg b, KS_agree hF b ops.size hs (Nat.le_refl _) (fun j hj _ => by simpa using hj), hHn]
    · have hTS : ∀ t, TS ops s (fun i => decide (i < ops.size)) t ops.size = tmps'.get? t := fun t => by
        rw [TS_agree t ops.size hs (Nat.le_refl _) (fun j hj _ => by simpa using hj), hTn]
      refine RT.ofGet? ?_ fun i => ?_
      · rw [← hTn, Tr.size hs ops.size (Nat.le_refl _), hT0]
        exact hV.small
      · rw [← hTS]
        exact ht i
  · intro b
    have := KS_skip (E := X.E) (s := s) (SS := SSof (Array.replicate ops.size false)) b 0 ops.size fun j _ _ hj => by rw [SSof_none] at hj; cases hj
    rw [Nat.zero_add] at this
    rw [this]
    show _ = getB X.E (s.H 0) b
    rw [hH0]
  · intro i hi _ b hb1 hb2
    refine hfree b ?_ ?_
    · have := Tr.monoLe hF hs (i := 0) (j := i) (by omega) (by omega)
      rw [hH0] at this
      omega
    · have := Tr.monoLe hF hs (i := i + 1) (j := ops.size) (by omega) (by omega)
      rw [hHn] at this
      omega
  · intro t
    have := TS_skip (ops := ops) (s := s) (SS := SSof (Array.replicate ops.size false)) t 0 ops.size fun j _ _ hj => by rw [SSof_none] at hj; cases hj
    rw [Nat.zero_add] at this
    rw [this]
    show (((s.T 0).get? t) = none ∧ _) ∨ ∃ v v', ((s.T 0).get? t) = some v ∧ _
    rw [hT0]
    exact hV.get? t
  · intro i hi hSi
    rw [SSof_none] at hSi
    cases hSi
end
end Go.Ev
