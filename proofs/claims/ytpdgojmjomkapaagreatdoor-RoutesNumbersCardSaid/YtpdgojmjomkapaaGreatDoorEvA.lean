/- A part of a verified evaluator of closed calls (a canonical run, and why the machine ends every such call as it does). No condition. -/
import Derived.Calls
import Derived.Orders
import Derived.Below

namespace Go.Ev
set_option linter.unusedVariables false

/-! A canonical run of the machine, big steps. Canonical: a block's number is the order in which the canonical run made it; a slice
whose capacity the tape has chosen bears a capacity from 2^60 on ('unknown, at least the rest'). -/

abbrev R := Except String

/-- Blocks by number: a trie over the number's binary places. -/
inductive T where
  | e
  | n (v : Option Obj) (l r : T)
  deriving Inhabited
def T.left : T → T | .e => .e | .n _ l _ => l
def T.right : T → T | .e => .e | .n _ _ r => r
def T.val : T → Option Obj | .e => none | .n v _ _ => v
def T.get : Nat → T → Nat → Option Obj
  | 0, t, _ => t.val
  | d + 1, t, b => if b % 2 = 0 then T.get d t.left (b / 2) else T.get d t.right (b / 2)
def T.set : Nat → T → Nat → Option Obj → T
  | 0, _, _, o => .n o .e .e
  | d + 1, t, b, o => if b % 2 = 0 then .n none (T.set d t.left (b / 2) o) t.right else .n none t.left (T.set d t.right (b / 2) o)
def D : Nat := 16

structure Env where
  P : Program
  base : Nat
  gl : List (Nat × Obj)

structure Hp where
  n : Nat
  t : T
  lg : List (Nat × Bool)

def glGet : List (Nat × Obj) → Nat → Option Obj
  | [], _ => none
  | (i, o) :: r, b => if i = b then some o else glGet r b
def getB (E : Env) (h : Hp) (b : Nat) : Option Obj :=
  if b < E.base then glGet E.gl b else if b < 2 ^ D then T.get D h.t b else none
def Hp.rd (h : Hp) (b : Nat) : Hp := { h with lg := (b, false) :: h.lg }
def Hp.put (h : Hp) (b : Nat) (o : Option Obj) : Hp := { h with t := T.set D h.t b o, lg := (b, true) :: h.lg }
def Hp.new (h : Hp) (o : Obj) : Hp := { n := h.n + 1, t := T.set D h.t h.n (some o), lg := (h.n, true) :: h.lg }

/-! ### the monad -/
def M (α : Type) : Type := Hp → R (α × Hp)
def M.pure {α : Type} (a : α) : M α := fun h => .ok (a, h)
def M.bind {α β : Type} (m : M α) (f : α → M β) : M β := fun h => match m h with
  | .ok r => f r.1 r.2
  | .error e => .error e
instance : Monad M where
  pure := M.pure
  bind := M.bind
def fail {α : Type} (s : String) : M α := fun _ => .error s
def liftR {α : Type} : R α → M α
  | .ok a => M.pure a
  | .error e => fail e
def liftO {α : Type} (why : String) : Option α → M α
  | some a => M.pure a
  | none => fail why
def cells (E : Env) (b : Nat) : M (Array Value × TypeId × (Nat × Nat)) := fun h => match getB E h b with
  | some (.cells c e fr) => .ok ((c, e, fr), h.rd b)
  | _ => .error "no cells"
def obj (E : Env) (b : Nat) : M Obj := fun h => match getB E h b with
  | some (.cells ..) => .error "no object"
  | some o => .ok (o, h.rd b)
  | none => .error "no object"
def put (E : Env) (b : Nat) (o : Option Obj) : M Unit := fun h => if b < E.base then .error "put" else match getB E h b with
  | some _ => .ok ((), h.put b o)
  | none => .error "put: nothing there"
def new (E : Env) (o : Obj) : M Nat := fun h => if E.base ≤ h.n ∧ h.n < 2 ^ D then .ok (h.n, h.new o) else .error "new: too many"
/-- with what it meets -/
def heard {α : Type} (m : M α) : M (α × List (Nat × Bool)) := fun h => match m { h with lg := [] } with
  | .ok r => .ok ((r.1, r.2.lg), { r.2 with lg := r.2.lg ++ h.lg })
  | .error e => .error e

def U : Nat := 2 ^ 60
def one : Value → Bool
  | .agg _ | .tuple _ => false
  | _ => true
def Obj.isC : Obj → Bool
  | .cells .. => true
  | _ => false

/-- A Sem program on the canonical heap. -/
def crun {α : Type} (E : Env) : Sem α → M α
  | .pure a => M.pure a
  | .load _ a k => M.bind (cells E a.block) fun c => if a.spot.isSome then fail "load: spot" else match c.1[a.off]? with
    | some v => crun E (k v)
    | none => fail "load: no such cell"
  | .store _ a v k => if a.spot.isSome || !one v then fail "store" else M.bind (cells E a.block) fun c =>
    if a.off < c.1.size then M.bind (put E a.block (some (.cells (c.1.setIfInBounds a.off v) c.2.1 c.2.2))) fun _ => crun E k else fail "store: no such cell"
  | .new o k => M.bind (new E o) fun b => crun E (k b)
  | .getObj r k => M.bind (obj E r) fun o => crun E (k o)
  | .setObj r o k => if Obj.isC o then fail "setObj: cells" else M.bind (obj E r) fun _ => M.bind (put E r (some o)) fun _ => crun E k
  | .choose q k => if q.forced then crun E (k 0) else fail "choose"
  | .program k => crun E (k E.P)
  | .mark _ k => crun E k
  | .halt (.stuck s) => fail s
  | .halt _ => fail "halt"
  | _ => fail "a primitive that is not run"

/-- A Sem program that looks at no world. -/
def prun {α : Type} (P : Program) : Sem α → R α
  | .pure a => .ok a
  | .program k => prun P (k P)
  | .mark _ k => prun P k
  | .halt (.stuck s) => .error s
  | .halt _ => .error "halt"
  | _ => .error "impure"

def allL (f : Value → Bool) : List Value → Bool
  | [] => true
  | v :: r => f v && allL f r
/-- Nothing of memory in it. -/
def ground : Nat → Value → Bool
  | 0, _ => false
  | n + 1, v => match v with
    | .bool _ | .int _ _ | .float _ _ | .complex _ _ _ | .string _ | .nilFunc | .nilIface => true
    | .pointer none | .map none | .chan none => true
    | .slice none _ c => c < U
    | .iface _ v => ground n v
    | .agg cs => allL (ground n) cs.toList
    | .tuple cs => allL (ground n) cs.toList
    | .func (.yield _) _ _ => false
    | .func _ a b => allL (ground n) a.toList && allL (ground n) b.toList
    | _ => false
def gr (v : Value) : Bool := ground 20 v

def allR (f : Operand → Bool) : List Operand → Bool
  | [] => true
  | v :: r => f v && allR f r
def zeroOk (E : Env) (t : TypeId) : Bool := match E.P.info? t with
  | some i => match i.zero with
    | some v => gr v
    | none => true
  | none => true
def zerosOk (E : Env) : Op → Bool
  | .alloc t | .build t _ => zeroOk E t
  | .buildSlice t n _ => n < U && match E.P.underlying t with
    | some (.slice e) => zeroOk E e
    | _ => true
  | .makeSlice t _ _ => match E.P.underlying t with
    | some (.slice e) => zeroOk E e
    | _ => true
  | _ => true
def operOk (E : Env) (o : Oper) : Bool := allR (fun | .const v => gr v | .global g => g < E.base | _ => true) o.op.operands.toList

/-- The cells from a on, n of them. -/
def loadN (E : Env) (a : Addr) (n : Nat) : M (List Value) :=
  if a.spot.isSome then fail "loadN: spot" else M.bind (cells E a.block) fun c =>
  if a.off + n ≤ c.1.size then M.pure ((c.1.toList.drop a.off).take n) else fail "loadN: no such cells"

def firstN (E : Env) (size n : Nat) : Value → M (List Value)
  | .slice (some a) _ _ => loadN E a (n * size)
  | .slice none _ _ => if n = 0 then M.pure [] else fail "firstN"
  | .string s => if n = s.size && size = 1 then M.pure (s.data.toList.map (fun b => .int .u8 b.toNat)) else fail "firstN"
  | _ => fail "firstN"

def lenOf' : Value → M Nat
  | .slice _ n _ => M.pure n
  | .string s => M.pure s.size
  | _ => fail "lenOf"

def putAt (c : List Value) (off : Nat) (vs : List Value) : List Value := c.take off ++ vs ++ c.drop (off + vs.length)
def capLow (c : Nat) : Nat := if c < U then c else c - U
def srcOk : TypeDesc → Value → Bool
  | .slice _, .slice _ _ _ => true
  | .string, .string _ => true
  | _, _ => false

def zeroFits (i : TypeInfo) : Bool := match i.zero with
  | some z => z.cells.size = i.size
  | none => false
def append' (E : Env) (t tx : TypeId) (s x : Value) : M Value :=
  M.bind (liftO "append: type" (E.P.underlying t)) fun d => M.bind (liftO "append: type" (E.P.underlying tx)) fun dx => match d, s with
  | .slice elem, .slice base sLen sCap =>
    M.bind (liftO "append: info" (E.P.info? elem)) fun i =>
    if !srcOk dx x then fail "append: of what?" else
    M.bind (lenOf' x) fun n =>
    M.bind (firstN E i.size n x) fun new' =>
    if new'.length ≠ n * i.size || !allL one new' then fail "append: source" else
    if n = 0 then (if sLen ≤ capLow sCap then M.pure s else fail "append: nothing") else
    if sCap < U && sLen + n ≤ sCap then
      match base with
      | none => fail "append: nil with a capacity"
      | some a =>
        if a.spot.isSome then fail "append: spot" else
        M.bind (cells E a.block) fun c =>
        if a.off + sLen * i.size + new'.length ≤ c.1.size then
          M.bind (put E a.block (some (.cells (putAt c.1.toList (a.off + sLen * i.size) new').toArray c.2.1 c.2.2))) fun _ =>
          M.pure (.slice base (sLen + n) sCap)
        else fail "append: cells"
    else if sLen + n > 2 ^ 24 || i.bytes > 2 ^ 20 || i.bytes = 0 || !zeroFits i then fail "append: too long"
    else if sCap < U then
      M.bind (firstN E i.size sLen s) fun old =>
      if old.length ≠ sLen * i.size then fail "append: old" else
      M.bind (new E (.cells (old ++ new').toArray elem)) fun b =>
      M.pure (.slice (some ⟨b, 0, none⟩) (sLen + n) (U + (sLen + n)))
    else match base with
      | none => fail "append: nil with a capacity"
      | some a =>
        if a.spot.isSome || a.off ≠ 0 then fail "append: may grow, begins inside" else
        M.bind (cells E a.block) fun c =>
        if c.2.2 ≠ (0, 0) then fail "append: may grow, frozen" else
        if c.1.size ≠ sLen * i.size then fail "append: may grow, block longer" else
        if c.2.1 ≠ elem then fail "append: may grow, type" else
        M.bind (put E a.block none) fun _ =>
        M.bind (new E (.cells (c.1.toList ++ new').toArray elem)) fun b =>
        M.pure (.slice (some ⟨b, 0, none⟩) (sLen + n) (U + (sLen + n)))
  | _, _ => fail "append"

inductive Nx where
  | val (v : Value)
  | skip
  | enter (f : FuncId) (args : Array Value)

def callFunc' (E : Env) (f : FuncId) (args : Array Value) : M Nx :=
  match E.P.funcs[f]? with
  | none => fail "call: no such function"
  | some fn => if fn.body.isNone || fn.name == "runtime.NumGoroutine" then fail ("extern " ++ fn.name) else M.pure (.enter f args)

/-- the function and the receiver of a method, where it is no promoted one -/
def method' (E : Env) (t : TypeId) (v : Value) (name : String) : M (FuncId × Value) :=
  M.bind (liftO "method: type" (E.P.info? t)) fun i =>
  M.bind (liftO ("method: " ++ name) (i.methods.find? (·.name == name))) fun m =>
  if !m.path.isEmpty then fail "method: promoted" else
  M.bind (liftO "method: type" (E.P.underlying t)) fun d =>
  match m.func, d with
  | some (f, true), .pointer _ => M.pure (f, v)
  | some (_, _), .pointer _ => fail "method: a value's method by a pointer"
  | some (f, false), _ => M.pure (f, v)
  | _, _ => fail "method"

def invoke' (E : Env) (t : Target) (args : Array Value) : M Nx :=
  match t with
  | .fn (.func f) cap => callFunc' E f (args ++ cap)
  | .fn (.method name) _ =>
    match args[0]? with
    | some (Value.iface t v) => M.bind (method' E t v name) fun r => callFunc' E r.1 (#[r.2] ++ args.extract 1 args.size)
    | _ => fail "invoke: a method of what?"
  | .builtin .append ats _ _ => match ats.toList, args.toList with
    | [t, tx], [s, x] => M.bind (append' E t tx s x) fun v => M.pure (.val v)
    | _, _ => fail "append"
  | .builtin .len ats ty _ => M.bind (crun E (Builtin.len_ ats ty args)) fun v => M.pure (.val v)
  | _ => fail "invoke"

def resolve' (ρ : Operand → Value) (c : Call) (type : TypeId) : M Deferred :=
  let args := c.args.map ρ
  match c.callee with
  | .builtin b => M.pure { target := .builtin b c.argTypes type (c.args.map fun | .const _ => true | _ => false), args }
  | .invoke recv name => M.pure { target := .fn (.method name) #[], args := #[ρ recv] ++ args }
  | .value f => match ρ f with
    | .func fn first captured => M.pure { target := .fn fn captured, args := first ++ args }
    | _ => fail "call: no function"

def toNx : Next → M Nx
  | .value v => M.pure (.val v)
  | .skip => M.pure .skip
  | _ => fail "an operation that is not run"

/-- operations that may go by their own text where all that they are given is ground -/
def byGround : Op → Bool
  | .binOp .. | .unOp .. | .convert .. | .index .. | .field .. | .extract .. => true
  | _ => false
/-- operations that go by their own text on the canonical heap -/
def byText : Op → Bool
  | .move _ | .assign _ | .pick .. | .alloc _ | .box .. | .build .. | .buildSlice .. | .load .. | .store .. | .makeInterface .. | .makeMap ..
  | .field .. | .indexAddr .. | .extract .. => true
  | _ => false

def bytesOf' : List Value → R (List UInt8)
  | [] => .ok []
  | .int .u8 n :: r => match bytesOf' r with
    | .ok s => .ok (UInt8.ofNat n.toNat :: s)
    | .error e => .error e
  | _ => .error "bytes"

/-- two pointers, both to something -/
def eqPtr (E : Env) (e : TypeId) (a b : Addr) : M Bool :=
  M.bind (liftO "eq: type" (E.P.info? e)) fun i =>
  if i.size = 0 || a.spot.isSome || b.spot.isSome then fail "eq of pointers" else
  M.bind (cells E a.block) fun c => M.bind (cells E b.block) fun d =>
  if a.block = b.block then M.pure (a.off == b.off) else
  if c.2.2 ≠ (0, 0) || d.2.2 ≠ (0, 0) then fail "eq of pointers: frozen" else M.pure false
def eq' (E : Env) (t : TypeId) (x y : Value) : M Bool :=
  M.bind (liftO "eq: type" (E.P.underlying t)) fun d => match d, x, y with
  | .pointer _, .pointer none, .pointer b => M.pure b.isNone
  | .pointer _, .pointer (some _), .pointer none => M.pure false
  | .pointer e, .pointer (some a), .pointer (some b) => eqPtr E e a b
  | .interface _, .nilIface, .iface _ _ => M.pure false
  | .interface _, .iface _ _, .nilIface => M.pure false
  | .slice _, .slice none _ _, .slice b _ _ => M.pure b.isNone
  | .slice _, .slice (some _) _ _, .slice none _ _ => M.pure false
  | .map _ _, .map none, .map b => M.pure b.isNone
  | .map _ _, .map (some _), .map none => M.pure false
  | .func _ _ _, .nilFunc, .nilFunc => M.pure true
  | .func _ _ _, .nilFunc, .func _ _ _ => M.pure false
  | .func _ _ _, .func _ _ _, .nilFunc => M.pure false
  | _, _, _ => fail "eq"

def isMethod : Value → Bool
  | .func (.method _) _ _ => true
  | _ => false

def isYield : Fn → Bool
  | .yield _ => true
  | _ => false

def mapOf (E : Env) : Value → M (Array MapEntry)
  | .map none => M.pure #[]
  | .map (some r) => M.bind (obj E r) fun o => match o with
    | .map es _ => M.pure es
    | _ => fail "lookup: no map"
  | _ => fail "lookup: no map"
def lookup' (E : Env) (t : TypeId) (x k : Value) (ok : Bool) : M Value :=
  M.bind (liftO "lookup" (E.P.underlying t)) fun d => match d with
  | .map key elem => M.bind (mapOf E x) fun es => M.bind (liftR (prun E.P (Instr.checkKey es.isEmpty 10000 key k))) fun _ =>
    M.bind (liftO "lookup" (E.P.underlying key)) fun dk => M.bind (liftO "lookup" (Instr.findNow dk k es.toList 0)) fun r => match r with
    | some (_, v) => M.pure (if ok then .tuple #[v, .bool true] else v)
    | none => M.bind (liftO "lookup" (E.P.info? elem)) fun i => M.bind (liftO "lookup" i.zero) fun v => if gr v then M.pure (if ok then .tuple #[v, .bool false] else v) else fail "lookup: zero"
  | _ => fail "lookup"
def mapUpdate' (E : Env) (t : TypeId) (m k x : Value) : M Unit :=
  M.bind (liftO "mapUpdate" (E.P.underlying t)) fun d => match d with
  | .map key _ => match m with
    | .map (some r) => M.bind (obj E r) fun o => match o with
      | .map es clock => M.bind (liftR (prun E.P (Instr.checkKey false 10000 key k))) fun _ =>
        M.bind (liftO "mapUpdate" (E.P.underlying key)) fun dk => M.bind (liftO "mapUpdate" (Instr.findNow dk k es.toList 0)) fun f => match f with
        | some (i, _) => if Instr.sameBits 10000 (((es[i]?).map (·.key)).getD k) k then put E r (some (.map (es.modify i fun e => { e with key := k, val := x }) clock)) else fail "mapUpdate: which key"
        | none => put E r (some (.map (es.push { key := k, val := x, born := clock }) (clock + 1)))
      | _ => fail "mapUpdate"
    | _ => fail "mapUpdate"
  | _ => fail "mapUpdate"

def capOk : Value → Bool
  | .int _ n => (IntKind.i64.wrap n).toNat < U
  | _ => false
def execB (E : Env) (ρ : Operand → Value) (o : Oper) : M Nx :=
  match o.op with
  | .binOp .eql t x y _ => M.bind (eq' E t (ρ x) (ρ y)) fun b => M.pure (.val (.bool b))
  | .binOp .neq t x y _ => M.bind (eq' E t (ρ x) (ρ y)) fun b => M.pure (.val (.bool (!b)))
  | .convert s d x => M.bind (liftO "convert" (E.P.underlying s)) fun ds => M.bind (liftO "convert" (E.P.underlying d)) fun dd => match ds, dd, ρ x with
    | .slice e, .string, .slice (some a) len _ => M.bind (liftO "convert" (E.P.underlying e)) fun de => match de with
      | .int .u8 => M.bind (loadN E a len) fun vs => M.bind (liftR (bytesOf' vs)) fun bs => M.pure (.val (.string ⟨bs.toArray⟩))
      | _ => fail "convert"
    | _, _, _ => fail "convert"
  | .makeSlice _ _ c => if capOk (ρ c) then M.bind (crun E (execOp ρ o)) toNx else fail "makeSlice"
  | .nilCheck x => if isMethod (ρ x) then fail "nilCheck of a method" else M.bind (crun E (execOp ρ o)) toNx
  | .makeFunc fn a b => if isYield fn then fail "makeFunc" else M.pure (.val (.func fn (a.map ρ) (b.map ρ)))
  | .lookup t x k ok => if gr (ρ k) then M.bind (lookup' E t (ρ x) (ρ k) ok) fun v => M.pure (.val v) else fail "a key that is not ground"
  | .mapUpdate t m k x => if gr (ρ k) then M.bind (mapUpdate' E t (ρ m) (ρ k) (ρ x)) fun _ => M.pure .skip else fail "a key that is not ground"
  | .fieldAddr s x f => M.bind (liftO "fieldAddr" (E.P.underlying s)) fun d => match d with
    | .struct fields => M.bind (liftO "fieldAddr" fields[f]?) fun fl => M.bind (liftO "fieldAddr" (E.P.info? fl.type)) fun i => if i.size = 0 then fail "fieldAddr" else match ρ x with
      | .pointer (some a) => M.pure (.val (.pointer (some (a.add fl.offset))))
      | _ => fail "fieldAddr"
    | _ => fail "fieldAddr"
  | .range t x => match ρ x with
    | .map (some r) => M.bind (liftO "range" (E.P.underlying t)) fun d => match d with
      | .map _ _ => M.bind (obj E r) fun m => match m with
        | .map _ clock => M.bind (new E (.mapIter (some r) clock #[] clock)) fun b => M.pure (.val (.pointer (some ⟨b, 0, none⟩)))
        | _ => fail "range"
      | _ => fail "range"
    | _ => fail "range"
  | .next it isString => match ρ it, isString with
    | .pointer (some ⟨r, 0, none⟩), false => M.bind (obj E r) fun i => match i with
      | .mapIter (some m) _ _ _ => M.bind (obj E m) fun o => match o with
        | .map es _ => if es.size = 0 then M.pure (.val (.tuple #[.bool false])) else fail "next: of a map that holds something"
        | _ => fail "next"
      | _ => fail "next"
    | _, _ => fail "next"
  | .call c => M.bind (resolve' ρ c o.type) fun d => invoke' E d.target d.args
  | _ => fail "an operation that is not run"

def exec' (E : Env) (ρ : Operand → Value) (o : Oper) : M Nx :=
  if !operOk E o || !zerosOk E o.op then fail "a constant that is not ground" else
  if byGround o.op && allR (fun x => gr (ρ x)) o.op.operands.toList then
    match prun E.P (execOp ρ o) with
    | .ok (.value v) => if gr v then M.pure (.val v) else fail "ground: result"
    | .ok _ => fail "ground: no value"
    | .error s => fail s
  else if byText o.op then M.bind (crun E (execOp ρ o)) toNx
  else execB E ρ o

/-! ### code -/
inductive Ex where
  | normal
  | exit (id : Nat)
  | goto (l : Nat)
  | ret

def ev (tmps : Array Value) : Operand → Value
  | .tmp t => tmps.getD t undef
  | .const v => v
  | .global g => .pointer (some ⟨g, 0, none⟩)
  | .func f => .func (.func f) #[] #[]
def putT (tmps : Array Value) (dst : Option Tmp) (v : Value) : Array Value :=
  match dst with
  | some d => tmps.setIfInBounds d v
  | none => tmps

abbrev CallM := FuncId → Array Value → M Value

/-- what an operation yields -/
def evOp (E : Env) (call : CallM) (ops : Array Oper) (tmps : Array Value) (o : Oper) : M Value :=
  if Region.wanted o (yielded ops tmps) then M.bind (exec' E (ev tmps) o) fun n => match n with
    | .val v => M.pure v
    | .skip => M.pure undef
    | .enter f args => call f args
  else M.pure undef

def evOps (E : Env) (call : CallM) (ops : Array Oper) : List Oper → Array Value → M (Array Value)
  | [], tmps => M.pure tmps
  | o :: rest, tmps => M.bind (evOp E call ops tmps o) fun v => evOps E call ops rest (putT tmps o.dst v)

/-! a region that draws its order: in the order of the text; what no edge orders must not meet -/
structure Foot where
  rd : List Nat
  wr : List Nat
def footOf (lg : List (Nat × Bool)) : Foot := { rd := (lg.filter (!·.2)).map (·.1), wr := (lg.filter (·.2)).map (·.1) }
def apartL : List Nat → List Nat → Bool
  | [], _ => true
  | x :: r, ys => !ys.contains x && apartL r ys
def Foot.apart (a b : Foot) : Bool := apartL a.wr b.rd && apartL a.wr b.wr && apartL b.wr a.rd
structure Rec where
  i : Nat
  o : Oper
  preds : List Nat
  foot : Foot
def predsOf (done : List Rec) (o : Oper) : List Nat :=
  (o.after.toList.filter (Region.binds .any)).flatMap fun e => e.on :: ((done.find? (·.i == e.on)).map (·.preds)).getD []
def meets (ops : Array Oper) (preds : List Nat) (o : Oper) (foot : Foot) (r : Rec) : Bool :=
  preds.contains r.i || (Foot.apart r.foot foot && Oper.apart ops r.o o)

/-- the operations from the i-th on, in the order of the text; what has come before: newest first -/
def evDrawn (E : Env) (call : CallM) (ops : Array Oper) : List Oper → Nat → List Rec → Array Value → M (Array Value)
  | [], _, _, tmps => M.pure tmps
  | o :: rest, i, done, tmps =>
    M.bind (heard (evOp E call ops tmps o)) fun r =>
    if done.all (meets ops (predsOf done o) o (footOf r.2)) && (o.after.toList.filter (Region.binds .any)).all (fun e => decide (e.on < i)) then
      evDrawn E call ops rest (i + 1) ({ i, o, preds := predsOf done o, foot := footOf r.2 } :: done) (putT tmps o.dst r.1)
    else fail "a drawn region: an operation meets one that no edge puts ahead of it"

structure Ac where
  t : Array Value
  /-- the blocks of collected deferred calls, the latest first -/
  ds : List Nat

def lp (st : LoopState) : Loop := { state := st, pending := none, fn := 0, tmps := #[], params := #[], assign := .skip, body := .skip, defers := 0 }

def isConstOp : Operand → Bool
  | .const _ => true
  | _ => false
/-- A range over a function that makes no round. -/
def evRange (E : Env) (call : CallM) (f : Operand) (t : Ac) : M (Ex × Ac) :=
  if isConstOp f then fail "rangeFunc: a constant" else
  M.bind (new E (.deferred (some []))) fun d => M.bind (new E (.loop (lp .ready))) fun l => match ev t.t f with
  | .func fn first captured => M.bind (invoke' E (.fn fn captured) (first ++ #[.func (.yield l) #[] #[]])) fun n => match n with
    | .enter g args => M.bind (call g args) fun _ => M.bind (obj E l) fun o => match o with
      | .loop r => if r.state == .ready && r.pending.isNone then M.bind (put E l (some (.loop (lp .exhausted)))) fun _ => M.pure (.normal, { t with ds := d :: t.ds }) else fail "rangeFunc: a round"
      | _ => fail "rangeFunc: no loop"
    | _ => fail "rangeFunc: call"
  | _ => fail "rangeFunc: no function"

def evCode (E : Env) (call : CallM) : Nat → Code → Ac → M (Ex × Ac)
  | 0, _, _ => fail "out of fuel"
  | k + 1, c, t => match c with
    | .skip | .label _ => M.pure (.normal, t)
    | .seq a b => M.bind (evCode E call k a t) fun r => match r.1 with
      | .normal => evCode E call k b r.2
      | e => M.pure (e, r.2)
    | .cond c a b => match ev t.t c with
      | .bool x => evCode E call k (if x then a else b) t
      | _ => fail "cond"
    | .block id c => M.bind (evCode E call k c t) fun r => match r.1 with
      | .exit id' => if id' = id then M.pure (.normal, r.2) else M.pure (.exit id', r.2)
      | e => M.pure (e, r.2)
    | .scope c => M.bind (evCode E call k c t) fun r => match r.1 with
      | .goto _ => fail "goto"
      | e => M.pure (e, r.2)
    | .loop c => M.bind (evCode E call k c t) fun r => match r.1 with
      | .normal => evCode E call k (.loop c) r.2
      | e => M.pure (e, r.2)
    | .exit id => M.pure (.exit id, t)
    | .ret => M.pure (.ret, t)
    | .region _ ops false => M.bind (evOps E call ops ops.toList t.t) fun u => M.pure (.normal, { t with t := u })
    | .region _ ops true => M.bind (evDrawn E call ops ops.toList 0 [] t.t) fun u => M.pure (.normal, { t with t := u })
    | .rangeFunc f _ _ _ => evRange E call f t
    | _ => fail "code that is not run"

def takeAll (E : Env) : List Nat → M Unit
  | [] => M.pure ()
  | d :: ds => M.bind (obj E d) fun o => match o with
    | .deferred (some []) => M.bind (put E d (some (.deferred none))) fun _ => takeAll E ds
    | _ => fail "collected"

def resultsL (E : Env) (tmps : Array Value) : List ResultVar → M (List Value)
  | [] => M.pure []
  | .tmp t :: r => M.bind (resultsL E tmps r) fun vs => M.pure (tmps.getD t undef :: vs)
  | .cell a t :: r => match tmps.getD a undef with
    | .pointer (some a) => M.bind (crun E (loadVar t a)) fun v => M.bind (resultsL E tmps r) fun vs => M.pure (v :: vs)
    | _ => fail "results"
def oneOf : List Value → Value
  | [v] => v
  | vs => .tuple vs.toArray

def evCall (E : Env) (fuel : Nat) : Nat → CallM
  | 0, _, _ => fail "out of fuel"
  | k + 1, f, args => match E.P.funcs[f]? with
    | none => fail "no function"
    | some fn => match fn.body with
      | none => fail "no body"
      | some c => M.bind (evCode E (evCall E fuel k) fuel c { t := args ++ Array.replicate (fn.ntmps - args.size) undef, ds := [] }) fun r => match r.1 with
        | .normal | .ret => M.bind (takeAll E r.2.ds) fun _ => M.bind (resultsL E r.2.t fn.results.toList) fun vs => M.pure (oneOf vs)
        | _ => fail "a function left by a jump"
end Go.Ev

namespace Go.Ev
set_option linter.unusedVariables false

def CapR (c c' : Nat) : Prop := (c < U → c' = c) ∧ (U ≤ c → c - U ≤ c')

/-- Which real block a canonical one is; and how many elements fit into it, if an append has made it. -/
structure S where
  f : Nat → Option Nat
  k : Nat → Nat
instance : CoeFun S (fun _ => Nat → Option Nat) := ⟨S.f⟩

mutual
inductive VR (σ : S) : Value → Value → Prop
  | bool (b : Bool) : VR σ (.bool b) (.bool b)
  | int (k : IntKind) (n : Int) : VR σ (.int k n) (.int k n)
  | float (k : FloatKind) (n : Nat) : VR σ (.float k n) (.float k n)
  | complex (k : FloatKind) (x y : Nat) : VR σ (.complex k x y) (.complex k x y)
  | string (s : ByteArray) : VR σ (.string s) (.string s)
  | ptrNil : VR σ (.pointer none) (.pointer none)
  | ptr (b r o : Nat) (h : σ b = some r) : VR σ (.pointer (some ⟨b, o, none⟩)) (.pointer (some ⟨r, o, none⟩))
  | sliceNil (n c c' : Nat) (hc : CapR c c') : VR σ (.slice none n c) (.slice none n c')
  | slice (b r o n c c' : Nat) (h : σ b = some r) (hc : CapR c c') (hk : U ≤ c → c' = σ.k b) : VR σ (.slice (some ⟨b, o, none⟩) n c) (.slice (some ⟨r, o, none⟩) n c')
  | mapNil : VR σ (.map none) (.map none)
  | map (b r : Nat) (h : σ b = some r) : VR σ (.map (some b)) (.map (some r))
  | chanNil : VR σ (.chan none) (.chan none)
  | func (fn : Fn) (xs ys xs' ys' : List Value) (hn : ∀ l, fn ≠ .yield l) (hx : VRL σ xs xs') (hy : VRL σ ys ys') : VR σ (.func fn ⟨xs⟩ ⟨ys⟩) (.func fn ⟨xs'⟩ ⟨ys'⟩)
  | yield (l r : Nat) (xs ys xs' ys' : List Value) (h : σ l = some r) (hx : VRL σ xs xs') (hy : VRL σ ys ys') : VR σ (.func (.yield l) ⟨xs⟩ ⟨ys⟩) (.func (.yield r) ⟨xs'⟩ ⟨ys'⟩)
  | nilFunc : VR σ .nilFunc .nilFunc
  | iface (t : TypeId) (v v' : Value) (h : VR σ v v') : VR σ (.iface t v) (.iface t v')
  | nilIface : VR σ .nilIface .nilIface
  | agg (xs xs' : List Value) (h : VRL σ xs xs') : VR σ (.agg ⟨xs⟩) (.agg ⟨xs'⟩)
  | tuple (xs xs' : List Value) (h : VRL σ xs xs') : VR σ (.tuple ⟨xs⟩) (.tuple ⟨xs'⟩)
inductive VRL (σ : S) : List Value → List Value → Prop
  | nil : VRL σ [] []
  | cons (v v' : Value) (xs xs' : List Value) (h : VR σ v v') (hs : VRL σ xs xs') : VRL σ (v :: xs) (v' :: xs')
end

structure Sub (σ σ' : S) : Prop where
  f : ∀ b r, σ b = some r → σ' b = some r
  k : ∀ b r, σ b = some r → σ'.k b = σ.k b
theorem Sub.refl (σ : S) : Sub σ σ := ⟨fun _ _ h => h, fun _ _ _ => rfl⟩
theorem Sub.trans {σ σ' σ'' : S} (h : Sub σ σ') (k : Sub σ' σ'') : Sub σ σ'' := ⟨fun b r e => k.f b r (h.f b r e), fun b r e => (k.k b r (h.f b r e)).trans (h.k b r e)⟩

theorem VR.mono {σ σ' : S} (hs : Sub σ σ') {v v' : Value} (h : VR σ v v') : VR σ' v v' := by
  refine VR.rec (motive_1 := fun v v' _ => VR σ' v v') (motive_2 := fun xs xs' _ => VRL σ' xs xs') ?_ ?_ ?_ ?_ ?_ ?_ ?_ ?_ ?_ ?_ ?_ ?_ ?_ ?_ ?_ ?_ ?_ ?_ ?_ ?_ ?_ h
  · exact fun b => .bool b
  · exact fun k n => .int k n
  · exact fun k n => .float k n
  · exact fun k x y => .complex k x y
  · exact fun s => .string s
  · exact .ptrNil
  · exact fun b r o h => .ptr b r o (hs.f _ _ h)
  · exact fun n c c' hc => .sliceNil n c c' hc
  · exact fun b r o n c c' h hc hk => .slice b r o n c c' (hs.f _ _ h) hc fun hU => (hk hU).trans (hs.k _ _ h).symm
  · exact .mapNil
  · exact fun b r h => .map b r (hs.f _ _ h)
  · exact .chanNil
  · exact fun fn xs ys xs' ys' hn _ _ ix iy => .func fn xs ys xs' ys' hn ix iy
  · exact fun l r xs ys xs' ys' h _ _ ix iy => .yield l r xs ys xs' ys' (hs.f _ _ h) ix iy
  · exact .nilFunc
  · exact fun t v v' _ i => .iface t v v' i
  · exact .nilIface
  · exact fun xs xs' _ i => .agg xs xs' i
  · exact fun xs xs' _ i => .tuple xs xs' i
  · exact .nil
  · exact fun v v' xs xs' _ _ i j => .cons v v' xs xs' i j
theorem VRL.mono {σ σ' : S} (hs : Sub σ σ') {xs ys : List Value} (h : VRL σ xs ys) : VRL σ' xs ys := by
  have := VR.mono hs (.agg xs ys h)
  cases this
  assumption

theorem VRL.length {σ : S} {xs ys : List Value} (h : VRL σ xs ys) : xs.length = ys.length := by
  induction xs generalizing ys with
  | nil => cases h; rfl
  | cons x xs ih => cases h with | cons _ _ _ _ h hs => simp [ih hs]
theorem VRL.get {σ : S} {xs ys : List Value} (h : VRL σ xs ys) (i : Nat) (v : Value) (hv : xs[i]? = some v) : ∃ v', ys[i]? = some v' ∧ VR σ v v' := by
  induction xs generalizing ys i with
  | nil => simp at hv
  | cons x xs ih =>
    cases h with
    | cons _ y _ ys h hs =>
      cases i with
      | zero => simp at hv; subst hv; exact ⟨y, by simp, h⟩
      | succ i => simp at hv; simpa using ih hs i hv
theorem VRL.get_none {σ : S} {xs ys : List Value} (h : VRL σ xs ys) (i : Nat) (hv : xs[i]? = none) : ys[i]? = none := by
  have := h.length
  simp only [List.getElem?_eq_none_iff] at hv ⊢
  omega
theorem VRL.append {σ : S} {xs ys us vs : List Value} (h : VRL σ xs ys) (k : VRL σ us vs) : VRL σ (xs ++ us) (ys ++ vs) := by
  induction xs generalizing ys with
  | nil => cases h; exact k
  | cons x xs ih => cases h with | cons _ y _ ys h hs => exact .cons _ _ _ _ h (ih hs)
theorem VRL.take {σ : S} {xs ys : List Value} (h : VRL σ xs ys) (n : Nat) : VRL σ (xs.take n) (ys.take n) := by
  induction xs generalizing ys n with
  | nil => cases h; simpa using VRL.nil
  | cons x xs ih =>
    cases h with
    | cons _ y _ ys h hs =>
      cases n with
      | zero => simpa using VRL.nil
      | succ n => simpa using VRL.cons _ _ _ _ h (ih hs n)
theorem VRL.drop {σ : S} {xs ys : List Value} (h : VRL σ xs ys) (n : Nat) : VRL σ (xs.drop n) (ys.drop n) := by
  induction xs generalizing ys n with
  | nil => cases h; simpa using VRL.nil
  | cons x xs ih =>
    cases h with
    | cons _ y _ ys h hs =>
      cases n with
      | zero => exact .cons _ _ _ _ h hs
      | succ n => simpa using ih hs n
theorem VRL.set {σ : S} {xs ys : List Value} (h : VRL σ xs ys) (i : Nat) {v v' : Value} (hv : VR σ v v') : VRL σ (xs.set i v) (ys.set i v') := by
  induction xs generalizing ys i with
  | nil => cases h; simpa using VRL.nil
  | cons x xs ih =>
    cases h with
    | cons _ y _ ys h hs =>
      cases i with
      | zero => exact .cons _ _ _ _ hv hs
      | succ i => exact .cons _ _ _ _ h (ih hs i)
theorem VRL.ofGet {σ : S} {xs ys : List Value} (hl : xs.length = ys.length) (h : ∀ (i : Nat) (v : Value), xs[i]? = some v → ∃ v', ys[i]? = some v' ∧ VR σ v v') : VRL σ xs ys := by
  induction xs generalizing ys with
  | nil =>
    cases ys with
    | nil => exact .nil
    | cons y ys => simp at hl
  | cons x xs ih =>
    cases ys with
    | nil => simp at hl
    | cons y ys =>
      obtain ⟨v', e, hv⟩ := h 0 x rfl
      simp at e
      subst e
      exact .cons _ _ _ _ hv (ih (by simpa using hl) (fun i v hi => by simpa using h (i + 1) v (by simpa using hi)))

/-- arrays -/
def VRA (σ : S) (a b : Array Value) : Prop := VRL σ a.toList b.toList
theorem VRA.mono {σ σ' : S} (hs : Sub σ σ') {a b : Array Value} (h : VRA σ a b) : VRA σ' a b := VRL.mono hs h
theorem VRA.size {σ : S} {a b : Array Value} (h : VRA σ a b) : a.size = b.size := by
  have := VRL.length h
  simpa using this
theorem VRA.get {σ : S} {a b : Array Value} (h : VRA σ a b) (i : Nat) (v : Value) (hv : a[i]? = some v) : ∃ v', b[i]? = some v' ∧ VR σ v v' := by
  have := VRL.get h i v (by simpa using hv)
  simpa using this
theorem VRA.get_none {σ : S} {a b : Array Value} (h : VRA σ a b) (i : Nat) (hv : a[i]? = none) : b[i]? = none := by
  have := VRL.get_none h i (by simpa using hv)
  simpa using this
theorem VRA.append {σ : S} {a b c d : Array Value} (h : VRA σ a b) (k : VRA σ c d) : VRA σ (a ++ c) (b ++ d) := by
  have := VRL.append h k
  simpa [VRA] using this
theorem VRA.set {σ : S} {a b : Array Value} (h : VRA σ a b) (i : Nat) {v v' : Value} (hv : VR σ v v') : VRA σ (a.setIfInBounds i v) (b.setIfInBounds i v') := by
  have := VRL.set h i hv
  simpa [VRA] using this
theorem VRA.push {σ : S} {a b : Array Value} (h : VRA σ a b) {v v' : Value} (hv : VR σ v v') : VRA σ (a.push v) (b.push v') := by
  have := VRL.append h (VRL.cons _ _ _ _ hv VRL.nil)
  simpa [VRA] using this
theorem undef_VR (σ : S) : VR σ undef undef := .tuple [] [] .nil
theorem VRA.getD {σ : S} {a b : Array Value} (h : VRA σ a b) (i : Nat) : VR σ (a.getD i undef) (b.getD i undef) := by
  rw [Array.getD_eq_getD_getElem?, Array.getD_eq_getD_getElem?]
  cases hv : a[i]? with
  | none => rw [h.get_none i hv]; exact undef_VR σ
  | some v =>
    obtain ⟨v', e, hr⟩ := h.get i v hv
    rw [e]
    exact hr

/-! ### ground values -/
theorem ground_eq {σ : S} : ∀ (n : Nat) {v v' : Value}, VR σ v v' → ground n v = true → v' = v := by
  intro n
  induction n with
  | zero => intro v v' _ h; simp [ground] at h
  | succ n ih =>
    have ihl : ∀ {xs ys : List Value}, VRL σ xs ys → allL (ground n) xs = true → ys = xs := by
      intro xs
      induction xs with
      | nil => intro ys h _; cases h; rfl
      | cons x xs ihx =>
        intro ys h hg
        cases h with
        | cons _ y _ ys h hs =>
          simp only [allL, Bool.and_eq_true] at hg
          rw [ih h hg.1, ihx hs hg.2]
    intro v v' h hg
    cases h with
    | ptr b r o h => simp [ground] at hg
    | slice b r o n c c' h hc hk => simp [ground] at hg
    | map b r h => simp [ground] at hg
    | sliceNil n c c' hc =>
      simp only [ground, decide_eq_true_eq] at hg
      rw [hc.1 hg]
    | func fn xs ys xs' ys' hn hx hy =>
      have hg' : (allL (ground n) xs && allL (ground n) ys) = true := by
        cases fn <;> first | exact hg | exact absurd rfl (hn _)
      simp only [Bool.and_eq_true] at hg'
      rw [ihl hx hg'.1, ihl hy hg'.2]
    | yield l r xs ys xs' ys' h hx hy => simp [ground] at hg
    | iface t v v' h => simp only [ground] at hg; rw [ih h hg]
    | agg xs xs' h => simp only [ground] at hg; rw [ihl h hg]
    | tuple xs xs' h => simp only [ground] at hg; rw [ihl h hg]
    | _ => rfl
theorem ground_self (σ : S) : ∀ (n : Nat) {v : Value}, ground n v = true → VR σ v v := by
  intro n
  induction n with
  | zero => intro v h; simp [ground] at h
  | succ n ih =>
    have ihl : ∀ {xs : List Value}, allL (ground n) xs = true → VRL σ xs xs := by
      intro xs
      induction xs with
      | nil => intro _; exact .nil
      | cons x xs ihx =>
        intro hg
        simp only [allL, Bool.and_eq_true] at hg
        exact .cons _ _ _ _ (ih hg.1) (ihx hg.2)
    intro v hg
    cases v with
    | bool b => exact .bool b
    | int k n => exact .int k n
    | float k n => exact .float k n
    | complex k x y => exact .complex k x y
    | string s => exact .string s
    | pointer a => cases a with | none => exact .ptrNil | some a => simp [ground] at hg
    | slice a n c =>
      cases a with
      | none =>
        simp only [ground, decide_eq_true_eq] at hg
        exact .sliceNil n c c ⟨fun _ => rfl, fun h => by omega⟩
      | some a => simp [ground] at hg
    | map r => cases r with | none => exact .mapNil | some r => simp [ground] at hg
    | chan r => cases r with | none => exact .chanNil | some r => simp [ground] at hg
    | func fn xs ys =>
      obtain ⟨xs⟩ := xs
      obtain ⟨ys⟩ := ys
      have hn : ∀ l, fn ≠ .yield l := by
        intro l e
        subst e
        simp [ground] at hg
      have hg' : (allL (ground n) xs && allL (ground n) ys) = true := by
        cases fn <;> first | exact hg | exact absurd rfl (hn _)
      simp only [Bool.and_eq_true] at hg'
      exact .func fn xs ys xs ys hn (ihl hg'.1) (ihl hg'.2)
    | nilFunc => exact .nilFunc
    | iface t v => simp only [ground] at hg; exact .iface t v v (ih hg)
    | nilIface => exact .nilIface
    | agg xs => obtain ⟨xs⟩ := xs; simp only [ground] at hg; exact .agg xs xs (ihl hg)
    | tuple xs => obtain ⟨xs⟩ := xs; simp only [ground] at hg; exact .tuple xs xs (ihl hg)
theorem gr_eq {σ : S} {v v' : Value} (h : VR σ v v') (hg : gr v = true) : v' = v := ground_eq 20 h hg
theorem gr_self (σ : S) {v : Value} (hg : gr v = true) : VR σ v v := ground_self σ 20 hg
theorem allL_VRL (σ : S) : ∀ {xs : List Value}, allL gr xs = true → VRL σ xs xs
  | [], _ => .nil
  | x :: xs, h => by
    simp only [allL, Bool.and_eq_true] at h
    exact .cons _ _ _ _ (gr_self σ h.1) (allL_VRL σ h.2)
end Go.Ev

namespace Go.Ev
open Go.RowKit
set_option linter.unusedVariables false

/-! ### the trie -/
theorem T.get_e (d b : Nat) : T.get d .e b = none := by
  induction d generalizing b with
  | zero => rfl
  | succ d ih => simp [T.get, T.left, T.right, ih]
theorem T.get_set_same (d : Nat) : ∀ (t : T) (b : Nat) (o : Option Obj), T.get d (T.set d t b o) b = o := by
  induction d with
  | zero => intro t b o; rfl
  | succ d ih =>
    intro t b o
    by_cases h : b % 2 = 0 <;> simp [T.get, T.set, h, T.left, T.right, ih]
theorem T.get_set_ne (d : Nat) : ∀ (t : T) (a b : Nat) (o : Option Obj), a < 2 ^ d → b < 2 ^ d → a ≠ b → T.get d (T.set d t a o) b = T.get d t b := by
  induction d with
  | zero => intro t a b o ha hb hne; simp at ha hb; omega
  | succ d ih =>
    intro t a b o ha hb hne
    have ha2 : a / 2 < 2 ^ d := by rw [Nat.pow_succ] at ha; omega
    have hb2 : b / 2 < 2 ^ d := by rw [Nat.pow_succ] at hb; omega
    by_cases h : a % 2 = 0 <;> by_cases k : b % 2 = 0 <;> simp only [T.get, T.set, h, k, if_true, if_false, T.left, T.right]
    · exact ih _ _ _ _ ha2 hb2 (by omega)
    · exact ih _ _ _ _ ha2 hb2 (by omega)
theorem T.set_comm (d : Nat) : ∀ (t : T) (a b : Nat) (o p : Option Obj), a < 2 ^ d → b < 2 ^ d → a ≠ b → T.set d (T.set d t a o) b p = T.set d (T.set d t b p) a o := by
  induction d with
  | zero => intro t a b o p ha hb hne; simp at ha hb; omega
  | succ d ih =>
    intro t a b o p ha hb hne
    have ha2 : a / 2 < 2 ^ d := by rw [Nat.pow_succ] at ha; omega
    have hb2 : b / 2 < 2 ^ d := by rw [Nat.pow_succ] at hb; omega
    by_cases h : a % 2 = 0 <;> by_cases k : b % 2 = 0 <;> simp only [T.set, h, k, if_true, if_false, T.left, T.right]
    · rw [ih _ _ _ _ _ ha2 hb2 (by omega)]
    · rw [ih _ _ _ _ _ ha2 hb2 (by omega)]

/-! ### the heap -/
theorem getB_put_same (E : Env) (h : Hp) (b : Nat) (o : Option Obj) (h0 : E.base ≤ b) (h1 : b < 2 ^ D) : getB E (h.put b o) b = o := by
  simp [getB, Hp.put, h1, Nat.not_lt.2 h0, T.get_set_same]
theorem getB_put_ne (E : Env) (h : Hp) (a b : Nat) (o : Option Obj) (h1 : a < 2 ^ D) (hne : a ≠ b) : getB E (h.put a o) b = getB E h b := by
  unfold getB Hp.put
  split
  · rfl
  · split
    · rename_i hb
      exact T.get_set_ne D _ _ _ _ h1 hb hne
    · rfl
theorem getB_new_same (E : Env) (h : Hp) (o : Obj) (h0 : E.base ≤ h.n) (h1 : h.n < 2 ^ D) : getB E (h.new o) h.n = some o := by
  simp [getB, Hp.new, h1, Nat.not_lt.2 h0, T.get_set_same]
theorem getB_new_ne (E : Env) (h : Hp) (b : Nat) (o : Obj) (h1 : h.n < 2 ^ D) (hne : h.n ≠ b) : getB E (h.new o) b = getB E h b := by
  unfold getB Hp.new
  split
  · rfl
  · split
    · rename_i hb
      exact T.get_set_ne D _ _ _ _ h1 hb hne
    · rfl
theorem getB_rd (E : Env) (h : Hp) (a b : Nat) : getB E (h.rd a) b = getB E h b := rfl
theorem getB_lt (E : Env) (h : Hp) (b : Nat) (o : Obj) (hb : getB E h b = some o) (h0 : E.base ≤ b) : b < 2 ^ D := by
  unfold getB at hb
  rw [if_neg (by omega)] at hb
  split at hb
  · assumption
  · cases hb

/-! ### what a canonical object says of a real one -/
def FnR (σ : S) (f f' : Fn) : Prop := (f' = f ∧ ∀ l, f ≠ .yield l) ∨ ∃ l r, f = .yield l ∧ f' = .yield r ∧ σ l = some r
def TgR (σ : S) : Target → Target → Prop
  | .fn f c, t => ∃ f' c', t = .fn f' c' ∧ FnR σ f f' ∧ VRA σ c c'
  | .builtin b ats ty cs, t => t = .builtin b ats ty cs
  | .collected r, t => ∃ r', t = .collected r' ∧ σ r = some r'
  | _, _ => False
structure DfR (σ : S) (d d' : Deferred) : Prop where
  target : TgR σ d.target d'.target
  args : VRA σ d.args d'.args
def DfL (σ : S) : List Deferred → List Deferred → Prop
  | [], l => l = []
  | d :: ds, l => ∃ d' ds', l = d' :: ds' ∧ DfR σ d d' ∧ DfL σ ds ds'
structure EntR (σ : S) (e e' : MapEntry) : Prop where
  key : e'.key = e.key
  gr : gr e.key = true
  val : VR σ e.val e'.val
  born : e'.born = e.born
def EntL (σ : S) : List MapEntry → List MapEntry → Prop
  | [], l => l = []
  | d :: ds, l => ∃ d' ds', l = d' :: ds' ∧ EntR σ d d' ∧ EntL σ ds ds'
def OptR (σ : S) : Option Nat → Option Nat → Prop
  | none, o => o = none
  | some b, o => ∃ r, o = some r ∧ σ b = some r
structure LoopR (σ : S) (l l' : Loop) : Prop where
  state : l'.state = l.state
  pending : l'.pending = l.pending
structure CelR (σ : S) (c c' : Array Value) (fr fr' : Nat × Nat) : Prop where
  size : c.size ≤ c'.size
  get : ∀ (i : Nat) (v : Value), c[i]? = some v → ∃ v', c'[i]? = some v' ∧ VR σ v v'
  free : ∀ i, i < c.size → (decide (fr'.1 ≤ i) && decide (i < fr'.2)) = false
  plain : fr = (0, 0) → fr' = (0, 0)
def ObR (σ : S) : Obj → Obj → Prop
  | .cells c e fr, o => ∃ c' e' fr', o = .cells c' e' fr' ∧ CelR σ c c' fr fr'
  | .map es clock, o => ∃ es', o = .map es' clock ∧ EntL σ es.toList es'.toList
  | .stringIter s pos, o => o = .stringIter s pos
  | .mapIter m since seen stepped, o => ∃ m', o = .mapIter m' since seen stepped ∧ OptR σ m m'
  | .loop l, o => ∃ l', o = .loop l' ∧ LoopR σ l l'
  | .deferred none, o => o = .deferred none
  | .deferred (some ds), o => ∃ ds', o = .deferred (some ds') ∧ DfL σ ds ds'
  | _, _ => False

theorem FnR.mono {σ σ' : S} (hs : Sub σ σ') {f f' : Fn} (h : FnR σ f f') : FnR σ' f f' := by
  rcases h with h | ⟨l, r, e, e', h⟩
  · exact .inl h
  · exact .inr ⟨l, r, e, e', hs.f _ _ h⟩
theorem TgR.mono {σ σ' : S} (hs : Sub σ σ') {t t' : Target} (h : TgR σ t t') : TgR σ' t t' := by
  cases t with
  | fn f c => obtain ⟨f', c', e, hf, hc⟩ := h; exact ⟨f', c', e, hf.mono hs, hc.mono hs⟩
  | builtin b ats ty cs => exact h
  | collected r => obtain ⟨r', e, h⟩ := h; exact ⟨r', e, hs.f _ _ h⟩
  | nil => exact h.elim
  | coroexit c => exact h.elim
theorem DfR.mono {σ σ' : S} (hs : Sub σ σ') {d d' : Deferred} (h : DfR σ d d') : DfR σ' d d' := ⟨h.1.mono hs, h.2.mono hs⟩
theorem DfL.mono {σ σ' : S} (hs : Sub σ σ') : ∀ {l l' : List Deferred}, DfL σ l l' → DfL σ' l l'
  | [], _, h => h
  | _ :: _, _, ⟨d', ds', e, h, k⟩ => ⟨d', ds', e, h.mono hs, DfL.mono hs k⟩
theorem EntL.mono {σ σ' : S} (hs : Sub σ σ') : ∀ {l l' : List MapEntry}, EntL σ l l' → EntL σ' l l'
  | [], _, h => h
  | _ :: _, _, ⟨d', ds', e, h, k⟩ => ⟨d', ds', e, ⟨h.key, h.gr, h.val.mono hs, h.born⟩, EntL.mono hs k⟩
theorem OptR.mono {σ σ' : S} (hs : Sub σ σ') {a b : Option Nat} (h : OptR σ a b) : OptR σ' a b := by
  cases a with
  | none => exact h
  | some a => obtain ⟨r, e, h⟩ := h; exact ⟨r, e, hs.f _ _ h⟩
theorem ObR.mono {σ σ' : S} (hs : Sub σ σ') {o o' : Obj} (h : ObR σ o o') : ObR σ' o o' := by
  cases o with
  | cells c e fr =>
    obtain ⟨c', e', fr', rfl, h1, h2, h3, h4⟩ := h
    exact ⟨c', e', fr', rfl, h1, fun i v hv => by obtain ⟨v', e, k⟩ := h2 i v hv; exact ⟨v', e, k.mono hs⟩, h3, h4⟩
  | map es clock => obtain ⟨es', rfl, h⟩ := h; exact ⟨es', rfl, h.mono hs⟩
  | stringIter s pos => exact h
  | mapIter m a b c => obtain ⟨m', rfl, h⟩ := h; exact ⟨m', rfl, h.mono hs⟩
  | loop l => obtain ⟨l', rfl, h⟩ := h; exact ⟨l', rfl, h.state, h.pending⟩
  | deferred ds =>
    cases ds with
    | none => exact h
    | some ds => obtain ⟨ds', rfl, h⟩ := h; exact ⟨ds', rfl, h.mono hs⟩
  | _ => exact h.elim

/-- What is held fast: the world in which the run began, and how many blocks it had. -/
structure Cx where
  E : Env
  w0 : World
structure HR (X : Cx) (σ : S) (h : Hp) (w : World) : Prop where
  live : ∀ b o, getB X.E h b = some o → ∃ r o', σ b = some r ∧ w.heap[r]? = some o' ∧ ObR σ o o'
  inj : ∀ a b o p r, getB X.E h a = some o → getB X.E h b = some p → σ a = some r → σ b = some r → a = b
  glob : ∀ b, b < X.E.base → σ b = some b
  base : X.E.base ≤ X.w0.heap.size
  new : ∀ b r, σ b = some r → X.E.base ≤ b → X.w0.heap.size ≤ r
  lt : ∀ b r, σ b = some r → r < w.heap.size
  cap : ∀ b c e fr r c' e' fr' i, getB X.E h b = some (.cells c e fr) → σ b = some r → w.heap[r]? = some (.cells c' e' fr') → X.E.P.info? e = some i → σ.k b * i.size ≤ c'.size
  below : Below X.w0.heap.size X.w0 w

/-- σ' is σ, and more of lo .. hi alone. -/
structure Ext (σ σ' : S) (lo hi : Nat) : Prop where
  sub : Sub σ σ'
  out : ∀ b, σ b = none → ¬ (lo ≤ b ∧ b < hi) → σ' b = none
theorem Ext.refl (σ : S) (lo hi : Nat) : Ext σ σ lo hi := ⟨Sub.refl σ, fun _ h _ => h⟩
theorem Ext.trans {σ σ' σ'' : S} {a b c : Nat} (h : Ext σ σ' a b) (k : Ext σ' σ'' b c) (hab : a ≤ b) (hbc : b ≤ c) : Ext σ σ'' a c :=
  ⟨h.sub.trans k.sub, fun x hx hn => k.out x (h.out x hx (by omega)) (by omega)⟩

theorem HR.rd {X : Cx} {σ : S} {h : Hp} {w : World} (H : HR X σ h w) (b : Nat) : HR X σ (h.rd b) w := ⟨H.live, H.inj, H.glob, H.base, H.new, H.lt, H.cap, H.below⟩
theorem HR.drew {X : Cx} {σ : S} {h : Hp} {w : World} (H : HR X σ h w) : HR X σ h { w with drawn := w.drawn + 1 } :=
  ⟨H.live, H.inj, H.glob, H.base, H.new, H.lt, H.cap, ⟨H.below.os, H.below.tape, H.below.output, H.below.size, H.below.block⟩⟩

/-- A block is written: canonical block b becomes o (or dies), real block r becomes o'. -/
theorem HR.put {X : Cx} {σ : S} {h : Hp} {w w' : World} (H : HR X σ h w) {b r : Nat} {o : Obj} {o' : Obj} {old : Obj} (hold : getB X.E h b = some old) (hb : X.E.base ≤ b) (hr : σ b = some r)
    (hw : w'.heap[r]? = some o') (hO : ObR σ o o') (hcap : ∀ c e fr c' e' fr' i, o = .cells c e fr → o' = .cells c' e' fr' → X.E.P.info? e = some i → σ.k b * i.size ≤ c'.size) (hne : ∀ k, k ≠ r → w'.heap[k]? = w.heap[k]?) (hsz : w'.heap.size = w.heap.size) (hos : w'.os = w.os) (ht : w'.tape = w.tape) (hout : w'.output = w.output) :
    HR X σ (h.put b (some o)) w' := by
  have hlt := getB_lt X.E h b old hold hb
  refine ⟨?_, ?_, H.glob, H.base, H.new, fun a s hs => by rw [hsz]; exact H.lt a s hs, ?_, ?_⟩
  · intro a p hp
    by_cases e : b = a
    · subst e
      rw [getB_put_same X.E h b _ hb hlt] at hp
      cases hp
      exact ⟨r, o', hr, hw, hO⟩
    · rw [getB_put_ne X.E h b a _ hlt e] at hp
      obtain ⟨s, p', hs, hws, hop⟩ := H.live a p hp
      refine ⟨s, p', hs, ?_, hop⟩
      rw [hne s (fun es => ?_)]
      · exact hws
      · subst es
        exact e (H.inj b a old p s hold hp hr hs)
  · intro a c p q s hp hq hs ht
    have ex : ∀ x y, getB X.E (h.put b (some o)) x = some y → ∃ z, getB X.E h x = some z := by
      intro x y hy
      by_cases e : b = x
      · subst e; exact ⟨_, hold⟩
      · rw [getB_put_ne X.E h b x _ hlt e] at hy; exact ⟨_, hy⟩
    obtain ⟨p', hp'⟩ := ex a p hp
    obtain ⟨q', hq'⟩ := ex c q hq
    exact H.inj a c p' q' s hp' hq' hs ht
  · intro a c e fr s c' e' fr' i ha hs hws hi
    by_cases eb : b = a
    · subst eb
      rw [getB_put_same X.E h b _ hb hlt] at ha
      cases ha
      rw [hr] at hs
      cases hs
      rw [hw] at hws
      cases hws
      exact hcap _ _ _ _ _ _ _ rfl rfl hi
    · rw [getB_put_ne X.E h b a _ hlt eb] at ha
      rw [hne s (fun es => by subst es; exact eb (H.inj b a old _ s hold ha hr hs))] at hws
      exact H.cap a c e fr s c' e' fr' i ha hs hws hi
  · refine ⟨hos.trans H.below.os, ht.trans H.below.tape, hout.trans H.below.output, by rw [hsz]; exact H.below.size, fun k hk => ?_⟩
    rw [hne k (fun e => ?_)]
    · exact H.below.block k hk
    · have := H.new b r hr hb
      omega
/-- A new block. -/
theorem HR.alloc {X : Cx} {σ : S} {h : Hp} {w : World} (H : HR X σ h w) {o o' : Obj} (k : Nat) (h0 : X.E.base ≤ h.n) (h1 : h.n < 2 ^ D) (hf : σ h.n = none) (hO : ∀ σ', Sub σ σ' → σ' h.n = some w.heap.size → ObR σ' o o')
    (hcap : ∀ c e fr c' e' fr' i, o = .cells c e fr → o' = .cells c' e' fr' → X.E.P.info? e = some i → k * i.size ≤ c'.size) :
    ∃ σ', Ext σ σ' h.n (h.n + 1) ∧ σ' h.n = some w.heap.size ∧ σ'.k h.n = k ∧ HR X σ' (h.new o) { w with heap := w.heap.push o' } := by
  have hsub : Sub σ ⟨fun b => if b = h.n then some w.heap.size else σ b, fun b => if b = h.n then k else σ.k b⟩ := ⟨fun b r hb => by
      show (if b = h.n then _ else _) = _
      rw [if_neg (fun e => by subst e; rw [hf] at hb; cases hb)]
      exact hb, fun b r hb => by
      show (if b = h.n then _ else _) = _
      rw [if_neg (fun e => by subst e; rw [hf] at hb; cases hb)]⟩
  refine ⟨⟨fun b => if b = h.n then some w.heap.size else σ b, fun b => if b = h.n then k else σ.k b⟩, ⟨hsub, fun b hb hn => ?_⟩, by simp, by simp, ?_⟩
  · show (if b = h.n then _ else _) = _
    rw [if_neg (by omega)]
    exact hb
  · refine ⟨?_, ?_, ?_, H.base, ?_, ?_, ?_, ?_⟩
    · intro b p hp
      by_cases e : h.n = b
      · subst e
        rw [getB_new_same X.E h o h0 h1] at hp
        cases hp
        exact ⟨w.heap.size, o', by simp, by simp, hO _ hsub (by simp)⟩
      · rw [getB_new_ne X.E h b o h1 e] at hp
        obtain ⟨r, p', hr, hw, hop⟩ := H.live b p hp
        refine ⟨r, p', hsub.f b r hr, ?_, hop.mono hsub⟩
        have := H.lt b r hr
        rw [Array.getElem?_push_lt this]
        rw [Array.getElem?_eq_getElem this] at hw
        exact hw
    · intro a b p q r hp hq hr hs
      by_cases ea : a = h.n <;> by_cases eb : b = h.n
      · rw [ea, eb]
      · simp only [ea, eb, if_true, if_false, Option.some.injEq] at hr hs
        subst hr
        have := H.lt b _ hs
        omega
      · simp only [ea, eb, if_true, if_false, Option.some.injEq] at hr hs
        subst hs
        have := H.lt a _ hr
        omega
      · simp only [ea, eb, if_false] at hr hs
        rw [getB_new_ne X.E h a o h1 (Ne.symm ea)] at hp
        rw [getB_new_ne X.E h b o h1 (Ne.symm eb)] at hq
        exact H.inj a b p q r hp hq hr hs
    · intro b hb
      show (if b = h.n then _ else _) = _
      rw [if_neg (by omega)]
      exact H.glob b hb
    · intro b r hr hb
      by_cases e : b = h.n
      · simp only [e, if_true, Option.some.injEq] at hr
        subst hr
        exact H.below.size
      · simp only [e, if_false] at hr
        exact H.new b r hr hb
    · intro b r hr
      by_cases e : b = h.n
      · simp only [e, if_true, Option.some.injEq] at hr
        subst hr
        simp
      · simp only [e, if_false] at hr
        have := H.lt b r hr
        simp
        omega
    · intro b c e fr r c' e' fr' i hb hr hw hi
      by_cases eb : b = h.n
      · subst eb
        rw [getB_new_same X.E h o h0 h1] at hb
        cases hb
        simp only [if_true, Option.some.injEq] at hr
        subst hr
        simp only [Array.getElem?_push_size, Option.some.injEq] at hw
        simp only [if_true]
        exact hcap _ _ _ _ _ _ _ rfl hw hi
      · rw [getB_new_ne X.E h b o h1 (Ne.symm eb)] at hb
        simp only [eb, if_false] at hr ⊢
        have := H.lt b r hr
        rw [Array.getElem?_push_lt this, ← Array.getElem?_eq_getElem this] at hw
        exact H.cap b c e fr r c' e' fr' i hb hr hw hi
    · refine ⟨H.below.os, H.below.tape, H.below.output, by have := H.below.size; simp; omega, fun k hk => ?_⟩
      have := H.below.size
      have := H.below.block k hk
      rw [← this]
      rw [Array.getElem?_push_lt (by omega), Array.getElem?_eq_getElem (by omega)]
end Go.Ev

namespace Go.Ev
set_option linter.unusedVariables false

/-! ### what a computation does not meet does not matter -/
def FrAt {α : Type} (E : Env) (m : M α) (h : Hp) (a : α) (h' : Hp) : Prop :=
  h.n ≤ h'.n ∧ ∃ L, h'.lg = L ++ h.lg ∧ (∀ b, (b, true) ∉ L → getB E h' b = getB E h b) ∧
    ∀ g : Hp, g.n = h.n → (∀ b w, (b, w) ∈ L → getB E g b = getB E h b) →
      ∃ g', m g = .ok (a, g') ∧ g'.n = h'.n ∧ g'.lg = L ++ g.lg ∧ (∀ b, (b, true) ∈ L → getB E g' b = getB E h' b) ∧ (∀ b, (b, true) ∉ L → getB E g' b = getB E g b)
def Fr {α : Type} (E : Env) (m : M α) : Prop := ∀ h a h', m h = .ok (a, h') → FrAt E m h a h'

section
variable {E : Env} {α β : Type}
theorem Fr.pure (a : α) : Fr E (M.pure a) := by
  intro h x h' e
  cases e
  exact ⟨Nat.le_refl _, [], rfl, fun _ _ => rfl, fun g hn _ => ⟨g, rfl, hn, rfl, fun b hb => absurd hb List.not_mem_nil, fun _ _ => rfl⟩⟩
theorem Fr.fail (s : String) : Fr E (fail s : M α) := by
  intro h x h' e
  cases e
theorem Fr.bind {m : M α} {f : α → M β} (hm : Fr E m) (hf : ∀ a, Fr E (f a)) : Fr E (M.bind m f) := by
  intro h b h2 e
  unfold M.bind at e
  split at e
  · rename_i r er
    obtain ⟨a, h1⟩ := r
    obtain ⟨n1, L1, l1, s1, g1⟩ := hm h a h1 er
    obtain ⟨n2, L2, l2, s2, g2⟩ := hf a h1 b h2 e
    refine ⟨Nat.le_trans n1 n2, L2 ++ L1, by rw [l2, l1, List.append_assoc], fun c hc => ?_, fun g hn hg => ?_⟩
    · simp only [List.mem_append, not_or] at hc
      rw [s2 c hc.1, s1 c hc.2]
    · obtain ⟨k1, e1, kn1, kl1, kw1, ks1⟩ := g1 g hn (fun c w hc => hg c w (List.mem_append_right _ hc))
      obtain ⟨k2, e2, kn2, kl2, kw2, ks2⟩ := g2 k1 kn1 (fun c w hc => by
        by_cases hw : (c, true) ∈ L1
        · exact kw1 c hw
        · rw [ks1 c hw, s1 c hw]
          exact hg c w (List.mem_append_left _ hc))
      refine ⟨k2, ?_, kn2, by rw [kl2, kl1, List.append_assoc], fun c hc => ?_, fun c hc => ?_⟩
      · show (match m g with | .ok r => f r.1 r.2 | .error e => .error e) = _
        rw [e1]
        exact e2
      · by_cases hw : (c, true) ∈ L2
        · exact kw2 c hw
        · rw [ks2 c hw, s2 c hw]
          exact kw1 c ((List.mem_append.1 hc).resolve_left hw)
      · simp only [List.mem_append, not_or] at hc
        rw [ks2 c hc.1, ks1 c hc.2]
  · cases e
theorem Fr.liftO (s : String) (o : Option α) : Fr E (liftO s o) := by
  cases o
  · exact Fr.fail _
  · exact Fr.pure _
theorem Fr.liftR (o : R α) : Fr E (liftR o) := by
  cases o
  · exact Fr.fail _
  · exact Fr.pure _
theorem Fr.ite {c : Prop} [Decidable c] {m k : M α} (hm : Fr E m) (hk : Fr E k) : Fr E (if c then m else k) := by
  split
  · exact hm
  · exact hk
theorem Fr.cells (b : Nat) : Fr E (cells E b) := by
  intro h a h' e
  unfold Ev.cells at e
  split at e
  · rename_i c el fr hb
    cases e
    refine ⟨Nat.le_refl _, [(b, false)], rfl, fun _ _ => rfl, fun g hn hg => ⟨g.rd b, ?_, hn, rfl, fun c hc => ?_, fun _ _ => rfl⟩⟩
    · have := hg b false (by simp)
      unfold Ev.cells
      rw [this, hb]
    · simp at hc
  · cases e
theorem Fr.obj (b : Nat) : Fr E (obj E b) := by
  intro h a h' e
  unfold Ev.obj at e
  split at e
  · cases e
  · rename_i o hno hb
    cases e
    refine ⟨Nat.le_refl _, [(b, false)], rfl, fun _ _ => rfl, fun g hn hg => ⟨g.rd b, ?_, hn, rfl, fun c hc => ?_, fun _ _ => rfl⟩⟩
    · have := hg b false (by simp)
      unfold Ev.obj
      rw [this, hb]
      cases a <;> first | rfl | exact (hno _ _ _ rfl).elim
    · simp at hc
  · cases e
theorem Fr.put (b : Nat) (o : Option Obj) : Fr E (put E b o) := by
  intro h a h' e
  unfold Ev.put at e
  split at e
  · cases e
  · rename_i h0
    split at e
    · rename_i x hb
      cases e
      have hlt := getB_lt E h b x hb (by omega)
      refine ⟨Nat.le_refl _, [(b, true)], rfl, fun c hc => ?_, fun g hn hg => ⟨g.put b o, ?_, hn, rfl, fun c hc => ?_, fun c hc => ?_⟩⟩
      · simp at hc
        exact getB_put_ne E h b c o hlt (Ne.symm hc)
      · have := hg b true (by simp)
        unfold Ev.put
        rw [if_neg h0, this, hb]
      · simp at hc
        subst hc
        rw [getB_put_same E _ c o (by omega) hlt, getB_put_same E _ c o (by omega) hlt]
      · simp at hc
        exact getB_put_ne E g b c o hlt (Ne.symm hc)
    · cases e
theorem Fr.new (o : Obj) : Fr E (new E o) := by
  intro h a h' e
  unfold Ev.new at e
  split at e
  · rename_i h0
    cases e
    refine ⟨Nat.le_succ _, [(h.n, true)], rfl, fun c hc => ?_, fun g hn hg => ⟨g.new o, ?_, ?_, ?_, fun c hc => ?_, fun c hc => ?_⟩⟩
    · simp at hc
      exact getB_new_ne E h c o h0.2 (Ne.symm hc)
    · unfold Ev.new
      rw [hn, if_pos h0]
    · simp [Hp.new, hn]
    · simp [Hp.new, hn]
    · simp at hc
      subst hc
      rw [getB_new_same E h o h0.1 h0.2]
      have := getB_new_same E g o (by rw [hn]; exact h0.1) (by rw [hn]; exact h0.2)
      rwa [hn] at this
    · simp at hc
      exact getB_new_ne E g c o (by rw [hn]; exact h0.2) (by rw [hn]; exact Ne.symm hc)
  · cases e
theorem Fr.heard {m : M α} (hm : Fr E m) : Fr E (heard m) := by
  intro h a h' e
  unfold Ev.heard at e
  split at e
  · rename_i r er
    cases e
    obtain ⟨x, h1⟩ := r
    obtain ⟨n1, L1, l1, s1, g1⟩ := hm _ x h1 er
    have hL : h1.lg = L1 := by simpa using l1
    refine ⟨n1, L1, by rw [← hL], fun c hc => ?_, fun g hn hg => ?_⟩
    · exact s1 c hc
    · obtain ⟨k1, e1, kn1, kl1, kw1, ks1⟩ := g1 { g with lg := [] } hn hg
      refine ⟨{ k1 with lg := k1.lg ++ g.lg }, ?_, kn1, ?_, kw1, ks1⟩
      · unfold Ev.heard
        rw [e1]
        simp only at kl1 l1 ⊢
        rw [kl1, hL]
        simp
      · simp only at kl1 ⊢
        rw [kl1]
        simp
  · cases e
theorem heard_ok {m : M α} {h : Hp} {r : α × List (Nat × Bool)} {h' : Hp} (e : heard m h = .ok (r, h')) :
    ∃ h1, m { h with lg := [] } = .ok (r.1, h1) ∧ h1.lg = r.2 ∧ h' = { h1 with lg := h1.lg ++ h.lg } := by
  unfold Ev.heard at e
  split at e
  · rename_i x er
    cases e
    exact ⟨x.2, er, rfl, rfl⟩
  · cases e
theorem Fr.crun (s : Sem α) : Fr E (crun E s) := by
  induction s with
  | pure a => exact Fr.pure a
  | load m a k ih =>
    unfold Ev.crun
    refine Fr.bind (Fr.cells _) fun c => Fr.ite (Fr.fail _) ?_
    split
    · exact ih _
    · exact Fr.fail _
  | store m a v k ih => exact Fr.ite (Fr.fail _) (Fr.bind (Fr.cells _) fun c => Fr.ite (Fr.bind (Fr.put _ _) fun _ => ih) (Fr.fail _))
  | new o k ih => exact Fr.bind (Fr.new _) fun _ => ih _
  | shape r k ih => exact Fr.fail _
  | freeze a n k ih => exact Fr.fail _
  | frozen a k ih => exact Fr.fail _
  | getObj r k ih => exact Fr.bind (Fr.obj _) fun _ => ih _
  | setObj r o k ih => exact Fr.ite (Fr.fail _) (Fr.bind (Fr.obj _) fun _ => Fr.bind (Fr.put _ _) fun _ => ih)
  | choose q k ih => exact Fr.ite (ih _) (Fr.fail _)
  | sys c k ih => exact Fr.fail _
  | program k ih => exact ih _
  | mark m k ih => exact ih
  | halt x => cases x <;> exact Fr.fail _
end
theorem Fr.loadN {E : Env} (a : Addr) (n : Nat) : Fr E (loadN E a n) :=
  Fr.ite (Fr.fail _) (Fr.bind (Fr.cells _) fun _ => Fr.ite (Fr.pure _) (Fr.fail _))
theorem Fr.firstN {E : Env} (s n : Nat) (v : Value) : Fr E (firstN E s n v) := by
  unfold Ev.firstN
  split <;> first | exact Fr.loadN _ _ | exact Fr.ite (Fr.pure _) (Fr.fail _) | exact Fr.fail _
theorem Fr.lenOf {E : Env} (v : Value) : Fr E (lenOf' v) := by
  unfold lenOf'
  split <;> first | exact Fr.pure _ | exact Fr.fail _
theorem Fr.append {E : Env} (t tx : TypeId) (s x : Value) : Fr E (append' E t tx s x) := by
  unfold append'
  refine Fr.bind (Fr.liftO _ _) fun d => Fr.bind (Fr.liftO _ _) fun dx => ?_
  split
  · refine Fr.bind (Fr.liftO _ _) fun i => Fr.ite (Fr.fail _) <| Fr.bind (Fr.lenOf _) fun n => Fr.bind (Fr.firstN _ _ _) fun l =>
      Fr.ite (Fr.fail _) <| Fr.ite (Fr.ite (Fr.pure _) (Fr.fail _)) <| Fr.ite ?_ <| Fr.ite (Fr.fail _) <| Fr.ite ?_ ?_
    · split
      · exact Fr.fail _
      · exact Fr.ite (Fr.fail _) (Fr.bind (Fr.cells _) fun c => Fr.ite (Fr.bind (Fr.put _ _) fun _ => Fr.pure _) (Fr.fail _))
    · exact Fr.bind (Fr.firstN _ _ _) fun _ => Fr.ite (Fr.fail _) (Fr.bind (Fr.new _) fun _ => Fr.pure _)
    · split
      · exact Fr.fail _
      · exact Fr.ite (Fr.fail _) (Fr.bind (Fr.cells _) fun c => Fr.ite (Fr.fail _) <| Fr.ite (Fr.fail _) <| Fr.ite (Fr.fail _) <|
          Fr.bind (Fr.put _ _) fun _ => Fr.bind (Fr.new _) fun _ => Fr.pure _)
  · exact Fr.fail _
theorem Fr.callFunc {E : Env} (f : FuncId) (args : Array Value) : Fr E (callFunc' E f args) := by
  unfold callFunc'
  split
  · exact Fr.fail _
  · exact Fr.ite (Fr.fail _) (Fr.pure _)
theorem Fr.method {E : Env} (t : TypeId) (v : Value) (n : String) : Fr E (method' E t v n) := by
  unfold method'
  refine Fr.bind (Fr.liftO _ _) fun i => Fr.bind (Fr.liftO _ _) fun m => Fr.ite (Fr.fail _) <| Fr.bind (Fr.liftO _ _) fun d => ?_
  split <;> first | exact Fr.pure _ | exact Fr.fail _
theorem Fr.invoke {E : Env} (t : Target) (args : Array Value) : Fr E (invoke' E t args) := by
  unfold invoke'
  split
  · exact Fr.callFunc _ _
  · split
    · exact Fr.bind (Fr.method _ _ _) fun _ => Fr.callFunc _ _
    · exact Fr.fail _
  · split
    · exact Fr.bind (Fr.append _ _ _ _) fun _ => Fr.pure _
    · exact Fr.fail _
  · exact Fr.bind (Fr.crun _) fun _ => Fr.pure _
  · exact Fr.fail _
theorem Fr.resolve {E : Env} (ρ : Operand → Value) (c : Call) (t : TypeId) : Fr E (resolve' ρ c t) := by
  unfold resolve'
  dsimp only
  split
  · exact Fr.pure _
  · exact Fr.pure _
  · split
    · exact Fr.pure _
    · exact Fr.fail _
theorem Fr.toNx {E : Env} (n : Next) : Fr E (toNx n) := by
  unfold Ev.toNx
  split <;> first | exact Fr.pure _ | exact Fr.fail _
theorem Fr.eqPtr {E : Env} (e : TypeId) (a b : Addr) : Fr E (eqPtr E e a b) := by
  unfold Ev.eqPtr
  exact Fr.bind (Fr.liftO _ _) fun i => Fr.ite (Fr.fail _) <| Fr.bind (Fr.cells _) fun _ => Fr.bind (Fr.cells _) fun _ => Fr.ite (Fr.pure _) <| Fr.ite (Fr.fail _) (Fr.pure _)
theorem Fr.eq {E : Env} (t : TypeId) (x y : Value) : Fr E (eq' E t x y) := by
  unfold eq'
  refine Fr.bind (Fr.liftO _ _) fun d => ?_
  split <;> first | exact Fr.pure _ | exact Fr.fail _ | exact Fr.eqPtr _ _ _
theorem Fr.mapOf {E : Env} (x : Value) : Fr E (mapOf E x) := by
  unfold Ev.mapOf
  split
  · exact Fr.pure _
  · refine Fr.bind (Fr.obj _) fun _ => ?_
    split
    · exact Fr.pure _
    · exact Fr.fail _
  · exact Fr.fail _
theorem Fr.lookup {E : Env} (t : TypeId) (x k : Value) (ok : Bool) : Fr E (lookup' E t x k ok) := by
  unfold lookup'
  refine Fr.bind (Fr.liftO _ _) fun d => ?_
  split
  · refine Fr.bind (Fr.mapOf _) fun _ => Fr.bind (Fr.liftR _) fun _ => Fr.bind (Fr.liftO _ _) fun _ => Fr.bind (Fr.liftO _ _) fun _ => ?_
    split
    · exact Fr.pure _
    · exact Fr.bind (Fr.liftO _ _) fun _ => Fr.bind (Fr.liftO _ _) fun _ => Fr.ite (Fr.pure _) (Fr.fail _)
  · exact Fr.fail _
theorem Fr.mapUpdate {E : Env} (t : TypeId) (m k x : Value) : Fr E (mapUpdate' E t m k x) := by
  unfold mapUpdate'
  refine Fr.bind (Fr.liftO _ _) fun d => ?_
  split
  · split
    · refine Fr.bind (Fr.obj _) fun o => ?_
      split
      · refine Fr.bind (Fr.liftR _) fun _ => Fr.bind (Fr.liftO _ _) fun _ => Fr.bind (Fr.liftO _ _) fun _ => ?_
        split
        · exact Fr.ite (Fr.put _ _) (Fr.fail _)
        · exact Fr.put _ _
      · exact Fr.fail _
    · exact Fr.fail _
  · exact Fr.fail _
theorem Fr.execB {E : Env} (ρ : Operand → Value) (o : Oper) : Fr E (execB E ρ o) := by
  unfold Ev.execB
  split
  · exact Fr.bind (Fr.eq _ _ _) fun _ => Fr.pure _
  · exact Fr.bind (Fr.eq _ _ _) fun _ => Fr.pure _
  · refine Fr.bind (Fr.liftO _ _) fun _ => Fr.bind (Fr.liftO _ _) fun _ => ?_
    split
    · refine Fr.bind (Fr.liftO _ _) fun _ => ?_
      split
      · exact Fr.bind (Fr.loadN _ _) fun _ => Fr.bind (Fr.liftR _) fun _ => Fr.pure _
      · exact Fr.fail _
    · exact Fr.fail _
  · exact Fr.ite (Fr.bind (Fr.crun _) fun _ => Fr.toNx _) (Fr.fail _)
  · exact Fr.ite (Fr.fail _) (Fr.bind (Fr.crun _) fun _ => Fr.toNx _)
  · exact Fr.ite (Fr.fail _) (Fr.pure _)
  · exact Fr.ite (Fr.bind (Fr.lookup _ _ _ _) fun _ => Fr.pure _) (Fr.fail _)
  · exact Fr.ite (Fr.bind (Fr.mapUpdate _ _ _ _) fun _ => Fr.pure _) (Fr.fail _)
  · refine Fr.bind (Fr.liftO _ _) fun _ => ?_
    split
    · refine Fr.bind (Fr.liftO _ _) fun _ => Fr.bind (Fr.liftO _ _) fun _ => Fr.ite (Fr.fail _) ?_
      split
      · exact Fr.pure _
      · exact Fr.fail _
    · exact Fr.fail _
  · split
    · refine Fr.bind (Fr.liftO _ _) fun _ => ?_
      split
      · refine Fr.bind (Fr.obj _) fun _ => ?_
        split
        · exact Fr.bind (Fr.new _) fun _ => Fr.pure _
        · exact Fr.fail _
      · exact Fr.fail _
    · exact Fr.fail _
  · split
    · refine Fr.bind (Fr.obj _) fun _ => ?_
      split
      · refine Fr.bind (Fr.obj _) fun _ => ?_
        split
        · exact Fr.ite (Fr.pure _) (Fr.fail _)
        · exact Fr.fail _
      · exact Fr.fail _
    · exact Fr.fail _
  · exact Fr.bind (Fr.resolve _ _ _) fun _ => Fr.invoke _ _
  · exact Fr.fail _
theorem Fr.exec {E : Env} (ρ : Operand → Value) (o : Oper) : Fr E (exec' E ρ o) := by
  unfold exec'
  refine Fr.ite (Fr.fail _) <| Fr.ite ?_ <| Fr.ite (Fr.bind (Fr.crun _) fun _ => Fr.toNx _) (Fr.execB _ _)
  split
  · exact Fr.ite (Fr.pure _) (Fr.fail _)
  · exact Fr.fail _
  · exact Fr.fail _

section
variable {E : Env} {call : CallM} (hc : ∀ f args, Fr E (call f args))
include hc
theorem Fr.evOp (ops : Array Oper) (tmps : Array Value) (o : Oper) : Fr E (evOp E call ops tmps o) := by
  unfold Ev.evOp
  refine Fr.ite (Fr.bind (Fr.exec _ _) fun n => ?_) (Fr.pure _)
  cases n
  · exact Fr.pure _
  · exact Fr.pure _
  · exact hc _ _
theorem Fr.evOps (ops : Array Oper) : ∀ (l : List Oper) (tmps : Array Value), Fr E (evOps E call ops l tmps)
  | [], _ => Fr.pure _
  | o :: rest, tmps => Fr.bind (Fr.evOp hc _ _ _) fun _ => Fr.evOps ops rest _
theorem Fr.evDrawn (ops : Array Oper) : ∀ (l : List Oper) (i : Nat) (done : List Rec) (tmps : Array Value), Fr E (evDrawn E call ops l i done tmps)
  | [], _, _, _ => Fr.pure _
  | o :: rest, i, done, tmps => Fr.bind (Fr.heard (Fr.evOp hc _ _ _)) fun _ => Fr.ite (Fr.evDrawn ops rest _ _ _) (Fr.fail _)
theorem Fr.evRange (f : Operand) (t : Ac) : Fr E (evRange E call f t) := by
  unfold Ev.evRange
  refine Fr.ite (Fr.fail _) <| Fr.bind (Fr.new _) fun _ => Fr.bind (Fr.new _) fun _ => ?_
  split
  · refine Fr.bind (Fr.invoke _ _) fun n => ?_
    split
    · refine Fr.bind (hc _ _) fun _ => Fr.bind (Fr.obj _) fun _ => ?_
      split
      · exact Fr.ite (Fr.bind (Fr.put _ _) fun _ => Fr.pure _) (Fr.fail _)
      · exact Fr.fail _
    · exact Fr.fail _
  · exact Fr.fail _
theorem Fr.evCode : ∀ (k : Nat) (c : Code) (t : Ac), Fr E (evCode E call k c t) := by
  intro k
  induction k with
  | zero => intro c t; exact Fr.fail _
  | succ k ih =>
    intro c t
    unfold Ev.evCode
    split
    · exact Fr.pure _
    · exact Fr.pure _
    · refine Fr.bind (ih _ _) fun r => ?_
      split
      · exact ih _ _
      · exact Fr.pure _
    · split
      · exact ih _ _
      · exact Fr.fail _
    · refine Fr.bind (ih _ _) fun r => ?_
      split
      · exact Fr.ite (Fr.pure _) (Fr.pure _)
      · exact Fr.pure _
    · refine Fr.bind (ih _ _) fun r => ?_
      split
      · exact Fr.fail _
      · exact Fr.pure _
    · refine Fr.bind (ih _ _) fun r => ?_
      split
      · exact ih _ _
      · exact Fr.pure _
    · exact Fr.pure _
    · exact Fr.pure _
    · exact Fr.bind (Fr.evOps hc _ _ _) fun _ => Fr.pure _
    · exact Fr.bind (Fr.evDrawn hc _ _ _ _ _) fun _ => Fr.pure _
    · exact Fr.evRange hc _ _
    · exact Fr.fail _
end
theorem Fr.takeAll {E : Env} : ∀ (l : List Nat), Fr E (takeAll E l)
  | [] => Fr.pure _
  | d :: ds => by
    refine Fr.bind (Fr.obj _) fun o => ?_
    split
    · exact Fr.bind (Fr.put _ _) fun _ => Fr.takeAll ds
    · exact Fr.fail _
theorem Fr.resultsL {E : Env} (tmps : Array Value) : ∀ (l : List ResultVar), Fr E (resultsL E tmps l)
  | [] => Fr.pure _
  | .tmp t :: r => Fr.bind (Fr.resultsL tmps r) fun _ => Fr.pure _
  | .cell a t :: r => by
    unfold Ev.resultsL
    split
    · exact Fr.bind (Fr.crun _) fun _ => Fr.bind (Fr.resultsL tmps r) fun _ => Fr.pure _
    · exact Fr.fail _
theorem Fr.evCall {E : Env} (fuel : Nat) : ∀ (k : Nat) (f : FuncId) (args : Array Value), Fr E (evCall E fuel k f args) := by
  intro k
  induction k with
  | zero => intro f args; exact Fr.fail _
  | succ k ih =>
    intro f args
    unfold Ev.evCall
    split
    · exact Fr.fail _
    · split
      · exact Fr.fail _
      · refine Fr.bind (Fr.evCode ih _ _ _) fun r => ?_
        split
        · exact Fr.bind (Fr.takeAll _) fun _ => Fr.bind (Fr.resultsL _ _) fun _ => Fr.pure _
        · exact Fr.bind (Fr.takeAll _) fun _ => Fr.bind (Fr.resultsL _ _) fun _ => Fr.pure _
        · exact Fr.fail _
end Go.Ev
