/- A part of a verified evaluator of closed calls (a canonical run, and why the machine ends every such call as it does). No condition. -/
import Derived.Calls
import Derived.Orders
import Derived.Below

namespace Go.Ev
set_option linter.unusedVariables false

/-! A canonical run of the machine, big steps. Canonical: a block's number is the order in which the canonical run made it; a slice
whose capacity the tape has chosen bears a capacity from 2^60 on ('unknown, at least the rest'). -/

abbrev R := Except String

/-- Blocks by number: a trie over the number's binary places. -/
inductive T where
  | e
  | n (v : Option Obj) (l r : T)
  deriving Inhabited
def T.left : T → T | .e => .e | .n _ l _ => l
def T.right : T → T | .e => .e | .n _ _ r => r
def T.val : T → Option Obj | .e => none | .n v _ _ => v
def T.get : Nat → T → Nat → Option Obj
  | 0, t, _ => t.val
  | d + 1, t, b => match b % 2 with
    | 0 => T.get d t.left (b / 2)
    | _ + 1 => T.get d t.right (b / 2)
def T.set : Nat → T → Nat → Option Obj → T
  | 0, _, _, o => .n o .e .e
  | d + 1, t, b, o => match b % 2 with
    | 0 => .n none (T.set d t.left (b / 2) o) t.right
    | _ + 1 => .n none t.left (T.set d t.right (b / 2) o)
def D : Nat := 13

structure Env where
  P : Program
  base : Nat
  gl : List (Nat × Obj)

structure Hp where
  n : Nat
  t : T
  lg : List (Nat × Bool)

def glGet : List (Nat × Obj) → Nat → Option Obj
  | [], _ => none
  | (i, o) :: r, b => if i = b then some o else glGet r b
def getB (E : Env) (h : Hp) (b : Nat) : Option Obj :=
  if b < E.base then glGet E.gl b else if b < 2 ^ D then T.get D h.t b else none
def Hp.rd (h : Hp) (b : Nat) : Hp := { h with lg := (b, false) :: h.lg }
def Hp.put (h : Hp) (b : Nat) (o : Option Obj) : Hp := { h with t := T.set D h.t b o, lg := (b, true) :: h.lg }
def Hp.new (h : Hp) (o : Obj) : Hp := { n := h.n + 1, t := T.set D h.t h.n (some o), lg := (h.n, true) :: h.lg }

/-! ### the slots of a frame -/
inductive TV where
  | e
  | n (v : Value) (l r : TV)
def TV.get : Nat → TV → Nat → Value
  | 0, _, _ => undef
  | d + 1, t, i => match t with
    | .e => undef
    | .n v l r => match i with
      | 0 => v
      | i + 1 => match i % 2 with
        | 0 => TV.get d l (i / 2)
        | _ + 1 => TV.get d r (i / 2)
def TV.set : Nat → TV → Nat → Value → TV
  | 0, t, _, _ => t
  | d + 1, t, i, x => match t with
    | .e => match i with
      | 0 => .n x .e .e
      | i + 1 => match i % 2 with
        | 0 => .n undef (TV.set d .e (i / 2) x) .e
        | _ + 1 => .n undef .e (TV.set d .e (i / 2) x)
    | .n v l r => match i with
      | 0 => .n x l r
      | i + 1 => match i % 2 with
        | 0 => .n v (TV.set d l (i / 2) x) r
        | _ + 1 => .n v l (TV.set d r (i / 2) x)
def Dt : Nat := 12
structure Tm where
  n : Nat
  t : TV
def Tm.get? (t : Tm) (i : Nat) : Option Value := if i < t.n then some (TV.get Dt t.t i) else none
def Tm.getD (t : Tm) (i : Nat) : Value := if i < t.n then TV.get Dt t.t i else undef
def Tm.set (t : Tm) (i : Nat) (v : Value) : Tm := if i < t.n then { t with t := TV.set Dt t.t i v } else t
def Tm.fill : Tm → Nat → List Value → Tm
  | t, _, [] => t
  | t, i, v :: vs => Tm.fill (t.set i v) (i + 1) vs

/-! ### the monad -/
def M (α : Type) : Type := Hp → R (α × Hp)
def M.pure {α : Type} (a : α) : M α := fun h => .ok (a, h)
def M.bind {α β : Type} (m : M α) (f : α → M β) : M β := fun h => match m h with
  | .ok r => f r.1 r.2
  | .error e => .error e
instance : Monad M where
  pure := M.pure
  bind := M.bind
def fail {α : Type} (s : String) : M α := fun _ => .error s
def liftR {α : Type} : R α → M α
  | .ok a => M.pure a
  | .error e => fail e
def liftO {α : Type} (why : String) : Option α → M α
  | some a => M.pure a
  | none => fail why
def cells (E : Env) (b : Nat) : M (Array Value × TypeId × (Nat × Nat)) := fun h => match getB E h b with
  | some (.cells c e fr) => .ok ((c, e, fr), h.rd b)
  | _ => .error "no cells"
def obj (E : Env) (b : Nat) : M Obj := fun h => match getB E h b with
  | some (.cells ..) => .error "no object"
  | some o => .ok (o, h.rd b)
  | none => .error "no object"
def put (E : Env) (b : Nat) (o : Option Obj) : M Unit := fun h => if b < E.base then .error "put" else match getB E h b with
  | some _ => .ok ((), h.put b o)
  | none => .error "put: nothing there"
def new (E : Env) (o : Obj) : M Nat := fun h => if E.base ≤ h.n ∧ h.n < 2 ^ D then .ok (h.n, h.new o) else .error "new: too many"
/-- with what it meets -/
def heard {α : Type} (m : M α) : M (α × List (Nat × Bool)) := fun h => match m { h with lg := [] } with
  | .ok r => .ok ((r.1, r.2.lg), { r.2 with lg := r.2.lg ++ h.lg })
  | .error e => .error e

def U : Nat := 2 ^ 60
/-- from here on: an empty slice of which neither the place nor the capacity is known -/
def Wc : Nat := 2 ^ 61
def one : Value → Bool
  | .agg _ | .tuple _ => false
  | _ => true
def Obj.isC : Obj → Bool
  | .cells .. => true
  | _ => false

/-- A Sem program on the canonical heap. -/
def crun {α : Type} (E : Env) : Sem α → M α
  | .pure a => M.pure a
  | .load _ a k => M.bind (cells E a.block) fun c => if a.spot.isSome then fail "load: spot" else match c.1[a.off]? with
    | some v => crun E (k v)
    | none => fail "load: no such cell"
  | .store _ a v k => if a.spot.isSome || !one v then fail "store" else M.bind (cells E a.block) fun c =>
    if a.off < c.1.size then M.bind (put E a.block (some (.cells (c.1.setIfInBounds a.off v) c.2.1 c.2.2))) fun _ => crun E k else fail "store: no such cell"
  | .new o k => M.bind (new E o) fun b => crun E (k b)
  | .getObj r k => M.bind (obj E r) fun o => crun E (k o)
  | .setObj r o k => if Obj.isC o then fail "setObj: cells" else M.bind (obj E r) fun _ => M.bind (put E r (some o)) fun _ => crun E k
  | .choose q k => if q.forced then crun E (k 0) else fail "choose"
  | .program k => crun E (k E.P)
  | .mark _ k => crun E k
  | .halt (.stuck s) => fail s
  | .halt _ => fail "halt"
  | _ => fail "a primitive that is not run"

/-- A Sem program that looks at no world. -/
def prun {α : Type} (P : Program) : Sem α → R α
  | .pure a => .ok a
  | .program k => prun P (k P)
  | .mark _ k => prun P k
  | .halt (.stuck s) => .error s
  | .halt _ => .error "halt"
  | _ => .error "impure"

def allL (f : Value → Bool) : List Value → Bool
  | [] => true
  | v :: r => f v && allL f r
/-- Nothing of memory in it. -/
def ground : Nat → Value → Bool
  | 0, _ => false
  | n + 1, v => match v with
    | .bool _ | .int _ _ | .float _ _ | .complex _ _ _ | .string _ | .nilFunc | .nilIface => true
    | .pointer none | .map none | .chan none => true
    | .slice none _ c => c < U
    | .iface _ v => ground n v
    | .agg cs => allL (ground n) cs.toList
    | .tuple cs => allL (ground n) cs.toList
    | .func (.yield _) _ _ => false
    | .func _ a b => allL (ground n) a.toList && allL (ground n) b.toList
    | _ => false
def gr (v : Value) : Bool := ground 20 v

def allR (f : Operand → Bool) : List Operand → Bool
  | [] => true
  | v :: r => f v && allR f r
def zeroOk (E : Env) (t : TypeId) : Bool := match E.P.info? t with
  | some i => match i.zero with
    | some v => gr v
    | none => true
  | none => true
def zerosOk (E : Env) : Op → Bool
  | .alloc t | .build t _ => zeroOk E t
  | .buildSlice t n _ => n < U && match E.P.underlying t with
    | some (.slice e) => zeroOk E e
    | _ => true
  | .makeSlice t _ _ => match E.P.underlying t with
    | some (.slice e) => zeroOk E e
    | _ => true
  | _ => true
def operOk (E : Env) (o : Oper) : Bool := allR (fun | .const v => gr v | .global g => g < E.base | _ => true) o.op.operands.toList

/-- The cells from a on, n of them. -/
def loadN (E : Env) (a : Addr) (n : Nat) : M (List Value) :=
  if a.spot.isSome then fail "loadN: spot" else M.bind (cells E a.block) fun c =>
  if a.off + n ≤ c.1.size then M.pure ((c.1.toList.drop a.off).take n) else fail "loadN: no such cells"

def firstN (E : Env) (size n : Nat) : Value → M (List Value)
  | .slice (some a) _ _ => loadN E a (n * size)
  | .slice none _ _ => if n = 0 then M.pure [] else fail "firstN"
  | .string s => if n = s.size && size = 1 then M.pure (s.data.toList.map (fun b => .int .u8 b.toNat)) else fail "firstN"
  | _ => fail "firstN"

def lenOf' : Value → M Nat
  | .slice _ n _ => M.pure n
  | .string s => M.pure s.size
  | _ => fail "lenOf"

def putAt (c : List Value) (off : Nat) (vs : List Value) : List Value := c.take off ++ vs ++ c.drop (off + vs.length)
def capLow (c : Nat) : Nat := if c < U then c else if c < Wc then c - U else 0
def srcOk : TypeDesc → Value → Bool
  | .slice _, .slice _ _ _ => true
  | .string, .string _ => true
  | _, _ => false

def zeroFits (i : TypeInfo) : Bool := match i.zero with
  | some z => z.cells.size = i.size
  | none => false
def append' (E : Env) (t tx : TypeId) (s x : Value) : M Value :=
  M.bind (liftO "append: type" (E.P.underlying t)) fun d => M.bind (liftO "append: type" (E.P.underlying tx)) fun dx => match d, s with
  | .slice elem, .slice base sLen sCap =>
    M.bind (liftO "append: info" (E.P.info? elem)) fun i =>
    if !srcOk dx x then fail "append: of what?" else
    M.bind (lenOf' x) fun n =>
    M.bind (firstN E i.size n x) fun new' =>
    if new'.length ≠ n * i.size || !allL one new' then fail "append: source" else
    if n = 0 then (if sLen ≤ capLow sCap then M.pure s else fail "append: nothing") else
    if sLen + n ≤ capLow sCap then
      match base with
      | none => fail "append: nil with a capacity"
      | some a =>
        if a.spot.isSome then fail "append: spot" else
        M.bind (cells E a.block) fun c =>
        if a.off + sLen * i.size + new'.length ≤ c.1.size then
          M.bind (put E a.block (some (.cells (putAt c.1.toList (a.off + sLen * i.size) new').toArray c.2.1 c.2.2))) fun _ =>
          M.pure (.slice base (sLen + n) sCap)
        else fail "append: cells"
    else if Wc ≤ sCap || sLen + n > 2 ^ 24 || i.bytes > 2 ^ 20 || i.bytes = 0 || !zeroFits i then fail "append: too long"
    else if sCap < U then
      M.bind (firstN E i.size sLen s) fun old =>
      if old.length ≠ sLen * i.size then fail "append: old" else
      M.bind (new E (.cells (old ++ new').toArray elem)) fun b =>
      M.pure (.slice (some ⟨b, 0, none⟩) (sLen + n) (U + (sLen + n)))
    else match base with
      | none => fail "append: nil with a capacity"
      | some a =>
        if a.spot.isSome || a.off ≠ 0 then fail "append: may grow, begins inside" else
        M.bind (cells E a.block) fun c =>
        if c.2.2 ≠ (0, 0) then fail "append: may grow, frozen" else
        if c.1.size < sLen * i.size then fail "append: may grow, block shorter" else
        if c.2.1 ≠ elem then fail "append: may grow, type" else
        M.bind (put E a.block none) fun _ =>
        M.bind (new E (.cells (c.1.toList.take (sLen * i.size) ++ new').toArray elem)) fun b =>
        M.pure (.slice (some ⟨b, 0, none⟩) (sLen + n) (U + (sLen + n)))
  | _, _ => fail "append"

inductive Nx where
  | val (v : Value)
  | skip
  | enter (f : FuncId) (args : Array Value)
  | dfr (d : Deferred)
  | rcv

def callFunc' (E : Env) (f : FuncId) (args : Array Value) : M Nx :=
  match E.P.funcs[f]? with
  | none => fail "call: no such function"
  | some fn => if fn.name == "runtime.NumGoroutine" then fail "NumGoroutine" else if fn.body.isNone then
      (if allL gr args.toList then match prun E.P (Go.callFunc f args) with
        | .ok (.value v) => if gr v then M.pure (.val v) else fail "extern: result"
        | .ok _ => fail "extern: no value"
        | .error s => fail s
      else fail ("extern " ++ fn.name)) else M.pure (.enter f args)

/-- the function and the receiver of a method, where it is no promoted one -/
def method' (E : Env) (t : TypeId) (v : Value) (name : String) : M (FuncId × Value) :=
  M.bind (liftO "method: type" (E.P.info? t)) fun i =>
  M.bind (liftO ("method: " ++ name) (i.methods.find? (·.name == name))) fun m =>
  if !m.path.isEmpty then fail "method: promoted" else
  M.bind (liftO "method: type" (E.P.underlying t)) fun d =>
  match m.func, d with
  | some (f, true), .pointer _ => M.pure (f, v)
  | some (f, false), .pointer e => match v with
    | .pointer (some a) => M.bind (crun E (loadVar e a)) fun u => M.pure (f, u)
    | _ => fail "method: by nil"
  | some (f, false), _ => M.pure (f, v)
  | _, _ => fail "method"

def byPrun (E : Env) (args : Array Value) (s : Sem Value) : M Nx :=
  if allL gr args.toList then match prun E.P s with
    | .ok v => if gr v then M.pure (.val v) else fail "ground: result"
    | .error s => fail s
  else fail "arguments that are not ground"
def clearOk (E : Env) (ats : Array TypeId) (args : Array Value) : Bool := match ats[0]?, args[0]? with
  | some t, some (Value.slice _ _ _) => match E.P.underlying t with
    | some (.slice e) => zeroOk E e
    | _ => false
  | _, _ => false
def invoke' (E : Env) (t : Target) (args : Array Value) : M Nx :=
  match t with
  | .fn (.func f) cap => callFunc' E f (args ++ cap)
  | .fn (.method name) _ =>
    match args[0]? with
    | some (Value.iface t v) => M.bind (method' E t v name) fun r => callFunc' E r.1 (#[r.2] ++ args.extract 1 args.size)
    | _ => fail "invoke: a method of what?"
  | .builtin .append ats _ _ => match ats.toList, args.toList with
    | [t, tx], [s, x] => M.bind (append' E t tx s x) fun v => M.pure (.val v)
    | _, _ => fail "append"
  | .builtin .len ats ty _ => M.bind (crun E (Builtin.len_ ats ty args)) fun v => M.pure (.val v)
  | .builtin .min ats ty _ => byPrun E args (Builtin.min_ ats ty args)
  | .builtin .max ats ty _ => byPrun E args (Builtin.max_ ats ty args)
  | .builtin .clear ats ty _ => if clearOk E ats args then M.bind (crun E (Builtin.clear_ ats ty args)) fun v => M.pure (.val v) else fail "clear"
  | _ => fail "invoke"

def resolve' (ρ : Operand → Value) (c : Call) (type : TypeId) : M Deferred :=
  let args := c.args.map ρ
  match c.callee with
  | .builtin b => M.pure { target := .builtin b c.argTypes type (c.args.map fun | .const _ => true | _ => false), args }
  | .invoke recv name => M.pure { target := .fn (.method name) #[], args := #[ρ recv] ++ args }
  | .value f => match ρ f with
    | .func fn first captured => M.pure { target := .fn fn captured, args := first ++ args }
    | _ => fail "call: no function"

def bytesOf' : List Value → R (List UInt8)
  | [] => .ok []
  | .int .u8 n :: r => match bytesOf' r with
    | .ok s => .ok (UInt8.ofNat n.toNat :: s)
    | .error e => .error e
  | _ => .error "bytes"

/-- two pointers, both to something -/
def eqPtr (E : Env) (e : TypeId) (a b : Addr) : M Bool :=
  M.bind (liftO "eq: type" (E.P.info? e)) fun i =>
  if i.size = 0 || a.spot.isSome || b.spot.isSome then fail "eq of pointers" else
  M.bind (cells E a.block) fun c => M.bind (cells E b.block) fun d =>
  if a.block = b.block then M.pure (a.off == b.off) else
  if c.2.2 ≠ (0, 0) || d.2.2 ≠ (0, 0) then fail "eq of pointers: frozen" else M.pure false
def eq' (E : Env) (t : TypeId) (x y : Value) : M Bool :=
  M.bind (liftO "eq: type" (E.P.underlying t)) fun d => match d, x, y with
  | .pointer _, .pointer none, .pointer b => M.pure b.isNone
  | .pointer _, .pointer (some _), .pointer none => M.pure false
  | .pointer e, .pointer (some a), .pointer (some b) => eqPtr E e a b
  | .interface _, .nilIface, .iface _ _ => M.pure false
  | .interface _, .iface _ _, .nilIface => M.pure false
  | .slice _, .slice none _ _, .slice b _ _ => M.pure b.isNone
  | .slice _, .slice (some _) _ _, .slice none _ _ => M.pure false
  | .map _ _, .map none, .map b => M.pure b.isNone
  | .map _ _, .map (some _), .map none => M.pure false
  | .func _ _ _, .nilFunc, .nilFunc => M.pure true
  | .func _ _ _, .nilFunc, .func _ _ _ => M.pure false
  | .func _ _ _, .func _ _ _, .nilFunc => M.pure false
  | _, _, _ => fail "eq"

def boundOf (d : Nat) : Option Value → M Nat
  | none => M.pure d
  | some (.int _ i) => if 0 ≤ i then M.pure i.toNat else fail "slice: bounds"
  | _ => fail "slice: bounds"
/-- x[lo:hi] of a slice -/
def slice' (E : Env) (t : TypeId) (x : Value) (lo hi : Option Value) : M Value :=
  M.bind (liftO "slice" (E.P.underlying t)) fun d => match d, x with
  | .slice e, .slice a n c => M.bind (liftO "slice" (E.P.info? e)) fun i => M.bind (boundOf n hi) fun h => M.bind (boundOf 0 lo) fun l =>
    if !(decide (l ≤ h) && decide (h ≤ capLow c)) then fail "slice: bounds" else
    if c < U then M.pure (.slice (if c = l then a else a.map (·.add (l * i.size))) (h - l) (c - l)) else
    if c < Wc then match a with
      | none => fail "slice: nil with a capacity"
      | some a =>
        if l = 0 then M.pure (.slice (some a) h c) else
        if i.size = 0 || a.spot.isSome then fail "slice: no size" else
        if l < c - U then M.pure (.slice (some (a.add (l * i.size))) (h - l) (c - l)) else
        M.pure (.slice (some a) 0 Wc)
    else M.pure x
  | _, _ => fail "slice: of what"

def isMethod : Value → Bool
  | .func (.method _) _ _ => true
  | _ => false

def isYield : Fn → Bool
  | .yield _ => true
  | _ => false

def mapOf (E : Env) : Value → M (Array MapEntry)
  | .map none => M.pure #[]
  | .map (some r) => M.bind (obj E r) fun o => match o with
    | .map es _ => M.pure es
    | _ => fail "lookup: no map"
  | _ => fail "lookup: no map"
def lookup' (E : Env) (t : TypeId) (x k : Value) (ok : Bool) : M Value :=
  M.bind (liftO "lookup" (E.P.underlying t)) fun d => match d with
  | .map key elem => M.bind (mapOf E x) fun es => M.bind (liftR (prun E.P (Instr.checkKey es.isEmpty 10000 key k))) fun _ =>
    M.bind (liftR (prun E.P (Instr.findKey key k es.toList))) fun r => match r with
    | some (_, v) => M.pure (if ok then .tuple #[v, .bool true] else v)
    | none => M.bind (liftO "lookup" (E.P.info? elem)) fun i => M.bind (liftO "lookup" i.zero) fun v => if gr v then M.pure (if ok then .tuple #[v, .bool false] else v) else fail "lookup: zero"
  | _ => fail "lookup"
def mapUpdate' (E : Env) (t : TypeId) (m k x : Value) : M Unit :=
  M.bind (liftO "mapUpdate" (E.P.underlying t)) fun d => match d with
  | .map key _ => match m with
    | .map (some r) => M.bind (obj E r) fun o => match o with
      | .map es clock => M.bind (liftR (prun E.P (Instr.checkKey false 10000 key k))) fun _ =>
        M.bind (liftR (prun E.P (Instr.findKey key k es.toList))) fun f => match f with
        | some (i, _) => if Instr.sameBits 10000 (((es[i]?).map (·.key)).getD k) k then put E r (some (.map (es.modify i fun e => { e with key := k, val := x }) clock)) else fail "mapUpdate: which key"
        | none => put E r (some (.map (es.push { key := k, val := x, born := clock }) (clock + 1)))
      | _ => fail "mapUpdate"
    | _ => fail "mapUpdate"
  | _ => fail "mapUpdate"

/-- a type assertion that holds, or that fails with ok -/
def typeAssert' (E : Env) (x : Value) (a : TypeId) (ok : Bool) : M Nx :=
  M.bind (liftO "typeAssert" (E.P.underlying a)) fun d => match d, x with
  | .interface _, _ => fail "typeAssert: to an interface"
  | _, .iface t v => if t = a then M.pure (.val (if ok then .tuple #[v, .bool true] else v)) else
    if ok then M.bind (liftO "typeAssert" (E.P.info? a)) fun i => M.bind (liftO "typeAssert" i.zero) fun z => if gr z then M.pure (.val (.tuple #[z, .bool false])) else fail "typeAssert: zero"
    else fail "typeAssert: fails"
  | _, _ => fail "typeAssert: of what"
def capOk : Value → Bool
  | .int _ n => (IntKind.i64.wrap n).toNat < U
  | _ => false
/-- an operation of memory, by its own text -/
def viaV (E : Env) (s : Sem Value) : M Nx := M.bind (crun E s) fun v => M.pure (.val v)
def viaU (E : Env) (s : Sem Unit) : M Nx := M.bind (crun E s) fun _ => M.pure .skip
/-- an operation of ground values, by its own text -/
def viaG (E : Env) (s : Sem Value) : M Nx := match prun E.P s with
  | .ok v => if gr v then M.pure (.val v) else fail "ground: result"
  | .error m => fail m
def pick' (c a b : Value) : M Nx := match c with
  | .bool t => M.pure (.val (if t then a else b))
  | _ => fail "pick"
def bin' (E : Env) (op : BinOp) (t : TypeId) (x y : Operand) (a b : Value) : M Nx :=
  if gr a && gr b then viaG E (do eqGuard op t x y a b; binOp op t a b) else match op with
  | .eql => M.bind (eq' E t a b) fun r => M.pure (.val (.bool r))
  | .neq => M.bind (eq' E t a b) fun r => M.pure (.val (.bool (!r)))
  | _ => fail "binOp"
def un' (E : Env) (op : UnOp) (a : Value) : M Nx := if gr a then viaG E (Op.unary op a) else fail "unOp"
def convert' (E : Env) (s d : TypeId) (x : Value) : M Nx :=
  if gr x then viaG E (convert s d x) else
  M.bind (liftO "convert" (E.P.underlying s)) fun ds => M.bind (liftO "convert" (E.P.underlying d)) fun dd => match ds, dd, x with
  | .slice e, .string, .slice (some a) len _ => M.bind (liftO "convert" (E.P.underlying e)) fun de => match de with
    | .int .u8 => M.bind (loadN E a len) fun vs => M.bind (liftR (bytesOf' vs)) fun bs => M.pure (.val (.string ⟨bs.toArray⟩))
    | _ => fail "convert"
  | _, _, _ => fail "convert"
def nil' : Value → M Nx
  | .pointer none => fail "nilCheck"
  | .nilIface => fail "nilCheck"
  | .nilFunc => fail "nilCheck"
  | .func (.method _) _ _ => fail "nilCheck of a method"
  | v => M.pure (.val v)
def fieldAddr' (E : Env) (s : TypeId) (x : Value) (f : Nat) : M Nx := M.bind (liftO "fieldAddr" (E.P.underlying s)) fun d => match d with
  | .struct fields => M.bind (liftO "fieldAddr" fields[f]?) fun fl => M.bind (liftO "fieldAddr" (E.P.info? fl.type)) fun i => if i.size = 0 then fail "fieldAddr" else match x with
    | .pointer (some a) => M.pure (.val (.pointer (some (a.add fl.offset))))
    | _ => fail "fieldAddr"
  | _ => fail "fieldAddr"
def range' (E : Env) (t : TypeId) (x : Value) : M Nx := match x with
  | .string s => M.bind (liftO "range" (E.P.underlying t)) fun d => match d with
    | .string => M.bind (new E (.stringIter s 0)) fun b => M.pure (.val (.pointer (some ⟨b, 0, none⟩)))
    | _ => fail "range"
  | .map (some r) => M.bind (liftO "range" (E.P.underlying t)) fun d => match d with
    | .map _ _ => M.bind (obj E r) fun m => match m with
      | .map _ clock => M.bind (new E (.mapIter (some r) clock #[] clock)) fun b => M.pure (.val (.pointer (some ⟨b, 0, none⟩)))
      | _ => fail "range"
    | _ => fail "range"
  | _ => fail "range"
def next' (E : Env) (x : Value) (isString : Bool) : M Nx := match x, isString with
  | .pointer (some ⟨r, 0, none⟩), true => M.bind (obj E r) fun i => match i with
    | .stringIter s pos => if pos < s.size then
        M.bind (put E r (some (.stringIter s (pos + (Utf8.decode s pos).2)))) fun _ => M.pure (.val (.tuple #[.bool true, goInt pos, .int .i32 (Utf8.decode s pos).1]))
      else M.pure (.val (.tuple #[.bool false]))
    | _ => fail "next"
  | .pointer (some ⟨r, 0, none⟩), false => M.bind (obj E r) fun i => match i with
    | .mapIter (some m) _ _ _ => M.bind (obj E m) fun o => match o with
      | .map es _ => if es.size = 0 then M.pure (.val (.tuple #[.bool false])) else fail "next: of a map that holds something"
      | _ => fail "next"
    | _ => fail "next"
  | _, _ => fail "next"
def look' (E : Env) (t : TypeId) (x k : Value) (ok : Bool) : M Nx := if gr k then M.bind (lookup' E t x k ok) fun v => M.pure (.val v) else fail "a key that is not ground"
def mapUp' (E : Env) (t : TypeId) (m k x : Value) : M Nx := if gr k then M.bind (mapUpdate' E t m k x) fun _ => M.pure .skip else fail "a key that is not ground"
def sliceOp' (E : Env) (t : TypeId) (x : Value) (lo hi mx : Option Value) : M Nx := match mx with
  | none => match x with
    | .string s => match lo, hi with
      | none, none => viaG E (Instr.sliceAt t (.string s) none none none)
      | some l, none => if gr l then viaG E (Instr.sliceAt t (.string s) (some l) none none) else fail "slice"
      | none, some h => if gr h then viaG E (Instr.sliceAt t (.string s) none (some h) none) else fail "slice"
      | some l, some h => if gr l && gr h then viaG E (Instr.sliceAt t (.string s) (some l) (some h) none) else fail "slice"
    | x => M.bind (slice' E t x lo hi) fun v => M.pure (.val v)
  | some _ => fail "slice: of three"
def zero' (E : Env) (t : TypeId) (m : M Nx) : M Nx := if zeroOk E t then m else fail "zero"
def isRecover (c : Call) : Bool := match c.callee with
  | .builtin .recover => true
  | _ => false
def exec2 (E : Env) (ρ : Operand → Value) (type : TypeId) : Op → M Nx
  | .move x => M.pure (.val (ρ x))
  | .assign x => M.pure (.val (ρ x))
  | .pick c a b => pick' (ρ c) (ρ a) (ρ b)
  | .alloc t => zero' E t (viaV E (Instr.alloc t true (.tuple #[])))
  | .box t x => viaV E (Instr.box t (ρ x))
  | .build t ps => zero' E t (viaV E (Instr.build t (ps.map fun (i, x) => (i, ρ x))))
  | .buildSlice t n ps => if zerosOk E (.buildSlice t n #[]) then viaV E (Instr.buildSlice t n (ps.map fun (i, x) => (i, ρ x))) else fail "zero"
  | .load t a => viaV E (Instr.loadAt t (ρ a))
  | .store t a x => viaU E (Instr.storeAt t (ρ a) (ρ x))
  | .makeInterface t x => viaV E (Instr.makeInterface t (ρ x))
  | .makeMap t r => viaV E (Instr.makeMap t (r.map ρ))
  | .field t x f => viaV E (Instr.field t (ρ x) f)
  | .indexAddr t x i => viaV E (Instr.indexAt t (ρ x) (ρ i))
  | .index t x i => viaV E (Instr.index t (ρ x) (ρ i))
  | .extract t i => viaV E (Instr.extract (ρ t) i)
  | .binOp op t x y _ => bin' E op t x y (ρ x) (ρ y)
  | .unOp op _ x => un' E op (ρ x)
  | .convert s d x => convert' E s d (ρ x)
  | .makeSlice t l c => if capOk (ρ c) && zerosOk E (.makeSlice t l c) then viaV E (Instr.makeSlice t (ρ l) (ρ c)) else fail "makeSlice"
  | .nilCheck x => nil' (ρ x)
  | .makeFunc fn a b => if isYield fn then fail "makeFunc" else M.pure (.val (.func fn (a.map ρ) (b.map ρ)))
  | .lookup t x k ok => look' E t (ρ x) (ρ k) ok
  | .mapUpdate t m k x => mapUp' E t (ρ m) (ρ k) (ρ x)
  | .fieldAddr s x f => fieldAddr' E s (ρ x) f
  | .range t x => range' E t (ρ x)
  | .next it isString => next' E (ρ it) isString
  | .call c => if isRecover c then M.pure .rcv else M.bind (resolve' ρ c type) fun d => invoke' E d.target d.args
  | .slice t x lo hi mx => sliceOp' E t (ρ x) (lo.map ρ) (hi.map ρ) (mx.map ρ)
  | .typeAssert x _ a ok => typeAssert' E (ρ x) a ok
  | .defer c => M.bind (resolve' ρ c type) fun d => M.pure (.dfr d)
  | _ => fail "an operation that is not run"
def exec' (E : Env) (ρ : Operand → Value) (o : Oper) : M Nx := if operOk E o then exec2 E ρ o.type o.op else fail "a constant that is not ground"

/-! ### code -/
inductive Ex where
  | normal
  | exit (id : Nat)
  | goto (l : Nat)
  | ret

def ev (tmps : Tm) : Operand → Value
  | .tmp t => tmps.getD t
  | .const v => v
  | .global g => .pointer (some ⟨g, 0, none⟩)
  | .func f => .func (.func f) #[] #[]
def putT (tmps : Tm) (dst : Option Tmp) (v : Value) : Tm :=
  match dst with
  | some d => tmps.set d v
  | none => tmps
def yieldedT (ops : Array Oper) (tmps : Tm) (j : Nat) : Option Bool :=
  match ((ops[j]?).bind (·.dst)).bind (tmps.get? ·) with
  | some (.bool b) => some b
  | _ => none
def frameT (ntmps : Nat) (args : Array Value) : M Tm :=
  if max ntmps args.size ≤ 4094 then M.pure (Tm.fill { n := max ntmps args.size, t := .e } 0 args.toList) else fail "too many slots"

abbrev CallM := FuncId → Array Value → M Value

/-- what an operation yields -/
def evOp (E : Env) (call : CallM) (ops : Array Oper) (tmps : Tm) (o : Oper) : M Value :=
  if Region.wanted o (yieldedT ops tmps) then M.bind (exec' E (ev tmps) o) fun n => match n with
    | .val v => M.pure v
    | .skip => M.pure undef
    | .enter f args => call f args
    | _ => fail "not here"
  else M.pure undef

def evOps (E : Env) (call : CallM) (ops : Array Oper) : List Oper → Tm → M Tm
  | [], tmps => M.pure tmps
  | o :: rest, tmps => M.bind (evOp E call ops tmps o) fun v => evOps E call ops rest (putT tmps o.dst v)

/-! a region that draws its order: in the order of the text; what no edge orders must not meet -/
structure Foot where
  rd : List Nat
  wr : List Nat
def footOf (lg : List (Nat × Bool)) : Foot := { rd := (lg.filter (!·.2)).map (·.1), wr := (lg.filter (·.2)).map (·.1) }
def apartL : List Nat → List Nat → Bool
  | [], _ => true
  | x :: r, ys => !ys.contains x && apartL r ys
def Foot.apart (a b : Foot) : Bool := apartL a.wr b.rd && apartL a.wr b.wr && apartL b.wr a.rd
structure Rec where
  i : Nat
  o : Oper
  preds : List Nat
  foot : Foot
def predsOf (done : List Rec) (o : Oper) : List Nat :=
  (o.after.toList.filter (Region.binds .any)).flatMap fun e => e.on :: ((done.find? (·.i == e.on)).map (·.preds)).getD []
def meets (ops : Array Oper) (preds : List Nat) (o : Oper) (foot : Foot) (r : Rec) : Bool :=
  preds.contains r.i || (Foot.apart r.foot foot && Oper.apart ops r.o o)

/-- the operations from the i-th on, in the order of the text; what has come before: newest first -/
def evDrawn (E : Env) (call : CallM) (ops : Array Oper) : List Oper → Nat → List Rec → Tm → M Tm
  | [], _, _, tmps => M.pure tmps
  | o :: rest, i, done, tmps =>
    M.bind (heard (evOp E call ops tmps o)) fun r =>
    if done.all (meets ops (predsOf done o) o (footOf r.2)) && (o.after.toList.filter (Region.binds .any)).all (fun e => decide (e.on < i)) then
      evDrawn E call ops rest (i + 1) ({ i, o, preds := predsOf done o, foot := footOf r.2 } :: done) (putT tmps o.dst r.1)
    else fail "a drawn region: an operation meets one that no edge puts ahead of it"

structure Ac where
  t : Tm
  /-- the blocks of collected deferred calls, the latest first -/
  ds : List Nat

def lp (st : LoopState) : Loop := { state := st, pending := none, fn := 0, tmps := #[], params := #[], assign := .skip, body := .skip, defers := 0 }

def isConstOp : Operand → Bool
  | .const _ => true
  | _ => false
/-- A range over a function that makes no round. -/
def evRange (E : Env) (call : CallM) (f : Operand) (t : Ac) : M (Ex × Ac) :=
  if isConstOp f then fail "rangeFunc: a constant" else
  M.bind (new E (.deferred (some []))) fun d => M.bind (new E (.loop (lp .ready))) fun l => match ev t.t f with
  | .func fn first captured => M.bind (invoke' E (.fn fn captured) (first ++ #[.func (.yield l) #[] #[]])) fun n => match n with
    | .enter g args => M.bind (call g args) fun _ => M.bind (obj E l) fun o => match o with
      | .loop r => if r.state == .ready && r.pending.isNone then M.bind (put E l (some (.loop (lp .exhausted)))) fun _ => M.pure (.normal, { t with ds := d :: t.ds }) else fail "rangeFunc: a round"
      | _ => fail "rangeFunc: no loop"
    | _ => fail "rangeFunc: call"
  | _ => fail "rangeFunc: no function"

def resultsL (E : Env) (tmps : Tm) : List ResultVar → M (List Value)
  | [] => M.pure []
  | .tmp t :: r => M.bind (resultsL E tmps r) fun vs => M.pure (tmps.getD t :: vs)
  | .cell a t :: r => match tmps.getD a with
    | .pointer (some a) => M.bind (crun E (loadVar t a)) fun v => M.bind (resultsL E tmps r) fun vs => M.pure (v :: vs)
    | _ => fail "results"
def oneOf : List Value → Value
  | [v] => v
  | vs => .tuple vs.toArray

/-! ### with panics, deferred calls, recover -/
inductive Out where
  | ret (v : Value)
  | pan (v : Value)
abbrev CallX := FuncId → Array Value → M Out
def plain (call : CallX) : CallM := fun f args => M.bind (call f args) fun
  | .ret v => M.pure v
  | .pan _ => fail "a panic here"
inductive XO where
  | val (v : Value)
  | dfr (d : Deferred)
  | pan (v : Value)
  | rcv
def evNx (call : CallX) : Nx → M XO
  | .val v => M.pure (.val v)
  | .skip => M.pure (.val undef)
  | .enter f args => M.bind (call f args) fun
    | .ret v => M.pure (.val v)
    | .pan v => M.pure (.pan v)
  | .dfr d => M.pure (.dfr d)
  | .rcv => M.pure .rcv
def panOf : Op → Option Operand
  | .panic x => some x
  | _ => none
def pan' : Value → M XO
  | .iface t v => M.pure (.pan (.iface t v))
  | _ => fail "panic of what"
def evOpX (E : Env) (call : CallX) (ops : Array Oper) (tmps : Tm) (o : Oper) : M XO :=
  if Region.wanted o (yieldedT ops tmps) then match panOf o.op with
    | some x => if operOk E o then pan' (ev tmps x) else fail "a constant that is not ground"
    | none => M.bind (exec' E (ev tmps) o) (evNx call)
  else M.pure (.val undef)
structure AcX where
  t : Tm
  ds : List Deferred
def evOpsX (E : Env) (call : CallX) (ops : Array Oper) : List Oper → AcX → M (Option Value × AcX)
  | [], t => M.pure (none, t)
  | o :: rest, t => M.bind (evOpX E call ops t.t o) fun
    | .val v => evOpsX E call ops rest { t with t := putT t.t o.dst v }
    | .dfr d => evOpsX E call ops rest { t := putT t.t o.dst undef, ds := d :: t.ds }
    | .pan v => M.pure (some v, t)
    | .rcv => fail "recover here"
inductive XEx where
  | ex (e : Ex)
  | pan (v : Value)
def ofPan : Option Value → XEx
  | none => .ex .normal
  | some v => .pan v
def evRangeX (E : Env) (call : CallX) (f : Operand) (t : AcX) : M (XEx × AcX) :=
  M.bind (evRange E (plain call) f { t := t.t, ds := [] }) fun r => M.pure (.ex r.1, { t := r.2.t, ds := (r.2.ds.map fun d => { target := .collected d, args := #[] }) ++ t.ds })
def evCodeX (E : Env) (call : CallX) : Nat → Code → AcX → M (XEx × AcX)
  | 0, _, _ => fail "out of fuel"
  | k + 1, c, t => match c with
    | .skip | .label _ => M.pure (.ex .normal, t)
    | .seq a b => M.bind (evCodeX E call k a t) fun r => match r.1 with
      | .ex .normal => evCodeX E call k b r.2
      | e => M.pure (e, r.2)
    | .cond c a b => match ev t.t c with
      | .bool x => evCodeX E call k (if x then a else b) t
      | _ => fail "cond"
    | .block id c => M.bind (evCodeX E call k c t) fun r => match r.1 with
      | .ex (.exit id') => if id' = id then M.pure (.ex .normal, r.2) else M.pure (.ex (.exit id'), r.2)
      | e => M.pure (e, r.2)
    | .scope c => M.bind (evCodeX E call k c t) fun r => match r.1 with
      | .ex (.goto _) => fail "goto"
      | e => M.pure (e, r.2)
    | .loop c => M.bind (evCodeX E call k c t) fun r => match r.1 with
      | .ex .normal => evCodeX E call k (.loop c) r.2
      | e => M.pure (e, r.2)
    | .exit id => M.pure (.ex (.exit id), t)
    | .ret => M.pure (.ex .ret, t)
    | .region _ ops false => M.bind (evOpsX E call ops ops.toList t) fun u => M.pure (ofPan u.1, u.2)
    | .region _ ops true => M.bind (evDrawn E (plain call) ops ops.toList 0 [] t.t) fun u => M.pure (.ex .normal, { t with t := u })
    | .rangeFunc f _ _ _ => evRangeX E call f t
    | _ => fail "code that is not run"
/-- how the frame that a deferred call was made by goes on: it returns; it panics; it panics and that has been recovered -/
inductive Pm where
  | ret
  | pan (v : Value)
  | was (v : Value)
def hasRecover (ops : Array Oper) : Bool := ops.any fun o => match o.op with
  | .call c => isRecover c
  | _ => false
/-- the operations of a region of a deferred function -/
def evOpsD (E : Env) (call : CallX) (ops : Array Oper) : List Oper → Tm → Pm → M (Tm × Pm)
  | [], t, pm => M.pure (t, pm)
  | o :: rest, t, pm => M.bind (evOpX E call ops t o) fun
    | .val v => evOpsD E call ops rest (putT t o.dst v) pm
    | .rcv => match pm with
      | .pan v => evOpsD E call ops rest (putT t o.dst v) (.was v)
      | pm => evOpsD E call ops rest (putT t o.dst .nilIface) pm
    | _ => fail "in a deferred function"
def evCodeD (E : Env) (call : CallX) : Nat → Code → Tm → Pm → M (Ex × Tm × Pm)
  | 0, _, _, _ => fail "out of fuel"
  | k + 1, c, t, pm => match c with
    | .seq a b => M.bind (evCodeD E call k a t pm) fun r => match r.1 with
      | .normal => evCodeD E call k b r.2.1 r.2.2
      | e => M.pure (e, r.2)
    | .cond c a b => match ev t c with
      | .bool x => evCodeD E call k (if x then a else b) t pm
      | _ => fail "cond"
    | .region id ops false => if hasRecover ops then M.bind (evOpsD E call ops ops.toList t pm) fun r => M.pure (.normal, r) else
      M.bind (evCodeX E call (k + 1) (.region id ops false) { t, ds := [] }) fun r => match r.1, r.2.ds with
      | .ex e, [] => M.pure (e, r.2.t, pm)
      | _, _ => fail "in a deferred function"
    | c => M.bind (evCodeX E call k c { t, ds := [] }) fun r => match r.1, r.2.ds with
      | .ex e, [] => M.pure (e, r.2.t, pm)
      | _, _ => fail "in a deferred function"
def evDef (E : Env) (call : CallX) (fuel : Nat) (f : FuncId) (args : Array Value) (pm : Pm) : M Pm :=
  match E.P.funcs[f]? with
  | none => fail "no function"
  | some fn => match fn.body with
    | none => fail "no body"
    | some c => M.bind (frameT fn.ntmps args) fun t0 => M.bind (evCodeD E call fuel c t0 pm) fun r => match r.1 with
      | .normal | .ret => M.bind (resultsL E r.2.1 fn.results.toList) fun _ => M.pure r.2.2
      | _ => fail "a deferred function left by a jump"
def settleM : Pm → Pm
  | .was _ => .ret
  | p => p
/-- the deferred calls, and marks -/
def evLeave (E : Env) (call : CallX) (fuel : Nat) : List Deferred → Pm → M Pm
  | [], pm => M.pure pm
  | d :: ds, pm => match d.target with
    | .collected r => M.bind (obj E r) fun o => match o with
      | .deferred (some []) => M.bind (put E r (some (.deferred none))) fun _ => evLeave E call fuel ds pm
      | _ => fail "collected"
    | .fn (.func f) cap => M.bind (callFunc' E f (d.args ++ cap)) fun n => match n with
      | .enter f args => M.bind (evDef E call fuel f args pm) fun pm' => evLeave E call fuel ds (settleM pm')
      | _ => fail "deferred: of what"
    | _ => fail "deferred: of what"
def pmOf : XEx → M Pm
  | .ex .normal | .ex .ret => M.pure .ret
  | .pan v => M.pure (.pan v)
  | _ => fail "a function left by a jump"
def callBody (E : Env) (fuel : Nat) (call : CallX) : CallX := fun f args => match E.P.funcs[f]? with
  | none => fail "no function"
  | some fn => match fn.body with
    | none => fail "no body"
    | some c => M.bind (frameT fn.ntmps args) fun t0 => M.bind (evCodeX E call fuel c { t := t0, ds := [] }) fun r =>
      M.bind (pmOf r.1) fun pm => M.bind (evLeave E call fuel r.2.ds pm) fun pm' => match pm' with
        | .ret => M.bind (resultsL E r.2.t fn.results.toList) fun vs => M.pure (.ret (oneOf vs))
        | .pan v => M.pure (.pan v)
        | .was _ => fail "recovered?"
def evCallX (E : Env) (fuel : Nat) : Nat → CallX
  | 0, _, _ => fail "out of fuel"
  | k + 1, f, args => callBody E fuel (evCallX E fuel k) f args
end Go.Ev

namespace Go.Ev
set_option linter.unusedVariables false

def CapR (c c' : Nat) : Prop := (c < U → c' = c) ∧ (U ≤ c → c - U ≤ c')

/-- Which real block a canonical one is; and how many elements fit into it, if an append has made it. -/
structure S where
  f : Nat → Option Nat
  k : Nat → Nat
instance : CoeFun S (fun _ => Nat → Option Nat) := ⟨S.f⟩

mutual
inductive VR (σ : S) : Value → Value → Prop
  | bool (b : Bool) : VR σ (.bool b) (.bool b)
  | int (k : IntKind) (n : Int) : VR σ (.int k n) (.int k n)
  | float (k : FloatKind) (n : Nat) : VR σ (.float k n) (.float k n)
  | complex (k : FloatKind) (x y : Nat) : VR σ (.complex k x y) (.complex k x y)
  | string (s : ByteArray) : VR σ (.string s) (.string s)
  | ptrNil : VR σ (.pointer none) (.pointer none)
  | ptr (b r o : Nat) (h : σ b = some r) : VR σ (.pointer (some ⟨b, o, none⟩)) (.pointer (some ⟨r, o, none⟩))
  | sliceNil (n c c' : Nat) (hc : CapR c c') (hw : c < Wc) : VR σ (.slice none n c) (.slice none n c')
  | slice (b r o n c c' : Nat) (h : σ b = some r) (hc : CapR c c') (hk : U ≤ c → o = 0 → c' = σ.k b) (hw : c < Wc) : VR σ (.slice (some ⟨b, o, none⟩) n c) (.slice (some ⟨r, o, none⟩) n c')
  | sliceE (b o c r' o' c' : Nat) (hw : Wc ≤ c) : VR σ (.slice (some ⟨b, o, none⟩) 0 c) (.slice (some ⟨r', o', none⟩) 0 c')
  | mapNil : VR σ (.map none) (.map none)
  | map (b r : Nat) (h : σ b = some r) : VR σ (.map (some b)) (.map (some r))
  | chanNil : VR σ (.chan none) (.chan none)
  | func (fn : Fn) (xs ys xs' ys' : List Value) (hn : ∀ l, fn ≠ .yield l) (hx : VRL σ xs xs') (hy : VRL σ ys ys') : VR σ (.func fn ⟨xs⟩ ⟨ys⟩) (.func fn ⟨xs'⟩ ⟨ys'⟩)
  | yield (l r : Nat) (xs ys xs' ys' : List Value) (h : σ l = some r) (hx : VRL σ xs xs') (hy : VRL σ ys ys') : VR σ (.func (.yield l) ⟨xs⟩ ⟨ys⟩) (.func (.yield r) ⟨xs'⟩ ⟨ys'⟩)
  | nilFunc : VR σ .nilFunc .nilFunc
  | iface (t : TypeId) (v v' : Value) (h : VR σ v v') : VR σ (.iface t v) (.iface t v')
  | nilIface : VR σ .nilIface .nilIface
  | agg (xs xs' : List Value) (h : VRL σ xs xs') : VR σ (.agg ⟨xs⟩) (.agg ⟨xs'⟩)
  | tuple (xs xs' : List Value) (h : VRL σ xs xs') : VR σ (.tuple ⟨xs⟩) (.tuple ⟨xs'⟩)
inductive VRL (σ : S) : List Value → List Value → Prop
  | nil : VRL σ [] []
  | cons (v v' : Value) (xs xs' : List Value) (h : VR σ v v') (hs : VRL σ xs xs') : VRL σ (v :: xs) (v' :: xs')
end

structure Sub (σ σ' : S) : Prop where
  f : ∀ b r, σ b = some r → σ' b = some r
  k : ∀ b r, σ b = some r → σ'.k b = σ.k b
theorem Sub.refl (σ : S) : Sub σ σ := ⟨fun _ _ h => h, fun _ _ _ => rfl⟩
theorem Sub.trans {σ σ' σ'' : S} (h : Sub σ σ') (k : Sub σ' σ'') : Sub σ σ'' := ⟨fun b r e => k.f b r (h.f b r e), fun b r e => (k.k b r (h.f b r e)).trans (h.k b r e)⟩

theorem VR.mono {σ σ' : S} (hs : Sub σ σ') {v v' : Value} (h : VR σ v v') : VR σ' v v' := by
  refine VR.rec (motive_1 := fun v v' _ => VR σ' v v') (motive_2 := fun xs xs' _ => VRL σ' xs xs') ?_ ?_ ?_ ?_ ?_ ?_ ?_ ?_ ?_ ?_ ?_ ?_ ?_ ?_ ?_ ?_ ?_ ?_ ?_ ?_ ?_ ?_ h
  · exact fun b => .bool b
  · exact fun k n => .int k n
  · exact fun k n => .float k n
  · exact fun k x y => .complex k x y
  · exact fun s => .string s
  · exact .ptrNil
  · exact fun b r o h => .ptr b r o (hs.f _ _ h)
  · exact fun n c c' hc hw => .sliceNil n c c' hc hw
  · exact fun b r o n c c' h hc hk hw => .slice b r o n c c' (hs.f _ _ h) hc (fun hU h0 => (hk hU h0).trans (hs.k _ _ h).symm) hw
  · exact fun b o c r' o' c' hw => .sliceE b o c r' o' c' hw
  · exact .mapNil
  · exact fun b r h => .map b r (hs.f _ _ h)
  · exact .chanNil
  · exact fun fn xs ys xs' ys' hn _ _ ix iy => .func fn xs ys xs' ys' hn ix iy
  · exact fun l r xs ys xs' ys' h _ _ ix iy => .yield l r xs ys xs' ys' (hs.f _ _ h) ix iy
  · exact .nilFunc
  · exact fun t v v' _ i => .iface t v v' i
  · exact .nilIface
  · exact fun xs xs' _ i => .agg xs xs' i
  · exact fun xs xs' _ i => .tuple xs xs' i
  · exact .nil
  · exact fun v v' xs xs' _ _ i j => .cons v v' xs xs' i j
theorem VRL.mono {σ σ' : S} (hs : Sub σ σ') {xs ys : List Value} (h : VRL σ xs ys) : VRL σ' xs ys := by
  have := VR.mono hs (.agg xs ys h)
  cases this
  assumption

theorem VRL.length {σ : S} {xs ys : List Value} (h : VRL σ xs ys) : xs.length = ys.length := by
  induction xs generalizing ys with
  | nil => cases h; rfl
  | cons x xs ih => cases h with | cons _ _ _ _ h hs => simp [ih hs]
theorem VRL.get {σ : S} {xs ys : List Value} (h : VRL σ xs ys) (i : Nat) (v : Value) (hv : xs[i]? = some v) : ∃ v', ys[i]? = some v' ∧ VR σ v v' := by
  induction xs generalizing ys i with
  | nil => simp at hv
  | cons x xs ih =>
    cases h with
    | cons _ y _ ys h hs =>
      cases i with
      | zero => simp at hv; subst hv; exact ⟨y, by simp, h⟩
      | succ i => simp at hv; simpa using ih hs i hv
theorem VRL.get_none {σ : S} {xs ys : List Value} (h : VRL σ xs ys) (i : Nat) (hv : xs[i]? = none) : ys[i]? = none := by
  have := h.length
  simp only [List.getElem?_eq_none_iff] at hv ⊢
  omega
theorem VRL.append {σ : S} {xs ys us vs : List Value} (h : VRL σ xs ys) (k : VRL σ us vs) : VRL σ (xs ++ us) (ys ++ vs) := by
  induction xs generalizing ys with
  | nil => cases h; exact k
  | cons x xs ih => cases h with | cons _ y _ ys h hs => exact .cons _ _ _ _ h (ih hs)
theorem VRL.take {σ : S} {xs ys : List Value} (h : VRL σ xs ys) (n : Nat) : VRL σ (xs.take n) (ys.take n) := by
  induction xs generalizing ys n with
  | nil => cases h; simpa using VRL.nil
  | cons x xs ih =>
    cases h with
    | cons _ y _ ys h hs =>
      cases n with
      | zero => simpa using VRL.nil
      | succ n => simpa using VRL.cons _ _ _ _ h (ih hs n)
theorem VRL.drop {σ : S} {xs ys : List Value} (h : VRL σ xs ys) (n : Nat) : VRL σ (xs.drop n) (ys.drop n) := by
  induction xs generalizing ys n with
  | nil => cases h; simpa using VRL.nil
  | cons x xs ih =>
    cases h with
    | cons _ y _ ys h hs =>
      cases n with
      | zero => exact .cons _ _ _ _ h hs
      | succ n => simpa using ih hs n
theorem VRL.set {σ : S} {xs ys : List Value} (h : VRL σ xs ys) (i : Nat) {v v' : Value} (hv : VR σ v v') : VRL σ (xs.set i v) (ys.set i v') := by
  induction xs generalizing ys i with
  | nil => cases h; simpa using VRL.nil
  | cons x xs ih =>
    cases h with
    | cons _ y _ ys h hs =>
      cases i with
      | zero => exact .cons _ _ _ _ hv hs
      | succ i => exact .cons _ _ _ _ h (ih hs i)
theorem VRL.ofGet {σ : S} {xs ys : List Value} (hl : xs.length = ys.length) (h : ∀ (i : Nat) (v : Value), xs[i]? = some v → ∃ v', ys[i]? = some v' ∧ VR σ v v') : VRL σ xs ys := by
  induction xs generalizing ys with
  | nil =>
    cases ys with
    | nil => exact .nil
    | cons y ys => simp at hl
  | cons x xs ih =>
    cases ys with
    | nil => simp at hl
    | cons y ys =>
      obtain ⟨v', e, hv⟩ := h 0 x rfl
      simp at e
      subst e
      exact .cons _ _ _ _ hv (ih (by simpa using hl) (fun i v hi => by simpa using h (i + 1) v (by simpa using hi)))

/-- arrays -/
def VRA (σ : S) (a b : Array Value) : Prop := VRL σ a.toList b.toList
theorem VRA.mono {σ σ' : S} (hs : Sub σ σ') {a b : Array Value} (h : VRA σ a b) : VRA σ' a b := VRL.mono hs h
theorem VRA.size {σ : S} {a b : Array Value} (h : VRA σ a b) : a.size = b.size := by
  have := VRL.length h
  simpa using this
theorem VRA.get {σ : S} {a b : Array Value} (h : VRA σ a b) (i : Nat) (v : Value) (hv : a[i]? = some v) : ∃ v', b[i]? = some v' ∧ VR σ v v' := by
  have := VRL.get h i v (by simpa using hv)
  simpa using this
theorem VRA.get_none {σ : S} {a b : Array Value} (h : VRA σ a b) (i : Nat) (hv : a[i]? = none) : b[i]? = none := by
  have := VRL.get_none h i (by simpa using hv)
  simpa using this
theorem VRA.append {σ : S} {a b c d : Array Value} (h : VRA σ a b) (k : VRA σ c d) : VRA σ (a ++ c) (b ++ d) := by
  have := VRL.append h k
  simpa [VRA] using this
theorem VRA.set {σ : S} {a b : Array Value} (h : VRA σ a b) (i : Nat) {v v' : Value} (hv : VR σ v v') : VRA σ (a.setIfInBounds i v) (b.setIfInBounds i v') := by
  have := VRL.set h i hv
  simpa [VRA] using this
theorem VRA.push {σ : S} {a b : Array Value} (h : VRA σ a b) {v v' : Value} (hv : VR σ v v') : VRA σ (a.push v) (b.push v') := by
  have := VRL.append h (VRL.cons _ _ _ _ hv VRL.nil)
  simpa [VRA] using this
theorem undef_VR (σ : S) : VR σ undef undef := .tuple [] [] .nil
theorem VRA.getD {σ : S} {a b : Array Value} (h : VRA σ a b) (i : Nat) : VR σ (a.getD i undef) (b.getD i undef) := by
  rw [Array.getD_eq_getD_getElem?, Array.getD_eq_getD_getElem?]
  cases hv : a[i]? with
  | none => rw [h.get_none i hv]; exact undef_VR σ
  | some v =>
    obtain ⟨v', e, hr⟩ := h.get i v hv
    rw [e]
    exact hr

/-! ### ground values -/
theorem ground_eq {σ : S} : ∀ (n : Nat) {v v' : Value}, VR σ v v' → ground n v = true → v' = v := by
  intro n
  induction n with
  | zero => intro v v' _ h; simp [ground] at h
  | succ n ih =>
    have ihl : ∀ {xs ys : List Value}, VRL σ xs ys → allL (ground n) xs = true → ys = xs := by
      intro xs
      induction xs with
      | nil => intro ys h _; cases h; rfl
      | cons x xs ihx =>
        intro ys h hg
        cases h with
        | cons _ y _ ys h hs =>
          simp only [allL, Bool.and_eq_true] at hg
          rw [ih h hg.1, ihx hs hg.2]
    intro v v' h hg
    cases h with
    | ptr b r o h => simp [ground] at hg
    | slice b r o n c c' h hc hk hw => simp [ground] at hg
    | sliceE b o c r' o' c' hw => simp [ground] at hg
    | map b r h => simp [ground] at hg
    | sliceNil n c c' hc hw =>
      simp only [ground, decide_eq_true_eq] at hg
      rw [hc.1 hg]
    | func fn xs ys xs' ys' hn hx hy =>
      have hg' : (allL (ground n) xs && allL (ground n) ys) = true := by
        cases fn <;> first | exact hg | exact absurd rfl (hn _)
      simp only [Bool.and_eq_true] at hg'
      rw [ihl hx hg'.1, ihl hy hg'.2]
    | yield l r xs ys xs' ys' h hx hy => simp [ground] at hg
    | iface t v v' h => simp only [ground] at hg; rw [ih h hg]
    | agg xs xs' h => simp only [ground] at hg; rw [ihl h hg]
    | tuple xs xs' h => simp only [ground] at hg; rw [ihl h hg]
    | _ => rfl
theorem ground_self (σ : S) : ∀ (n : Nat) {v : Value}, ground n v = true → VR σ v v := by
  intro n
  induction n with
  | zero => intro v h; simp [ground] at h
  | succ n ih =>
    have ihl : ∀ {xs : List Value}, allL (ground n) xs = true → VRL σ xs xs := by
      intro xs
      induction xs with
      | nil => intro _; exact .nil
      | cons x xs ihx =>
        intro hg
        simp only [allL, Bool.and_eq_true] at hg
        exact .cons _ _ _ _ (ih hg.1) (ihx hg.2)
    intro v hg
    cases v with
    | bool b => exact .bool b
    | int k n => exact .int k n
    | float k n => exact .float k n
    | complex k x y => exact .complex k x y
    | string s => exact .string s
    | pointer a => cases a with | none => exact .ptrNil | some a => simp [ground] at hg
    | slice a n c =>
      cases a with
      | none =>
        simp only [ground, decide_eq_true_eq] at hg
        exact .sliceNil n c c ⟨fun _ => rfl, fun h => by omega⟩ (Nat.lt_trans hg (by decide))
      | some a => simp [ground] at hg
    | map r => cases r with | none => exact .mapNil | some r => simp [ground] at hg
    | chan r => cases r with | none => exact .chanNil | some r => simp [ground] at hg
    | func fn xs ys =>
      obtain ⟨xs⟩ := xs
      obtain ⟨ys⟩ := ys
      have hn : ∀ l, fn ≠ .yield l := by
        intro l e
        subst e
        simp [ground] at hg
      have hg' : (allL (ground n) xs && allL (ground n) ys) = true := by
        cases fn <;> first | exact hg | exact absurd rfl (hn _)
      simp only [Bool.and_eq_true] at hg'
      exact .func fn xs ys xs ys hn (ihl hg'.1) (ihl hg'.2)
    | nilFunc => exact .nilFunc
    | iface t v => simp only [ground] at hg; exact .iface t v v (ih hg)
    | nilIface => exact .nilIface
    | agg xs => obtain ⟨xs⟩ := xs; simp only [ground] at hg; exact .agg xs xs (ihl hg)
    | tuple xs => obtain ⟨xs⟩ := xs; simp only [ground] at hg; exact .tuple xs xs (ihl hg)
theorem gr_eq {σ : S} {v v' : Value} (h : VR σ v v') (hg : gr v = true) : v' = v := ground_eq 20 h hg
theorem gr_self (σ : S) {v : Value} (hg : gr v = true) : VR σ v v := ground_self σ 20 hg
theorem allL_VRL (σ : S) : ∀ {xs : List Value}, allL gr xs = true → VRL σ xs xs
  | [], _ => .nil
  | x :: xs, h => by
    simp only [allL, Bool.and_eq_true] at h
    exact .cons _ _ _ _ (gr_self σ h.1) (allL_VRL σ h.2)
end Go.Ev

namespace Go.Ev
open Go.RowKit
set_option linter.unusedVariables false

/-! ### the trie -/
theorem T.get_e (d b : Nat) : T.get d .e b = none := by
  induction d generalizing b with
  | zero => rfl
  | succ d ih => rcases Nat.mod_two_eq_zero_or_one b with h | h <;> simp [T.get, h, T.left, T.right, ih]
theorem T.get_set_same (d : Nat) : ∀ (t : T) (b : Nat) (o : Option Obj), T.get d (T.set d t b o) b = o := by
  induction d with
  | zero => intro t b o; rfl
  | succ d ih =>
    intro t b o
    rcases Nat.mod_two_eq_zero_or_one b with h | h <;> simp [T.get, T.set, h, T.left, T.right, ih]
theorem T.get_set_ne (d : Nat) : ∀ (t : T) (a b : Nat) (o : Option Obj), a < 2 ^ d → b < 2 ^ d → a ≠ b → T.get d (T.set d t a o) b = T.get d t b := by
  induction d with
  | zero => intro t a b o ha hb hne; simp at ha hb; omega
  | succ d ih =>
    intro t a b o ha hb hne
    have ha2 : a / 2 < 2 ^ d := by rw [Nat.pow_succ] at ha; omega
    have hb2 : b / 2 < 2 ^ d := by rw [Nat.pow_succ] at hb; omega
    rcases Nat.mod_two_eq_zero_or_one a with h | h <;> rcases Nat.mod_two_eq_zero_or_one b with k | k <;> simp only [T.get, T.set, h, k, T.left, T.right]
    · exact ih _ _ _ _ ha2 hb2 (by omega)
    · exact ih _ _ _ _ ha2 hb2 (by omega)

/-! ### the slots -/
theorem TV.get_e (d i : Nat) : TV.get d .e i = undef := by
  cases d <;> rfl
theorem TV.get_set_same (d : Nat) : ∀ (t : TV) (i : Nat) (x : Value), i + 1 < 2 ^ d → TV.get d (TV.set d t i x) i = x := by
  induction d with
  | zero => intro t i x h; simp at h
  | succ d ih =>
    intro t i x h
    cases i with
    | zero => cases t <;> rfl
    | succ i =>
      have h2 : i / 2 + 1 < 2 ^ d := by rw [Nat.pow_succ] at h; omega
      rcases Nat.mod_two_eq_zero_or_one i with k | k <;> cases t <;> simp only [TV.get, TV.set, k] <;> exact ih _ _ _ h2
theorem TV.get_set_ne (d : Nat) : ∀ (t : TV) (i j : Nat) (x : Value), i ≠ j → TV.get d (TV.set d t i x) j = TV.get d t j := by
  induction d with
  | zero => intro t i j x h; rfl
  | succ d ih =>
    intro t i j x h
    cases i with
    | zero =>
      cases j with
      | zero => exact absurd rfl h
      | succ j =>
        cases t with
        | e => rcases Nat.mod_two_eq_zero_or_one j with k | k <;> simp only [TV.get, TV.set, k] <;> exact TV.get_e _ _
        | n v l r => rcases Nat.mod_two_eq_zero_or_one j with k | k <;> simp only [TV.get, TV.set, k]
    | succ i =>
      cases j with
      | zero =>
        cases t <;> rcases Nat.mod_two_eq_zero_or_one i with k | k <;> simp only [TV.get, TV.set, k]
      | succ j =>
        have hd : i / 2 ≠ j / 2 ∨ i % 2 ≠ j % 2 := by omega
        rcases Nat.mod_two_eq_zero_or_one i with k | k <;> rcases Nat.mod_two_eq_zero_or_one j with m | m <;> cases t <;> simp only [TV.get, TV.set, k, m]
        · rw [ih _ _ _ _ (by omega), TV.get_e]
        · exact ih _ _ _ _ (by omega)
        · exact TV.get_e _ _
        · exact TV.get_e _ _
        · rw [ih _ _ _ _ (by omega), TV.get_e]
        · exact ih _ _ _ _ (by omega)
theorem Tm.get?_set_ne (t : Tm) {i j : Nat} (v : Value) (h : i ≠ j) : (t.set i v).get? j = t.get? j := by
  unfold Tm.set
  split
  · unfold Tm.get?
    simp only [TV.get_set_ne Dt _ _ _ _ h]
  · rfl
theorem Tm.get?_set_same (t : Tm) {i : Nat} (v : Value) (h : i < t.n) (hn : t.n ≤ 4094) : (t.set i v).get? i = some v := by
  unfold Tm.set
  rw [if_pos h]
  unfold Tm.get?
  simp only [h, if_true]
  rw [TV.get_set_same Dt _ _ _ (by unfold Dt; omega)]
theorem Tm.set_n (t : Tm) (i : Nat) (v : Value) : (t.set i v).n = t.n := by
  unfold Tm.set
  split <;> rfl
theorem Tm.getD_eq (t : Tm) (i : Nat) : t.getD i = (t.get? i).getD undef := by
  unfold Tm.getD Tm.get?
  split <;> rfl
theorem Tm.get?_none (t : Tm) {i : Nat} : t.get? i = none ↔ t.n ≤ i := by
  unfold Tm.get?
  split
  · rename_i h
    simp
    omega
  · rename_i h
    simp
    omega
/-- slots against slots -/
structure RT (σ : S) (t : Tm) (a : Array Value) : Prop where
  small : t.n ≤ 4094
  size : a.size = t.n
  get : ∀ i, i < t.n → VR σ (t.getD i) (a.getD i undef)
theorem RT.mono {σ σ' : S} (hs : Sub σ σ') {t : Tm} {a : Array Value} (h : RT σ t a) : RT σ' t a := ⟨h.small, h.size, fun i hi => (h.get i hi).mono hs⟩
theorem RT.getD {σ : S} {t : Tm} {a : Array Value} (h : RT σ t a) (i : Nat) : VR σ (t.getD i) (a.getD i undef) := by
  by_cases hi : i < t.n
  · exact h.get i hi
  · unfold Tm.getD
    rw [if_neg hi, Array.getD_eq_getD_getElem?, Array.getElem?_eq_none (by rw [h.size]; omega)]
    exact undef_VR σ
theorem RT.get? {σ : S} {t : Tm} {a : Array Value} (h : RT σ t a) (i : Nat) : (t.get? i = none ∧ a[i]? = none) ∨ ∃ v v', t.get? i = some v ∧ a[i]? = some v' ∧ VR σ v v' := by
  by_cases hi : i < t.n
  · have hg := h.get i hi
    have hs : i < a.size := by rw [h.size]; exact hi
    rw [Array.getD_eq_getD_getElem?, Array.getElem?_eq_getElem hs] at hg
    refine .inr ⟨t.getD i, a[i], ?_, Array.getElem?_eq_getElem hs, hg⟩
    unfold Tm.get? Tm.getD
    rw [if_pos hi, if_pos hi]
  · refine .inl ⟨Tm.get?_none t |>.2 (by omega), Array.getElem?_eq_none (by rw [h.size]; omega)⟩
theorem RT.ofGet? {σ : S} {t : Tm} {a : Array Value} (hn : t.n ≤ 4094) (h : ∀ i, (t.get? i = none ∧ a[i]? = none) ∨ ∃ v v', t.get? i = some v ∧ a[i]? = some v' ∧ VR σ v v') : RT σ t a := by
  have hsz : a.size = t.n := by
    rcases h a.size with ⟨h1, _⟩ | ⟨v, v', _, h2, _⟩
    · rcases h t.n with ⟨_, h3⟩ | ⟨v, v', h4, _, _⟩
      · have := Tm.get?_none t |>.1 h1
        have := Array.getElem?_eq_none_iff.1 h3
        omega
      · rw [Tm.get?_none t |>.2 (Nat.le_refl _)] at h4
        cases h4
    · rw [Array.getElem?_eq_none (Nat.le_refl _)] at h2
      cases h2
  refine ⟨hn, hsz, fun i hi => ?_⟩
  rcases h i with ⟨h1, _⟩ | ⟨v, v', h1, h2, hv⟩
  · have := Tm.get?_none t |>.1 h1
    omega
  · rw [Tm.getD_eq, h1, Array.getD_eq_getD_getElem?, h2]
    exact hv
theorem RT.set {σ : S} {t : Tm} {a : Array Value} (h : RT σ t a) (i : Nat) {v v' : Value} (hv : VR σ v v') : RT σ (t.set i v) (a.setIfInBounds i v') := by
  refine RT.ofGet? (by rw [Tm.set_n]; exact h.small) fun j => ?_
  by_cases hij : i = j
  · subst hij
    by_cases hi : i < t.n
    · have hs : i < a.size := by rw [h.size]; exact hi
      exact .inr ⟨v, v', Tm.get?_set_same t v hi h.small, Array.getElem?_setIfInBounds_self_of_lt hs, hv⟩
    · refine .inl ⟨Tm.get?_none _ |>.2 (by rw [Tm.set_n]; omega), Array.getElem?_eq_none (by rw [Array.size_setIfInBounds, h.size]; omega)⟩
  · rw [Tm.get?_set_ne t v hij, Array.getElem?_setIfInBounds_ne hij]
    exact h.get? j
theorem Tm.fill_n : ∀ (vs : List Value) (t : Tm) (i : Nat), (Tm.fill t i vs).n = t.n
  | [], _, _ => rfl
  | v :: vs, t, i => by
    show (Tm.fill (t.set i v) (i + 1) vs).n = _
    rw [Tm.fill_n vs, Tm.set_n]
theorem Tm.fill_get : ∀ (vs : List Value) (t : Tm) (i : Nat), t.n ≤ 4094 → i + vs.length ≤ t.n → ∀ j, (Tm.fill t i vs).get? j = if i ≤ j ∧ j < i + vs.length then vs[j - i]? else t.get? j
  | [], t, i, _, _, j => by
    rw [if_neg (by simp)]
    rfl
  | v :: vs, t, i, hn, hle, j => by
    simp only [List.length_cons] at hle
    show (Tm.fill (t.set i v) (i + 1) vs).get? j = _
    rw [Tm.fill_get vs (t.set i v) (i + 1) (by rw [Tm.set_n]; exact hn) (by rw [Tm.set_n]; omega) j]
    by_cases hj : j = i
    · subst hj
      rw [if_neg (by omega), if_pos (by simp), Nat.sub_self, Tm.get?_set_same t v (by omega) hn]
      rfl
    · by_cases hk : i + 1 ≤ j ∧ j < i + 1 + vs.length
      · rw [if_pos hk, if_pos (by simp only [List.length_cons]; omega)]
        have : j - i = (j - (i + 1)) + 1 := by omega
        rw [this, List.getElem?_cons_succ]
      · rw [if_neg hk, if_neg (by simp only [List.length_cons]; omega), Tm.get?_set_ne t v (Ne.symm hj)]
theorem TV.get_none (n i : Nat) : ({ n := n, t := .e } : Tm).get? i = if i < n then some undef else none := by
  unfold Tm.get?
  simp only [TV.get_e]
/-- a frame's slots at its beginning -/
theorem frameT_R {σ : S} {ntmps : Nat} {args args' : Array Value} {h h' : Hp} {t : Tm} (hV : VRA σ args args') (e : frameT ntmps args h = .ok (t, h')) : h' = h ∧ RT σ t (args' ++ Array.replicate (ntmps - args'.size) undef) := by
  unfold frameT at e
  split at e
  · rename_i hn
    cases e
    have hsz := hV.size
    refine ⟨rfl, RT.ofGet? (by rw [Tm.fill_n]; exact hn) fun j => ?_⟩
    rw [Tm.fill_get args.toList { n := max ntmps args.size, t := .e } 0 hn (by simp; omega) j, TV.get_none]
    simp only [Nat.zero_le, true_and, Nat.zero_add, Nat.sub_zero, Array.length_toList, Array.getElem?_toList]
    by_cases hj : j < args.size
    · rw [if_pos hj, Array.getElem?_append_left (by omega)]
      have hv : args[j]? = some args[j] := Array.getElem?_eq_getElem hj
      obtain ⟨v', e', k⟩ := hV.get j _ hv
      exact .inr ⟨args[j], v', hv, e', k⟩
    · rw [if_neg hj, Array.getElem?_append_right (by omega)]
      by_cases hk : j < max ntmps args.size
      · rw [if_pos hk]
        refine .inr ⟨undef, undef, rfl, ?_, undef_VR σ⟩
        rw [Array.getElem?_replicate, if_pos (by omega)]
      · rw [if_neg hk]
        refine .inl ⟨rfl, ?_⟩
        rw [Array.getElem?_replicate, if_neg (by omega)]
  · cases e

/-! ### the heap -/
theorem getB_put_same (E : Env) (h : Hp) (b : Nat) (o : Option Obj) (h0 : E.base ≤ b) (h1 : b < 2 ^ D) : getB E (h.put b o) b = o := by
  simp [getB, Hp.put, h1, Nat.not_lt.2 h0, T.get_set_same]
theorem getB_put_ne (E : Env) (h : Hp) (a b : Nat) (o : Option Obj) (h1 : a < 2 ^ D) (hne : a ≠ b) : getB E (h.put a o) b = getB E h b := by
  unfold getB Hp.put
  split
  · rfl
  · split
    · rename_i hb
      exact T.get_set_ne D _ _ _ _ h1 hb hne
    · rfl
theorem getB_new_same (E : Env) (h : Hp) (o : Obj) (h0 : E.base ≤ h.n) (h1 : h.n < 2 ^ D) : getB E (h.new o) h.n = some o := by
  simp [getB, Hp.new, h1, Nat.not_lt.2 h0, T.get_set_same]
theorem getB_new_ne (E : Env) (h : Hp) (b : Nat) (o : Obj) (h1 : h.n < 2 ^ D) (hne : h.n ≠ b) : getB E (h.new o) b = getB E h b := by
  unfold getB Hp.new
  split
  · rfl
  · split
    · rename_i hb
      exact T.get_set_ne D _ _ _ _ h1 hb hne
    · rfl
theorem getB_rd (E : Env) (h : Hp) (a b : Nat) : getB E (h.rd a) b = getB E h b := rfl
theorem getB_lt (E : Env) (h : Hp) (b : Nat) (o : Obj) (hb : getB E h b = some o) (h0 : E.base ≤ b) : b < 2 ^ D := by
  unfold getB at hb
  rw [if_neg (by omega)] at hb
  split at hb
  · assumption
  · cases hb

/-! ### what a canonical object says of a real one -/
def FnR (σ : S) (f f' : Fn) : Prop := (f' = f ∧ ∀ l, f ≠ .yield l) ∨ ∃ l r, f = .yield l ∧ f' = .yield r ∧ σ l = some r
def TgR (σ : S) : Target → Target → Prop
  | .fn f c, t => ∃ f' c', t = .fn f' c' ∧ FnR σ f f' ∧ VRA σ c c'
  | .builtin b ats ty cs, t => t = .builtin b ats ty cs
  | .collected r, t => ∃ r', t = .collected r' ∧ σ r = some r'
  | _, _ => False
structure DfR (σ : S) (d d' : Deferred) : Prop where
  target : TgR σ d.target d'.target
  args : VRA σ d.args d'.args
def DfL (σ : S) : List Deferred → List Deferred → Prop
  | [], l => l = []
  | d :: ds, l => ∃ d' ds', l = d' :: ds' ∧ DfR σ d d' ∧ DfL σ ds ds'
structure EntR (σ : S) (e e' : MapEntry) : Prop where
  key : e'.key = e.key
  gr : gr e.key = true
  val : VR σ e.val e'.val
  born : e'.born = e.born
def EntL (σ : S) : List MapEntry → List MapEntry → Prop
  | [], l => l = []
  | d :: ds, l => ∃ d' ds', l = d' :: ds' ∧ EntR σ d d' ∧ EntL σ ds ds'
def OptR (σ : S) : Option Nat → Option Nat → Prop
  | none, o => o = none
  | some b, o => ∃ r, o = some r ∧ σ b = some r
structure LoopR (σ : S) (l l' : Loop) : Prop where
  state : l'.state = l.state
  pending : l'.pending = l.pending
structure CelR (σ : S) (c c' : Array Value) (fr fr' : Nat × Nat) : Prop where
  size : c.size ≤ c'.size
  get : ∀ (i : Nat) (v : Value), c[i]? = some v → ∃ v', c'[i]? = some v' ∧ VR σ v v'
  free : ∀ i, i < c.size → (decide (fr'.1 ≤ i) && decide (i < fr'.2)) = false
  plain : fr = (0, 0) → fr' = (0, 0)
def ObR (σ : S) : Obj → Obj → Prop
  | .cells c e fr, o => ∃ c' e' fr', o = .cells c' e' fr' ∧ CelR σ c c' fr fr'
  | .map es clock, o => ∃ es', o = .map es' clock ∧ EntL σ es.toList es'.toList
  | .stringIter s pos, o => o = .stringIter s pos
  | .mapIter m since seen stepped, o => ∃ m', o = .mapIter m' since seen stepped ∧ OptR σ m m'
  | .loop l, o => ∃ l', o = .loop l' ∧ LoopR σ l l'
  | .deferred none, o => o = .deferred none
  | .deferred (some ds), o => ∃ ds', o = .deferred (some ds') ∧ DfL σ ds ds'
  | _, _ => False

theorem FnR.mono {σ σ' : S} (hs : Sub σ σ') {f f' : Fn} (h : FnR σ f f') : FnR σ' f f' := by
  rcases h with h | ⟨l, r, e, e', h⟩
  · exact .inl h
  · exact .inr ⟨l, r, e, e', hs.f _ _ h⟩
theorem TgR.mono {σ σ' : S} (hs : Sub σ σ') {t t' : Target} (h : TgR σ t t') : TgR σ' t t' := by
  cases t with
  | fn f c => obtain ⟨f', c', e, hf, hc⟩ := h; exact ⟨f', c', e, hf.mono hs, hc.mono hs⟩
  | builtin b ats ty cs => exact h
  | collected r => obtain ⟨r', e, h⟩ := h; exact ⟨r', e, hs.f _ _ h⟩
  | nil => exact h.elim
  | coroexit c => exact h.elim
theorem DfR.mono {σ σ' : S} (hs : Sub σ σ') {d d' : Deferred} (h : DfR σ d d') : DfR σ' d d' := ⟨h.1.mono hs, h.2.mono hs⟩
theorem DfL.mono {σ σ' : S} (hs : Sub σ σ') : ∀ {l l' : List Deferred}, DfL σ l l' → DfL σ' l l'
  | [], _, h => h
  | _ :: _, _, ⟨d', ds', e, h, k⟩ => ⟨d', ds', e, h.mono hs, DfL.mono hs k⟩
theorem EntL.mono {σ σ' : S} (hs : Sub σ σ') : ∀ {l l' : List MapEntry}, EntL σ l l' → EntL σ' l l'
  | [], _, h => h
  | _ :: _, _, ⟨d', ds', e, h, k⟩ => ⟨d', ds', e, ⟨h.key, h.gr, h.val.mono hs, h.born⟩, EntL.mono hs k⟩
theorem OptR.mono {σ σ' : S} (hs : Sub σ σ') {a b : Option Nat} (h : OptR σ a b) : OptR σ' a b := by
  cases a with
  | none => exact h
  | some a => obtain ⟨r, e, h⟩ := h; exact ⟨r, e, hs.f _ _ h⟩
theorem ObR.mono {σ σ' : S} (hs : Sub σ σ') {o o' : Obj} (h : ObR σ o o') : ObR σ' o o' := by
  cases o with
  | cells c e fr =>
    obtain ⟨c', e', fr', rfl, h1, h2, h3, h4⟩ := h
    exact ⟨c', e', fr', rfl, h1, fun i v hv => by obtain ⟨v', e, k⟩ := h2 i v hv; exact ⟨v', e, k.mono hs⟩, h3, h4⟩
  | map es clock => obtain ⟨es', rfl, h⟩ := h; exact ⟨es', rfl, h.mono hs⟩
  | stringIter s pos => exact h
  | mapIter m a b c => obtain ⟨m', rfl, h⟩ := h; exact ⟨m', rfl, h.mono hs⟩
  | loop l => obtain ⟨l', rfl, h⟩ := h; exact ⟨l', rfl, h.state, h.pending⟩
  | deferred ds =>
    cases ds with
    | none => exact h
    | some ds => obtain ⟨ds', rfl, h⟩ := h; exact ⟨ds', rfl, h.mono hs⟩
  | _ => exact h.elim

/-- What is held fast: the world in which the run began, and how many blocks it had. -/
structure Cx where
  E : Env
  w0 : World
structure HR (X : Cx) (σ : S) (h : Hp) (w : World) : Prop where
  live : ∀ b o, getB X.E h b = some o → ∃ r o', σ b = some r ∧ w.heap[r]? = some o' ∧ ObR σ o o'
  inj : ∀ a b o p r, getB X.E h a = some o → getB X.E h b = some p → σ a = some r → σ b = some r → a = b
  glob : ∀ b, b < X.E.base → σ b = some b
  base : X.E.base ≤ X.w0.heap.size
  new : ∀ b r, σ b = some r → X.E.base ≤ b → X.w0.heap.size ≤ r
  lt : ∀ b r, σ b = some r → r < w.heap.size
  cap : ∀ b c e fr r c' e' fr' i, getB X.E h b = some (.cells c e fr) → σ b = some r → w.heap[r]? = some (.cells c' e' fr') → X.E.P.info? e = some i → σ.k b * i.size ≤ c'.size
  below : Below X.w0.heap.size X.w0 w

/-- σ' is σ, and more of lo .. hi alone. -/
structure Ext (σ σ' : S) (lo hi : Nat) : Prop where
  sub : Sub σ σ'
  out : ∀ b, σ b = none → ¬ (lo ≤ b ∧ b < hi) → σ' b = none
theorem Ext.refl (σ : S) (lo hi : Nat) : Ext σ σ lo hi := ⟨Sub.refl σ, fun _ h _ => h⟩
theorem Ext.trans {σ σ' σ'' : S} {a b c : Nat} (h : Ext σ σ' a b) (k : Ext σ' σ'' b c) (hab : a ≤ b) (hbc : b ≤ c) : Ext σ σ'' a c :=
  ⟨h.sub.trans k.sub, fun x hx hn => k.out x (h.out x hx (by omega)) (by omega)⟩

theorem HR.rd {X : Cx} {σ : S} {h : Hp} {w : World} (H : HR X σ h w) (b : Nat) : HR X σ (h.rd b) w := ⟨H.live, H.inj, H.glob, H.base, H.new, H.lt, H.cap, H.below⟩
theorem HR.drew {X : Cx} {σ : S} {h : Hp} {w : World} (H : HR X σ h w) : HR X σ h { w with drawn := w.drawn + 1 } :=
  ⟨H.live, H.inj, H.glob, H.base, H.new, H.lt, H.cap, ⟨H.below.os, H.below.tape, H.below.output, H.below.size, H.below.block⟩⟩

/-- A block is written: canonical block b becomes o (or dies), real block r becomes o'. -/
theorem HR.put {X : Cx} {σ : S} {h : Hp} {w w' : World} (H : HR X σ h w) {b r : Nat} {o : Obj} {o' : Obj} {old : Obj} (hold : getB X.E h b = some old) (hb : X.E.base ≤ b) (hr : σ b = some r)
    (hw : w'.heap[r]? = some o') (hO : ObR σ o o') (hcap : ∀ c e fr c' e' fr' i, o = .cells c e fr → o' = .cells c' e' fr' → X.E.P.info? e = some i → σ.k b * i.size ≤ c'.size) (hne : ∀ k, k ≠ r → w'.heap[k]? = w.heap[k]?) (hsz : w'.heap.size = w.heap.size) (hos : w'.os = w.os) (ht : w'.tape = w.tape) (hout : w'.output = w.output) :
    HR X σ (h.put b (some o)) w' := by
  have hlt := getB_lt X.E h b old hold hb
  refine ⟨?_, ?_, H.glob, H.base, H.new, fun a s hs => by rw [hsz]; exact H.lt a s hs, ?_, ?_⟩
  · intro a p hp
    by_cases e : b = a
    · subst e
      rw [getB_put_same X.E h b _ hb hlt] at hp
      cases hp
      exact ⟨r, o', hr, hw, hO⟩
    · rw [getB_put_ne X.E h b a _ hlt e] at hp
      obtain ⟨s, p', hs, hws, hop⟩ := H.live a p hp
      refine ⟨s, p', hs, ?_, hop⟩
      rw [hne s (fun es => ?_)]
      · exact hws
      · subst es
        exact e (H.inj b a old p s hold hp hr hs)
  · intro a c p q s hp hq hs ht
    have ex : ∀ x y, getB X.E (h.put b (some o)) x = some y → ∃ z, getB X.E h x = some z := by
      intro x y hy
      by_cases e : b = x
      · subst e; exact ⟨_, hold⟩
      · rw [getB_put_ne X.E h b x _ hlt e] at hy; exact ⟨_, hy⟩
    obtain ⟨p', hp'⟩ := ex a p hp
    obtain ⟨q', hq'⟩ := ex c q hq
    exact H.inj a c p' q' s hp' hq' hs ht
  · intro a c e fr s c' e' fr' i ha hs hws hi
    by_cases eb : b = a
    · subst eb
      rw [getB_put_same X.E h b _ hb hlt] at ha
      cases ha
      rw [hr] at hs
      cases hs
      rw [hw] at hws
      cases hws
      exact hcap _ _ _ _ _ _ _ rfl rfl hi
    · rw [getB_put_ne X.E h b a _ hlt eb] at ha
      rw [hne s (fun es => by subst es; exact eb (H.inj b a old _ s hold ha hr hs))] at hws
      exact H.cap a c e fr s c' e' fr' i ha hs hws hi
  · refine ⟨hos.trans H.below.os, ht.trans H.below.tape, hout.trans H.below.output, by rw [hsz]; exact H.below.size, fun k hk => ?_⟩
    rw [hne k (fun e => ?_)]
    · exact H.below.block k hk
    · have := H.new b r hr hb
      omega
/-- A new block. -/
theorem HR.alloc {X : Cx} {σ : S} {h : Hp} {w : World} (H : HR X σ h w) {o o' : Obj} (k : Nat) (h0 : X.E.base ≤ h.n) (h1 : h.n < 2 ^ D) (hf : σ h.n = none) (hO : ∀ σ', Sub σ σ' → σ' h.n = some w.heap.size → ObR σ' o o')
    (hcap : ∀ c e fr c' e' fr' i, o = .cells c e fr → o' = .cells c' e' fr' → X.E.P.info? e = some i → k * i.size ≤ c'.size) :
    ∃ σ', Ext σ σ' h.n (h.n + 1) ∧ σ' h.n = some w.heap.size ∧ σ'.k h.n = k ∧ HR X σ' (h.new o) { w with heap := w.heap.push o' } := by
  have hsub : Sub σ ⟨fun b => if b = h.n then some w.heap.size else σ b, fun b => if b = h.n then k else σ.k b⟩ := ⟨fun b r hb => by
      show (if b = h.n then _ else _) = _
      rw [if_neg (fun e => by subst e; rw [hf] at hb; cases hb)]
      exact hb, fun b r hb => by
      show (if b = h.n then _ else _) = _
      rw [if_neg (fun e => by subst e; rw [hf] at hb; cases hb)]⟩
  refine ⟨⟨fun b => if b = h.n then some w.heap.size else σ b, fun b => if b = h.n then k else σ.k b⟩, ⟨hsub, fun b hb hn => ?_⟩, by simp, by simp, ?_⟩
  · show (if b = h.n then _ else _) = _
    rw [if_neg (by omega)]
    exact hb
  · refine ⟨?_, ?_, ?_, H.base, ?_, ?_, ?_, ?_⟩
    · intro b p hp
      by_cases e : h.n = b
      · subst e
        rw [getB_new_same X.E h o h0 h1] at hp
        cases hp
        exact ⟨w.heap.size, o', by simp, by simp, hO _ hsub (by simp)⟩
      · rw [getB_new_ne X.E h b o h1 e] at hp
        obtain ⟨r, p', hr, hw, hop⟩ := H.live b p hp
        refine ⟨r, p', hsub.f b r hr, ?_, hop.mono hsub⟩
        have := H.lt b r hr
        rw [Array.getElem?_push_lt this]
        rw [Array.getElem?_eq_getElem this] at hw
        exact hw
    · intro a b p q r hp hq hr hs
      by_cases ea : a = h.n <;> by_cases eb : b = h.n
      · rw [ea, eb]
      · simp only [ea, eb, if_true, if_false, Option.some.injEq] at hr hs
        subst hr
        have := H.lt b _ hs
        omega
      · simp only [ea, eb, if_true, if_false, Option.some.injEq] at hr hs
        subst hs
        have := H.lt a _ hr
        omega
      · simp only [ea, eb, if_false] at hr hs
        rw [getB_new_ne X.E h a o h1 (Ne.symm ea)] at hp
        rw [getB_new_ne X.E h b o h1 (Ne.symm eb)] at hq
        exact H.inj a b p q r hp hq hr hs
    · intro b hb
      show (if b = h.n then _ else _) = _
      rw [if_neg (by omega)]
      exact H.glob b hb
    · intro b r hr hb
      by_cases e : b = h.n
      · simp only [e, if_true, Option.some.injEq] at hr
        subst hr
        exact H.below.size
      · simp only [e, if_false] at hr
        exact H.new b r hr hb
    · intro b r hr
      by_cases e : b = h.n
      · simp only [e, if_true, Option.some.injEq] at hr
        subst hr
        simp
      · simp only [e, if_false] at hr
        have := H.lt b r hr
        simp
        omega
    · intro b c e fr r c' e' fr' i hb hr hw hi
      by_cases eb : b = h.n
      · subst eb
        rw [getB_new_same X.E h o h0 h1] at hb
        cases hb
        simp only [if_true, Option.some.injEq] at hr
        subst hr
        simp only [Array.getElem?_push_size, Option.some.injEq] at hw
        simp only [if_true]
        exact hcap _ _ _ _ _ _ _ rfl hw hi
      · rw [getB_new_ne X.E h b o h1 (Ne.symm eb)] at hb
        simp only [eb, if_false] at hr ⊢
        have := H.lt b r hr
        rw [Array.getElem?_push_lt this, ← Array.getElem?_eq_getElem this] at hw
        exact H.cap b c e fr r c' e' fr' i hb hr hw hi
    · refine ⟨H.below.os, H.below.tape, H.below.output, by have := H.below.size; simp; omega, fun k hk => ?_⟩
      have := H.below.size
      have := H.below.block k hk
      rw [← this]
      rw [Array.getElem?_push_lt (by omega), Array.getElem?_eq_getElem (by omega)]
end Go.Ev

namespace Go.Ev
set_option linter.unusedVariables false

/-! ### what a computation does not meet does not matter -/
def FrAt {α : Type} (E : Env) (m : M α) (h : Hp) (a : α) (h' : Hp) : Prop :=
  h.n ≤ h'.n ∧ ∃ L, h'.lg = L ++ h.lg ∧ (∀ b, (b, true) ∉ L → getB E h' b = getB E h b) ∧
    ∀ g : Hp, g.n = h.n → (∀ b w, (b, w) ∈ L → getB E g b = getB E h b) →
      ∃ g', m g = .ok (a, g') ∧ g'.n = h'.n ∧ g'.lg = L ++ g.lg ∧ (∀ b, (b, true) ∈ L → getB E g' b = getB E h' b) ∧ (∀ b, (b, true) ∉ L → getB E g' b = getB E g b)
def Fr {α : Type} (E : Env) (m : M α) : Prop := ∀ h a h', m h = .ok (a, h') → FrAt E m h a h'

section
variable {E : Env} {α β : Type}
theorem Fr.pure (a : α) : Fr E (M.pure a) := by
  intro h x h' e
  cases e
  exact ⟨Nat.le_refl _, [], rfl, fun _ _ => rfl, fun g hn _ => ⟨g, rfl, hn, rfl, fun b hb => absurd hb List.not_mem_nil, fun _ _ => rfl⟩⟩
theorem Fr.fail (s : String) : Fr E (fail s : M α) := by
  intro h x h' e
  cases e
theorem Fr.bind {m : M α} {f : α → M β} (hm : Fr E m) (hf : ∀ a, Fr E (f a)) : Fr E (M.bind m f) := by
  intro h b h2 e
  unfold M.bind at e
  split at e
  · rename_i r er
    obtain ⟨a, h1⟩ := r
    obtain ⟨n1, L1, l1, s1, g1⟩ := hm h a h1 er
    obtain ⟨n2, L2, l2, s2, g2⟩ := hf a h1 b h2 e
    refine ⟨Nat.le_trans n1 n2, L2 ++ L1, by rw [l2, l1, List.append_assoc], fun c hc => ?_, fun g hn hg => ?_⟩
    · simp only [List.mem_append, not_or] at hc
      rw [s2 c hc.1, s1 c hc.2]
    · obtain ⟨k1, e1, kn1, kl1, kw1, ks1⟩ := g1 g hn (fun c w hc => hg c w (List.mem_append_right _ hc))
      obtain ⟨k2, e2, kn2, kl2, kw2, ks2⟩ := g2 k1 kn1 (fun c w hc => by
        by_cases hw : (c, true) ∈ L1
        · exact kw1 c hw
        · rw [ks1 c hw, s1 c hw]
          exact hg c w (List.mem_append_left _ hc))
      refine ⟨k2, ?_, kn2, by rw [kl2, kl1, List.append_assoc], fun c hc => ?_, fun c hc => ?_⟩
      · show (match m g with | .ok r => f r.1 r.2 | .error e => .error e) = _
        rw [e1]
        exact e2
      · by_cases hw : (c, true) ∈ L2
        · exact kw2 c hw
        · rw [ks2 c hw, s2 c hw]
          exact kw1 c ((List.mem_append.1 hc).resolve_left hw)
      · simp only [List.mem_append, not_or] at hc
        rw [ks2 c hc.1, ks1 c hc.2]
  · cases e
theorem Fr.liftO (s : String) (o : Option α) : Fr E (liftO s o) := by
  cases o
  · exact Fr.fail _
  · exact Fr.pure _
theorem Fr.liftR (o : R α) : Fr E (liftR o) := by
  cases o
  · exact Fr.fail _
  · exact Fr.pure _
theorem Fr.ite {c : Prop} [Decidable c] {m k : M α} (hm : Fr E m) (hk : Fr E k) : Fr E (if c then m else k) := by
  split
  · exact hm
  · exact hk
theorem Fr.cells (b : Nat) : Fr E (cells E b) := by
  intro h a h' e
  unfold Ev.cells at e
  split at e
  · rename_i c el fr hb
    cases e
    refine ⟨Nat.le_refl _, [(b, false)], rfl, fun _ _ => rfl, fun g hn hg => ⟨g.rd b, ?_, hn, rfl, fun c hc => ?_, fun _ _ => rfl⟩⟩
    · have := hg b false (by simp)
      unfold Ev.cells
      rw [this, hb]
    · simp at hc
  · cases e
theorem Fr.obj (b : Nat) : Fr E (obj E b) := by
  intro h a h' e
  unfold Ev.obj at e
  split at e
  · cases e
  · rename_i o hno hb
    cases e
    refine ⟨Nat.le_refl _, [(b, false)], rfl, fun _ _ => rfl, fun g hn hg => ⟨g.rd b, ?_, hn, rfl, fun c hc => ?_, fun _ _ => rfl⟩⟩
    · have := hg b false (by simp)
      unfold Ev.obj
      rw [this, hb]
      cases a <;> first | rfl | exact (hno _ _ _ rfl).elim
    · simp at hc
  · cases e
theorem Fr.put (b : Nat) (o : Option Obj) : Fr E (put E b o) := by
  intro h a h' e
  unfold Ev.put at e
  split at e
  · cases e
  · rename_i h0
    split at e
    · rename_i x hb
      cases e
      have hlt := getB_lt E h b x hb (by omega)
      refine ⟨Nat.le_refl _, [(b, true)], rfl, fun c hc => ?_, fun g hn hg => ⟨g.put b o, ?_, hn, rfl, fun c hc => ?_, fun c hc => ?_⟩⟩
      · simp at hc
        exact getB_put_ne E h b c o hlt (Ne.symm hc)
      · have := hg b true (by simp)
        unfold Ev.put
        rw [if_neg h0, this, hb]
      · simp at hc
        subst hc
        rw [getB_put_same E _ c o (by omega) hlt, getB_put_same E _ c o (by omega) hlt]
      · simp at hc
        exact getB_put_ne E g b c o hlt (Ne.symm hc)
    · cases e
theorem Fr.new (o : Obj) : Fr E (new E o) := by
  intro h a h' e
  unfold Ev.new at e
  split at e
  · rename_i h0
    cases e
    refine ⟨Nat.le_succ _, [(h.n, true)], rfl, fun c hc => ?_, fun g hn hg => ⟨g.new o, ?_, ?_, ?_, fun c hc => ?_, fun c hc => ?_⟩⟩
    · simp at hc
      exact getB_new_ne E h c o h0.2 (Ne.symm hc)
    · unfold Ev.new
      rw [hn, if_pos h0]
    · simp [Hp.new, hn]
    · simp [Hp.new, hn]
    · simp at hc
      subst hc
      rw [getB_new_same E h o h0.1 h0.2]
      have := getB_new_same E g o (by rw [hn]; exact h0.1) (by rw [hn]; exact h0.2)
      rwa [hn] at this
    · simp at hc
      exact getB_new_ne E g c o (by rw [hn]; exact h0.2) (by rw [hn]; exact Ne.symm hc)
  · cases e
theorem Fr.heard {m : M α} (hm : Fr E m) : Fr E (heard m) := by
  intro h a h' e
  unfold Ev.heard at e
  split at e
  · rename_i r er
    cases e
    obtain ⟨x, h1⟩ := r
    obtain ⟨n1, L1, l1, s1, g1⟩ := hm _ x h1 er
    have hL : h1.lg = L1 := by simpa using l1
    refine ⟨n1, L1, by rw [← hL], fun c hc => ?_, fun g hn hg => ?_⟩
    · exact s1 c hc
    · obtain ⟨k1, e1, kn1, kl1, kw1, ks1⟩ := g1 { g with lg := [] } hn hg
      refine ⟨{ k1 with lg := k1.lg ++ g.lg }, ?_, kn1, ?_, kw1, ks1⟩
      · unfold Ev.heard
        rw [e1]
        simp only at kl1 l1 ⊢
        rw [kl1, hL]
        simp
      · simp only at kl1 ⊢
        rw [kl1]
        simp
  · cases e
theorem heard_ok {m : M α} {h : Hp} {r : α × List (Nat × Bool)} {h' : Hp} (e : heard m h = .ok (r, h')) :
    ∃ h1, m { h with lg := [] } = .ok (r.1, h1) ∧ h1.lg = r.2 ∧ h' = { h1 with lg := h1.lg ++ h.lg } := by
  unfold Ev.heard at e
  split at e
  · rename_i x er
    cases e
    exact ⟨x.2, er, rfl, rfl⟩
  · cases e
theorem Fr.crun (s : Sem α) : Fr E (crun E s) := by
  induction s with
  | pure a => exact Fr.pure a
  | load m a k ih =>
    unfold Ev.crun
    refine Fr.bind (Fr.cells _) fun c => Fr.ite (Fr.fail _) ?_
    split
    · exact ih _
    · exact Fr.fail _
  | store m a v k ih => exact Fr.ite (Fr.fail _) (Fr.bind (Fr.cells _) fun c => Fr.ite (Fr.bind (Fr.put _ _) fun _ => ih) (Fr.fail _))
  | new o k ih => exact Fr.bind (Fr.new _) fun _ => ih _
  | shape r k ih => exact Fr.fail _
  | freeze a n k ih => exact Fr.fail _
  | frozen a k ih => exact Fr.fail _
  | getObj r k ih => exact Fr.bind (Fr.obj _) fun _ => ih _
  | setObj r o k ih => exact Fr.ite (Fr.fail _) (Fr.bind (Fr.obj _) fun _ => Fr.bind (Fr.put _ _) fun _ => ih)
  | choose q k ih => exact Fr.ite (ih _) (Fr.fail _)
  | sys c k ih => exact Fr.fail _
  | program k ih => exact ih _
  | mark m k ih => exact ih
  | halt x => cases x <;> exact Fr.fail _
end
theorem Fr.loadN {E : Env} (a : Addr) (n : Nat) : Fr E (loadN E a n) :=
  Fr.ite (Fr.fail _) (Fr.bind (Fr.cells _) fun _ => Fr.ite (Fr.pure _) (Fr.fail _))
theorem Fr.firstN {E : Env} (s n : Nat) (v : Value) : Fr E (firstN E s n v) := by
  unfold Ev.firstN
  split <;> first | exact Fr.loadN _ _ | exact Fr.ite (Fr.pure _) (Fr.fail _) | exact Fr.fail _
theorem Fr.lenOf {E : Env} (v : Value) : Fr E (lenOf' v) := by
  unfold lenOf'
  split <;> first | exact Fr.pure _ | exact Fr.fail _
theorem Fr.append {E : Env} (t tx : TypeId) (s x : Value) : Fr E (append' E t tx s x) := by
  unfold append'
  refine Fr.bind (Fr.liftO _ _) fun d => Fr.bind (Fr.liftO _ _) fun dx => ?_
  split
  · refine Fr.bind (Fr.liftO _ _) fun i => Fr.ite (Fr.fail _) <| Fr.bind (Fr.lenOf _) fun n => Fr.bind (Fr.firstN _ _ _) fun l =>
      Fr.ite (Fr.fail _) <| Fr.ite (Fr.ite (Fr.pure _) (Fr.fail _)) <| Fr.ite ?_ <| Fr.ite (Fr.fail _) <| Fr.ite ?_ ?_
    · split
      · exact Fr.fail _
      · exact Fr.ite (Fr.fail _) (Fr.bind (Fr.cells _) fun c => Fr.ite (Fr.bind (Fr.put _ _) fun _ => Fr.pure _) (Fr.fail _))
    · exact Fr.bind (Fr.firstN _ _ _) fun _ => Fr.ite (Fr.fail _) (Fr.bind (Fr.new _) fun _ => Fr.pure _)
    · split
      · exact Fr.fail _
      · exact Fr.ite (Fr.fail _) (Fr.bind (Fr.cells _) fun c => Fr.ite (Fr.fail _) <| Fr.ite (Fr.fail _) <| Fr.ite (Fr.fail _) <|
          Fr.bind (Fr.put _ _) fun _ => Fr.bind (Fr.new _) fun _ => Fr.pure _)
  · exact Fr.fail _
theorem Fr.callFunc {E : Env} (f : FuncId) (args : Array Value) : Fr E (callFunc' E f args) := by
  unfold callFunc'
  split
  · exact Fr.fail _
  · refine Fr.ite (Fr.fail _) (Fr.ite (Fr.ite ?_ (Fr.fail _)) (Fr.pure _))
    split
    · exact Fr.ite (Fr.pure _) (Fr.fail _)
    · exact Fr.fail _
    · exact Fr.fail _
theorem Fr.method {E : Env} (t : TypeId) (v : Value) (n : String) : Fr E (method' E t v n) := by
  unfold method'
  refine Fr.bind (Fr.liftO _ _) fun i => Fr.bind (Fr.liftO _ _) fun m => Fr.ite (Fr.fail _) <| Fr.bind (Fr.liftO _ _) fun d => ?_
  split <;> first | exact Fr.pure _ | exact Fr.fail _ | (split <;> first | exact Fr.fail _ | exact Fr.bind (Fr.crun _) fun _ => Fr.pure _)
theorem Fr.byPrun {E : Env} (args : Array Value) (s : Sem Value) : Fr E (byPrun E args s) := by
  unfold Ev.byPrun
  refine Fr.ite ?_ (Fr.fail _)
  split
  · exact Fr.ite (Fr.pure _) (Fr.fail _)
  · exact Fr.fail _
theorem Fr.invoke {E : Env} (t : Target) (args : Array Value) : Fr E (invoke' E t args) := by
  unfold invoke'
  split
  · exact Fr.callFunc _ _
  · split
    · exact Fr.bind (Fr.method _ _ _) fun _ => Fr.callFunc _ _
    · exact Fr.fail _
  · split
    · exact Fr.bind (Fr.append _ _ _ _) fun _ => Fr.pure _
    · exact Fr.fail _
  · exact Fr.bind (Fr.crun _) fun _ => Fr.pure _
  · exact Fr.byPrun _ _
  · exact Fr.byPrun _ _
  · exact Fr.ite (Fr.bind (Fr.crun _) fun _ => Fr.pure _) (Fr.fail _)
  · exact Fr.fail _
theorem Fr.resolve {E : Env} (ρ : Operand → Value) (c : Call) (t : TypeId) : Fr E (resolve' ρ c t) := by
  unfold resolve'
  dsimp only
  split
  · exact Fr.pure _
  · exact Fr.pure _
  · split
    · exact Fr.pure _
    · exact Fr.fail _
theorem Fr.eqPtr {E : Env} (e : TypeId) (a b : Addr) : Fr E (eqPtr E e a b) := by
  unfold Ev.eqPtr
  exact Fr.bind (Fr.liftO _ _) fun i => Fr.ite (Fr.fail _) <| Fr.bind (Fr.cells _) fun _ => Fr.bind (Fr.cells _) fun _ => Fr.ite (Fr.pure _) <| Fr.ite (Fr.fail _) (Fr.pure _)
theorem Fr.eq {E : Env} (t : TypeId) (x y : Value) : Fr E (eq' E t x y) := by
  unfold eq'
  refine Fr.bind (Fr.liftO _ _) fun d => ?_
  split <;> first | exact Fr.pure _ | exact Fr.fail _ | exact Fr.eqPtr _ _ _
theorem Fr.mapOf {E : Env} (x : Value) : Fr E (mapOf E x) := by
  unfold Ev.mapOf
  split
  · exact Fr.pure _
  · refine Fr.bind (Fr.obj _) fun _ => ?_
    split
    · exact Fr.pure _
    · exact Fr.fail _
  · exact Fr.fail _
theorem Fr.lookup {E : Env} (t : TypeId) (x k : Value) (ok : Bool) : Fr E (lookup' E t x k ok) := by
  unfold lookup'
  refine Fr.bind (Fr.liftO _ _) fun d => ?_
  split
  · refine Fr.bind (Fr.mapOf _) fun _ => Fr.bind (Fr.liftR _) fun _ => Fr.bind (Fr.liftR _) fun _ => ?_
    split
    · exact Fr.pure _
    · exact Fr.bind (Fr.liftO _ _) fun _ => Fr.bind (Fr.liftO _ _) fun _ => Fr.ite (Fr.pure _) (Fr.fail _)
  · exact Fr.fail _
theorem Fr.mapUpdate {E : Env} (t : TypeId) (m k x : Value) : Fr E (mapUpdate' E t m k x) := by
  unfold mapUpdate'
  refine Fr.bind (Fr.liftO _ _) fun d => ?_
  split
  · split
    · refine Fr.bind (Fr.obj _) fun o => ?_
      split
      · refine Fr.bind (Fr.liftR _) fun _ => Fr.bind (Fr.liftR _) fun _ => ?_
        split
        · exact Fr.ite (Fr.put _ _) (Fr.fail _)
        · exact Fr.put _ _
      · exact Fr.fail _
    · exact Fr.fail _
  · exact Fr.fail _
theorem Fr.boundOf {E : Env} (d : Nat) (o : Option Value) : Fr E (boundOf d o) := by
  unfold Ev.boundOf
  split
  · exact Fr.pure _
  · exact Fr.ite (Fr.pure _) (Fr.fail _)
  · exact Fr.fail _
theorem Fr.slice {E : Env} (t : TypeId) (x : Value) (lo hi : Option Value) : Fr E (slice' E t x lo hi) := by
  unfold slice'
  refine Fr.bind (Fr.liftO _ _) fun d => ?_
  split
  · refine Fr.bind (Fr.liftO _ _) fun i => Fr.bind (Fr.boundOf _ _) fun h => Fr.bind (Fr.boundOf _ _) fun l => Fr.ite (Fr.fail _) (Fr.ite (Fr.pure _) (Fr.ite ?_ (Fr.pure _)))
    split
    · exact Fr.fail _
    · exact Fr.ite (Fr.pure _) (Fr.ite (Fr.fail _) (Fr.ite (Fr.pure _) (Fr.pure _)))
  · exact Fr.fail _
theorem Fr.typeAssert {E : Env} (x : Value) (a : TypeId) (ok : Bool) : Fr E (typeAssert' E x a ok) := by
  unfold typeAssert'
  refine Fr.bind (Fr.liftO _ _) fun d => ?_
  split
  · exact Fr.fail _
  · refine Fr.ite (Fr.pure _) (Fr.ite ?_ (Fr.fail _))
    exact Fr.bind (Fr.liftO _ _) fun _ => Fr.bind (Fr.liftO _ _) fun _ => Fr.ite (Fr.pure _) (Fr.fail _)
  · exact Fr.fail _
theorem Fr.viaV {E : Env} (s : Sem Value) : Fr E (viaV E s) := Fr.bind (Fr.crun _) fun _ => Fr.pure _
theorem Fr.viaU {E : Env} (s : Sem Unit) : Fr E (viaU E s) := Fr.bind (Fr.crun _) fun _ => Fr.pure _
theorem Fr.viaG {E : Env} (s : Sem Value) : Fr E (viaG E s) := by
  unfold Ev.viaG
  split
  · exact Fr.ite (Fr.pure _) (Fr.fail _)
  · exact Fr.fail _
theorem Fr.pick {E : Env} (c a b : Value) : Fr E (pick' c a b) := by
  unfold pick'
  split
  · exact Fr.pure _
  · exact Fr.fail _
theorem Fr.bin {E : Env} (op : BinOp) (t : TypeId) (x y : Operand) (a b : Value) : Fr E (bin' E op t x y a b) := by
  unfold bin'
  refine Fr.ite (Fr.viaG _) ?_
  split
  · exact Fr.bind (Fr.eq _ _ _) fun _ => Fr.pure _
  · exact Fr.bind (Fr.eq _ _ _) fun _ => Fr.pure _
  · exact Fr.fail _
theorem Fr.un {E : Env} (op : UnOp) (a : Value) : Fr E (un' E op a) := Fr.ite (Fr.viaG _) (Fr.fail _)
theorem Fr.convert {E : Env} (s d : TypeId) (x : Value) : Fr E (convert' E s d x) := by
  unfold convert'
  refine Fr.ite (Fr.viaG _) (Fr.bind (Fr.liftO _ _) fun _ => Fr.bind (Fr.liftO _ _) fun _ => ?_)
  split
  · refine Fr.bind (Fr.liftO _ _) fun _ => ?_
    split
    · exact Fr.bind (Fr.loadN _ _) fun _ => Fr.bind (Fr.liftR _) fun _ => Fr.pure _
    · exact Fr.fail _
  · exact Fr.fail _
theorem Fr.nil' {E : Env} (x : Value) : Fr E (Ev.nil' x) := by
  unfold Ev.nil'
  split <;> first | exact Fr.fail _ | exact Fr.pure _
theorem Fr.fieldAddr {E : Env} (s : TypeId) (x : Value) (f : Nat) : Fr E (fieldAddr' E s x f) := by
  unfold fieldAddr'
  refine Fr.bind (Fr.liftO _ _) fun _ => ?_
  split
  · refine Fr.bind (Fr.liftO _ _) fun _ => Fr.bind (Fr.liftO _ _) fun _ => Fr.ite (Fr.fail _) ?_
    split
    · exact Fr.pure _
    · exact Fr.fail _
  · exact Fr.fail _
theorem Fr.range {E : Env} (t : TypeId) (x : Value) : Fr E (range' E t x) := by
  unfold range'
  split
  · refine Fr.bind (Fr.liftO _ _) fun _ => ?_
    split
    · exact Fr.bind (Fr.new _) fun _ => Fr.pure _
    · exact Fr.fail _
  · refine Fr.bind (Fr.liftO _ _) fun _ => ?_
    split
    · refine Fr.bind (Fr.obj _) fun _ => ?_
      split
      · exact Fr.bind (Fr.new _) fun _ => Fr.pure _
      · exact Fr.fail _
    · exact Fr.fail _
  · exact Fr.fail _
theorem Fr.next {E : Env} (x : Value) (b : Bool) : Fr E (next' E x b) := by
  unfold next'
  split
  · refine Fr.bind (Fr.obj _) fun _ => ?_
    split
    · exact Fr.ite (Fr.bind (Fr.put _ _) fun _ => Fr.pure _) (Fr.pure _)
    · exact Fr.fail _
  · refine Fr.bind (Fr.obj _) fun _ => ?_
    split
    · refine Fr.bind (Fr.obj _) fun _ => ?_
      split
      · exact Fr.ite (Fr.pure _) (Fr.fail _)
      · exact Fr.fail _
    · exact Fr.fail _
  · exact Fr.fail _
theorem Fr.sliceOp {E : Env} (t : TypeId) (x : Value) (lo hi mx : Option Value) : Fr E (sliceOp' E t x lo hi mx) := by
  unfold sliceOp'
  split
  · split
    · split
      · exact Fr.viaG _
      · exact Fr.ite (Fr.viaG _) (Fr.fail _)
      · exact Fr.ite (Fr.viaG _) (Fr.fail _)
      · exact Fr.ite (Fr.viaG _) (Fr.fail _)
    · exact Fr.bind (Fr.slice _ _ _ _) fun _ => Fr.pure _
  · exact Fr.fail _
theorem Fr.exec2 {E : Env} (ρ : Operand → Value) (type : TypeId) (op : Op) : Fr E (exec2 E ρ type op) := by
  cases op <;> first
    | exact Fr.pure _
    | exact Fr.fail _
    | exact Fr.pick _ _ _
    | exact Fr.viaV _
    | exact Fr.viaU _
    | exact Fr.ite (Fr.viaV _) (Fr.fail _)
    | exact Fr.bin _ _ _ _ _ _
    | exact Fr.un _ _
    | exact Fr.convert _ _ _
    | exact Fr.nil' _
    | exact Fr.ite (Fr.fail _) (Fr.pure _)
    | exact Fr.ite (Fr.bind (Fr.lookup _ _ _ _) fun _ => Fr.pure _) (Fr.fail _)
    | exact Fr.ite (Fr.bind (Fr.mapUpdate _ _ _ _) fun _ => Fr.pure _) (Fr.fail _)
    | exact Fr.fieldAddr _ _ _
    | exact Fr.range _ _
    | exact Fr.next _ _
    | exact Fr.ite (Fr.pure _) (Fr.bind (Fr.resolve _ _ _) fun _ => Fr.invoke _ _)
    | exact Fr.sliceOp _ _ _ _ _
    | exact Fr.typeAssert _ _ _
    | exact Fr.bind (Fr.resolve _ _ _) fun _ => Fr.pure _
theorem Fr.exec {E : Env} (ρ : Operand → Value) (o : Oper) : Fr E (exec' E ρ o) := Fr.ite (Fr.exec2 _ _ _) (Fr.fail _)

section
variable {E : Env} {call : CallM} (hc : ∀ f args, Fr E (call f args))
include hc
theorem Fr.evOp (ops : Array Oper) (tmps : Tm) (o : Oper) : Fr E (evOp E call ops tmps o) := by
  unfold Ev.evOp
  refine Fr.ite (Fr.bind (Fr.exec _ _) fun n => ?_) (Fr.pure _)
  cases n
  · exact Fr.pure _
  · exact Fr.pure _
  · exact hc _ _
  · exact Fr.fail _
  · exact Fr.fail _
theorem Fr.evOps (ops : Array Oper) : ∀ (l : List Oper) (tmps : Tm), Fr E (evOps E call ops l tmps)
  | [], _ => Fr.pure _
  | o :: rest, tmps => Fr.bind (Fr.evOp hc _ _ _) fun _ => Fr.evOps ops rest _
theorem Fr.evDrawn (ops : Array Oper) : ∀ (l : List Oper) (i : Nat) (done : List Rec) (tmps : Tm), Fr E (evDrawn E call ops l i done tmps)
  | [], _, _, _ => Fr.pure _
  | o :: rest, i, done, tmps => Fr.bind (Fr.heard (Fr.evOp hc _ _ _)) fun _ => Fr.ite (Fr.evDrawn ops rest _ _ _) (Fr.fail _)
theorem Fr.evRange (f : Operand) (t : Ac) : Fr E (evRange E call f t) := by
  unfold Ev.evRange
  refine Fr.ite (Fr.fail _) <| Fr.bind (Fr.new _) fun _ => Fr.bind (Fr.new _) fun _ => ?_
  split
  · refine Fr.bind (Fr.invoke _ _) fun n => ?_
    split
    · refine Fr.bind (hc _ _) fun _ => Fr.bind (Fr.obj _) fun _ => ?_
      split
      · exact Fr.ite (Fr.bind (Fr.put _ _) fun _ => Fr.pure _) (Fr.fail _)
      · exact Fr.fail _
    · exact Fr.fail _
  · exact Fr.fail _
end
theorem Fr.resultsL {E : Env} (tmps : Tm) : ∀ (l : List ResultVar), Fr E (resultsL E tmps l)
  | [] => Fr.pure _
  | .tmp t :: r => Fr.bind (Fr.resultsL tmps r) fun _ => Fr.pure _
  | .cell a t :: r => by
    unfold Ev.resultsL
    split
    · exact Fr.bind (Fr.crun _) fun _ => Fr.bind (Fr.resultsL tmps r) fun _ => Fr.pure _
    · exact Fr.fail _
theorem Fr.frameT {E : Env} (n : Nat) (args : Array Value) : Fr E (frameT n args) := Fr.ite (Fr.pure _) (Fr.fail _)
theorem Fr.pan {E : Env} (v : Value) : Fr E (pan' v) := by
  unfold pan'
  split
  · exact Fr.pure _
  · exact Fr.fail _

/-! ### with panics and deferred calls -/
section
variable {E : Env} {call : CallX} (hc : ∀ f args, Fr E (call f args))
include hc
theorem Fr.plain (f : FuncId) (args : Array Value) : Fr E (plain call f args) := by
  refine Fr.bind (hc f args) fun o => ?_
  cases o
  · exact Fr.pure _
  · exact Fr.fail _
theorem Fr.evNx (n : Nx) : Fr E (evNx call n) := by
  cases n with
  | val v => exact Fr.pure _
  | skip => exact Fr.pure _
  | enter f args =>
    unfold Ev.evNx
    refine Fr.bind (hc f args) fun o => ?_
    cases o <;> exact Fr.pure _
  | dfr d => exact Fr.pure _
  | rcv => exact Fr.pure _
theorem Fr.evOpX (ops : Array Oper) (tmps : Tm) (o : Oper) : Fr E (evOpX E call ops tmps o) := by
  unfold Ev.evOpX
  refine Fr.ite ?_ (Fr.pure _)
  split
  · exact Fr.ite (Fr.pan _) (Fr.fail _)
  · exact Fr.bind (Fr.exec _ _) fun _ => Fr.evNx hc _
theorem Fr.evOpsX (ops : Array Oper) : ∀ (l : List Oper) (t : AcX), Fr E (evOpsX E call ops l t)
  | [], _ => Fr.pure _
  | o :: rest, t => by
    refine Fr.bind (Fr.evOpX hc _ _ _) fun x => ?_
    cases x with
    | val v => exact Fr.evOpsX ops rest _
    | dfr d => exact Fr.evOpsX ops rest _
    | pan v => exact Fr.pure _
    | rcv => exact Fr.fail _
theorem Fr.evRangeX (f : Operand) (t : AcX) : Fr E (evRangeX E call f t) := Fr.bind (Fr.evRange (Fr.plain hc) _ _) fun _ => Fr.pure _
theorem Fr.evCodeX : ∀ (k : Nat) (c : Code) (t : AcX), Fr E (evCodeX E call k c t) := by
  intro k
  induction k with
  | zero => intro c t; exact Fr.fail _
  | succ k ih =>
    intro c t
    unfold Ev.evCodeX
    split
    · exact Fr.pure _
    · exact Fr.pure _
    · refine Fr.bind (ih _ _) fun r => ?_
      split
      · exact ih _ _
      · exact Fr.pure _
    · split
      · exact ih _ _
      · exact Fr.fail _
    · refine Fr.bind (ih _ _) fun r => ?_
      split
      · exact Fr.ite (Fr.pure _) (Fr.pure _)
      · exact Fr.pure _
    · refine Fr.bind (ih _ _) fun r => ?_
      split
      · exact Fr.fail _
      · exact Fr.pure _
    · refine Fr.bind (ih _ _) fun r => ?_
      split
      · exact ih _ _
      · exact Fr.pure _
    · exact Fr.pure _
    · exact Fr.pure _
    · exact Fr.bind (Fr.evOpsX hc _ _ _) fun _ => Fr.pure _
    · exact Fr.bind (Fr.evDrawn (Fr.plain hc) _ _ _ _ _) fun _ => Fr.pure _
    · exact Fr.evRangeX hc _ _
    · exact Fr.fail _
theorem Fr.evOpsD (ops : Array Oper) : ∀ (l : List Oper) (t : Tm) (pm : Pm), Fr E (evOpsD E call ops l t pm)
  | [], _, _ => Fr.pure _
  | o :: rest, t, pm => by
    refine Fr.bind (Fr.evOpX hc _ _ _) fun x => ?_
    cases x with
    | val v => exact Fr.evOpsD ops rest _ _
    | dfr d => exact Fr.fail _
    | pan v => exact Fr.fail _
    | rcv => cases pm <;> exact Fr.evOpsD ops rest _ _
theorem Fr.evCodeD : ∀ (k : Nat) (c : Code) (t : Tm) (pm : Pm), Fr E (evCodeD E call k c t pm) := by
  intro k
  induction k with
  | zero => intro c t pm; exact Fr.fail _
  | succ k ih =>
    intro c t pm
    unfold Ev.evCodeD
    split
    · refine Fr.bind (ih _ _ _) fun r => ?_
      split
      · exact ih _ _ _
      · exact Fr.pure _
    · split
      · exact ih _ _ _
      · exact Fr.fail _
    · refine Fr.ite (Fr.bind (Fr.evOpsD hc _ _ _ _) fun _ => Fr.pure _) (Fr.bind (Fr.evCodeX hc _ _ _) fun r => ?_)
      split
      · exact Fr.pure _
      · exact Fr.fail _
    · refine Fr.bind (Fr.evCodeX hc _ _ _) fun r => ?_
      split
      · exact Fr.pure _
      · exact Fr.fail _
theorem Fr.evDef (fuel : Nat) (f : FuncId) (args : Array Value) (pm : Pm) : Fr E (evDef E call fuel f args pm) := by
  unfold Ev.evDef
  split
  · exact Fr.fail _
  · split
    · exact Fr.fail _
    · refine Fr.bind (Fr.frameT _ _) fun _ => Fr.bind (Fr.evCodeD hc _ _ _ _) fun r => ?_
      split
      · exact Fr.bind (Fr.resultsL _ _) fun _ => Fr.pure _
      · exact Fr.bind (Fr.resultsL _ _) fun _ => Fr.pure _
      · exact Fr.fail _
theorem Fr.evLeave (fuel : Nat) : ∀ (l : List Deferred) (pm : Pm), Fr E (evLeave E call fuel l pm)
  | [], _ => Fr.pure _
  | d :: ds, pm => by
    unfold Ev.evLeave
    split
    · refine Fr.bind (Fr.obj _) fun o => ?_
      split
      · exact Fr.bind (Fr.put _ _) fun _ => Fr.evLeave fuel ds _
      · exact Fr.fail _
    · refine Fr.bind (Fr.callFunc _ _) fun n => ?_
      split
      · exact Fr.bind (Fr.evDef hc _ _ _ _) fun _ => Fr.evLeave fuel ds _
      · exact Fr.fail _
    · exact Fr.fail _
end
theorem Fr.pmOf {E : Env} (x : XEx) : Fr E (pmOf x) := by
  unfold Ev.pmOf
  split <;> first | exact Fr.pure _ | exact Fr.fail _
theorem Fr.callBody {E : Env} (fuel : Nat) {call : CallX} (ih : ∀ f args, Fr E (call f args)) (f : FuncId) (args : Array Value) : Fr E (callBody E fuel call f args) := by
  unfold Ev.callBody
  split
  · exact Fr.fail _
  · split
    · exact Fr.fail _
    · refine Fr.bind (Fr.frameT _ _) fun _ => Fr.bind (Fr.evCodeX ih _ _ _) fun r => Fr.bind (Fr.pmOf _) fun pm => Fr.bind (Fr.evLeave ih _ _ _) fun pm' => ?_
      cases pm' with
      | ret => exact Fr.bind (Fr.resultsL _ _) fun _ => Fr.pure _
      | pan v => exact Fr.pure _
      | was v => exact Fr.fail _
theorem Fr.evCallX {E : Env} (fuel : Nat) : ∀ (k : Nat) (f : FuncId) (args : Array Value), Fr E (evCallX E fuel k f args) := by
  intro k
  induction k with
  | zero => intro f args; exact Fr.fail _
  | succ k ih => intro f args; exact Fr.callBody fuel ih f args
end Go.Ev
