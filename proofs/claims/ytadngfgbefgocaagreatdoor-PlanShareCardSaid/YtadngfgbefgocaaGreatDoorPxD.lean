/- plan.Order and plan.Share, walked: what they compute. The conditions stand in each statement. -/
import Derived.Test.YtadngfgbefgocaaGreatDoorPxC
import Derived.Test.YtadngfgbefgocaaGreatDoorRows
import Derived.Shelf.SlSortCmp.Insertion1
import Derived.Deep.CutRange
import Derived.Laws.MakeOwn
import Derived.Below
import Derived.Lib.AppendIntMem
import Derived.Lib.OwnBridge
import Derived.Maps.AppendAt
import Derived.OwnWalk

namespace Go.Proofs.YtadngfgbefgocaaGreatDoor
open Go.Shelf Go.RowKit Go.Lib Go.Sort
theorem f_neq (x y : Nat) (w : World) : (binOp .neq 32 (.float .f32 x) (.float .f32 y)).run Tryz.prog w = .ok (.bool (Ieee.single.order x y != some .eq)) w := by kernel_rfl
theorem f_eql (x y : Nat) (w : World) : (binOp .eql 32 (.float .f32 x) (.float .f32 y)).run Tryz.prog w = .ok (.bool (Ieee.single.order x y == some .eq)) w := by kernel_rfl
theorem f_gtr (x y : Nat) (w : World) : (binOp .gtr 32 (.float .f32 x) (.float .f32 y)).run Tryz.prog w = .ok (.bool (Ieee.single.order x y == some .gt)) w := by kernel_rfl
theorem f_add (x y z : Nat) (w : World) (h : Ieee.single.add x y = some z) : (binOp .add 32 (.float .f32 x) (.float .f32 y)).run Tryz.prog w = .ok (.float .f32 z) w := by
  have : (binOp .add 32 (.float .f32 x) (.float .f32 y)).run Tryz.prog w = (Op.floatArith .add .f32 x y).run Tryz.prog w := by kernel_rfl
  rw [this]
  unfold Op.floatArith
  show (Sem.run _ (do let result ← pure (Ieee.single.add x y); _) _) = _
  rw [h]
  rfl
theorem ext16 (x : Nat) (w : World) : (callFunc 39 #[.float .f32 x]).run Tryz.prog w = .ok (.value (.int .u32 x)) w := by kernel_rfl
theorem or_u32 (x : Nat) (h : x < 2147483648) : bits .or .u32 (x : Int) 2147483648 = ((x + 2147483648 : Nat) : Int) := by
  have h1 : (BitVec.ofInt 32 (x : Int)).toNat = x := by
    rw [BitVec.ofInt_natCast, BitVec.toNat_ofNat]; exact Nat.mod_eq_of_lt (by omega)
  have h2 : (BitVec.ofInt 32 (2147483648 : Int)).toNat = 2147483648 := by decide
  have h3 : x ||| 2147483648 = x + 2147483648 := by
    have := Nat.two_pow_add_eq_or_of_lt (i := 31) (b := x) (by omega) 1
    rw [Nat.or_comm, show (2147483648 : Nat) = 2 ^ 31 * 1 from rfl, ← this]
    omega
  show IntKind.u32.wrap ((BitVec.ofInt 32 (x : Int) ||| BitVec.ofInt 32 (2147483648 : Int)).toNat : Int) = _
  rw [BitVec.toNat_or, h1, h2, h3, IntKind.wrap_u32]
  omega
theorem not_u32 (x : Nat) (h : x < 4294967296) : bits .xor .u32 IntKind.u32.max (x : Int) = ((4294967295 - x : Nat) : Int) := by
  have h1 : BitVec.ofInt 32 (x : Int) = BitVec.ofNat 32 x := BitVec.ofInt_natCast _ _
  have h2 : BitVec.ofInt 32 IntKind.u32.max = BitVec.allOnes 32 := by decide
  show IntKind.u32.wrap ((BitVec.ofInt 32 IntKind.u32.max ^^^ BitVec.ofInt 32 (x : Int)).toNat : Int) = _
  rw [h2, BitVec.allOnes_xor, BitVec.toNat_not, h1, BitVec.toNat_ofNat, Nat.mod_eq_of_lt (by omega), IntKind.wrap_u32]
  omega
/-- what reals.Key gives, by the word -/
def keyN (x : Nat) : Nat := if (Ieee.single.order x x != some .eq) = true then 4290772992 else if x < 2147483648 then x + 2147483648 else 4294967295 - x
set_option maxHeartbeats 4000000 in
set_option maxRecDepth 1000000 in
theorem key_s (x : Nat) (hx : x < 4294967296) (w : World) :
    Calls Tryz.prog 38 #[.float .f32 x] w fun e w' => e = .returned (.int .u32 (keyN x)) ∧ w' = w := by
  have h1 := f_neq x x
  have h16 := ext16 x
  have hk : Aside (keyN x = if (Ieee.single.order x x != some .eq) = true then 4290772992 else if x < 2147483648 then x + 2147483648 else 4294967295 - x) := rfl
  obtain ⟨b, hb⟩ : ∃ b, (Ieee.single.order x x != some .eq) = b := ⟨_, rfl⟩
  rw [hb] at h1 hk
  clear hb
  cases b with
  | true =>
    go_enter Tryz.func38, Tryz.ntmps38
    go_wp2_with fail
    go_ret
    exact ⟨by rw [hk.out]; rfl, rfl⟩
  | false =>
    by_cases hs : x < 2147483648
    · have hs1 : (((x : Int) / 2147483648) == 1) = false := by simp; omega
      go_enter Tryz.func38, Tryz.ntmps38
      go_wp2_with fail
      go_ret
      exact ⟨by rw [hk.out, if_neg (by decide), if_pos hs, ← or_u32 x hs]; rfl, rfl⟩
    · have hs1 : (((x : Int) / 2147483648) == 1) = true := by simp; omega
      go_enter Tryz.func38, Tryz.ntmps38
      go_wp2_with fail
      go_ret
      exact ⟨by rw [hk.out, if_neg (by decide), if_neg hs, ← not_u32 x hx]; rfl, rfl⟩
def cmpN (x y : Nat) : Int := if keyN x < keyN y then -1 else if keyN y < keyN x then 1 else 0
set_option maxHeartbeats 4000000 in
set_option maxRecDepth 1000000 in
theorem compare_s (x y : Nat) (hx : x < 4294967296) (hy : y < 4294967296) (w : World) :
    Calls Tryz.prog 23 #[.float .f32 x, .float .f32 y] w fun e w' => e = .returned (.int .i64 (cmpN x y)) ∧ w' = w := by
  have e13 : ∀ args w, (callFunc 38 args).run Tryz.prog w = .ok (.enter 38 args) w := enters_of Tryz.func38 (by kernel_rfl) rfl
  have ck : ∀ (v : Nat) (hv : v < 4294967296) (w : World), Calls Tryz.prog 38 #[.float .f32 v] w fun e w' => e = .returned (.int .u32 (keyN v)) ∧ w' = w := key_s
  have hk : Aside (cmpN x y = if keyN x < keyN y then -1 else if keyN y < keyN x then 1 else 0) := rfl
  obtain ⟨a, ha⟩ : ∃ a, a = keyN x := ⟨_, rfl⟩
  obtain ⟨b, hb⟩ : ∃ a, a = keyN y := ⟨_, rfl⟩
  have c1 := ck x hx w
  have c2 := ck y hy w
  rw [← ha] at c1 hk
  rw [← hb] at c2 hk
  clear ck ha hb
  go_enter Tryz.func23, Tryz.ntmps23
  go_wp2_with fail
  refine c1.mono ?_
  rintro e w1 ⟨rfl, rfl⟩
  go_wp2_with fail
  refine c2.mono ?_
  rintro e w2 ⟨rfl, rfl⟩
  clear c1 c2
  by_cases q1 : a < b
  · have z1 : (a : Int) < (b : Int) := by omega
    go_wp2_with fail
    go_ret
    exact ⟨by rw [hk.out, if_pos q1]; rfl, rfl⟩
  · have z1 : ¬ (a : Int) < (b : Int) := by omega
    by_cases q2 : b < a
    · have z2 : (b : Int) < (a : Int) := by omega
      go_wp2_with fail
      go_ret
      exact ⟨by rw [hk.out, if_neg q1, if_pos q2]; rfl, rfl⟩
    · have z2 : ¬ (b : Int) < (a : Int) := by omega
      go_wp2_with fail
      go_ret
      exact ⟨by rw [hk.out, if_neg q1, if_neg q2]; rfl, rfl⟩
end Go.Proofs.YtadngfgbefgocaaGreatDoor

namespace Go.Proofs.YtadngfgbefgocaaGreatDoor
open Go.Shelf Go.RowKit Go.Lib Go.Sort
theorem cell?_sortWorld_other {α : Type} [Inhabited α] (enc : α → Value) (W : World) (blk off n : Nat) (dk : Array α) (os : Array Obj) (a : Addr) (h1 : a.block ≠ blk) (h2 : a.block < W.heap.size) : (sortWorld enc W blk off n dk os).cell? a = W.cell? a := by
  unfold sortWorld
  rw [cell?_grow _ _ _ (by rw [size_putRow]; exact h2), cell?_putRow_other enc _ blk off dk a (.inl h1)]
  rfl
set_option maxHeartbeats 4000000 in
set_option maxRecDepth 1000000 in
theorem closure_s (i k n lc lb lo bx x y : Nat) (w : World) (hi : i < n) (hk : k < n) (hx : x < 4294967296) (hy : y < 4294967296)
    (hb : ∀ (m : Nat) (os : Array Obj), (grow (w.drewN m) os).cell? ⟨bx, 0, none⟩ = some (.slice (some ⟨lb, lo, none⟩) n lc))
    (l1 : ∀ (m : Nat) (os : Array Obj), (grow (w.drewN m) os).cell? ⟨lb, lo + i, none⟩ = some (.float .f32 x))
    (l2 : ∀ (m : Nat) (os : Array Obj), (grow (w.drewN m) os).cell? ⟨lb, lo + k, none⟩ = some (.float .f32 y)) :
    Calls Tryz.prog 22 #[.int .i64 i, .int .i64 k, .pointer (some ⟨bx, 0, none⟩)] w fun e w' => e = .returned (.int .i64 (cmpN x y)) ∧ ∃ q os, w' = grow (w.drewN q) os := by
  have mixed := mixed
  have t22 := Tryz.underlying22
  have t27 := Tryz.underlying32
  have u22 := run_underlying t22
  have e7 : ∀ args w, (callFunc 23 args).run Tryz.prog w = .ok (.enter 23 args) w := enters_of Tryz.func23 (by kernel_rfl) rfl
  have hc : ∀ (m : Nat) (os : Array Obj), Calls Tryz.prog 23 #[.float .f32 x, .float .f32 y] (grow (w.drewN m) os) fun e w' => e = .returned (.int .i64 (cmpN x y)) ∧ ∃ q os', w' = grow ((grow (w.drewN m) os).drewN q) os' := fun m os => (compare_s x y hx hy _).mono fun e w' ⟨h1, h2⟩ => ⟨h1, 0, #[], by rw [h2, grow_empty]; rfl⟩
  generalize cmpN x y = c at *
  go_enter Tryz.func22, Tryz.ntmps22
  go_wp2_with fail
  go_quiet_grown (first | (go_at_call 23; refine Calls.grown_of (hc _ _)))
  go_wp2_with fail
  go_ret
  exact ⟨rfl, nq, osq, rfl⟩
end Go.Proofs.YtadngfgbefgocaaGreatDoor

namespace Go.Proofs.YtadngfgbefgocaaGreatDoor
open Go.Shelf Go.RowKit Go.Lib Go.Sort
variable {α : Type} [Inhabited α]
set_option maxHeartbeats 4000000 in
set_option maxRecDepth 1000000 in
theorem ins0 (s : Option Addr) (c : Nat) (cv : Value) (w : World) :
    Calls Tryz.prog 72 #[.slice s 0 c, .int .i64 0, .int .i64 0, cv] w fun e w' => e = .returned (.tuple #[]) ∧ w' = w := by
  have t24 := Tryz.underlying24
  go_enter Tryz.func72, Tryz.ntmps72
  go_wp2_with fail
  go_loopg [8] 1 (fun g1 vi wr => vi = .int .i64 1 ∧ wr = w)
  case atStart => exact ⟨rfl, rfl⟩
  case round =>
    obtain ⟨rfl, rfl⟩ := hrel
    go_wp2_with fail
    go_end0
    exact ⟨rfl, rfl⟩
set_option maxHeartbeats 4000000 in
set_option maxRecDepth 1000000 in
theorem stable0 (s : Option Addr) (c : Nat) (cv : Value) (w : World) :
    Calls Tryz.prog 37 #[.slice s 0 c, .int .i64 0, cv] w fun e w' => e = .returned (.tuple #[]) ∧ w' = w := by
  have t24 := Tryz.underlying24
  have e18 : ∀ args w, (callFunc 72 args).run Tryz.prog w = .ok (.enter 72 args) w := enters_of Tryz.func72 (by kernel_rfl) rfl
  have hcall := ins0 s c cv w
  go_enter Tryz.func37, Tryz.ntmps37
  go_wp2_with fail
  go_loopg [7, 8] 1 (fun g1 va vb wr => va = .int .i64 0 ∧ vb = .int .i64 20 ∧ wr = w)
  case atStart => exact ⟨rfl, rfl, rfl⟩
  case round =>
    obtain ⟨rfl, rfl, rfl⟩ := hrel
    go_wp2_with fail
    refine hcall.mono ?_
    rintro e w1 ⟨rfl, rfl⟩
    clear hcall
    go_wp2_with fail
    go_loopg [6] 1 (fun g1 v6 wr => v6 = .int .i64 20 ∧ wr = w1)
    case atStart => exact ⟨rfl, rfl⟩
    case round =>
      obtain ⟨rfl, rfl⟩ := hrel
      go_wp2_with fail
      go_end0
      exact ⟨rfl, rfl⟩
set_option maxHeartbeats 4000000 in
set_option maxRecDepth 1000000 in
theorem sort_s (enc : α → Value) (cf : α → α → Int) (g : Nat) (cb : Array Value) (blk cap : Nat) (d0 : Array α) (w0 : World) (eg : ∀ args w, (callFunc g args).run Tryz.prog w = .ok (.enter g args) w) (hcmp : d0.size ≠ 0 → CmpLays1 Tryz.prog g cb enc cf blk 0 d0.size w0) (R : Row1 enc w0 blk 0 d0) (hsz : d0.size < 1152921504606846976) :
    Calls Tryz.prog 21 #[.slice (some ⟨blk, 0, none⟩) d0.size cap, .func (.func g) #[] cb] w0 fun e w' => e = .returned (.tuple #[]) ∧ SW enc w0 blk 0 (Stab.stable (ltOf cf) d0) w' := by
  have e15 : ∀ args w, (callFunc 37 args).run Tryz.prog w = .ok (.enter 37 args) w := enters_of Tryz.func37 (by kernel_rfl) rfl
  have hcall : Calls Tryz.prog 37 #[.slice (some ⟨blk, 0, none⟩) d0.size cap, .int .i64 d0.size, .func (.func g) #[] cb] w0 fun e w' => e = .returned (.tuple #[]) ∧ SW enc w0 blk 0 (Stab.stable (ltOf cf) d0) w' := by
    by_cases h0 : d0.size = 0
    · have hd : d0 = #[] := Array.eq_empty_of_size_eq_zero h0
      subst hd
      refine (stable0 (some ⟨blk, 0, none⟩) cap (.func (.func g) #[] cb) w0).mono ?_
      rintro e w' ⟨rfl, rfl⟩
      refine ⟨rfl, ?_⟩
      have hst : Stab.stable (ltOf cf) (#[] : Array α) = #[] := by
        unfold Stab.stable
        rw [mergeAll_stop _ _ _ _ (by simp), stabIns_stop _ _ _ _ _ (by simp)]
        refine Array.eq_empty_of_size_eq_zero ?_
        rw [Stab.insertionSort_size]
        rfl
      rw [hst]
      exact SW.start R.hH
    · exact stable_s enc cf g cb blk 0 cap d0 w0 eg (hcmp h0) R hsz d0 w0 rfl (SW.start R.hH)
  have t24 := Tryz.underlying24
  clear hcmp R
  generalize d0.size = n at *
  go_enter Tryz.func21, Tryz.ntmps21
  go_wp2_with fail
  refine hcall.mono ?_
  rintro e w1 ⟨rfl, hS⟩
  clear hcall
  have S2 : Aside _ := hS
  clear hS
  go_wp2_with fail
  go_end0
  exact ⟨rfl, S2.out⟩
end Go.Proofs.YtadngfgbefgocaaGreatDoor

namespace Go.Proofs.YtadngfgbefgocaaGreatDoor
open Go.Shelf Go.RowKit Go.Lib Go.Sort
def encR (n : Nat) (k : Nat) : Value := .int .i64 ((k % n : Nat) : Int)
structure Filled (B : Nat) (w1 wr : World) (blk n i : Nat) : Prop where
  bel : Below B w1 wr
  lt : blk < wr.heap.size
  cell : ∀ j, j < n → ∃ v : Int, wr.cell? ⟨blk, j, none⟩ = some (.int .i64 v) ∧ (j < i → v = (j : Int))
  fr : ∀ j, j < n → wr.frozen? ⟨blk, j, none⟩ = false
theorem Filled.start (w1 : World) (n T : Nat) : Filled w1.heap.size w1 (w1.alloc (.cells (madeCells #[.int .i64 0] n) T)) w1.heap.size n 0 where
  bel := (Below.refl _ _).alloc (Nat.le_refl _) _
  lt := by simp
  cell := fun j hj => ⟨0, by simp [madeCells, hj, Nat.mod_one], fun h => absurd h (by omega)⟩
  fr := fun j hj => by simp
theorem Filled.put {B : Nat} {w1 wr : World} {blk n i : Nat} (h : Filled B w1 wr blk n i) (hi : i < n) (hB : B ≤ blk) : Filled B w1 (wr.setCell ⟨blk, i, none⟩ (.int .i64 (i : Int))) blk n (i + 1) where
  bel := h.bel.setCell (by exact hB) _
  lt := by simpa [World.setCell] using h.lt
  cell := fun j hj => by
    by_cases e : j = i
    · subst e
      obtain ⟨v, hv, _⟩ := h.cell j hj
      exact ⟨j, World.cell?_setCell_same _ _ _ hv, fun _ => rfl⟩
    · obtain ⟨v, hv, hl⟩ := h.cell j hj
      exact ⟨v, by rw [World.cell?_setCell_other _ _ _ _ (by intro e'; simp only [Addr.mk.injEq] at e'; omega)]; exact hv, fun q => hl (by omega)⟩
  fr := fun j hj => by rw [World.frozen?_setCell]; exact h.fr j hj
theorem mk24 (n : Nat) (hn : n ≤ 16777216) (w : World) : (Instr.makeSlice 24 (.int .i64 n) (.int .i64 n)).run Tryz.prog w = .ok (.slice (some ⟨w.heap.size, 0, none⟩) n n) (w.alloc (.cells (madeCells #[.int .i64 0] n) 3)) := by
  have hb : ((Tryz.prog.info? 3 |>.getD default).bytes) = 8 := by kernel_rfl
  have hs : ((Tryz.prog.info? 3 |>.getD default).size) = 1 := by kernel_rfl
  have hm := run_make (P := Tryz.prog) w 24 3 (i := Tryz.prog.info? 3 |>.getD default) (z := .int .i64 0) Tryz.underlying24 (by kernel_rfl) (by kernel_rfl) .i64 .i64 n n (by omega) (by omega) (by rw [hb]; omega) (by omega)
  rw [hs, Int.toNat_natCast, Nat.mul_one] at hm
  exact hm
/-- what the comparison reads: the words of a row -/
structure Words (w : World) (lb lo n : Nat) (ls : Array Nat) : Prop where
  size : ls.size = n
  small : ∀ i, i < n → ls[i]! < 4294967296
  cell : ∀ i, i < n → w.cell? ⟨lb, lo + i, none⟩ = some (.float .f32 ls[i]!)
/-- .. of a slice, which may be nil where there are none -/
def WordsAt (w : World) (a0 : Option Addr) (n : Nat) (ls : Array Nat) : Prop := ls.size = n ∧ (n ≠ 0 → ∃ lb lo, a0 = some ⟨lb, lo, none⟩ ∧ lb < w.heap.size ∧ Words w lb lo n ls)
def cfOf (n : Nat) (ls : Array Nat) (x y : Nat) : Int := cmpN ls[x % n]! ls[y % n]!
theorem below_sortWorld {α : Type} [Inhabited α] {enc : α → Value} {B : Nat} {w0 w : World} {blk m : Nat} {dk : Array α} {os : Array Obj} (h : Below B w0 w) (hg : B ≤ blk) (hB : B ≤ w.heap.size) : Below B w0 (sortWorld enc w blk 0 m dk os) := by
  have h1 : Below B w0 (putRow enc (Sort.ahead w m) blk 0 dk) := Lib.below_putRow h hg
  have h2 := Lib.below_grow B (putRow enc (Sort.ahead w m) blk 0 dk) (by rw [size_putRow]; exact hB) 0 os
  exact h1.trans h2
def keyOf (n : Nat) (ls : Array Nat) (k : Nat) : Nat := keyN ls[k % n]!
theorem lt_key (n : Nat) (ls : Array Nat) : ltOf (cfOf n ls) = Stab.ltK (keyOf n ls) := by
  funext x y
  show decide (cmpN ls[x % n]! ls[y % n]! < 0) = decide (keyN ls[x % n]! < keyN ls[y % n]!)
  unfold cmpN
  split
  · rename_i h; simp [h]
  · rename_i h
    split <;> simp [h]
theorem stable_size (n : Nat) (ls : Array Nat) : (Stab.stable (ltOf (cfOf n ls)) (Array.range n)).size = n := by
  rw [lt_key, ← Array.length_toList, (Stab.stable_spec (keyOf n ls) n).1.length_eq, List.length_range]
theorem range_get (n i : Nat) (h : i < n) : (Array.range n)[i]! = i := by
  rw [getElem!_pos _ i (by simpa using h)]
  simp
theorem Filled.holds {B : Nat} {w1 wr : World} {blk n : Nat} (h : Filled B w1 wr blk n n) : Holds (encR n) wr blk 0 (Array.range n) := by
  intro j hj
  have hj' : j < n := by simpa using hj
  obtain ⟨v, hv, hl⟩ := h.cell j hj'
  rw [Nat.zero_add, range_get n j hj']
  refine ⟨?_, h.fr j hj'⟩
  rw [hv, hl hj']
  unfold encR
  rw [Nat.mod_eq_of_lt hj']
theorem closure_lays {w1 wr : World} {n blk lb lo lc bx : Nat} {ls : Array Nat} (h : n ≠ 0) (hl : Words w1 lb lo n ls) (hbel : Below blk w1 wr) (hlt : blk < wr.heap.size) (hlb : lb < blk) (hbx : bx < blk) (hb : w1.cell? ⟨bx, 0, none⟩ = some (.slice (some ⟨lb, lo, none⟩) n lc)) :
    CmpLays1 Tryz.prog 22 #[.pointer (some ⟨bx, 0, none⟩)] (encR n) (cfOf n ls) blk 0 (Array.range n).size wr := by
  intro m os dk hs x y
  have hx : x % n < n := Nat.mod_lt _ (by omega)
  have hy : y % n < n := Nat.mod_lt _ (by omega)
  have key : ∀ (b o : Nat), b < blk → ∀ (q : Nat) (os' : Array Obj), (grow ((sortWorld (encR n) wr blk 0 m dk os).drewN q) os').cell? ⟨b, o, none⟩ = w1.cell? ⟨b, o, none⟩ := by
    intro b o hb q os'
    rw [sortWorld_grown_c, cell?_sortWorld_other _ _ _ _ _ _ _ _ (by show b ≠ blk; omega) (by show b < _; omega), hbel.cell (by exact hb)]
  exact closure_s (x % n) (y % n) n lc lb lo bx _ _ (sortWorld (encR n) wr blk 0 m dk os) hx hy (hl.small _ hx) (hl.small _ hy)
    (fun q os' => by rw [key _ _ hbx]; exact hb) (fun q os' => by rw [key _ _ hlb]; exact hl.cell _ hx) (fun q os' => by rw [key _ _ hlb]; exact hl.cell _ hy)
set_option maxHeartbeats 4000000 in
set_option maxRecDepth 1000000 in
theorem order_s (a0 : Option Addr) (n lc : Nat) (ls : Array Nat) (w : World) (hn : n ≤ 16777216) (hl : WordsAt w a0 n ls) :
    Calls Tryz.prog 7 #[.slice a0 n lc] w fun e w' => ∃ blk, e = .returned (.slice (some ⟨blk, 0, none⟩) n n) ∧ w.heap.size ≤ blk ∧ blk < w'.heap.size ∧ Below w.heap.size w w' ∧ Holds (encR n) w' blk 0 (Stab.stable (ltOf (cfOf n ls)) (Array.range n)) := by
  have mixed := mixed
  have t22 := Tryz.underlying22
  have t24 := Tryz.underlying24
  have t3 := Tryz.underlying3
  have u24 := run_underlying t24
  have e11 : ∀ args w, (callFunc 21 args).run Tryz.prog w = .ok (.enter 21 args) w := enters_of Tryz.func21 (by kernel_rfl) rfl
  have hm := mk24 n hn
  have HL : Aside _ := hl
  clear hl
  obtain ⟨B, hB⟩ : ∃ q, Aside (q = w.heap.size) := ⟨_, rfl⟩
  have hbn : w.heap.size + 1 ≤ B + 1 := by rw [hB.out]; omega
  go_enter Tryz.func7, Tryz.ntmps7
  go_wp2_with fail
  go_loopg [10] n (fun g1 vi wr => ∃ (i : Nat), vi = .int .i64 i ∧ i ≤ n ∧ n - i ≤ g1 ∧ Aside (Filled (w.heap.size + 1) (w.alloc (Obj.cells #[Value.slice a0 n lc] 22)) wr (w.heap.size + 1) n i))
  case atStart =>
    refine ⟨0, rfl, by omega, by omega, ?_⟩
    show Filled _ _ _ _ _ _
    have := Filled.start (w.alloc (Obj.cells #[Value.slice a0 n lc] 22)) n 3
    simpa using this
  case round =>
    obtain ⟨i, rfl, hin, hg1, F⟩ := hrel
    by_cases hlt : i < n
    · have hltz : (i : Int) < (n : Int) := by omega
      obtain ⟨v, hc, _⟩ := F.out.cell i hlt
      have hf := F.out.fr i hlt
      have F2 : Aside _ := F.out.put hlt (Nat.le_refl _)
      have ra : IntKind.i64.wrap ((i : Int) + 1) = ((i + 1 : Nat) : Int) := by rw [IntKind.wrap_i64]; omega
      clear F
      go_wp2_with fail
      go_roundg (n - (i + 1))
      case measure => omega
      case rel => exact ⟨i + 1, by go_num, by omega, by omega, F2⟩
    · have hltz : ¬ (i : Int) < (n : Int) := by omega
      have hi : i = n := by omega
      subst hi
      have hR : Row1 (encR i) wr (w.heap.size + 1) 0 (Array.range i) := ⟨fun x => rfl, F.out.holds, F.out.lt⟩
      have hcall := sort_s (encR i) (cfOf i ls) 22 #[.pointer (some ⟨w.heap.size, 0, none⟩)] (w.heap.size + 1) i (Array.range i) wr (enters_of Tryz.func22 (by kernel_rfl) rfl)
        (fun h0 => by
          obtain ⟨lb, lo, rfl, hlb, hw⟩ := HL.out.2 (by simpa using h0)
          exact closure_lays (lc := lc) (by simpa using h0) (w1 := w.alloc (Obj.cells #[Value.slice (some ⟨lb, lo, none⟩) i lc] 22)) ⟨hw.size, hw.small, fun j hj => by rw [← hw.cell j hj]; exact World.cell?_of_block (Below.heap_alloc _ _ _ hlb)⟩ F.out.bel F.out.lt (Nat.lt_succ_of_lt hlb) (Nat.lt_succ_self _) (by simp)) hR (by simp; omega)
      have hbel : Aside (Below w.heap.size w wr) := (((Below.refl w.heap.size w).alloc (Nat.le_refl _) _).trans (F.out.bel.mono (Nat.le_succ _)))
      have hlw : Aside (w.heap.size + 1 < wr.heap.size) := F.out.lt
      have hH : Aside (Holds (encR i) wr (w.heap.size + 1) 0 (Array.range i)) := F.out.holds
      rw [show (Array.range i).size = i by simp] at hcall
      clear F hR HL
      go_wp2_with fail
      refine hcall.mono ?_
      rintro e w1 ⟨rfl, hS⟩
      have S2 : Aside (SW (encR i) wr (w.heap.size + 1) 0 (Stab.stable (ltOf (cfOf i ls)) (Array.range i)) w1) := hS
      clear hS hcall
      go_wp2_with fail
      go_ret
      refine ⟨w.heap.size + 1, rfl, by omega, ?_, ?_, ?_⟩
      · exact Nat.lt_of_lt_of_le hlw.out S2.out.le
      · obtain ⟨m, os, e⟩ := S2.out
        rw [e]
        exact below_sortWorld hbel.out (by omega) (by have := hlw.out; omega)
      · exact SW.holds S2.out hlw.out hH.out (by rw [stable_size]; simp)
end Go.Proofs.YtadngfgbefgocaaGreatDoor

namespace Go.Proofs.YtadngfgbefgocaaGreatDoor
open Go.Shelf Go.RowKit Go.Lib Go.Sort
def fv (x : Nat) : Value := .float .f32 x
theorem info27 : (Tryz.prog.info? 32).map (fun i => (i.zero, i.size, i.bytes)) = some (some (.float .f32 0), 1, 4) := by kernel_rfl
end Go.Proofs.YtadngfgbefgocaaGreatDoor

namespace Go.Proofs.YtadngfgbefgocaaGreatDoor
open Go.Shelf Go.RowKit Go.Lib Go.Sort Go.Flo
theorem f_sub (x y z : Nat) (w : World) (h : Ieee.single.sub x y = some z) : (binOp .sub 32 (.float .f32 x) (.float .f32 y)).run Tryz.prog w = .ok (.float .f32 z) w := by
  have : (binOp .sub 32 (.float .f32 x) (.float .f32 y)).run Tryz.prog w = (Op.floatArith .sub .f32 x y).run Tryz.prog w := by kernel_rfl
  rw [this]
  unfold Op.floatArith
  show (Sem.run _ (do let result ← pure (Ieee.single.sub x y); _) _) = _
  rw [h]
  rfl
theorem f_quo (x y z : Nat) (w : World) (h : Ieee.single.div x y = some z) : (binOp .quo 32 (.float .f32 x) (.float .f32 y)).run Tryz.prog w = .ok (.float .f32 z) w := by
  have : (binOp .quo 32 (.float .f32 x) (.float .f32 y)).run Tryz.prog w = (Op.floatArith .quo .f32 x y).run Tryz.prog w := by kernel_rfl
  rw [this]
  unfold Op.floatArith
  show (Sem.run _ (do let result ← pure (Ieee.single.div x y); _) _) = _
  rw [h]
  rfl
theorem f_leq (x y : Nat) (w : World) : (binOp .leq 32 (.float .f32 x) (.float .f32 y)).run Tryz.prog w = .ok (.bool (Ieee.single.order x y == some .lt || Ieee.single.order x y == some .eq)) w := by kernel_rfl
theorem f_geq (x y : Nat) (w : World) : (binOp .geq 32 (.float .f32 x) (.float .f32 y)).run Tryz.prog w = .ok (.bool (Ieee.single.order x y == some .gt || Ieee.single.order x y == some .eq)) w := by kernel_rfl
theorem nan_cut (t : Nat) : 2139095040 < ((t % 2) * 2 ^ 31 + 0x7f800000 + 1 + (t / 2) % (2 ^ 23 - 1)) % 2147483648 := by
  have h : (t / 2) % (2 ^ 23 - 1) < 8388607 := Nat.mod_lt _ (by decide)
  generalize (t / 2) % (2 ^ 23 - 1) = r at h
  rcases Nat.mod_two_eq_zero_or_one t with e | e
  · rw [e]; omega
  · rw [e]; omega
theorem f_sub_nan (x y : Nat) (w : World) (h : Ieee.single.sub x y = none) : ∃ b, 2139095040 < b % 2147483648 ∧ (binOp .sub 32 (.float .f32 x) (.float .f32 y)).run Tryz.prog w = .ok (.float .f32 b) w.drew := by
  have : (binOp .sub 32 (.float .f32 x) (.float .f32 y)).run Tryz.prog w = (Op.floatArith .sub .f32 x y).run Tryz.prog w := by kernel_rfl
  rw [this]
  unfold Op.floatArith
  refine ⟨(w.tape w.drawn (.nanBits .f32 x y) % 2) * 2 ^ 31 + 0x7f800000 + 1 + (w.tape w.drawn (.nanBits .f32 x y) / 2) % (2 ^ 23 - 1), nan_cut _, ?_⟩
  show (Sem.run _ (do let result ← pure (Ieee.single.sub x y); _) _) = _
  rw [h]
  rfl
set_option maxHeartbeats 4000000 in
set_option maxRecDepth 1000000 in
theorem worth_s (x : Nat) (hx : x < 4294967296) (w : World) :
    Calls Tryz.prog 16 #[.float .f32 x] w fun e w' => e = .returned (.float .f32 (worthN x)) ∧ ∃ q, w' = w.drewN q := by
  have hg := f_gtr x 0
  rw [gt_zero hx] at hg
  have he : Aside (worthN x = if 0 < x ∧ x < 2139095040 then x else 0) := rfl
  by_cases h1 : 0 < x ∧ x ≤ 2139095040
  · rw [decide_eq_true h1] at hg
    by_cases h2 : x < 2139095040
    · have hs := fun w => f_sub x x 0 w (sub_self_fin hx (by omega))
      have hz := f_eql 0 0
      rw [show (Ieee.single.order 0 0 == some .eq) = true by decide +kernel] at hz
      go_enter Tryz.func16, Tryz.ntmps16
      go_wp2_with fail
      go_ret
      exact ⟨by rw [he.out, if_pos ⟨h1.1, h2⟩]; rfl, 0, rfl⟩
    · obtain ⟨b, hb, hs⟩ := f_sub_nan x x w (sub_self_not (by omega))
      have hz := f_eql b 0
      rw [show (Ieee.single.order b 0 == some .eq) = false by rw [order_nan hb]; rfl] at hz
      go_enter Tryz.func16, Tryz.ntmps16
      go_wp2_with fail
      go_ret
      exact ⟨by rw [he.out, if_neg (by omega)]; rfl, 1, rfl⟩
  · rw [decide_eq_false h1] at hg
    go_enter Tryz.func16, Tryz.ntmps16
    go_wp2_with fail
    go_ret
    exact ⟨by rw [he.out, if_neg (by omega)]; rfl, 0, rfl⟩
end Go.Proofs.YtadngfgbefgocaaGreatDoor

namespace Go.Proofs.YtadngfgbefgocaaGreatDoor
open Go.Shelf Go.RowKit Go.Lib Go.Sort Go.Flo
set_option maxHeartbeats 4000000 in
set_option maxRecDepth 1000000 in
theorem do_over (x y z : Nat) (h : Ieee.single.div x y = some z) (w : World) :
    Calls Tryz.prog 17 #[.int .i64 6, .float .f32 x, .float .f32 y] w fun e w' => e = .returned (.float .f32 z) ∧ w' = w := by
  have hs := fun w => f_quo x y z w h
  go_enter Tryz.func17, Tryz.ntmps17
  go_wp2_with fail
  go_ret
  exact ⟨rfl, rfl⟩
set_option maxHeartbeats 4000000 in
set_option maxRecDepth 1000000 in
theorem do_plus (x y z : Nat) (h : Ieee.single.add x y = some z) (w : World) :
    Calls Tryz.prog 17 #[.int .i64 7, .float .f32 x, .float .f32 y] w fun e w' => e = .returned (.float .f32 z) ∧ w' = w := by
  have hs := fun w => f_add x y z w h
  go_enter Tryz.func17, Tryz.ntmps17
  go_wp2_with fail
  go_ret
  exact ⟨rfl, rfl⟩
set_option maxHeartbeats 4000000 in
set_option maxRecDepth 1000000 in
theorem plus_s (x y z : Nat) (h : Ieee.single.add x y = some z) (w : World) :
    Calls Tryz.prog 15 #[.float .f32 x, .float .f32 y] w fun e w' => e = .returned (.float .f32 z) ∧ w' = w := by
  have e10 : ∀ args w, (callFunc 17 args).run Tryz.prog w = .ok (.enter 17 args) w := enters_of Tryz.func17 (by kernel_rfl) rfl
  have hcall := do_plus x y z h w
  go_enter Tryz.func15, Tryz.ntmps15
  go_wp2_with fail
  refine hcall.mono ?_
  rintro e w1 ⟨rfl, rfl⟩
  clear hcall
  go_wp2_with fail
  go_ret
  exact ⟨rfl, rfl⟩
/-- the sum of worths of the first k -/
def sumN (ls : Array Nat) : Nat → Nat
  | 0 => 0
  | k + 1 => plusN (sumN ls k) (worthN ls[k]!)
theorem sumN_le (ls : Array Nat) : ∀ k, sumN ls k ≤ 2139095040
  | 0 => by unfold sumN; omega
  | k + 1 => (plusN_spec (sumN_le ls k) (worthN_lt _)).2.2.2
theorem sumN_mono (ls : Array Nat) (k : Nat) : ∀ m, k ≤ m → sumN ls k ≤ sumN ls m
  | 0, h => by rw [show k = 0 by omega]; exact Nat.le_refl _
  | m + 1, h => by
    rcases Nat.lt_or_eq_of_le h with h1 | h1
    · exact Nat.le_trans (sumN_mono ls k m (by omega)) (plusN_spec (sumN_le ls m) (worthN_lt _)).2.1
    · rw [h1]; exact Nat.le_refl _
theorem worth_le_sum (ls : Array Nat) (n i : Nat) (h : i < n) : worthN ls[i]! ≤ sumN ls n :=
  Nat.le_trans (plusN_spec (sumN_le ls i) (worthN_lt _)).2.2.1 (sumN_mono ls (i + 1) n h)
/-- what plan.Share gives -/
def outN (ls : Array Nat) (n i : Nat) : Nat := if sumN ls n = 0 then 0 else shareN (sumN ls n) (worthN ls[i]!)
theorem outN_le (ls : Array Nat) (n i : Nat) (h : i < n) : outN ls n i ≤ 0x3f800000 := by
  unfold outN
  split
  · omega
  · rename_i h0
    exact (shareN_spec (sumN_le ls n) h0 (worth_le_sum ls n i h) (worthN_lt _)).2
theorem outN_mono (ls : Array Nat) (n i k : Nat) (_hi : i < n) (hk : k < n) (h : worthN ls[i]! ≤ worthN ls[k]!) : outN ls n i ≤ outN ls n k := by
  unfold outN
  split
  · omega
  · rename_i h0
    exact shareN_mono (sumN_le ls n) h0 h (worth_le_sum ls n k hk) (worthN_lt _)
theorem zero_ne {s : Nat} (hs : s ≤ 2139095040) : (Ieee.single.order s 0 != some .eq) = decide (s ≠ 0) := by
  rw [order_up hs (by omega)]
  by_cases h : s = 0
  · subst h; decide +kernel
  · rw [(Nat.compare_eq_gt).2 (by omega), decide_eq_true h]; rfl
theorem mk22 (n : Nat) (hn : n ≤ 16777216) (w : World) : (Instr.makeSlice 22 (.int .i64 n) (.int .i64 n)).run Tryz.prog w = .ok (.slice (some ⟨w.heap.size, 0, none⟩) n n) (w.alloc (.cells (madeCells #[.float .f32 0] n) 32)) := by
  have hb : ((Tryz.prog.info? 32 |>.getD default).bytes) = 4 := by kernel_rfl
  have hs : ((Tryz.prog.info? 32 |>.getD default).size) = 1 := by kernel_rfl
  have hm := run_make (P := Tryz.prog) w 22 32 (i := Tryz.prog.info? 32 |>.getD default) (z := .float .f32 0) Tryz.underlying22 (by kernel_rfl) (by kernel_rfl) .i64 .i64 n n (by omega) (by omega) (by rw [hb]; omega) (by omega)
  rw [hs, Int.toNat_natCast, Nat.mul_one] at hm
  exact hm
/-- a block of float32s, of which the first i are told -/
structure Told (B : Nat) (w1 wr : World) (blk n i : Nat) (F : Nat → Nat) : Prop where
  bel : Below B w1 wr
  lt : blk < wr.heap.size
  cell : ∀ j, j < n → ∃ v : Nat, wr.cell? ⟨blk, j, none⟩ = some (.float .f32 v) ∧ (j < i → v = F j) ∧ (i ≤ j → v = 0)
  fr : ∀ j, j < n → wr.frozen? ⟨blk, j, none⟩ = false
theorem Told.start (w1 : World) (n T : Nat) (F : Nat → Nat) : Told w1.heap.size w1 (w1.alloc (.cells (madeCells #[.float .f32 0] n) T)) w1.heap.size n 0 F where
  bel := (Below.refl _ _).alloc (Nat.le_refl _) _
  lt := by simp
  cell := fun j hj => ⟨0, by simp [madeCells, hj, Nat.mod_one], fun h => absurd h (by omega), fun _ => rfl⟩
  fr := fun j hj => by simp
theorem Told.drewN {B : Nat} {w1 wr : World} {blk n i : Nat} {F : Nat → Nat} (h : Told B w1 wr blk n i F) (q : Nat) : Told B w1 (wr.drewN q) blk n i F :=
  ⟨h.bel.trans ⟨rfl, rfl, rfl, Nat.le_refl _, fun _ _ => rfl⟩, h.lt, h.cell, h.fr⟩
theorem Told.put {B : Nat} {w1 wr : World} {blk n i : Nat} {F : Nat → Nat} (h : Told B w1 wr blk n i F) (hi : i < n) (hB : B ≤ blk) : Told B w1 (wr.setCell ⟨blk, i, none⟩ (.float .f32 (F i))) blk n (i + 1) F where
  bel := h.bel.setCell (by exact hB) _
  lt := by simpa [World.setCell] using h.lt
  cell := fun j hj => by
    by_cases e : j = i
    · subst e
      obtain ⟨v, hv, _⟩ := h.cell j hj
      exact ⟨F j, World.cell?_setCell_same _ _ _ hv, fun _ => rfl, fun q => absurd q (by omega)⟩
    · obtain ⟨v, hv, hl, hz⟩ := h.cell j hj
      exact ⟨v, by rw [World.cell?_setCell_other _ _ _ _ (by intro e'; simp only [Addr.mk.injEq] at e'; omega)]; exact hv, fun q => hl (by omega), fun q => hz (by omega)⟩
  fr := fun j hj => by rw [World.frozen?_setCell]; exact h.fr j hj
theorem Told.skip {B : Nat} {w1 wr : World} {blk n i : Nat} {F : Nat → Nat} (h : Told B w1 wr blk n i F) (hi : F i = 0) : Told B w1 wr blk n (i + 1) F :=
  ⟨h.bel, h.lt, fun j hj => by
    obtain ⟨v, hv, hl, hz⟩ := h.cell j hj
    refine ⟨v, hv, fun q => ?_, fun q => hz (by omega)⟩
    rcases Nat.lt_or_eq_of_le (Nat.le_of_lt_succ q) with h1 | h1
    · exact hl h1
    · rw [hz (by omega), h1, hi], h.fr⟩
set_option maxHeartbeats 4000000 in
set_option maxRecDepth 1000000 in
theorem share_s (a0 : Option Addr) (n lc : Nat) (ls : Array Nat) (w : World) (hn : n ≤ 16777216) (hl : WordsAt w a0 n ls) :
    Calls Tryz.prog 5 #[.slice a0 n lc] w fun e w' => ∃ blk, e = .returned (.slice (some ⟨blk, 0, none⟩) n n) ∧ w.heap.size ≤ blk ∧ Told w.heap.size w w' blk n n (outN ls n) := by
  have mixed := mixed
  have t22 := Tryz.underlying22
  have t27 := Tryz.underlying32
  have e8 : ∀ args w, (callFunc 15 args).run Tryz.prog w = .ok (.enter 15 args) w := enters_of Tryz.func15 (by kernel_rfl) rfl
  have e9 : ∀ args w, (callFunc 16 args).run Tryz.prog w = .ok (.enter 16 args) w := enters_of Tryz.func16 (by kernel_rfl) rfl
  have e10 : ∀ args w, (callFunc 17 args).run Tryz.prog w = .ok (.enter 17 args) w := enters_of Tryz.func17 (by kernel_rfl) rfl
  have hm := mk22 n hn
  have HL : Aside _ := hl
  clear hl
  go_enter Tryz.func5, Tryz.ntmps5
  go_wp2_with fail
  go_loopg [3, 11] n (fun g1 vs vi wr => ∃ (i q : Nat), vi = .int .i64 i ∧ vs = .float .f32 (sumN ls i) ∧ i ≤ n ∧ n - i ≤ g1 ∧ wr = w.drewN q)
  case atStart => exact ⟨0, 0, by go_num, rfl, by omega, by omega, rfl⟩
  case round =>
    obtain ⟨i, q, rfl, rfl, hin, hg1, rfl⟩ := hrel
    by_cases hlt : i < n
    · have hltz : (i : Int) < (n : Int) := by omega
      obtain ⟨lb, lo, rfl, hlb, hw⟩ := HL.out.2 (by omega)
      obtain ⟨x, hx⟩ : ∃ x, Aside (x = ls[i]!) := ⟨_, rfl⟩
      have hc : (w.drewN q).cell? ⟨lb, lo + i, none⟩ = some (.float .f32 x) := by rw [hx.out]; exact hw.cell i hlt
      have hx2 : x < 4294967296 := by rw [hx.out]; exact hw.small i hlt
      have ra : IntKind.i64.wrap ((i : Int) + 1) = ((i + 1 : Nat) : Int) := by rw [IntKind.wrap_i64]; omega
      have h9 := worth_s x hx2 (w.drewN q)
      have h8 := fun w => plus_s (sumN ls i) (worthN x) _ (plusN_spec (sumN_le ls i) (worthN_lt x)).1 w
      have hs : Aside (plusN (sumN ls i) (worthN x) = sumN ls (i + 1)) := by show _ = _; rw [hx.out]; rfl
      rw [hs.out] at h8
      clear hw hs
      obtain ⟨s, hs⟩ : ∃ s, Aside (s = sumN ls i) := ⟨_, rfl⟩
      obtain ⟨s', hs'⟩ : ∃ s, Aside (s = sumN ls (i + 1)) := ⟨_, rfl⟩
      rw [← hs.out] at h8 ⊢
      rw [← hs'.out] at h8
      go_wp2_with fail
      refine h9.mono ?_
      rintro e w1 ⟨rfl, q1, rfl⟩
      clear h9
      go_wp2_with fail
      refine (h8 _).mono ?_
      rintro e w1 ⟨rfl, rfl⟩
      clear h8
      go_wp2_with fail
      go_roundg (n - (i + 1))
      case measure => omega
      case rel => exact ⟨i + 1, q + q1, by go_num, by rw [hs'.out], by omega, by omega, by first | rfl | (simp [World.drewN, Nat.add_assoc])⟩
    · have hltz : ¬ (i : Int) < (n : Int) := by omega
      have hi : i = n := by omega
      subst hi
      obtain ⟨s, hs⟩ : ∃ s, Aside (s = sumN ls i) := ⟨_, rfl⟩
      rw [← hs.out]
      go_wp2_with fail
      go_loopg [25] i (fun g1 vi wr => ∃ (j : Nat), vi = .int .i64 j ∧ j ≤ i ∧ i - j ≤ g1 ∧ Aside (Told w.heap.size w wr w.heap.size i j (outN ls i)))
      case atStart =>
        refine ⟨0, by go_num, by omega, by omega, ?_⟩
        show Told _ _ _ _ _ _ _
        have h := Told.start (w.drewN q) i 32 (outN ls i)
        exact ⟨(show Below w.heap.size w (w.drewN q) from ⟨rfl, rfl, rfl, Nat.le_refl _, fun _ _ => rfl⟩).trans h.bel, h.lt, h.cell, h.fr⟩
      case round =>
        obtain ⟨j, rfl, hjn, hg1, T⟩ := hrel
        by_cases hlj : j < i
        · have hljz : (j : Int) < (i : Int) := by omega
          obtain ⟨lb, lo, rfl, hlb, hw⟩ := HL.out.2 (by omega)
          obtain ⟨x, hx⟩ : ∃ x, Aside (x = ls[j]!) := ⟨_, rfl⟩
          have hc : wr.cell? ⟨lb, lo + j, none⟩ = some (.float .f32 x) := by rw [T.out.bel.cell (by exact hlb), hx.out]; exact hw.cell j hlj
          have hx2 : x < 4294967296 := by rw [hx.out]; exact hw.small j hlj
          have ra : IntKind.i64.wrap ((j : Int) + 1) = ((j + 1 : Nat) : Int) := by rw [IntKind.wrap_i64]; omega
          have hz := f_neq s 0
          rw [zero_ne (by rw [hs.out]; exact sumN_le ls i)] at hz
          by_cases h0 : s = 0
          · have hd : decide (s ≠ 0) = false := decide_eq_false (by omega)
            have T2 : Aside (Told w.heap.size w wr w.heap.size i (j + 1) (outN ls i)) := T.out.skip (by unfold outN; rw [← hs.out, if_pos h0])
            rw [hd] at hz
            clear T hw h0 hd
            go_wp2_with fail
            go_roundg (i - (j + 1))
            case measure => omega
            case rel => exact ⟨j + 1, by go_num, by omega, by omega, T2⟩
          · have hd : decide (s ≠ 0) = true := decide_eq_true h0
            rw [hd] at hz
            have h9 := worth_s x hx2 wr
            have hle : worthN x ≤ s := by rw [hs.out, hx.out]; exact worth_le_sum ls i j hlj
            have h10 := fun w => do_over (worthN x) s _ (shareN_spec (by rw [hs.out]; exact sumN_le ls i) h0 hle (worthN_lt x)).1 w
            have ho : Aside (shareN s (worthN x) = outN ls i j) := by show _ = _; unfold outN; rw [← hs.out, if_neg h0, hx.out]
            rw [ho.out] at h10
            clear ho hle hw hd
            obtain ⟨o, ho⟩ : ∃ o, Aside (o = outN ls i j) := ⟨_, rfl⟩
            rw [← ho.out] at h10
            go_wp2_with fail
            refine h9.mono ?_
            rintro e w1 ⟨rfl, q1, rfl⟩
            clear h9
            have T1 : Aside (Told w.heap.size w (wr.drewN q1) w.heap.size i j (outN ls i)) := T.out.drewN q1
            clear T hc
            generalize wr.drewN q1 = w2 at T1 ⊢
            go_wp2_with fail
            refine (h10 _).mono ?_
            rintro e w1 ⟨rfl, rfl⟩
            clear h10
            obtain ⟨v, hcv, _⟩ := T1.out.cell j hlj
            have hf := T1.out.fr j hlj
            have T2 : Aside _ := T1.out.put hlj (Nat.le_refl _)
            rw [← ho.out] at T2
            clear T1
            have hst := fun a m w => run_store Tryz.prog w a (.float .f32 o) m rfl
            go_wp2_with fail
            go_roundg (i - (j + 1))
            case measure => omega
            case rel => exact ⟨j + 1, by go_num, by omega, by omega, T2⟩
        · have hljz : ¬ (j : Int) < (i : Int) := by omega
          have hj : j = i := by omega
          subst hj
          go_wp2_with fail
          go_ret
          exact ⟨w.heap.size, rfl, Nat.le_refl _, T.out⟩
end Go.Proofs.YtadngfgbefgocaaGreatDoor
