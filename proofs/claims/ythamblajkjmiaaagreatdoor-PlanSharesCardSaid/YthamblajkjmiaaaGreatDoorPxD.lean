/- latchkeylaw24.PlanShares, walked: it returns true, where its closed question answers true. The conditions stand in each statement. -/
import Derived.Test.YthamblajkjmiaaaGreatDoorPxC
import Derived.Deep.CutRange

namespace Go.Proofs.YthamblajkjmiaaaGreatDoor
open Go.Shelf Go.RowKit Go.Lib Go.Sort Go.Flo
theorem words_of_own {w : World} {B n : Nat} {v : Value} {ls : Array Nat} (h : w.ownsRow B 28 1 v n (ls.toList.map fv)) (hs : ls.size = n) (hsm : ∀ i, i < n → ls[i]! < 4294967296) : ∃ a c, v = .slice a n c ∧ WordsAt w a n ls := by
  rcases h.2 with ⟨rfl, rfl⟩ | ⟨g, cap, cur, rfl, hb, hg, hcap⟩
  · exact ⟨none, 0, rfl, hs, fun h => absurd rfl h⟩
  · refine ⟨_, cap, rfl, hs, fun _ => ⟨g, 0, rfl, (h.lt g rfl).2, hs, hsm, fun i hi => ?_⟩⟩
    rw [Nat.zero_add, World.ownsRow.cellAt h i (by omega)]
    have hl : i < ls.toList.length := by rw [Array.length_toList]; omega
    rw [List.getElem?_map, List.getElem?_eq_getElem hl, Option.map_some, getElem!_pos ls i (by omega)]
    rfl
theorem WordsAt.below {w w' : World} {B n : Nat} {a : Option Addr} {ls : Array Nat} (h : WordsAt w a n ls) (hB : w.heap.size ≤ B) (hb : Below B w w') : WordsAt w' a n ls :=
  ⟨h.1, fun h0 => by
    obtain ⟨lb, lo, e, hl, hw⟩ := h.2 h0
    exact ⟨lb, lo, e, Nat.lt_of_lt_of_le hl hb.size, hw.size, hw.small, fun i hi => by rw [hb.cell (by show lb < B; omega)]; exact hw.cell i hi⟩⟩
/-- what plan.Order gives -/
def ordN (n : Nat) (ls : Array Nat) : Array Nat := Stab.stable (ltOf (cfOf n ls)) (Array.range n)
theorem ord_perm (n : Nat) (ls : Array Nat) : (ordN n ls).toList.Perm (List.range n) := by
  unfold ordN
  rw [lt_key]
  exact (Stab.stable_spec (keyOf n ls) n).1
theorem ord_up' (n : Nat) (ls : Array Nat) : Stab.Up (Stab.leK (keyOf n ls)) (ordN n ls).toList := by
  unfold ordN
  rw [lt_key]
  exact (Stab.stable_spec (keyOf n ls) n).2
theorem ord_size (n : Nat) (ls : Array Nat) : (ordN n ls).size = n := stable_size n ls
theorem ord_mem {n j : Nat} (ls : Array Nat) (h : j < n) : (ordN n ls)[j]! ∈ (ordN n ls).toList := by
  have hj : j < (ordN n ls).size := by rw [ord_size]; exact h
  rw [getElem!_pos _ j hj, ← Array.getElem_toList]
  exact List.getElem_mem _
theorem ord_lt {n j : Nat} (ls : Array Nat) (h : j < n) : (ordN n ls)[j]! < n := by
  have := (ord_perm n ls).mem_iff.1 (ord_mem ls h)
  simpa using this
theorem ord_new {n j : Nat} (ls : Array Nat) (h : j < n) : (ordN n ls)[j]! ∉ (ordN n ls).toList.take j := by
  have hj : j < (ordN n ls).toList.length := by rw [Array.length_toList, ord_size]; exact h
  have hn : (ordN n ls).toList.Nodup := (ord_perm n ls).nodup_iff.2 List.nodup_range
  intro hm
  obtain ⟨i, hi, e⟩ := List.getElem_of_mem hm
  rw [List.length_take] at hi
  rw [List.getElem_take, getElem!_pos _ j (by rw [ord_size]; exact h), ← Array.getElem_toList] at e
  have := (List.getElem_inj hn).1 e
  omega
theorem ord_up {n j : Nat} (ls : Array Nat) (h : j + 1 < n) : cmpN ls[(ordN n ls)[j]!]! ls[(ordN n ls)[j + 1]!]! ≤ 0 := by
  have hj : j + 1 < (ordN n ls).toList.length := by rw [Array.length_toList, ord_size]; exact h
  have h1 := Stab.up_get (ord_up' n ls) (i := j) (j := j + 1) (by omega) hj
  have e1 : (ordN n ls).toList[j] = (ordN n ls)[j]! := by rw [Array.getElem_toList, getElem!_pos]
  have e2 : (ordN n ls).toList[j + 1] = (ordN n ls)[j + 1]! := by rw [Array.getElem_toList, getElem!_pos]
  rw [e1, e2] at h1
  unfold Stab.leK keyOf at h1
  rw [Nat.mod_eq_of_lt (ord_lt ls (by omega)), Nat.mod_eq_of_lt (ord_lt ls h)] at h1
  unfold cmpN
  split
  · omega
  · split <;> omega
/-- the marks of those that were met -/
def metB (n : Nat) (ls : Array Nat) (j x : Nat) : Bool := decide (x ∈ (ordN n ls).toList.take j)
theorem met_zero (n : Nat) (ls : Array Nat) (x : Nat) : metB n ls 0 x = false := by simp [metB]
theorem met_new {n j : Nat} (ls : Array Nat) (h : j < n) : metB n ls j (ordN n ls)[j]! = false := decide_eq_false (ord_new ls h)
theorem met_self {n j : Nat} (ls : Array Nat) (h : j < n) (x : Nat) : metB n ls (j + 1) x = (metB n ls j x || decide (x = (ordN n ls)[j]!)) := by
  have hj : j < (ordN n ls).toList.length := by rw [Array.length_toList, ord_size]; exact h
  unfold metB
  rw [List.take_add_one, List.getElem?_eq_getElem hj, Option.toList_some, getElem!_pos _ j (by rw [ord_size]; exact h), Array.getElem_toList]
  simp
structure Marks (B : Nat) (w1 wr : World) (blk n j : Nat) (ls : Array Nat) : Prop where
  bel : Below B w1 wr
  lt : blk < wr.heap.size
  cell : ∀ x, x < n → wr.cell? ⟨blk, x, none⟩ = some (.bool (metB n ls j x))
  fr : ∀ x, x < n → wr.frozen? ⟨blk, x, none⟩ = false
theorem Marks.start (w1 : World) (n T : Nat) (ls : Array Nat) : Marks w1.heap.size w1 (w1.alloc (.cells (madeCells #[.bool false] n) T)) w1.heap.size n 0 ls where
  bel := (Below.refl _ _).alloc (Nat.le_refl _) _
  lt := by simp
  cell := fun j hj => by simp [madeCells, hj, Nat.mod_one, met_zero]
  fr := fun j hj => by simp
theorem Marks.drewN {B : Nat} {w1 wr : World} {blk n i : Nat} {ls : Array Nat} (h : Marks B w1 wr blk n i ls) (q : Nat) (os : Array Obj) (hB : B ≤ w1.heap.size) : Marks B w1 (grow (wr.drewN q) os) blk n i ls :=
  ⟨h.bel.trans (Lib.below_grow B wr (Nat.le_trans hB h.bel.size) q os), Nat.lt_of_lt_of_le h.lt (by rw [Go.Sort.size_grow]; exact Nat.le_add_right _ _),
   fun x hx => by rw [cell?_grow _ _ _ (by exact h.lt)]; exact h.cell x hx, fun x hx => by rw [frozen?_grow _ _ _ (by exact h.lt)]; exact h.fr x hx⟩
theorem Marks.put {B : Nat} {w1 wr : World} {blk n j : Nat} {ls : Array Nat} (h : Marks B w1 wr blk n j ls) (hj : j < n) (hB : B ≤ blk) : Marks B w1 (wr.setCell ⟨blk, (ordN n ls)[j]!, none⟩ (.bool true)) blk n (j + 1) ls where
  bel := h.bel.setCell (by exact hB) _
  lt := by simpa [World.setCell] using h.lt
  cell := fun x hx => by
    rw [met_self ls hj]
    by_cases e : x = (ordN n ls)[j]!
    · rw [e, World.cell?_setCell_same _ _ _ (h.cell _ (ord_lt ls hj))]
      simp
    · rw [World.cell?_setCell_other _ _ _ _ (by intro e'; simp only [Addr.mk.injEq] at e'; omega), h.cell x hx, decide_eq_false e, Bool.or_false]
  fr := fun x hx => by rw [World.frozen?_setCell]; exact h.fr x hx
theorem mk26 (n : Nat) (hn : n ≤ 16777216) (w : World) : (Instr.makeSlice 27 (.int .i64 n) (.int .i64 n)).run Tryz.prog w = .ok (.slice (some ⟨w.heap.size, 0, none⟩) n n) (w.alloc (.cells (madeCells #[.bool false] n) 4)) := by
  have hb : ((Tryz.prog.info? 4 |>.getD default).bytes) = 1 := by kernel_rfl
  have hs : ((Tryz.prog.info? 4 |>.getD default).size) = 1 := by kernel_rfl
  have hm := run_make (P := Tryz.prog) w 27 4 (i := Tryz.prog.info? 4 |>.getD default) (z := .bool false) Tryz.underlying27 (by kernel_rfl) (by kernel_rfl) .i64 .i64 n n (by omega) (by omega) (by rw [hb]; omega) (by omega)
  rw [hs, Int.toNat_natCast, Nat.mul_one] at hm
  exact hm
end Go.Proofs.YthamblajkjmiaaaGreatDoor

namespace Go.Proofs.YthamblajkjmiaaaGreatDoor
open Go.Shelf Go.RowKit Go.Lib Go.Sort Go.Flo
theorem worth_mono {x y : Nat} (hx : x < 4294967296) (hy : y < 4294967296) (h1 : (Ieee.single.order x 0 == some .gt || Ieee.single.order x 0 == some .eq) = true) (h2 : (Ieee.single.order x y == some .lt || Ieee.single.order x y == some .eq) = true) (hfin : y % 2147483648 < 2139095040) : worthN x ≤ worthN y := by
  have h2' : Ieee.single.order x y = some .lt ∨ Ieee.single.order x y = some .eq := by
    cases e : Ieee.single.order x y with
    | none => rw [e] at h2; exact absurd h2 (by decide)
    | some c => rw [e] at h2; cases c <;> first | exact .inl rfl | exact .inr rfl | exact absurd h2 (by decide)
  rcases ge_zero hx h1 with h | h
  · by_cases hs : y < 2147483648
    · have hle : x ≤ y := by
        rw [order_up h (by omega)] at h2'
        rcases h2' with h3 | h3
        · have := (Nat.compare_eq_lt).1 (Option.some.inj h3); omega
        · have := (Nat.compare_eq_eq).1 (Option.some.inj h3); omega
      unfold worthN
      split
      · rw [if_pos (by omega)]; exact hle
      · exact Nat.zero_le _
    · have := order_down h (by omega) hy h2'
      subst this
      exact Nat.zero_le _
  · unfold worthN
    rw [if_neg (by omega)]
    exact Nat.zero_le _
set_option maxHeartbeats 4000000 in
set_option maxRecDepth 1000000 in
theorem law_s (a0 : Option Addr) (n lc : Nat) (i k : Int) (ls : Array Nat) (w : World) (hl : n ≤ 16777216 → WordsAt w a0 n ls) (hsm : ∀ i, i < n → ls[i]! < 4294967296)
    (haw : Calls Tryz.prog 4 #[] w fun e w' => e = .returned (.bool true) ∧ Below w.heap.size w w') :
    Calls Tryz.prog 3 #[.slice a0 n lc, .int .i64 i, .int .i64 k] w fun e w' => e = .returned (.bool true) ∧ Below w.heap.size w w' := by
  have mixed := mixed
  have t3 := Tryz.underlying3
  have t4 := Tryz.underlying4
  have t22 := Tryz.underlying22
  have t24 := Tryz.underlying25
  have t26 := Tryz.underlying27
  have t27 := Tryz.underlying28
  have u22 := run_underlying t22
  have u24 := run_underlying t24
  have u26 := run_underlying t26
  have e4 : ∀ args w, (callFunc 5 args).run Tryz.prog w = .ok (.enter 5 args) w := enters_of Tryz.func5 (by kernel_rfl) rfl
  have e5 : ∀ args w, (callFunc 6 args).run Tryz.prog w = .ok (.enter 6 args) w := enters_of Tryz.func6 (by kernel_rfl) rfl
  have e6 : ∀ args w, (callFunc 7 args).run Tryz.prog w = .ok (.enter 7 args) w := enters_of Tryz.func7 (by kernel_rfl) rfl
  have e7 : ∀ args w, (callFunc 8 args).run Tryz.prog w = .ok (.enter 8 args) w := enters_of Tryz.func8 (by kernel_rfl) rfl
  have eaw : ∀ args w, (callFunc 4 args).run Tryz.prog w = .ok (.enter 4 args) w := enters_of Tryz.func4 (by kernel_rfl) rfl
  by_cases hn : n ≤ 16777216
  · have hnz : (n : Int) ≤ 16777216 := by omega
    have hm := mk26 n hn
    have HL : Aside _ := hl hn
    clear hl
    go_enter Tryz.func3, Tryz.ntmps3
    go_wp2_with fail
    refine haw.mono ?_
    rintro e w0 ⟨rfl, hb0⟩
    clear haw
    have hc4 := copy_s a0 n lc ls w0 hn (WordsAt.below HL.out (Nat.le_refl _) hb0)
    have B0 : Aside (Below w.heap.size w w0) := hb0
    clear hb0
    go_wp2_with fail
    refine hc4.mono ?_
    rintro e w1 ⟨v, rfl, hown, hb1'⟩
    clear hc4
    have hb1 : Below w.heap.size w w1 := B0.out.trans (hb1'.mono B0.out.size)
    clear hb1' B0
    obtain ⟨a1, c1, rfl, hw1⟩ := words_of_own hown HL.out.1 hsm
    have hc5 := share_s a1 n c1 ls w1 hn hw1
    have B1 : Aside (Below w.heap.size w w1) := hb1
    have W1 : Aside (WordsAt w1 a1 n ls) := hw1
    clear hown hb1 hw1 HL
    go_wp2_with fail
    refine hc5.mono ?_
    rintro e w2 ⟨sb, rfl, hsb, hT⟩
    clear hc5
    have B2 : Aside (Below w.heap.size w w2) := B1.out.trans (hT.bel.mono B1.out.size)
    have W2 : Aside (WordsAt w2 a1 n ls) := W1.out.below (Nat.le_refl _) hT.bel
    have hc6 := order_s a1 n c1 ls w2 hn W2.out
    have TS : Aside (∀ j, j < n → w2.cell? ⟨sb, j, none⟩ = some (.float .f32 (outN ls n j))) := (show ∀ j, j < n → w2.cell? ⟨sb, j, none⟩ = some (.float .f32 (outN ls n j)) from fun j hj => by
      obtain ⟨v, hv, hl, _⟩ := hT.cell j hj
      rw [hv, hl hj])
    have hsl : Aside (sb < w2.heap.size) := hT.lt
    clear hT hsb B1 W1
    go_wp2_with fail
    refine hc6.mono ?_
    rintro e w3 ⟨ob, rfl, hob, hol, hb3, hH⟩
    clear hc6
    have B3 : Aside (Below w.heap.size w w3) := B2.out.trans (hb3.mono B2.out.size)
    have W3 : Aside (WordsAt w3 a1 n ls) := W2.out.below (Nat.le_refl _) hb3
    have TS3 : Aside (∀ j, j < n → w3.cell? ⟨sb, j, none⟩ = some (.float .f32 (outN ls n j))) := (show ∀ j, j < n → w3.cell? ⟨sb, j, none⟩ = some (.float .f32 (outN ls n j)) from fun j hj => by
      rw [hb3.cell (by exact hsl.out)]
      exact TS.out j hj)
    have TO3 : Aside (∀ j, j < n → w3.cell? ⟨ob, j, none⟩ = some (.int .i64 (ordN n ls)[j]!)) := (show ∀ j, j < n → w3.cell? ⟨ob, j, none⟩ = some (.int .i64 (ordN n ls)[j]!) from fun j hj => by
      have h := (hH j (by rw [stable_size]; exact hj)).1
      rw [Nat.zero_add] at h
      rw [h]
      show some (Value.int .i64 (((ordN n ls)[j]! % n : Nat) : Int)) = _
      rw [Nat.mod_eq_of_lt (ord_lt ls hj)])
    have hsl3 : Aside (sb < w3.heap.size) := (show sb < w3.heap.size from Nat.lt_of_lt_of_le hsl.out hb3.size)
    have hol3 : Aside (ob < w3.heap.size) := hol
    clear hb3 hH hob hol hsl TS W2 B2
    go_wp2_with fail
    go_loopg [10] n (fun g1 vj wr => ∃ (j : Nat), vj = .int .i64 j ∧ j ≤ n ∧ n - j ≤ g1 ∧ Aside (Marks w3.heap.size w3 wr w3.heap.size n j ls))
    case atStart => exact ⟨0, by go_num, by omega, by omega, Marks.start w3 n 4 ls⟩
    case round =>
      obtain ⟨j, rfl, hjn, hg1, M⟩ := hrel
      by_cases hlt : j < n
      · have hltz : (j : Int) < (n : Int) := by omega
        obtain ⟨lb, lo, rfl, hlb, hw⟩ := W3.out.2 (by omega)
        obtain ⟨s, hs⟩ : ∃ s, Aside (s = outN ls n j) := ⟨_, rfl⟩
        obtain ⟨p, hp⟩ : ∃ s, Aside (s = (ordN n ls)[j]!) := ⟨_, rfl⟩
        have c1 : wr.cell? ⟨sb, j, none⟩ = some (.float .f32 s) := by rw [M.out.bel.cell (by exact hsl3.out), hs.out]; exact TS3.out j hlt
        have c2 : wr.cell? ⟨ob, j, none⟩ = some (.int .i64 p) := by rw [M.out.bel.cell (by exact hol3.out), hp.out]; exact TO3.out j hlt
        have hpn : p < n := by rw [hp.out]; exact ord_lt ls hlt
        have c3 : wr.cell? ⟨w3.heap.size, p, none⟩ = some (.bool false) := by rw [M.out.cell p hpn, hp.out, met_new ls hlt]
        have f3 := M.out.fr p hpn
        have hge := f_geq s 0
        have hle := f_leq s 1065353216
        have hso : s ≤ 1065353216 := by rw [hs.out]; exact outN_le ls n j hlt
        rw [show (Ieee.single.order s 0 == some .gt || Ieee.single.order s 0 == some .eq) = true by
          rw [order_up (by omega) (by omega)]
          rcases Nat.eq_zero_or_pos s with h | h
          · rw [h]; decide +kernel
          · rw [(Nat.compare_eq_gt).2 h]; rfl] at hge
        rw [show (Ieee.single.order s 1065353216 == some .lt || Ieee.single.order s 1065353216 == some .eq) = true by
          rw [order_up (by omega) (by omega)]
          rcases Nat.lt_or_eq_of_le hso with h | h
          · rw [(Nat.compare_eq_lt).2 h]; rfl
          · rw [h]; decide +kernel] at hle
        clear hso
        have hp0 : ¬ (p : Int) < 0 := by omega
        have hp1 : (p : Int) < (n : Int) := by omega
        have ra : IntKind.i64.wrap ((j : Int) + 1) = ((j + 1 : Nat) : Int) := by rw [IntKind.wrap_i64]; omega
        have M2 : Aside (Marks w3.heap.size w3 (wr.setCell ⟨w3.heap.size, p, none⟩ (.bool true)) w3.heap.size n (j + 1) ls) := by
          rw [hp.out]; exact M.out.put hlt (Nat.le_refl _)
        have hwc : Aside (∀ i, i < n → w3.cell? ⟨lb, lo + i, none⟩ = some (.float .f32 ls[i]!)) := hw.cell
        clear M hw
        go_wp2_with fail
        clear c1 c2 c3 f3 hge hle
        generalize wr.setCell ⟨w3.heap.size, p, none⟩ (.bool true) = w5 at M2 ⊢
        by_cases hj0 : j = 0
        · have hjz : ¬ (0 : Int) < (j : Int) := by omega
          have hjd : decide ((j : Int) > 0) = false := decide_eq_false (by omega)
          have hjd2 : decide (0 < j) = false := decide_eq_false (by omega)
          have HJ : Aside (j = 0) := hj0
          clear hj0
          go_wp2_with fail
          go_big_region_o
          have M3 : Aside (Marks w3.heap.size w3 w5.drew w3.heap.size n (j + 1) ls) := by
            have := M2.out.drewN 1 #[] (Nat.le_refl _)
            rw [grow_empty] at this
            exact this
          clear M2
          generalize w5.drew = w6 at M3 ⊢
          go_wp2_with fail
          go_roundg (n - (j + 1))
          case measure => omega
          case rel => exact ⟨j + 1, by go_num, by omega, by omega, M3⟩
        · obtain ⟨jp, hjp⟩ : ∃ q, q + 1 = j := ⟨j - 1, by omega⟩
          have zjp : (j : Int) = (jp : Int) + 1 := by omega
          have hjz : (0 : Int) < (jp : Int) + 1 := by omega
          have hjd : decide ((jp : Int) + 1 > 0) = true := decide_eq_true (by omega)
          obtain ⟨iN, hiN⟩ : ∃ q, q = j := ⟨_, rfl⟩
          obtain ⟨jN, hjN⟩ : ∃ q, q = jp := ⟨_, rfl⟩
          have ea : ((jp : Int) + 1).toNat = iN := by omega
          have pa : (0 : Int) ≤ (jp : Int) + 1 := by omega
          have ba : (jp : Int) + 1 < (n : Int) := by omega
          have ra2 : IntKind.i64.wrap ((jp : Int) + 1) = (jp : Int) + 1 := by rw [IntKind.wrap_i64]; omega
          have ec : ((jp : Int)).toNat = jN := by omega
          have pc : (0 : Int) ≤ (jp : Int) := by omega
          have bc : (jp : Int) < (n : Int) := by omega
          have rc : IntKind.i64.wrap ((jp : Int)) = (jp : Int) := by rw [IntKind.wrap_i64]; omega
          obtain ⟨r, hr⟩ : ∃ s, Aside (s = (ordN n ls)[jp]!) := ⟨_, rfl⟩
          have hrn : r < n := by rw [hr.out]; exact ord_lt ls (by omega)
          have hrz : (r : Int) < (n : Int) := by omega
          obtain ⟨x, hx⟩ : ∃ s, Aside (s = ls[r]!) := ⟨_, rfl⟩
          obtain ⟨y, hy⟩ : ∃ s, Aside (s = ls[p]!) := ⟨_, rfl⟩
          have hx2 : x < 4294967296 := by rw [hx.out]; exact hsm r hrn
          have hy2 : y < 4294967296 := by rw [hy.out]; exact hsm p hpn
          have hle0 : cmpN x y ≤ 0 := by
            rw [hx.out, hy.out, hp.out, hr.out, ← hjp]
            exact ord_up ls (by omega)
          have key : ∀ (b o : Nat), b < w3.heap.size → ∀ (q : Nat) (os : Array Obj), (grow (w5.drewN q) os).cell? ⟨b, o, none⟩ = w3.cell? ⟨b, o, none⟩ := fun b o hb q os => (M2.out.drewN q os (Nat.le_refl _)).bel.cell (by exact hb)
          have k1 : ∀ (q : Nat) (os : Array Obj), (grow (w5.drewN q) os).cell? ⟨ob, jN, none⟩ = some (.int .i64 r) := fun q os => by rw [key _ _ hol3.out, hjN, hr.out]; exact TO3.out jp (by omega)
          have k2 : ∀ (q : Nat) (os : Array Obj), (grow (w5.drewN q) os).cell? ⟨ob, iN, none⟩ = some (.int .i64 p) := fun q os => by rw [key _ _ hol3.out, hiN, hp.out]; exact TO3.out j hlt
          have k3 : ∀ (q : Nat) (os : Array Obj), (grow (w5.drewN q) os).cell? ⟨lb, lo + r, none⟩ = some (.float .f32 x) := fun q os => by rw [key _ _ hlb, hx.out]; exact hwc.out r hrn
          have k4 : ∀ (q : Nat) (os : Array Obj), (grow (w5.drewN q) os).cell? ⟨lb, lo + p, none⟩ = some (.float .f32 y) := fun q os => by rw [key _ _ hlb, hy.out]; exact hwc.out p hpn
          have hc : ∀ (m : Nat) (os : Array Obj), Calls Tryz.prog 8 #[.float .f32 x, .float .f32 y] (grow (w5.drewN m) os) fun e w' => e = .returned (.int .i64 (cmpN x y)) ∧ ∃ q os', w' = grow ((grow (w5.drewN m) os).drewN q) os' := fun m os => (compare_s x y hx2 hy2 _).mono fun e w' ⟨h1, h2⟩ => ⟨h1, 0, #[], by rw [h2, grow_empty]; rfl⟩
          generalize cmpN x y = c at hle0 hc
          have hcd : decide (c > 0) = false := decide_eq_false (by omega)
          have hcn : ¬ (0 : Int) < c := by omega
          clear key hx hy hr hiN hjN
          go_wp2_with fail
          go_quiet_grown (first | (go_at_call 8; refine Calls.grown_of (hc _ _)))
          have M3 : Aside (Marks w3.heap.size w3 (grow (w5.drewN nq) osq) w3.heap.size n (j + 1) ls) := M2.out.drewN nq osq (Nat.le_refl _)
          clear M2 k1 k2 k3 k4 hc
          generalize grow (w5.drewN nq) osq = w6 at M3 ⊢
          clear nq osq
          have ra3 : IntKind.i64.wrap ((jp : Int) + 1 + 1) = ((j + 1 : Nat) : Int) := by rw [IntKind.wrap_i64]; omega
          go_wp2_with fail
          go_roundg (n - (j + 1))
          case measure => omega
          case rel => exact ⟨j + 1, by first | rfl | go_num | (congr 1; omega), by omega, by omega, M3⟩
      · have hltz : ¬ (j : Int) < (n : Int) := by omega
        have hj : j = n := by omega
        subst hj
        have BW : Aside (Below w.heap.size w wr) := B3.out.trans (M.out.bel.mono B3.out.size)
        by_cases hi0 : i < 0
        · go_wp2_with fail
          go_ret
          exact ⟨rfl, BW.out⟩
        · by_cases hk0 : k < 0
          · go_wp2_with fail
            go_ret
            exact ⟨rfl, BW.out⟩
          · by_cases hi1 : i < (j : Int)
            · by_cases hk1 : k < (j : Int)
              · obtain ⟨ii, rfl⟩ : ∃ q : Nat, i = (q : Int) := ⟨i.toNat, by omega⟩
                obtain ⟨kk, rfl⟩ : ∃ q : Nat, k = (q : Int) := ⟨k.toNat, by omega⟩
                have hin : ii < j := by omega
                have hkn : kk < j := by omega
                obtain ⟨lb, lo, rfl, hlb, hw⟩ := W3.out.2 (by omega)
                obtain ⟨x, hx⟩ : ∃ s, Aside (s = ls[ii]!) := ⟨_, rfl⟩
                obtain ⟨y, hy⟩ : ∃ s, Aside (s = ls[kk]!) := ⟨_, rfl⟩
                have hx2 : x < 4294967296 := by rw [hx.out]; exact hsm ii hin
                have hy2 : y < 4294967296 := by rw [hy.out]; exact hsm kk hkn
                have c1 : wr.cell? ⟨lb, lo + ii, none⟩ = some (.float .f32 x) := by rw [M.out.bel.cell (by exact hlb), hx.out]; exact hw.cell ii hin
                have c2 : wr.cell? ⟨lb, lo + kk, none⟩ = some (.float .f32 y) := by rw [M.out.bel.cell (by exact hlb), hy.out]; exact hw.cell kk hkn
                clear hw
                go_wp2_with fail
                go_big_region_o
                clear c1 c2
                have BD : Aside (Below w3.heap.size w3 wr.drew) := M.out.bel.trans ⟨rfl, rfl, rfl, Nat.le_refl _, fun _ _ => rfl⟩
                clear M BW
                generalize wr.drew = w6 at BD ⊢
                have hge := f_geq x 0
                have hle := f_leq x y
                obtain ⟨bg, hbg⟩ : ∃ q, q = (Ieee.single.order x 0 == some .gt || Ieee.single.order x 0 == some .eq) := ⟨_, rfl⟩
                obtain ⟨bl, hbl⟩ : ∃ q, q = (Ieee.single.order x y == some .lt || Ieee.single.order x y == some .eq) := ⟨_, rfl⟩
                rw [← hbg] at hge
                rw [← hbl] at hle
                have HG : Aside (bg = (Ieee.single.order x 0 == some .gt || Ieee.single.order x 0 == some .eq)) := hbg
                have HLe : Aside (bl = (Ieee.single.order x y == some .lt || Ieee.single.order x y == some .eq)) := hbl
                clear hbg hbl
                cases bg with
                | false =>
                  go_wp2_with fail
                  go_ret
                  exact ⟨rfl, B3.out.trans (BD.out.mono B3.out.size)⟩
                | true =>
                  cases bl with
                  | false =>
                    go_wp2_with fail
                    go_ret
                    exact ⟨rfl, B3.out.trans (BD.out.mono B3.out.size)⟩
                  | true =>
                    by_cases hfin : y % 2147483648 < 2139095040
                    · have hsb := fun w => f_sub y y 0 w (sub_self_fin hy2 hfin)
                      have hne := f_neq 0 0
                      rw [show (Ieee.single.order 0 0 != some .eq) = false by decide +kernel] at hne
                      obtain ⟨p, hp⟩ : ∃ s, Aside (s = outN ls j ii) := ⟨_, rfl⟩
                      obtain ⟨q, hq⟩ : ∃ s, Aside (s = outN ls j kk) := ⟨_, rfl⟩
                      have hpq : p ≤ q := by
                        rw [hp.out, hq.out]
                        refine outN_mono ls j ii kk hin hkn ?_
                        rw [← hx.out, ← hy.out]
                        exact worth_mono hx2 hy2 HG.out.symm HLe.out.symm hfin
                      have hq1 : q ≤ 1065353216 := by rw [hq.out]; exact outN_le ls j kk hkn
                      have hpl := f_leq p q
                      rw [show (Ieee.single.order p q == some .lt || Ieee.single.order p q == some .eq) = true by
                        rw [order_up (by omega) (by omega)]
                        rcases Nat.lt_or_eq_of_le hpq with h | h
                        · rw [(Nat.compare_eq_lt).2 h]; rfl
                        · rw [h, (Nat.compare_eq_eq).2 rfl]; rfl] at hpl
                      have c1 : w6.cell? ⟨sb, ii, none⟩ = some (.float .f32 p) := by rw [BD.out.cell (by exact hsl3.out), hp.out]; exact TS3.out ii hin
                      have c2 : w6.cell? ⟨sb, kk, none⟩ = some (.float .f32 q) := by rw [BD.out.cell (by exact hsl3.out), hq.out]; exact TS3.out kk hkn
                      clear hpq hq1 hfin
                      go_wp2_with fail
                      go_big_region_o
                      have BE : Aside (Below w3.heap.size w3 w6.drew) := BD.out.trans ⟨rfl, rfl, rfl, Nat.le_refl _, fun _ _ => rfl⟩
                      clear c1 c2 BD
                      generalize w6.drew = w7 at BE ⊢
                      go_wp2_with fail
                      go_ret
                      exact ⟨rfl, B3.out.trans (BE.out.mono B3.out.size)⟩
                    · obtain ⟨b, hb, hsb⟩ := f_sub_nan y y w6 (sub_self_not hfin)
                      have hne := f_neq b 0
                      rw [show (Ieee.single.order b 0 != some .eq) = true by rw [order_nan hb]; rfl] at hne
                      have BE : Aside (Below w3.heap.size w3 w6.drew) := BD.out.trans ⟨rfl, rfl, rfl, Nat.le_refl _, fun _ _ => rfl⟩
                      clear hfin hb
                      go_wp2_with fail
                      go_ret
                      exact ⟨rfl, B3.out.trans (BE.out.mono B3.out.size)⟩
              · go_wp2_with fail
                go_ret
                exact ⟨rfl, BW.out⟩
            · go_wp2_with fail
              go_ret
              exact ⟨rfl, BW.out⟩
  · have hnz : ¬ (n : Int) ≤ 16777216 := by omega
    go_enter Tryz.func3, Tryz.ntmps3
    go_wp2_with fail
    go_ret
    exact ⟨rfl, Below.refl _ _⟩
end Go.Proofs.YthamblajkjmiaaaGreatDoor
