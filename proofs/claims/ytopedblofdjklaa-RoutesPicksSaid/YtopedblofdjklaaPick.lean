/- 'Into(l, p)' and 'Out(l, p)' of the program answer those of l whose To, whose From is p: whatever l and p are. -/
import Derived.Test.YtopedblofdjklaaPRoutesPicksx3
namespace Go.Proofs.Ytopedblofdjklaa.PRoutesPicks
open Go.RowKit Go.Proofs.YtopedblofdjklaaW.PrintWords Go.Proofs.YtopedblofdjklaaW.PrintLast Go.Proofs.YtopedblofdjklaaW.PrintMore
attribute [local go_sem] max2_int min2_int max_two min_two max_three min_three max_four min_four
attribute [local go_sem high] eqA24 eqA30
set_option linter.unusedVariables false
set_option linter.unusedSimpArgs false
def cellsOf30 (x : S30) : List Value := [.int .i64 x.f0, .string x.f1.f0, .string x.f1.f1, .string x.f2.f0, .string x.f2.f1, .string x.f3, .bool x.f4, .bool x.f5]
def isTo (p0 p1 : ByteArray) (x : S30) : Bool := x.f1.f0.toList == p0.toList && (x.f1.f1.toList == p1.toList)
def isFrom (p0 p1 : ByteArray) (x : S30) : Bool := x.f2.f0.toList == p0.toList && (x.f2.f1.toList == p1.toList)

set_option maxHeartbeats 2000000 in
theorem intod_one (x : S30) (p0 p1 : ByteArray) (gp : Nat) (w : World) (hc : w.heap[gp]? = some (.cells #[.string p0, .string p1] 24 (0, 0))) :
    Calls Try.prog 13 #[.agg #[.int .i64 x.f0, .string x.f1.f0, .string x.f1.f1, .string x.f2.f0, .string x.f2.f1, .string x.f3, .bool x.f4, .bool x.f5], .pointer (some ⟨gp, 0, none⟩)] w fun e w' => e = .returned (.bool (isTo p0 p1 x)) ∧ Below w.heap.size w w' := by
  have h0 : w.cell? ⟨gp, 0, none⟩ = some (.string p0) := (blk_cell hc 0).trans rfl
  have h1 : w.cell? ⟨gp, 1, none⟩ = some (.string p1) := (blk_cell hc 1).trans rfl
  have hlt : gp < w.heap.size := by
    rcases Nat.lt_or_ge gp w.heap.size with h | h
    · exact h
    · rw [Array.getElem?_eq_none h] at hc; cases hc
  have H := Aside0.mk hc
  clear hc
  go_enter Try.func13, Try.ntmps13
  go_wp2
  go_ret
  exact ⟨rfl, (Below.refl _ _).alloc (Nat.le_refl _) _⟩

set_option maxHeartbeats 2000000 in
theorem outd_one (x : S30) (p0 p1 : ByteArray) (gp : Nat) (w : World) (hc : w.heap[gp]? = some (.cells #[.string p0, .string p1] 24 (0, 0))) :
    Calls Try.prog 14 #[.agg #[.int .i64 x.f0, .string x.f1.f0, .string x.f1.f1, .string x.f2.f0, .string x.f2.f1, .string x.f3, .bool x.f4, .bool x.f5], .pointer (some ⟨gp, 0, none⟩)] w fun e w' => e = .returned (.bool (isFrom p0 p1 x)) ∧ Below w.heap.size w w' := by
  have h0 : w.cell? ⟨gp, 0, none⟩ = some (.string p0) := (blk_cell hc 0).trans rfl
  have h1 : w.cell? ⟨gp, 1, none⟩ = some (.string p1) := (blk_cell hc 1).trans rfl
  have hlt : gp < w.heap.size := by
    rcases Nat.lt_or_ge gp w.heap.size with h | h
    · exact h
    · rw [Array.getElem?_eq_none h] at hc; cases hc
  have H := Aside0.mk hc
  clear hc
  go_enter Try.func14, Try.ntmps14
  go_wp2
  go_ret
  exact ⟨rfl, (Below.refl _ _).alloc (Nat.le_refl _) _⟩

structure P0 (l : List S30) (pr : S30 → Bool) (kq : Nat) (x3 : List S30) (x4 : Int) : Prop where
  e : x3 = (l.take x4.toNat).filter pr
  lo : 0 ≤ x4
  hi : x4 ≤ (l.length : Int)
  m : kq + x4.toNat = l.length
theorem pwrap_up {i : Int} {n : Nat} (h0 : 0 ≤ i) (h : i < (n : Int)) (hn : n ≤ 1466015503700) : wrap64 (i + 1) = i + 1 := by
  unfold wrap64
  omega
theorem ptake_up (l : List S30) (i : Int) (h0 : 0 ≤ i) (h : i < (l.length : Int)) : l.take (i + 1).toNat = l.take i.toNat ++ [rd_T30 l i] := by
  have h1 : (i + 1).toNat = i.toNat + 1 := by omega
  have h2 : i.toNat < l.length := by omega
  rw [h1, List.take_succ_eq_append_getElem h2]
  simp [rd_T30, List.getD, List.getElem?_eq_getElem h2]
theorem P0.start (l : List S30) (pr : S30 → Bool) : P0 l pr l.length [] 0 := ⟨by simp, by omega, by omega, by omega⟩
theorem P0.len {l : List S30} {pr : S30 → Bool} {kq : Nat} {x3 : List S30} {x4 : Int} (h : P0 l pr kq x3 x4) : x3.length ≤ l.length := by
  rw [h.e]
  exact Nat.le_trans (List.length_filter_le _ _) (by rw [List.length_take]; omega)
theorem P0.yes {l : List S30} {pr : S30 → Bool} {kq : Nat} {x3 : List S30} {x4 : Int} (h : P0 l pr (kq + 1) x3 x4) (hn : l.length ≤ 1466015503658) (hlt : x4 < (l.length : Int)) (hp : pr (rd_T30 l x4) = true) : P0 l pr kq (x3 ++ [rd_T30 l x4]) (wrap64 (x4 + 1)) := by
  have h0 := h.lo
  have hm := h.m
  rw [pwrap_up h0 hlt (by omega)]
  refine ⟨?_, by omega, by omega, by omega⟩
  rw [ptake_up l x4 h0 hlt, List.filter_append, ← h.e]
  simp [hp]
theorem P0.no {l : List S30} {pr : S30 → Bool} {kq : Nat} {x3 : List S30} {x4 : Int} (h : P0 l pr (kq + 1) x3 x4) (hn : l.length ≤ 1466015503658) (hlt : x4 < (l.length : Int)) (hp : pr (rd_T30 l x4) = false) : P0 l pr kq x3 (wrap64 (x4 + 1)) := by
  have h0 := h.lo
  have hm := h.m
  rw [pwrap_up h0 hlt (by omega)]
  refine ⟨?_, by omega, by omega, by omega⟩
  rw [ptake_up l x4 h0 hlt, List.filter_append, ← h.e]
  simp [hp]
theorem P0.last {l : List S30} {pr : S30 → Bool} {kq : Nat} {x3 : List S30} {x4 : Int} (h : P0 l pr kq x3 x4) (hlt : ¬ x4 < (l.length : Int)) : x3 = l.filter pr := by
  have h0 := h.hi
  have e : x4.toNat = l.length := by omega
  rw [h.e, e, List.take_length]
structure Picks (l : List S30) (pr : S30 → Bool) (w : World) (e : Ending) (w' : World) : Prop where
  out : ∃ v, e = .returned v ∧ Kd.R k30 30 w' w.heap.size (fun _ => True) v (l.filter pr) ∧ Below w.heap.size w w'

set_option maxHeartbeats 8000000 in
set_option maxRecDepth 100000 in
theorem picked_into (A0 : Option Addr) (c0 : Nat) (l0 : List S30) (p0 p1 : ByteArray) (gp : Nat) (w : World) (hr0 : Kd.C k30 w A0 l0.length l0) (hc0 : l0.length ≤ c0) (hn : l0.length ≤ 1466015503658) (hc : w.heap[gp]? = some (.cells #[.string p0, .string p1] 24 (0, 0))) :
    Calls Try.prog 12 #[.slice A0 l0.length c0, .func (.func 13) #[] #[.pointer (some ⟨gp, 0, none⟩)]] w (Picks l0 (isTo p0 p1) w) := by
  have hu30 := Try.underlying30
  have HR0 := Aside0.mk hr0
  have HC0 := Aside0.mk hc0
  have HN := Aside0.mk hn
  have BK := Aside0.mk hc
  have hlt0 : gp < w.heap.size := by
    rcases Nat.lt_or_ge gp w.heap.size with h | h
    · exact h
    · rw [Array.getElem?_eq_none h] at hc; cases hc
  have GLT := Aside0.mk hlt0
  clear hr0 hc0 hn hc hlt0
  have HB := Aside0.mk (Below.refl w.heap.size w)
  go_enter Try.func12, Try.ntmps12
  go_wp2
  go_loopg [5, 10] l0.length (fun kq v5 v10 w' => ∃ (x3_1 : List (S30)) (x4_1 : Int), v10 = .int .i64 x4_1 ∧ Aside0 (P0 l0 (isTo p0 p1) kq x3_1 x4_1) ∧ Aside0 (Kd.R k30 30 w' w.heap.size (fun _ => True) v5 x3_1) ∧ Aside0 (Below w.heap.size w w'))
  case atStart => exact ⟨[], 0, rfl, ⟨P0.start l0 _⟩, ⟨Kd.R_nil _ _ _ _ _⟩, ⟨HB.out⟩⟩
  case round =>
    obtain ⟨x3_1, x4_1, rfl, HA, HO_5, HB⟩ := hrel
    by_cases c2 : x4_1 < (l0.length : Int)
    · have c2b0 : decide (x4_1 < (l0.length : Int)) = true := decide_eq_true c2
      have c3b0 : decide (0 ≤ x4_1) = true := decide_eq_true HA.out.lo
      obtain ⟨k1, rfl⟩ : ∃ k1, gk = k1 + 1 := ⟨gk - 1, by have := HA.out.m; have := HA.out.lo; omega⟩
      have LMc4 := Aside0.mk (show x3_1.length < 1466015503701 by have := HA.out.len; have := HN.out; omega)
      have p104 : 0 ≤ (x4_1 : Int) := HA.out.lo
      have q104 : x4_1 < (l0.length : Int) := c2
      have HQ := Aside0.mk c2
      clear c2
      obtain ⟨ad104, e104, hx104_0, hx104_1, hx104_2, hx104_3, hx104_4, hx104_5, hx104_6, hx104_7⟩ := at_T30 HR0.out x4_1 p104 q104
      cases e104
      replace hx104_0 := (HB.out.cell (World.block_lt_of_cell? w _ hx104_0)).trans hx104_0
      replace hx104_1 := (HB.out.cell (World.block_lt_of_cell? w _ hx104_1)).trans hx104_1
      replace hx104_2 := (HB.out.cell (World.block_lt_of_cell? w _ hx104_2)).trans hx104_2
      replace hx104_3 := (HB.out.cell (World.block_lt_of_cell? w _ hx104_3)).trans hx104_3
      replace hx104_4 := (HB.out.cell (World.block_lt_of_cell? w _ hx104_4)).trans hx104_4
      replace hx104_5 := (HB.out.cell (World.block_lt_of_cell? w _ hx104_5)).trans hx104_5
      replace hx104_6 := (HB.out.cell (World.block_lt_of_cell? w _ hx104_6)).trans hx104_6
      replace hx104_7 := (HB.out.cell (World.block_lt_of_cell? w _ hx104_7)).trans hx104_7
      replace p104 := eq_true p104
      replace q104 := eq_true q104
      have BKr := Aside0.mk ((HB.out.block gp GLT.out).trans BK.out)
      go_wp2_with fail
      refine (intod_one (rd_T30 l0 x4_1) p0 p1 gp _ ?hcgp).mono ?_
      case hcgp => exact blk_alloc BKr.out _
      rintro e w3 ⟨rfl, hb3⟩
      have hz : wr.heap.size < w3.heap.size := by have := hb3.size; simp at this; omega
      have HB3 := Aside0.mk (below_step (w := w) (below_alloc HB.out _) hb3)
      have HO3 := Aside0.mk (Kd.R_below (Kd.R_alloc HO_5.out _) hb3)
      have hq : w3.heap[wr.heap.size]? = some (.cells #[.int .i64 (rd_T30 l0 x4_1).f0, .string (rd_T30 l0 x4_1).f1.f0, .string (rd_T30 l0 x4_1).f1.f1, .string (rd_T30 l0 x4_1).f2.f0, .string (rd_T30 l0 x4_1).f2.f1, .string (rd_T30 l0 x4_1).f3, .bool (rd_T30 l0 x4_1).f4, .bool (rd_T30 l0 x4_1).f5] 30 (0, 0)) :=
        (hb3.block wr.heap.size (by simp)).trans (heap_alloc_new wr _)
      have y0 : w3.cell? ⟨wr.heap.size, 0, none⟩ = some (.int .i64 (rd_T30 l0 x4_1).f0) := (blk_cell hq 0).trans rfl
      have y1 : w3.cell? ⟨wr.heap.size, 1, none⟩ = some (.string (rd_T30 l0 x4_1).f1.f0) := (blk_cell hq 1).trans rfl
      have y2 : w3.cell? ⟨wr.heap.size, 2, none⟩ = some (.string (rd_T30 l0 x4_1).f1.f1) := (blk_cell hq 2).trans rfl
      have y3 : w3.cell? ⟨wr.heap.size, 3, none⟩ = some (.string (rd_T30 l0 x4_1).f2.f0) := (blk_cell hq 3).trans rfl
      have y4 : w3.cell? ⟨wr.heap.size, 4, none⟩ = some (.string (rd_T30 l0 x4_1).f2.f1) := (blk_cell hq 4).trans rfl
      have y5 : w3.cell? ⟨wr.heap.size, 5, none⟩ = some (.string (rd_T30 l0 x4_1).f3) := (blk_cell hq 5).trans rfl
      have y6 : w3.cell? ⟨wr.heap.size, 6, none⟩ = some (.bool (rd_T30 l0 x4_1).f4) := (blk_cell hq 6).trans rfl
      have y7 : w3.cell? ⟨wr.heap.size, 7, none⟩ = some (.bool (rd_T30 l0 x4_1).f5) := (blk_cell hq 7).trans rfl
      clear hq hb3 hx104_0 hx104_1 hx104_2 hx104_3 hx104_4 hx104_5 hx104_6 hx104_7 HB HO_5 BKr
      have HB := HB3
      have HO_5 := HO3
      clear HB3 HO3
      cases hp : isTo p0 p1 (rd_T30 l0 x4_1) with
      | true =>
        have HA' := Aside0.mk (HA.out.yes HN.out HQ.out hp)
        obtain ⟨y105, hy105⟩ : ∃ y_ : List (S30), y_ = (x3_1 ++ [(⟨(rd_T30 l0 x4_1).f0, (⟨(rd_T30 l0 x4_1).f1.f0, (rd_T30 l0 x4_1).f1.f1⟩ : S24), (⟨(rd_T30 l0 x4_1).f2.f0, (rd_T30 l0 x4_1).f2.f1⟩ : S24), (rd_T30 l0 x4_1).f3, (rd_T30 l0 x4_1).f4, (rd_T30 l0 x4_1).f5⟩ : S30)]) := ⟨_, rfl⟩
        replace HA' : Aside0 (P0 l0 (isTo p0 p1) k1 y105 (wrap64 (x4_1 + 1))) := by rw [hy105]; exact HA'
        have Ny105 := Aside0.mk hy105
        clear hy105 HA hp
        go_wp2_with (first | ((with_reducible refine gate_builtin (b := .append) (xs := #[.tmp 17, .tmp 19]) rfl ?_); at_builtin; refine Kd.R_append k30 (w0 := w) w.heap.size rfl (.tmp 17) (.tmp 19) 22 30 (.agg #[(.int .i64 0), (.string ⟨#[]⟩), (.string ⟨#[]⟩), (.string ⟨#[]⟩), (.string ⟨#[]⟩), (.string ⟨#[]⟩), (.bool false), (.bool false)]) 96 rfl Try.underlying22 info30 rfl (by decide) (by omega) u5 x3_1 (⟨(rd_T30 l0 x4_1).f0, (⟨(rd_T30 l0 x4_1).f1.f0, (rd_T30 l0 x4_1).f1.f1⟩ : S24), (⟨(rd_T30 l0 x4_1).f2.f0, (rd_T30 l0 x4_1).f2.f1⟩ : S24), (rd_T30 l0 x4_1).f3, (rd_T30 l0 x4_1).f4, (rd_T30 l0 x4_1).f5⟩ : S30) [.int .i64 ((rd_T30 l0 x4_1).f0), .string ((rd_T30 l0 x4_1).f1.f0), .string ((rd_T30 l0 x4_1).f1.f1), .string ((rd_T30 l0 x4_1).f2.f0), .string ((rd_T30 l0 x4_1).f2.f1), .string ((rd_T30 l0 x4_1).f3), .bool ((rd_T30 l0 x4_1).f4), .bool ((rd_T30 l0 x4_1).f5)] (fun _ => True) (fun _ => False) rfl rfl ?aP (fun _ hk => hk.elim) ?aF ?aO ?aB ?aS ?aL ?_; (case aP => exact k30_mkM _ _ _ (⟨(rd_T30 l0 x4_1).f0, (⟨(rd_T30 l0 x4_1).f1.f0, (rd_T30 l0 x4_1).f1.f1⟩ : S24), (⟨(rd_T30 l0 x4_1).f2.f0, (rd_T30 l0 x4_1).f2.f1⟩ : S24), (rd_T30 l0 x4_1).f3, (rd_T30 l0 x4_1).f4, (rd_T30 l0 x4_1).f5⟩ : S30)); (case aB => exact (by repeat (first | (with_reducible first | exact HB.out | apply below_alloc | apply pw_below_drewN | apply below_drew1) | exact HB.out))); (case aF => exact (fun _ _ => trivial)); (case aO => exact (by (with_reducible repeat (first | apply Kd.R_alloc | apply Kd.R_drewN | apply Kd.R_drew)); exact HO_5.out)); (case aS => exact (below_size (by repeat (first | (with_reducible first | exact HB.out | apply below_alloc | apply pw_below_drewN | apply below_drew1) | exact HB.out)))); (case aL => have := LMc4.out; omega); intro v106 w5 ho hb hg hat; rw [← Ny105.out] at ho; have n0_ := Aside0.mk (hb); have n1_ := Aside0.mk (ho); clear HB; clear HO_5; have HB := n0_; have HO107 := n1_; clear n0_ n1_; clear ho hb hg hat))
        go_roundg k1
        case measure => omega
        case rel => exact ⟨y105, (wrap64 (x4_1 + 1)), (by first | rfl | (simp; done) | (simp [*]; done)), HA', ⟨by (with_reducible repeat (first | apply Kd.R_alloc | apply Kd.R_drewN | apply Kd.R_drew)); exact HO107.out⟩, ⟨by repeat (first | (with_reducible first | exact HB.out | apply below_alloc | apply pw_below_drewN | apply below_drew1) | exact HB.out)⟩⟩
      | false =>
        have HA' := Aside0.mk (HA.out.no HN.out HQ.out hp)
        clear HA hp
        go_wp2
        go_roundg k1
        case measure => omega
        case rel => exact ⟨x3_1, (wrap64 (x4_1 + 1)), (by first | rfl | (simp; done) | (simp [*]; done)), HA', ⟨by (with_reducible repeat (first | apply Kd.R_alloc | apply Kd.R_drewN | apply Kd.R_drew)); exact HO_5.out⟩, ⟨by repeat (first | (with_reducible first | exact HB.out | apply below_alloc | apply pw_below_drewN | apply below_drew1) | exact HB.out)⟩⟩
    · have c2b0 : decide (x4_1 < (l0.length : Int)) = false := decide_eq_false c2
      have H' := Aside0.mk (HA.out.last c2)
      clear c2 HA
      go_wp2
      go_ret
      refine ⟨_, rfl, ?_, HB.out⟩
      rw [← H'.out]
      exact HO_5.out

set_option maxHeartbeats 8000000 in
set_option maxRecDepth 100000 in
theorem picked_out (A0 : Option Addr) (c0 : Nat) (l0 : List S30) (p0 p1 : ByteArray) (gp : Nat) (w : World) (hr0 : Kd.C k30 w A0 l0.length l0) (hc0 : l0.length ≤ c0) (hn : l0.length ≤ 1466015503658) (hc : w.heap[gp]? = some (.cells #[.string p0, .string p1] 24 (0, 0))) :
    Calls Try.prog 12 #[.slice A0 l0.length c0, .func (.func 14) #[] #[.pointer (some ⟨gp, 0, none⟩)]] w (Picks l0 (isFrom p0 p1) w) := by
  have hu30 := Try.underlying30
  have HR0 := Aside0.mk hr0
  have HC0 := Aside0.mk hc0
  have HN := Aside0.mk hn
  have BK := Aside0.mk hc
  have hlt0 : gp < w.heap.size := by
    rcases Nat.lt_or_ge gp w.heap.size with h | h
    · exact h
    · rw [Array.getElem?_eq_none h] at hc; cases hc
  have GLT := Aside0.mk hlt0
  clear hr0 hc0 hn hc hlt0
  have HB := Aside0.mk (Below.refl w.heap.size w)
  go_enter Try.func12, Try.ntmps12
  go_wp2
  go_loopg [5, 10] l0.length (fun kq v5 v10 w' => ∃ (x3_1 : List (S30)) (x4_1 : Int), v10 = .int .i64 x4_1 ∧ Aside0 (P0 l0 (isFrom p0 p1) kq x3_1 x4_1) ∧ Aside0 (Kd.R k30 30 w' w.heap.size (fun _ => True) v5 x3_1) ∧ Aside0 (Below w.heap.size w w'))
  case atStart => exact ⟨[], 0, rfl, ⟨P0.start l0 _⟩, ⟨Kd.R_nil _ _ _ _ _⟩, ⟨HB.out⟩⟩
  case round =>
    obtain ⟨x3_1, x4_1, rfl, HA, HO_5, HB⟩ := hrel
    by_cases c2 : x4_1 < (l0.length : Int)
    · have c2b0 : decide (x4_1 < (l0.length : Int)) = true := decide_eq_true c2
      have c3b0 : decide (0 ≤ x4_1) = true := decide_eq_true HA.out.lo
      obtain ⟨k1, rfl⟩ : ∃ k1, gk = k1 + 1 := ⟨gk - 1, by have := HA.out.m; have := HA.out.lo; omega⟩
      have LMc4 := Aside0.mk (show x3_1.length < 1466015503701 by have := HA.out.len; have := HN.out; omega)
      have p104 : 0 ≤ (x4_1 : Int) := HA.out.lo
      have q104 : x4_1 < (l0.length : Int) := c2
      have HQ := Aside0.mk c2
      clear c2
      obtain ⟨ad104, e104, hx104_0, hx104_1, hx104_2, hx104_3, hx104_4, hx104_5, hx104_6, hx104_7⟩ := at_T30 HR0.out x4_1 p104 q104
      cases e104
      replace hx104_0 := (HB.out.cell (World.block_lt_of_cell? w _ hx104_0)).trans hx104_0
      replace hx104_1 := (HB.out.cell (World.block_lt_of_cell? w _ hx104_1)).trans hx104_1
      replace hx104_2 := (HB.out.cell (World.block_lt_of_cell? w _ hx104_2)).trans hx104_2
      replace hx104_3 := (HB.out.cell (World.block_lt_of_cell? w _ hx104_3)).trans hx104_3
      replace hx104_4 := (HB.out.cell (World.block_lt_of_cell? w _ hx104_4)).trans hx104_4
      replace hx104_5 := (HB.out.cell (World.block_lt_of_cell? w _ hx104_5)).trans hx104_5
      replace hx104_6 := (HB.out.cell (World.block_lt_of_cell? w _ hx104_6)).trans hx104_6
      replace hx104_7 := (HB.out.cell (World.block_lt_of_cell? w _ hx104_7)).trans hx104_7
      replace p104 := eq_true p104
      replace q104 := eq_true q104
      have BKr := Aside0.mk ((HB.out.block gp GLT.out).trans BK.out)
      go_wp2_with fail
      refine (outd_one (rd_T30 l0 x4_1) p0 p1 gp _ ?hcgp).mono ?_
      case hcgp => exact blk_alloc BKr.out _
      rintro e w3 ⟨rfl, hb3⟩
      have hz : wr.heap.size < w3.heap.size := by have := hb3.size; simp at this; omega
      have HB3 := Aside0.mk (below_step (w := w) (below_alloc HB.out _) hb3)
      have HO3 := Aside0.mk (Kd.R_below (Kd.R_alloc HO_5.out _) hb3)
      have hq : w3.heap[wr.heap.size]? = some (.cells #[.int .i64 (rd_T30 l0 x4_1).f0, .string (rd_T30 l0 x4_1).f1.f0, .string (rd_T30 l0 x4_1).f1.f1, .string (rd_T30 l0 x4_1).f2.f0, .string (rd_T30 l0 x4_1).f2.f1, .string (rd_T30 l0 x4_1).f3, .bool (rd_T30 l0 x4_1).f4, .bool (rd_T30 l0 x4_1).f5] 30 (0, 0)) :=
        (hb3.block wr.heap.size (by simp)).trans (heap_alloc_new wr _)
      have y0 : w3.cell? ⟨wr.heap.size, 0, none⟩ = some (.int .i64 (rd_T30 l0 x4_1).f0) := (blk_cell hq 0).trans rfl
      have y1 : w3.cell? ⟨wr.heap.size, 1, none⟩ = some (.string (rd_T30 l0 x4_1).f1.f0) := (blk_cell hq 1).trans rfl
      have y2 : w3.cell? ⟨wr.heap.size, 2, none⟩ = some (.string (rd_T30 l0 x4_1).f1.f1) := (blk_cell hq 2).trans rfl
      have y3 : w3.cell? ⟨wr.heap.size, 3, none⟩ = some (.string (rd_T30 l0 x4_1).f2.f0) := (blk_cell hq 3).trans rfl
      have y4 : w3.cell? ⟨wr.heap.size, 4, none⟩ = some (.string (rd_T30 l0 x4_1).f2.f1) := (blk_cell hq 4).trans rfl
      have y5 : w3.cell? ⟨wr.heap.size, 5, none⟩ = some (.string (rd_T30 l0 x4_1).f3) := (blk_cell hq 5).trans rfl
      have y6 : w3.cell? ⟨wr.heap.size, 6, none⟩ = some (.bool (rd_T30 l0 x4_1).f4) := (blk_cell hq 6).trans rfl
      have y7 : w3.cell? ⟨wr.heap.size, 7, none⟩ = some (.bool (rd_T30 l0 x4_1).f5) := (blk_cell hq 7).trans rfl
      clear hq hb3 hx104_0 hx104_1 hx104_2 hx104_3 hx104_4 hx104_5 hx104_6 hx104_7 HB HO_5 BKr
      have HB := HB3
      have HO_5 := HO3
      clear HB3 HO3
      cases hp : isFrom p0 p1 (rd_T30 l0 x4_1) with
      | true =>
        have HA' := Aside0.mk (HA.out.yes HN.out HQ.out hp)
        obtain ⟨y105, hy105⟩ : ∃ y_ : List (S30), y_ = (x3_1 ++ [(⟨(rd_T30 l0 x4_1).f0, (⟨(rd_T30 l0 x4_1).f1.f0, (rd_T30 l0 x4_1).f1.f1⟩ : S24), (⟨(rd_T30 l0 x4_1).f2.f0, (rd_T30 l0 x4_1).f2.f1⟩ : S24), (rd_T30 l0 x4_1).f3, (rd_T30 l0 x4_1).f4, (rd_T30 l0 x4_1).f5⟩ : S30)]) := ⟨_, rfl⟩
        replace HA' : Aside0 (P0 l0 (isFrom p0 p1) k1 y105 (wrap64 (x4_1 + 1))) := by rw [hy105]; exact HA'
        have Ny105 := Aside0.mk hy105
        clear hy105 HA hp
        go_wp2_with (first | ((with_reducible refine gate_builtin (b := .append) (xs := #[.tmp 17, .tmp 19]) rfl ?_); at_builtin; refine Kd.R_append k30 (w0 := w) w.heap.size rfl (.tmp 17) (.tmp 19) 22 30 (.agg #[(.int .i64 0), (.string ⟨#[]⟩), (.string ⟨#[]⟩), (.string ⟨#[]⟩), (.string ⟨#[]⟩), (.string ⟨#[]⟩), (.bool false), (.bool false)]) 96 rfl Try.underlying22 info30 rfl (by decide) (by omega) u5 x3_1 (⟨(rd_T30 l0 x4_1).f0, (⟨(rd_T30 l0 x4_1).f1.f0, (rd_T30 l0 x4_1).f1.f1⟩ : S24), (⟨(rd_T30 l0 x4_1).f2.f0, (rd_T30 l0 x4_1).f2.f1⟩ : S24), (rd_T30 l0 x4_1).f3, (rd_T30 l0 x4_1).f4, (rd_T30 l0 x4_1).f5⟩ : S30) [.int .i64 ((rd_T30 l0 x4_1).f0), .string ((rd_T30 l0 x4_1).f1.f0), .string ((rd_T30 l0 x4_1).f1.f1), .string ((rd_T30 l0 x4_1).f2.f0), .string ((rd_T30 l0 x4_1).f2.f1), .string ((rd_T30 l0 x4_1).f3), .bool ((rd_T30 l0 x4_1).f4), .bool ((rd_T30 l0 x4_1).f5)] (fun _ => True) (fun _ => False) rfl rfl ?aP (fun _ hk => hk.elim) ?aF ?aO ?aB ?aS ?aL ?_; (case aP => exact k30_mkM _ _ _ (⟨(rd_T30 l0 x4_1).f0, (⟨(rd_T30 l0 x4_1).f1.f0, (rd_T30 l0 x4_1).f1.f1⟩ : S24), (⟨(rd_T30 l0 x4_1).f2.f0, (rd_T30 l0 x4_1).f2.f1⟩ : S24), (rd_T30 l0 x4_1).f3, (rd_T30 l0 x4_1).f4, (rd_T30 l0 x4_1).f5⟩ : S30)); (case aB => exact (by repeat (first | (with_reducible first | exact HB.out | apply below_alloc | apply pw_below_drewN | apply below_drew1) | exact HB.out))); (case aF => exact (fun _ _ => trivial)); (case aO => exact (by (with_reducible repeat (first | apply Kd.R_alloc | apply Kd.R_drewN | apply Kd.R_drew)); exact HO_5.out)); (case aS => exact (below_size (by repeat (first | (with_reducible first | exact HB.out | apply below_alloc | apply pw_below_drewN | apply below_drew1) | exact HB.out)))); (case aL => have := LMc4.out; omega); intro v106 w5 ho hb hg hat; rw [← Ny105.out] at ho; have n0_ := Aside0.mk (hb); have n1_ := Aside0.mk (ho); clear HB; clear HO_5; have HB := n0_; have HO107 := n1_; clear n0_ n1_; clear ho hb hg hat))
        go_roundg k1
        case measure => omega
        case rel => exact ⟨y105, (wrap64 (x4_1 + 1)), (by first | rfl | (simp; done) | (simp [*]; done)), HA', ⟨by (with_reducible repeat (first | apply Kd.R_alloc | apply Kd.R_drewN | apply Kd.R_drew)); exact HO107.out⟩, ⟨by repeat (first | (with_reducible first | exact HB.out | apply below_alloc | apply pw_below_drewN | apply below_drew1) | exact HB.out)⟩⟩
      | false =>
        have HA' := Aside0.mk (HA.out.no HN.out HQ.out hp)
        clear HA hp
        go_wp2
        go_roundg k1
        case measure => omega
        case rel => exact ⟨x3_1, (wrap64 (x4_1 + 1)), (by first | rfl | (simp; done) | (simp [*]; done)), HA', ⟨by (with_reducible repeat (first | apply Kd.R_alloc | apply Kd.R_drewN | apply Kd.R_drew)); exact HO_5.out⟩, ⟨by repeat (first | (with_reducible first | exact HB.out | apply below_alloc | apply pw_below_drewN | apply below_drew1) | exact HB.out)⟩⟩
    · have c2b0 : decide (x4_1 < (l0.length : Int)) = false := decide_eq_false c2
      have H' := Aside0.mk (HA.out.last c2)
      clear c2 HA
      go_wp2
      go_ret
      refine ⟨_, rfl, ?_, HB.out⟩
      rw [← H'.out]
      exact HO_5.out

set_option maxHeartbeats 2000000 in
theorem into_calls (A0 : Option Addr) (c0 : Nat) (l0 : List S30) (p0 p1 : ByteArray) (w : World) (hr0 : Kd.C k30 w A0 l0.length l0) (hc0 : l0.length ≤ c0) (hn : l0.length ≤ 1466015503658) :
    Calls Try.prog 5 #[.slice A0 l0.length c0, .agg #[.string p0, .string p1]] w (Picks l0 (isTo p0 p1) w) := by
  have HR0 := Aside0.mk hr0
  have HC0 := Aside0.mk hc0
  have HN := Aside0.mk hn
  clear hr0 hc0 hn
  go_enter Try.func5, Try.ntmps5
  go_wp2_with fail
  refine (picked_into A0 c0 l0 p0 p1 w.heap.size _ ?h1 HC0.out HN.out ?h2).mono ?_
  case h1 => exact Kd.C_below HR0.out (below_alloc (Below.refl _ _) _)
  case h2 => exact heap_alloc_new w _
  rintro e w2 ⟨v, rfl, hr, hb⟩
  have HB := Aside0.mk (below_step (w := w) (below_alloc (Below.refl _ _) _) hb)
  have HO := Aside0.mk (Kd.R_lower (base' := w.heap.size) hr (by simp))
  clear hr hb
  go_wp2
  go_ret
  exact ⟨_, rfl, HO.out, HB.out⟩

set_option maxHeartbeats 2000000 in
theorem out_calls (A0 : Option Addr) (c0 : Nat) (l0 : List S30) (p0 p1 : ByteArray) (w : World) (hr0 : Kd.C k30 w A0 l0.length l0) (hc0 : l0.length ≤ c0) (hn : l0.length ≤ 1466015503658) :
    Calls Try.prog 6 #[.slice A0 l0.length c0, .agg #[.string p0, .string p1]] w (Picks l0 (isFrom p0 p1) w) := by
  have HR0 := Aside0.mk hr0
  have HC0 := Aside0.mk hc0
  have HN := Aside0.mk hn
  clear hr0 hc0 hn
  go_enter Try.func6, Try.ntmps6
  go_wp2_with fail
  refine (picked_out A0 c0 l0 p0 p1 w.heap.size _ ?h1 HC0.out HN.out ?h2).mono ?_
  case h1 => exact Kd.C_below HR0.out (below_alloc (Below.refl _ _) _)
  case h2 => exact heap_alloc_new w _
  rintro e w2 ⟨v, rfl, hr, hb⟩
  have HB := Aside0.mk (below_step (w := w) (below_alloc (Below.refl _ _) _) hb)
  have HO := Aside0.mk (Kd.R_lower (base' := w.heap.size) hr (by simp))
  clear hr hb
  go_wp2
  go_ret
  exact ⟨_, rfl, HO.out, HB.out⟩
end Go.Proofs.Ytopedblofdjklaa.PRoutesPicks
