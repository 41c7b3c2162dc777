/- 'LentEdges(l)' answers a slice of l's own elements behind which, within its capacity, 24 marks lie: whatever l is. -/
import Derived.Test.YtopedblofdjklaaPRoutesPicksx3
namespace Go.Proofs.Ytopedblofdjklaa.PRoutesPicks
open Go.RowKit Go.Proofs.YtopedblofdjklaaW.PrintWords Go.Proofs.YtopedblofdjklaaW.PrintLast Go.Proofs.YtopedblofdjklaaW.PrintMore
attribute [local go_sem] max2_int min2_int max_two min_two max_three min_three max_four min_four
attribute [local go_sem high] eqA24 eqA30
set_option linter.unusedVariables false
set_option linter.unusedSimpArgs false

def mkT (j : Int) : ByteArray := strOfNums (([35, (1) % 256, (1 / 256) % 256, (1 / 65536) % 256, 47, (j) % 256, (j / 256) % 256, (j / 65536) % 256] : List Int))
theorem mkT_f (j : Int) : latchkeykit_markText.f 1 j = some (mkT j) := rfl
def mkE (j : Int) : S30 := ⟨(-7), (⟨(⟨#[]⟩ : ByteArray), (⟨#[]⟩ : ByteArray)⟩ : S24), (⟨(⟨#[]⟩ : ByteArray), (⟨#[]⟩ : ByteArray)⟩ : S24), mkT j, false, false⟩
def marks (n : Nat) : List S30 := (List.range n).map fun j : Nat => mkE (j : Int)
theorem marks_succ (n : Nat) : marks (n + 1) = marks n ++ [mkE (n : Int)] := by simp [marks, List.range_succ]
theorem marks_length (n : Nat) : (marks n).length = n := by simp [marks]
theorem wrap_up {i : Int} {n : Nat} (h0 : 0 ≤ i) (h : i < (n : Int)) (hn : n ≤ 1466015503700) : wrap64 (i + 1) = i + 1 := by
  unfold wrap64
  omega
theorem take_up (l : List S30) (i : Int) (h0 : 0 ≤ i) (h : i < (l.length : Int)) : l.take (i + 1).toNat = l.take i.toNat ++ [rd_T30 l i] := by
  have h1 : (i + 1).toNat = i.toNat + 1 := by omega
  have h2 : i.toNat < l.length := by omega
  rw [h1, List.take_succ_eq_append_getElem h2]
  simp [rd_T30, List.getD, List.getElem?_eq_getElem h2]

structure L0 (l : List S30) (kq : Nat) (x3 : List S30) (x4 : Int) : Prop where
  e : x3 = l.take x4.toNat
  lo : 0 ≤ x4
  hi : x4 ≤ (l.length : Int)
  m : kq + x4.toNat = l.length
structure L1 (l : List S30) (kq : Nat) (x3 : List S30) (x5 : Int) : Prop where
  e : x3 = l ++ marks x5.toNat
  lo : 0 ≤ x5
  hi : x5 ≤ 24
  m : kq + x5.toNat = 24
theorem L0.start (l : List S30) : L0 l l.length [] 0 := ⟨by simp, by omega, by omega, by omega⟩
theorem L0.len {l : List S30} {kq : Nat} {x3 : List S30} {x4 : Int} (h : L0 l kq x3 x4) : (x3.length : Int) = x4 := by
  have := h.lo
  have := h.hi
  rw [h.e, List.length_take]
  omega
theorem L0.next {l : List S30} {kq : Nat} {x3 : List S30} {x4 : Int} (h : L0 l (kq + 1) x3 x4) (hn : l.length ≤ 1466015503658) (hlt : x4 < (l.length : Int)) : L0 l kq (x3 ++ [rd_T30 l x4]) (wrap64 (x4 + 1)) := by
  have h0 := h.lo
  have hm := h.m
  rw [wrap_up h0 hlt (by omega)]
  refine ⟨?_, by omega, by omega, by omega⟩
  rw [take_up l x4 h0 hlt, h.e]
theorem L0.last {l : List S30} {kq : Nat} {x3 : List S30} {x4 : Int} (h : L0 l kq x3 x4) (hlt : ¬ x4 < (l.length : Int)) : L1 l 24 x3 0 := by
  have h0 := h.hi
  have e : x4.toNat = l.length := by omega
  refine ⟨?_, by omega, by omega, by omega⟩
  rw [h.e, e, List.take_length]
  simp [marks]
theorem L1.len {l : List S30} {kq : Nat} {x3 : List S30} {x5 : Int} (h : L1 l kq x3 x5) : (x3.length : Int) = l.length + x5 := by
  have := h.lo
  rw [h.e, List.length_append, marks_length]
  omega
theorem L1.next {l : List S30} {kq : Nat} {x3 : List S30} {x5 : Int} (h : L1 l (kq + 1) x3 x5) (hlt : x5 < 24) : L1 l kq (x3 ++ [mkE x5]) (wrap64 (x5 + 1)) := by
  have h0 := h.lo
  have hm := h.m
  rw [wrap_up (n := 24) h0 (by omega) (by omega)]
  have e : (x5 + 1).toNat = x5.toNat + 1 := by omega
  have e2 : ((x5.toNat : Nat) : Int) = x5 := by omega
  refine ⟨?_, by omega, by omega, by omega⟩
  rw [e, marks_succ, e2, h.e, List.append_assoc]
theorem L1.last {l : List S30} {kq : Nat} {x3 : List S30} {x5 : Int} (h : L1 l kq x3 x5) (hlt : ¬ x5 < 24) : x3 = l ++ marks 24 := by
  have h0 := h.hi
  have e : x5.toNat = 24 := by omega
  rw [h.e, e]

/-- What LentEdges answers. -/
structure Lent (l : List S30) (w : World) (e : Ending) (w' : World) : Prop where
  out : ∃ A c, e = .returned (.slice A l.length c) ∧ l.length + 24 ≤ c ∧ Kd.C k30 w' A (l.length + 24) (l ++ marks 24) ∧ Below w.heap.size w w'

set_option maxHeartbeats 8000000 in
set_option maxRecDepth 100000 in
theorem lent_calls (A0 : Option Addr) (c0 : Nat) (l0 : List S30) (w : World) (hr0 : Kd.C k30 w A0 l0.length l0) (hc0 : l0.length ≤ c0) (hn : l0.length ≤ 1466015503658) :
    Calls Try.prog 4 #[.slice A0 l0.length c0] w (Lent l0 w) := by
  have hu30 := Try.underlying30
  have HR0 := Aside0.mk hr0
  have HC0 := Aside0.mk hc0
  have HN := Aside0.mk hn
  clear hr0 hc0 hn
  have HB := Aside0.mk (Below.refl w.heap.size w)
  go_enter Try.func4, Try.ntmps4
  go_wp2
  go_loopg [3, 4] l0.length (fun kq v3 v4 w' => ∃ (x3_1 : List (S30)) (x4_1 : Int), v4 = .int .i64 x4_1 ∧ Aside0 (L0 l0 kq x3_1 x4_1) ∧ Aside0 (Kd.R k30 30 w' w.heap.size (fun _ => True) v3 x3_1) ∧ Aside0 (Below w.heap.size w w'))
  case atStart => exact ⟨[], 0, rfl, ⟨L0.start l0⟩, ⟨Kd.R_nil _ _ _ _ _⟩, ⟨HB.out⟩⟩
  case round =>
    obtain ⟨x3_1, x4_1, rfl, HA, HO_3, HB⟩ := hrel
    by_cases c2 : x4_1 < (l0.length : Int)
    · have c2b0 : decide (x4_1 < (l0.length : Int)) = true := decide_eq_true c2
      have c3b0 : decide (0 ≤ x4_1) = true := decide_eq_true HA.out.lo
      obtain ⟨k1, rfl⟩ : ∃ k1, gk = k1 + 1 := ⟨gk - 1, by have := HA.out.m; have := HA.out.lo; omega⟩
      have LMc4 := Aside0.mk (show x3_1.length < 1466015503701 by have := HA.out.len; have := HN.out; omega)
      have HA' := Aside0.mk (HA.out.next HN.out c2)
      obtain ⟨y105, hy105⟩ : ∃ y_ : List (S30), y_ = (x3_1 ++ [(⟨(rd_T30 l0 x4_1).f0, (⟨(rd_T30 l0 x4_1).f1.f0, (rd_T30 l0 x4_1).f1.f1⟩ : S24), (⟨(rd_T30 l0 x4_1).f2.f0, (rd_T30 l0 x4_1).f2.f1⟩ : S24), (rd_T30 l0 x4_1).f3, (rd_T30 l0 x4_1).f4, (rd_T30 l0 x4_1).f5⟩ : S30)]) := ⟨_, rfl⟩
      replace HA' : Aside0 (L0 l0 k1 y105 (wrap64 (x4_1 + 1))) := by rw [hy105]; exact HA'
      have Ny105 := Aside0.mk hy105
      have p104 : 0 ≤ (x4_1 : Int) := HA.out.lo
      have q104 : x4_1 < (l0.length : Int) := c2
      clear hy105 HA c2
      obtain ⟨ad104, e104, hx104_0, hx104_1, hx104_2, hx104_3, hx104_4, hx104_5, hx104_6, hx104_7⟩ := at_T30 HR0.out x4_1 p104 q104
      cases e104
      replace hx104_0 := (HB.out.cell (World.block_lt_of_cell? w _ hx104_0)).trans hx104_0
      replace hx104_1 := (HB.out.cell (World.block_lt_of_cell? w _ hx104_1)).trans hx104_1
      replace hx104_2 := (HB.out.cell (World.block_lt_of_cell? w _ hx104_2)).trans hx104_2
      replace hx104_3 := (HB.out.cell (World.block_lt_of_cell? w _ hx104_3)).trans hx104_3
      replace hx104_4 := (HB.out.cell (World.block_lt_of_cell? w _ hx104_4)).trans hx104_4
      replace hx104_5 := (HB.out.cell (World.block_lt_of_cell? w _ hx104_5)).trans hx104_5
      replace hx104_6 := (HB.out.cell (World.block_lt_of_cell? w _ hx104_6)).trans hx104_6
      replace hx104_7 := (HB.out.cell (World.block_lt_of_cell? w _ hx104_7)).trans hx104_7
      replace p104 := eq_true p104
      replace q104 := eq_true q104
      go_wp2_with (first | ((with_reducible refine gate_builtin (b := .append) (xs := #[.tmp 12, .tmp 17]) rfl ?_); at_builtin; refine Kd.R_append k30 (w0 := w) w.heap.size rfl (.tmp 12) (.tmp 17) 22 30 (.agg #[(.int .i64 0), (.string ⟨#[]⟩), (.string ⟨#[]⟩), (.string ⟨#[]⟩), (.string ⟨#[]⟩), (.string ⟨#[]⟩), (.bool false), (.bool false)]) 96 rfl Try.underlying22 info30 rfl (by decide) (by omega) u3 x3_1 (⟨(rd_T30 l0 x4_1).f0, (⟨(rd_T30 l0 x4_1).f1.f0, (rd_T30 l0 x4_1).f1.f1⟩ : S24), (⟨(rd_T30 l0 x4_1).f2.f0, (rd_T30 l0 x4_1).f2.f1⟩ : S24), (rd_T30 l0 x4_1).f3, (rd_T30 l0 x4_1).f4, (rd_T30 l0 x4_1).f5⟩ : S30) [.int .i64 ((rd_T30 l0 x4_1).f0), .string ((rd_T30 l0 x4_1).f1.f0), .string ((rd_T30 l0 x4_1).f1.f1), .string ((rd_T30 l0 x4_1).f2.f0), .string ((rd_T30 l0 x4_1).f2.f1), .string ((rd_T30 l0 x4_1).f3), .bool ((rd_T30 l0 x4_1).f4), .bool ((rd_T30 l0 x4_1).f5)] (fun _ => True) (fun _ => False) rfl rfl ?aP (fun _ hk => hk.elim) ?aF ?aO ?aB ?aS ?aL ?_; (case aP => exact k30_mkM _ _ _ (⟨(rd_T30 l0 x4_1).f0, (⟨(rd_T30 l0 x4_1).f1.f0, (rd_T30 l0 x4_1).f1.f1⟩ : S24), (⟨(rd_T30 l0 x4_1).f2.f0, (rd_T30 l0 x4_1).f2.f1⟩ : S24), (rd_T30 l0 x4_1).f3, (rd_T30 l0 x4_1).f4, (rd_T30 l0 x4_1).f5⟩ : S30)); (case aB => exact (by repeat (first | (with_reducible first | exact HB.out | apply below_alloc | apply pw_below_drewN | apply below_drew1) | exact HB.out))); (case aF => exact (fun _ _ => trivial)); (case aO => exact (by (with_reducible repeat (first | apply Kd.R_alloc | apply Kd.R_drewN | apply Kd.R_drew)); exact HO_3.out)); (case aS => exact (below_size (by repeat (first | (with_reducible first | exact HB.out | apply below_alloc | apply pw_below_drewN | apply below_drew1) | exact HB.out)))); (case aL => have := LMc4.out; omega); intro v106 w5 ho hb hg hat; rw [← Ny105.out] at ho; have n0_ := Aside0.mk (hb); have n1_ := Aside0.mk (ho); clear HB; clear HO_3; have HB := n0_; have HO107 := n1_; clear n0_ n1_; clear ho hb hg hat))
      go_roundg k1
      case measure => omega
      case rel => exact ⟨y105, (wrap64 (x4_1 + 1)), (by first | rfl | (simp; done) | (simp [*]; done)), HA', ⟨by (with_reducible repeat (first | apply Kd.R_alloc | apply Kd.R_drewN | apply Kd.R_drew)); exact HO107.out⟩, ⟨by repeat (first | (with_reducible first | exact HB.out | apply below_alloc | apply pw_below_drewN | apply below_drew1) | exact HB.out)⟩⟩
    · have c2b0 : decide (x4_1 < (l0.length : Int)) = false := decide_eq_false c2
      have H' := Aside0.mk (HA.out.last c2)
      clear c2 HA
      go_wp2
      go_loopg [3, 5] 24 (fun kq v3 v5 w' => ∃ (x3_2 : List (S30)) (x5_2 : Int), v5 = .int .i64 x5_2 ∧ Aside0 (L1 l0 kq x3_2 x5_2) ∧ Aside0 (Kd.R k30 30 w' w.heap.size (fun _ => True) v3 x3_2) ∧ Aside0 (Below w.heap.size w w'))
      case atStart => exact ⟨x3_1, 0, rfl, H', ⟨by (with_reducible repeat (first | apply Kd.R_alloc | apply Kd.R_drewN | apply Kd.R_drew)); exact HO_3.out⟩, ⟨by repeat (first | (with_reducible first | exact HB.out | apply below_alloc | apply pw_below_drewN | apply below_drew1) | exact HB.out)⟩⟩
      case round =>
        clear H' c2b0
        obtain ⟨x3_2, x5_2, rfl, HA, HO_3, HB⟩ := hrel
        by_cases c6 : x5_2 < 24
        · have c6b0 : decide (x5_2 < 24) = true := decide_eq_true c6
          obtain ⟨k2, rfl⟩ : ∃ k2, gk = k2 + 1 := ⟨gk - 1, by have := HA.out.m; have := HA.out.lo; omega⟩
          have LMc8 := Aside0.mk (show x3_2.length < 1466015503701 by have := HA.out.len; have := HN.out; omega)
          have HA' := Aside0.mk (HA.out.next c6)
          have A7 := Aside0.mk (mkT_f x5_2)
          obtain ⟨t108, ht108⟩ : ∃ t, t = mkT x5_2 := ⟨_, rfl⟩
          replace A7 : Aside0 (latchkeykit_markText.f 1 x5_2 = some t108) := by rw [ht108]; exact A7
          obtain ⟨y109, hy109⟩ : ∃ y_ : List (S30), y_ = (x3_2 ++ [(⟨(-7), (⟨(⟨#[]⟩ : ByteArray), (⟨#[]⟩ : ByteArray)⟩ : S24), (⟨(⟨#[]⟩ : ByteArray), (⟨#[]⟩ : ByteArray)⟩ : S24), t108, false, false⟩ : S30)]) := ⟨_, rfl⟩
          replace HA' : Aside0 (L1 l0 k2 y109 (wrap64 (x5_2 + 1))) := by rw [hy109, ht108]; exact HA'
          have Ny109 := Aside0.mk hy109
          clear hy109 ht108 HA c6
          go_wp2_with (first | ((with_reducible refine gate_callee (f := 11) rfl ?_); refine goesL_ (some 25) rfl rfl Try.func11 (by kernel_rfl) rfl #[.int .i64 1, .int .i64 x5_2] rfl (by (try simp only [List.map_toArray, List.map_cons, List.map_nil]); first | done | rfl | (simp only [List.length_drop, List.length_take]; rfl)) ?_; (with_reducible refine (latchkeykit_markText.calls 1 x5_2 t108 _ A7.out).mono ?_); rintro e w9 ⟨rfl, hb⟩; refine ⟨_, rfl, ?_⟩; have n0_ := Aside0.mk (Kd.R_below (by (with_reducible repeat (first | apply Kd.R_alloc | apply Kd.R_drewN | apply Kd.R_drew)); exact HO_3.out) hb); have n1_ := Aside0.mk (below_step (by repeat (first | (with_reducible first | exact HB.out | apply below_alloc | apply pw_below_drewN | apply below_drew1) | exact HB.out)) hb); clear HO_3; clear HB; have HO_3 := n0_; have HB := n1_; clear n0_ n1_; (try clear hb); (try clear hb2); (try clear hk); (try clear hi)) | ((with_reducible refine gate_builtin (b := .append) (xs := #[.tmp 23, .tmp 27]) rfl ?_); at_builtin; refine Kd.R_append k30 (w0 := w) w.heap.size rfl (.tmp 23) (.tmp 27) 22 30 (.agg #[(.int .i64 0), (.string ⟨#[]⟩), (.string ⟨#[]⟩), (.string ⟨#[]⟩), (.string ⟨#[]⟩), (.string ⟨#[]⟩), (.bool false), (.bool false)]) 96 rfl Try.underlying22 info30 rfl (by decide) (by omega) u3 x3_2 (⟨(-7), (⟨(⟨#[]⟩ : ByteArray), (⟨#[]⟩ : ByteArray)⟩ : S24), (⟨(⟨#[]⟩ : ByteArray), (⟨#[]⟩ : ByteArray)⟩ : S24), t108, false, false⟩ : S30) [.int .i64 (-7), .string (⟨#[]⟩ : ByteArray), .string (⟨#[]⟩ : ByteArray), .string (⟨#[]⟩ : ByteArray), .string (⟨#[]⟩ : ByteArray), .string t108, .bool false, .bool false] (fun _ => True) (fun _ => False) rfl rfl ?aP (fun _ hk => hk.elim) ?aF ?aO ?aB ?aS ?aL ?_; (case aP => exact k30_mkM _ _ _ (⟨(-7), (⟨(⟨#[]⟩ : ByteArray), (⟨#[]⟩ : ByteArray)⟩ : S24), (⟨(⟨#[]⟩ : ByteArray), (⟨#[]⟩ : ByteArray)⟩ : S24), t108, false, false⟩ : S30)); (case aB => exact (by repeat (first | (with_reducible first | exact HB.out | apply below_alloc | apply pw_below_drewN | apply below_drew1) | exact HB.out))); (case aF => exact (fun _ _ => trivial)); (case aO => exact (by (with_reducible repeat (first | apply Kd.R_alloc | apply Kd.R_drewN | apply Kd.R_drew)); exact HO_3.out)); (case aS => exact (below_size (by repeat (first | (with_reducible first | exact HB.out | apply below_alloc | apply pw_below_drewN | apply below_drew1) | exact HB.out)))); (case aL => have := LMc8.out; omega); intro v110 w10 ho hb hg hat; rw [← Ny109.out] at ho; have n0_ := Aside0.mk (hb); have n1_ := Aside0.mk (ho); clear HB; clear HO_3; have HB := n0_; have HO111 := n1_; clear n0_ n1_; clear ho hb hg hat))
          go_roundg k2
          case measure => omega
          case rel => exact ⟨(y109), (wrap64 (x5_2 + 1)), (by first | rfl | (simp; done) | (simp [*]; done)), HA', ⟨by (with_reducible repeat (first | apply Kd.R_alloc | apply Kd.R_drewN | apply Kd.R_drew)); exact HO111.out⟩, ⟨by repeat (first | (with_reducible first | exact HB.out | apply below_alloc | apply pw_below_drewN | apply below_drew1) | exact HB.out)⟩⟩
        · have c6b0 : decide (x5_2 < 24) = false := decide_eq_false c6
          have H' := Aside0.mk (HA.out.last c6)
          have HL := Aside0.mk (show x3_2.length = l0.length + 24 by have := HA.out.len; have := HA.out.hi; omega)
          clear HA c6
          obtain ⟨Ao13, co13, eo13, hco13, hC13⟩ := Kd.R_reads HO_3.out
          subst eo13
          obtain ⟨i014, hi014, _, hsz14, _⟩ := info_parts info30
          have hcut14 := cut_to (P := Try.prog) 22 30 .i64 Try.underlying22 hi014 Ao13 x3_2.length co13 (l0.length : Int) (by omega) (by have := HL.out; omega) hco13
          have q12 : decide ((l0.length : Int) ≤ (x3_2.length : Int)) = true := decide_eq_true (by have := HL.out; omega)
          have HC13 := Aside0.mk hC13
          have HCO := Aside0.mk hco13
          rw [Int.toNat_natCast] at hcut14
          clear hi014 hsz14 HO_3 hC13 hco13
          go_wp2
          go_ret
          refine ⟨Ao13, co13, rfl, by have := HCO.out; have := HL.out; omega, ?_, HB.out⟩
          rw [← HL.out, ← H'.out]
          exact HC13.out
end Go.Proofs.Ytopedblofdjklaa.PRoutesPicks
