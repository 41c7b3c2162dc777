/- 'RoutesPicks(l, p)' returns true, whatever l and p are: the walk of the law, out of its callees' contracts. -/
import Derived.Test.YtopedblofdjklaaKept
import Derived.Test.YtopedblofdjklaaPick
namespace Go.Proofs.Ytopedblofdjklaa.PRoutesPicks
open Go.RowKit Go.Proofs.YtopedblofdjklaaW.PrintWords Go.Proofs.YtopedblofdjklaaW.PrintLast Go.Proofs.YtopedblofdjklaaW.PrintMore
attribute [local go_sem] max2_int min2_int max_two min_two max_three min_three max_four min_four
attribute [local go_sem high] eqA24 eqA30
set_option linter.unusedVariables false
set_option linter.unusedSimpArgs false

theorem into_l0 (l : List S30) (p0 p1 : ByteArray) (hn : l.length ≤ 1466015503658) (d : Nat) : ∀ (k : Nat) (x : List S30) (i : Int), 0 ≤ i → i.toNat + d = l.length → d < k → x = (l.take i.toNat).filter (isTo p0 p1) →
    latchkeyref19_Into.l0 k l x i p0 p1 = some (l.filter (isTo p0 p1)) := by
  induction d with
  | zero =>
    intro k x i h0 hd hk hx
    obtain ⟨k, rfl⟩ : ∃ m, k = m + 1 := ⟨k - 1, by omega⟩
    simp only [latchkeyref19_Into.l0]
    rw [if_neg (by omega), hx, List.take_of_length_le (by omega)]
  | succ d ih =>
    intro k x i h0 hd hk hx
    obtain ⟨k, rfl⟩ : ∃ m, k = m + 1 := ⟨k - 1, by omega⟩
    have hlt : i < (l.length : Int) := by omega
    have hl : x.length ≤ l.length := by
      rw [hx]
      exact Nat.le_trans (List.length_filter_le _ _) (by rw [List.length_take]; omega)
    simp only [latchkeyref19_Into.l0]
    rw [if_pos hlt, if_pos h0, pwrap_up h0 hlt (by omega)]
    cases hp : isTo p0 p1 (rd_T30 l i) with
    | true =>
      rw [if_pos (by exact hp), if_pos (by omega)]
      refine ih k _ (i + 1) (by omega) (by omega) (by omega) ?_
      rw [ptake_up l i h0 hlt, List.filter_append, ← hx]
      simp [hp]
    | false =>
      rw [if_neg (by show ¬ isTo p0 p1 (rd_T30 l i) = true; rw [hp]; decide)]
      refine ih k _ (i + 1) (by omega) (by omega) (by omega) ?_
      rw [ptake_up l i h0 hlt, List.filter_append, ← hx]
      simp [hp]
theorem out_l0 (l : List S30) (p0 p1 : ByteArray) (hn : l.length ≤ 1466015503658) (d : Nat) : ∀ (k : Nat) (x : List S30) (i : Int), 0 ≤ i → i.toNat + d = l.length → d < k → x = (l.take i.toNat).filter (isFrom p0 p1) →
    latchkeyref19_Out.l0 k l x i p0 p1 = some (l.filter (isFrom p0 p1)) := by
  induction d with
  | zero =>
    intro k x i h0 hd hk hx
    obtain ⟨k, rfl⟩ : ∃ m, k = m + 1 := ⟨k - 1, by omega⟩
    simp only [latchkeyref19_Out.l0]
    rw [if_neg (by omega), hx, List.take_of_length_le (by omega)]
  | succ d ih =>
    intro k x i h0 hd hk hx
    obtain ⟨k, rfl⟩ : ∃ m, k = m + 1 := ⟨k - 1, by omega⟩
    have hlt : i < (l.length : Int) := by omega
    have hl : x.length ≤ l.length := by
      rw [hx]
      exact Nat.le_trans (List.length_filter_le _ _) (by rw [List.length_take]; omega)
    simp only [latchkeyref19_Out.l0]
    rw [if_pos hlt, if_pos h0, pwrap_up h0 hlt (by omega)]
    cases hp : isFrom p0 p1 (rd_T30 l i) with
    | true =>
      rw [if_pos (by exact hp), if_pos (by omega)]
      refine ih k _ (i + 1) (by omega) (by omega) (by omega) ?_
      rw [ptake_up l i h0 hlt, List.filter_append, ← hx]
      simp [hp]
    | false =>
      rw [if_neg (by show ¬ isFrom p0 p1 (rd_T30 l i) = true; rw [hp]; decide)]
      refine ih k _ (i + 1) (by omega) (by omega) (by omega) ?_
      rw [ptake_up l i h0 hlt, List.filter_append, ← hx]
      simp [hp]
theorem same_l0 (l : List S30) (hn : l.length ≤ 1466015503658) (d : Nat) : ∀ (k : Nat) (i : Int), 0 ≤ i → i.toNat + d = l.length → d < k → latchkeyref00_SameEdges.l0 k l l i = some true := by
  induction d with
  | zero =>
    intro k i h0 hd hk
    obtain ⟨k, rfl⟩ : ∃ m, k = m + 1 := ⟨k - 1, by omega⟩
    simp only [latchkeyref00_SameEdges.l0]
    rw [if_neg (by omega)]
  | succ d ih =>
    intro k i h0 hd hk
    obtain ⟨k, rfl⟩ : ∃ m, k = m + 1 := ⟨k - 1, by omega⟩
    have hlt : i < (l.length : Int) := by omega
    simp only [latchkeyref00_SameEdges.l0]
    rw [if_pos hlt, if_pos h0, if_pos hlt, if_pos (by simp), pwrap_up h0 hlt (by omega)]
    exact ih k (i + 1) (by omega) (by omega) (by omega)
theorem into_f (l : List S30) (p0 p1 : ByteArray) (hn : l.length ≤ 1466015503658) : latchkeyref19_Into.f (l.length + 1) l p0 p1 = some (l.filter (isTo p0 p1)) :=
  into_l0 l p0 p1 hn l.length _ _ 0 (by omega) (by simp) (by omega) (by simp)
theorem out_f (l : List S30) (p0 p1 : ByteArray) (hn : l.length ≤ 1466015503658) : latchkeyref19_Out.f (l.length + 1) l p0 p1 = some (l.filter (isFrom p0 p1)) :=
  out_l0 l p0 p1 hn l.length _ _ 0 (by omega) (by simp) (by omega) (by simp)
theorem same_f (l : List S30) (hn : l.length ≤ 1466015503658) : latchkeyref00_SameEdges.f (l.length + 1) l l = some true := by
  unfold latchkeyref00_SameEdges.f
  rw [if_pos rfl]
  exact same_l0 l hn l.length _ 0 (by omega) (by simp) (by omega)

theorem ref_into (A0 : Option Addr) (c0 : Nat) (l : List S30) (p0 p1 : ByteArray) (w : World) (hr : Kd.C k30 w A0 l.length l) (hc : l.length ≤ c0) (hn : l.length ≤ 1466015503658) :
    Calls Try.prog 8 #[.slice A0 l.length c0, .agg #[.string p0, .string p1]] w (Picks l (isTo p0 p1) w) :=
  (latchkeyref19_Into.calls _ A0 c0 l p0 p1 _ w hr hc (into_f l p0 p1 hn)).mono fun _ _ h => ⟨h⟩
theorem ref_out (A0 : Option Addr) (c0 : Nat) (l : List S30) (p0 p1 : ByteArray) (w : World) (hr : Kd.C k30 w A0 l.length l) (hc : l.length ≤ c0) (hn : l.length ≤ 1466015503658) :
    Calls Try.prog 9 #[.slice A0 l.length c0, .agg #[.string p0, .string p1]] w (Picks l (isFrom p0 p1) w) :=
  (latchkeyref19_Out.calls _ A0 c0 l p0 p1 _ w hr hc (out_f l p0 p1 hn)).mono fun _ _ h => ⟨h⟩
theorem ref_same (A : Option Addr) (c : Nat) (A0 : Option Addr) (c0 : Nat) (l : List S30) (w : World) (hr : Kd.C k30 w A l.length l) (hc : l.length ≤ c) (hr0 : Kd.C k30 w A0 l.length l) (hc0 : l.length ≤ c0) (hn : l.length ≤ 1466015503658) :
    Calls Try.prog 7 #[.slice A l.length c, .slice A0 l.length c0] w fun e w' => e = .returned (.bool true) ∧ Below w.heap.size w w' :=
  (latchkeyref00_SameEdges.calls _ A c l A0 c0 l true w hr hc hr0 hc0 (same_f l hn)).mono fun _ _ h => ⟨h.1, h.2.below⟩

set_option maxHeartbeats 8000000 in
set_option maxRecDepth 100000 in
theorem law_any (A0 : Option Addr) (c0 : Nat) (l : List S30) (p0 p1 : ByteArray) (w : World) (hr0 : Kd.C k30 w A0 l.length l) (hc0 : l.length ≤ c0) (hn : l.length ≤ 1466015503658) :
    Calls Try.prog 3 #[.slice A0 l.length c0, .agg #[.string p0, .string p1]] w fun e w' => e = .returned (.bool true) ∧ Below w.heap.size w w' := by
  have HR0 := Aside0.mk hr0
  have HC0 := Aside0.mk hc0
  have HN := Aside0.mk hn
  clear hr0 hc0 hn
  go_enter Try.func3, Try.ntmps3
  go_wp2_with fail
  have HB := Aside0.mk ((Below.refl w.heap.size w).alloc (Nat.le_refl _) (.cells #[.string p0, .string p1] 24))
  have BK := Aside0.mk (heap_alloc_new w (.cells #[.string p0, .string p1] 24))
  generalize hw0 : w.alloc (.cells #[.string p0, .string p1] 24) = w0 at HB BK ⊢
  clear hw0
  refine (lent_calls A0 c0 l w0 (Kd.C_below HR0.out HB.out) HC0.out HN.out).mono ?_
  rintro e w1 ⟨A, c, rfl, hc, hC, hb⟩
  have HCc := Aside0.mk hc
  have HCC := Aside0.mk hC
  have GLT0 : w.heap.size < w0.heap.size := by
    rcases Nat.lt_or_ge w.heap.size w0.heap.size with h | h
    · exact h
    · have h2 := BK.out; rw [Array.getElem?_eq_none h] at h2; cases h2
  have BK1 := Aside0.mk ((hb.block _ GLT0).trans BK.out)
  have GLT := Aside0.mk (Nat.lt_of_lt_of_le GLT0 hb.size)
  have HB1 := Aside0.mk (below_step HB.out hb)
  have HCl := Aside0.mk (show Kd.C k30 w1 A l.length l by
    refine ⟨rfl, by have := HN.out; omega, fun h => ?_⟩
    obtain ⟨ad, e, hh⟩ := hC.2.2 (by omega)
    exact ⟨ad, e, fun j p hj => hh j p (by rw [List.getElem?_append_left (List.getElem?_eq_some_iff.1 hj).1]; exact hj)⟩)
  clear hc hC hb HB BK GLT0
  have y0 : w1.cell? ⟨w.heap.size, 0, none⟩ = some (.string p0) := (blk_cell BK1.out 0).trans rfl
  have y1 : w1.cell? ⟨w.heap.size, 1, none⟩ = some (.string p1) := (blk_cell BK1.out 1).trans rfl
  go_wp2_with fail
  refine (into_calls A c l p0 p1 w1 HCl.out (by have := HCc.out; omega) HN.out).mono ?_
  rintro e w2 ⟨v2, rfl, hR, hb⟩
  have HR2 := Aside0.mk hR
  have HB2 := Aside0.mk (below_step HB1.out hb)
  have HCC2 := Aside0.mk (Kd.C_below HCC.out hb)
  have HCl2 := Aside0.mk (Kd.C_below HCl.out hb)
  have BK2 := Aside0.mk ((hb.block _ GLT.out).trans BK1.out)
  have GLT2 := Aside0.mk (Nat.lt_of_lt_of_le GLT.out hb.size)
  clear hR hb HB1 HCC HCl BK1 GLT y0 y1
  have y0 : w2.cell? ⟨w.heap.size, 0, none⟩ = some (.string p0) := (blk_cell BK2.out 0).trans rfl
  have y1 : w2.cell? ⟨w.heap.size, 1, none⟩ = some (.string p1) := (blk_cell BK2.out 1).trans rfl
  go_wp2_with fail
  refine (out_calls A c l p0 p1 w2 HCl2.out (by have := HCc.out; omega) HN.out).mono ?_
  rintro e w3 ⟨v3, rfl, hR, hb⟩
  have HR3 := Aside0.mk hR
  have HR2' := Aside0.mk (Kd.R_below HR2.out hb)
  have HB3 := Aside0.mk (below_step HB2.out hb)
  have HCC3 := Aside0.mk (Kd.C_below HCC2.out hb)
  have BK3 := Aside0.mk ((hb.block _ GLT2.out).trans BK2.out)
  have GLT3 := Aside0.mk (Nat.lt_of_lt_of_le GLT2.out hb.size)
  clear hR hb HB2 HCC2 HCl2 BK2 GLT2 HR2 y0 y1
  have y0 : w3.cell? ⟨w.heap.size, 0, none⟩ = some (.string p0) := (blk_cell BK3.out 0).trans rfl
  have y1 : w3.cell? ⟨w.heap.size, 1, none⟩ = some (.string p1) := (blk_cell BK3.out 1).trans rfl
  go_wp2_with fail
  have HC03 := Aside0.mk (Kd.C_below HR0.out HB3.out)
  refine (ref_into A0 c0 l p0 p1 w3 HC03.out HC0.out HN.out).mono ?_
  rintro e w4 ⟨v4, rfl, hR, hb⟩
  have HR24 := Aside0.mk (Kd.R_below HR2'.out hb)
  have HR34 := Aside0.mk (Kd.R_below HR3.out hb)
  have HB4 := Aside0.mk (below_step HB3.out hb)
  have HCC4 := Aside0.mk (Kd.C_below HCC3.out hb)
  have BK4 := Aside0.mk ((hb.block _ GLT3.out).trans BK3.out)
  have GLT4 := Aside0.mk (Nat.lt_of_lt_of_le GLT3.out hb.size)
  obtain ⟨A2, c2, e2, hc2, hC2⟩ := Kd.R_reads HR24.out
  obtain ⟨A4, c4, e4, hc4, hC4⟩ := Kd.R_reads hR
  subst e2
  subst e4
  have HQ2 := Aside0.mk hc2
  have HQC2 := Aside0.mk hC2
  have HQ4 := Aside0.mk hc4
  have HQC4 := Aside0.mk hC4
  have HF := Aside0.mk (show (l.filter (isTo p0 p1)).length ≤ 1466015503658 from Nat.le_trans (List.length_filter_le _ _) HN.out)
  clear hR hb HR2' HR3 HB3 HCC3 BK3 GLT3 hc2 hC2 hc4 hC4 y0 y1 HC03
  go_wp2_with fail
  refine (ref_same A2 c2 A4 c4 _ w4 HQC2.out HQ2.out HQC4.out HQ4.out HF.out).mono ?_
  rintro e w5 ⟨rfl, hb⟩
  have HR35 := Aside0.mk (Kd.R_below HR34.out hb)
  have HB5 := Aside0.mk (below_step HB4.out hb)
  have HCC5 := Aside0.mk (Kd.C_below HCC4.out hb)
  have BK5 := Aside0.mk ((hb.block _ GLT4.out).trans BK4.out)
  clear hb HR24 HR34 HB4 HCC4 BK4 GLT4 HQ2 HQC2 HQ4 HQC4 HF
  have y0 : w5.cell? ⟨w.heap.size, 0, none⟩ = some (.string p0) := (blk_cell BK5.out 0).trans rfl
  have y1 : w5.cell? ⟨w.heap.size, 1, none⟩ = some (.string p1) := (blk_cell BK5.out 1).trans rfl
  go_wp2_with fail
  have HC05 := Aside0.mk (Kd.C_below HR0.out HB5.out)
  refine (ref_out A0 c0 l p0 p1 w5 HC05.out HC0.out HN.out).mono ?_
  rintro e w6 ⟨v6, rfl, hR, hb⟩
  have HR36 := Aside0.mk (Kd.R_below HR35.out hb)
  have HB6 := Aside0.mk (below_step HB5.out hb)
  have HCC6 := Aside0.mk (Kd.C_below HCC5.out hb)
  obtain ⟨A3, c3, e3, hc3, hC3⟩ := Kd.R_reads HR36.out
  obtain ⟨A6, c6, e6, hc6, hC6⟩ := Kd.R_reads hR
  subst e3
  subst e6
  have HQ3 := Aside0.mk hc3
  have HQC3 := Aside0.mk hC3
  have HQ6 := Aside0.mk hc6
  have HQC6 := Aside0.mk hC6
  have HF := Aside0.mk (show (l.filter (isFrom p0 p1)).length ≤ 1466015503658 from Nat.le_trans (List.length_filter_le _ _) HN.out)
  clear hR hb HR35 HB5 HCC5 BK5 hc3 hC3 hc6 hC6 y0 y1 HC05
  go_wp2_with fail
  refine (ref_same A3 c3 A6 c6 _ w6 HQC3.out HQ3.out HQC6.out HQ6.out HF.out).mono ?_
  rintro e w7 ⟨rfl, hb⟩
  have HB7 := Aside0.mk (below_step HB6.out hb)
  have HCC7 := Aside0.mk (Kd.C_below HCC6.out hb)
  clear hb HR36 HB6 HCC6 HQ3 HQC3 HQ6 HQC6 HF
  go_wp2_with fail
  have HC07 := Aside0.mk (Kd.C_below HR0.out HB7.out)
  refine (kept_calls A c A0 c0 l w7 HCC7.out HCc.out HC07.out HN.out).mono ?_
  rintro e w8 ⟨rfl, hb⟩
  have HB8 := Aside0.mk (below_step HB7.out hb)
  clear hb HB7 HCC7 HC07
  go_wp2
  go_ret
  exact ⟨rfl, HB8.out⟩
end Go.Proofs.Ytopedblofdjklaa.PRoutesPicks
