/- 'KeptEdges(out, l)' answers true where out is what LentEdges(l) answered and nothing of it has turned. -/
import Derived.Test.YtopedblofdjklaaLent
namespace Go.Proofs.Ytopedblofdjklaa.PRoutesPicks
open Go.RowKit Go.Proofs.YtopedblofdjklaaW.PrintWords Go.Proofs.YtopedblofdjklaaW.PrintLast Go.Proofs.YtopedblofdjklaaW.PrintMore
attribute [local go_sem] max2_int min2_int max_two min_two max_three min_three max_four min_four
attribute [local go_sem high] eqA24 eqA30
set_option linter.unusedVariables false
set_option linter.unusedSimpArgs false

def latchkeykit_KeptEdges.T7 : Bool × List (List Nat × List Nat) := (true, [([], []), ([], []), ([1], [1]), ([0, 2], [0, 2]), ([3], [3]), ([4], [4]), ([4], [4]), ([5, 6, 4], [4, 5, 6]), ([7, 4], [4, 7]), ([4], [4]), ([4], [4]), ([9, 10, 4], [4, 9, 10]), ([11, 4], [4, 11]), ([8, 12, 4], [4, 8, 12]), ([13, 4], [4, 13]), ([4, 14], [4, 14]), ([15, 4], [15]), ([16], [16]), ([16], [16]), ([18, 16], [16, 18]), ([17, 19, 16], [16, 17, 19]), ([20, 16, 16], [16, 20]), ([21], [21]), ([21], [21]), ([22, 23, 21], [21, 22, 23]), ([24, 21], [21, 24]), ([21], [21]), ([21], [21]), ([27, 21], [21, 27]), ([26, 28, 21], [21, 26, 28]), ([29, 21, 21], [21, 29]), ([30, 21], [21, 30]), ([25, 31, 21], [21, 25, 31]), ([21, 32, 16], [16, 21, 32]), ([16, 33], [16, 33])])
def latchkeykit_KeptEdges.B7 : List Nat := [0, 0, 2, 7, 15, 31, 31, 127, 255, 31, 31, 1567, 3615, 8191, 16383, 32767, 65535, 131071, 131071, 393215, 1048575, 2097151, 4194303, 4194303, 16777215, 33554431, 4194303, 4194303, 138412031, 473956351, 1010827263, 2084569087, 4294967295, 8589934591, 17179869183]
theorem latchkeykit_KeptEdges.tab7 : rtab .any (opsOf Try.f10 7) = latchkeykit_KeptEdges.T7 := by kernel_rfl
theorem latchkeykit_KeptEdges.bits7 : waitsOk latchkeykit_KeptEdges.T7.2 latchkeykit_KeptEdges.B7 = true := by kernel_rfl
theorem rd_left (l m : List S30) (i : Int) (h0 : 0 ≤ i) (h : i < (l.length : Int)) : rd_T30 (l ++ m) i = rd_T30 l i := by
  have h2 : i.toNat < l.length := by omega
  simp [rd_T30, List.getD, List.getElem?_append_left h2]
theorem rd_right (l : List S30) (n : Nat) (i : Int) (h0 : (l.length : Int) ≤ i) (h : i < (l.length : Int) + n) : rd_T30 (l ++ marks n) i = mkE (i - l.length) := by
  have h2 : l.length ≤ i.toNat := by omega
  have h3 : i.toNat - l.length < n := by omega
  simp only [rd_T30, List.getD, List.getElem?_append_right h2, marks, List.getElem?_map, List.getElem?_range h3, Option.map_some, Option.getD_some]
  congr 1
  omega

set_option maxHeartbeats 8000000 in
set_option maxRecDepth 100000 in
theorem kept_calls (A : Option Addr) (c : Nat) (A0 : Option Addr) (c0 : Nat) (l : List S30) (w : World) (hr : Kd.C k30 w A (l.length + 24) (l ++ marks 24)) (hc : l.length + 24 ≤ c) (hr0 : Kd.C k30 w A0 l.length l) (hn : l.length ≤ 1466015503658) :
    Calls Try.prog 10 #[.slice A l.length c, .slice A0 l.length c0] w fun e w' => e = .returned (.bool true) ∧ Below w.heap.size w w' := by
  have hu30 := Try.underlying30
  have HR := Aside0.mk hr
  have HR0 := Aside0.mk hr0
  have HN := Aside0.mk hn
  obtain ⟨i0, hi0, _, hsz0, _⟩ := info_parts info30
  have hcut : ∀ W : World, (Instr.slice 22 (.slice A l.length c) none (some (.int .i64 (l.length + 24))) none).run Try.prog W = .ok (.slice A (l.length + 24) c) W := by
    intro W
    have hel : Try.prog.elem 22 = 30 := by simp [Program.elem, Try.underlying22]
    have hu : Try.prog.underlying 22 = some (.slice (Try.prog.elem 22)) := by rw [hel]; exact Try.underlying22
    have ha : (A.map fun x => x.add 0) = A := by cases A <;> simp [Addr.add]
    rw [run_slice_h W 22 A l.length c hu .i64 _ (by omega) (by omega), hel]
    simp [sizeOf, typeInfo, hi0, sliced, Result.andThen, ha]
    omega
  clear hr hr0 hi0 hsz0
  have HB := Aside0.mk (Below.refl w.heap.size w)
  go_enter Try.func10, Try.ntmps10
  go_wp2
  go_loopg [6] (l.length + 24) (fun kq v6 w' => ∃ i : Int, v6 = .int .i64 i ∧ Aside0 (0 ≤ i ∧ i ≤ (l.length : Int) + 24 ∧ kq + i.toNat = l.length + 24) ∧ Aside0 (Below w.heap.size w w'))
  case atStart => exact ⟨0, rfl, ⟨by omega, by omega, by omega⟩, ⟨HB.out⟩⟩
  case round =>
    clear HB
    obtain ⟨i, rfl, HI, HB⟩ := hrel
    have hi0 : 0 ≤ i := HI.out.1
    have hn0 : (l.length : Int) ≤ 1466015503658 := by have := HN.out; omega
    have hi1 : i ≤ (l.length : Int) + 24 := HI.out.2.1
    by_cases c1 : i < (l.length : Int) + 24
    · obtain ⟨k1, rfl⟩ : ∃ k1, gk = k1 + 1 := ⟨gk - 1, by have := HI.out.2.2; omega⟩
      by_cases c2 : i < (l.length : Int)
      · obtain ⟨ad1, e1, aq0, aq1, aq2, aq3, aq4, aq5, aq6, aq7⟩ := at_T30 HR.out i hi0 (by omega)
        rw [rd_left l _ i hi0 c2] at aq0 aq1 aq2 aq3 aq4 aq5 aq6 aq7
        obtain ⟨ad2, e2, bq0, bq1, bq2, bq3, bq4, bq5, bq6, bq7⟩ := at_T30 HR0.out i hi0 c2
        cases e1
        cases e2
        have a0 : wr.cell? (ad1.add (i.toNat * 8)) = some (.int .i64 (rd_T30 l i).f0) := (HB.out.cell (World.block_lt_of_cell? w _ aq0)).trans aq0
        have a1 : wr.cell? ⟨(ad1.add (i.toNat * 8)).block, (ad1.add (i.toNat * 8)).off + 1, none⟩ = some (.string (rd_T30 l i).f1.f0) := (HB.out.cell (World.block_lt_of_cell? w _ aq1)).trans aq1
        have a2 : wr.cell? ⟨(ad1.add (i.toNat * 8)).block, (ad1.add (i.toNat * 8)).off + 2, none⟩ = some (.string (rd_T30 l i).f1.f1) := (HB.out.cell (World.block_lt_of_cell? w _ aq2)).trans aq2
        have a3 : wr.cell? ⟨(ad1.add (i.toNat * 8)).block, (ad1.add (i.toNat * 8)).off + 3, none⟩ = some (.string (rd_T30 l i).f2.f0) := (HB.out.cell (World.block_lt_of_cell? w _ aq3)).trans aq3
        have a4 : wr.cell? ⟨(ad1.add (i.toNat * 8)).block, (ad1.add (i.toNat * 8)).off + 4, none⟩ = some (.string (rd_T30 l i).f2.f1) := (HB.out.cell (World.block_lt_of_cell? w _ aq4)).trans aq4
        have a5 : wr.cell? ⟨(ad1.add (i.toNat * 8)).block, (ad1.add (i.toNat * 8)).off + 5, none⟩ = some (.string (rd_T30 l i).f3) := (HB.out.cell (World.block_lt_of_cell? w _ aq5)).trans aq5
        have a6 : wr.cell? ⟨(ad1.add (i.toNat * 8)).block, (ad1.add (i.toNat * 8)).off + 6, none⟩ = some (.bool (rd_T30 l i).f4) := (HB.out.cell (World.block_lt_of_cell? w _ aq6)).trans aq6
        have a7 : wr.cell? ⟨(ad1.add (i.toNat * 8)).block, (ad1.add (i.toNat * 8)).off + 7, none⟩ = some (.bool (rd_T30 l i).f5) := (HB.out.cell (World.block_lt_of_cell? w _ aq7)).trans aq7
        have b0 : wr.cell? (ad2.add (i.toNat * 8)) = some (.int .i64 (rd_T30 l i).f0) := (HB.out.cell (World.block_lt_of_cell? w _ bq0)).trans bq0
        have b1 : wr.cell? ⟨(ad2.add (i.toNat * 8)).block, (ad2.add (i.toNat * 8)).off + 1, none⟩ = some (.string (rd_T30 l i).f1.f0) := (HB.out.cell (World.block_lt_of_cell? w _ bq1)).trans bq1
        have b2 : wr.cell? ⟨(ad2.add (i.toNat * 8)).block, (ad2.add (i.toNat * 8)).off + 2, none⟩ = some (.string (rd_T30 l i).f1.f1) := (HB.out.cell (World.block_lt_of_cell? w _ bq2)).trans bq2
        have b3 : wr.cell? ⟨(ad2.add (i.toNat * 8)).block, (ad2.add (i.toNat * 8)).off + 3, none⟩ = some (.string (rd_T30 l i).f2.f0) := (HB.out.cell (World.block_lt_of_cell? w _ bq3)).trans bq3
        have b4 : wr.cell? ⟨(ad2.add (i.toNat * 8)).block, (ad2.add (i.toNat * 8)).off + 4, none⟩ = some (.string (rd_T30 l i).f2.f1) := (HB.out.cell (World.block_lt_of_cell? w _ bq4)).trans bq4
        have b5 : wr.cell? ⟨(ad2.add (i.toNat * 8)).block, (ad2.add (i.toNat * 8)).off + 5, none⟩ = some (.string (rd_T30 l i).f3) := (HB.out.cell (World.block_lt_of_cell? w _ bq5)).trans bq5
        have b6 : wr.cell? ⟨(ad2.add (i.toNat * 8)).block, (ad2.add (i.toNat * 8)).off + 6, none⟩ = some (.bool (rd_T30 l i).f4) := (HB.out.cell (World.block_lt_of_cell? w _ bq6)).trans bq6
        have b7 : wr.cell? ⟨(ad2.add (i.toNat * 8)).block, (ad2.add (i.toNat * 8)).off + 7, none⟩ = some (.bool (rd_T30 l i).f5) := (HB.out.cell (World.block_lt_of_cell? w _ bq7)).trans bq7
        clear aq0 aq1 aq2 aq3 aq4 aq5 aq6 aq7 bq0 bq1 bq2 bq3 bq4 bq5 bq6 bq7
        have d2 : decide (i < (l.length : Int)) = true := decide_eq_true c2
        have d3 : decide ((l.length : Int) ≤ i) = false := decide_eq_false (by omega)
        have HW := Aside0.mk (show wrap64 (i + 1) = i + 1 by unfold wrap64; omega)
        go_wp2
        go_quiet (fail)
        go_wp2
        go_roundg k1
        case measure => omega
        case rel => exact ⟨i + 1, rfl, ⟨by omega, by omega, by have := HI.out.2.2; omega⟩, ⟨by repeat (first | (with_reducible first | exact HB.out | apply below_alloc | apply pw_below_drewN | apply below_drew1) | exact HB.out)⟩⟩
      · obtain ⟨ad1, e1, aq0, aq1, aq2, aq3, aq4, aq5, aq6, aq7⟩ := at_T30 HR.out i hi0 (by omega)
        rw [rd_right l _ i (by omega) (by omega)] at aq0 aq1 aq2 aq3 aq4 aq5 aq6 aq7
        cases e1
        have a0 : wr.cell? (ad1.add (i.toNat * 8)) = some (.int .i64 (-7)) := (HB.out.cell (World.block_lt_of_cell? w _ aq0)).trans aq0
        have a1 : wr.cell? ⟨(ad1.add (i.toNat * 8)).block, (ad1.add (i.toNat * 8)).off + 1, none⟩ = some (.string ⟨#[]⟩) := (HB.out.cell (World.block_lt_of_cell? w _ aq1)).trans aq1
        have a2 : wr.cell? ⟨(ad1.add (i.toNat * 8)).block, (ad1.add (i.toNat * 8)).off + 2, none⟩ = some (.string ⟨#[]⟩) := (HB.out.cell (World.block_lt_of_cell? w _ aq2)).trans aq2
        have a3 : wr.cell? ⟨(ad1.add (i.toNat * 8)).block, (ad1.add (i.toNat * 8)).off + 3, none⟩ = some (.string ⟨#[]⟩) := (HB.out.cell (World.block_lt_of_cell? w _ aq3)).trans aq3
        have a4 : wr.cell? ⟨(ad1.add (i.toNat * 8)).block, (ad1.add (i.toNat * 8)).off + 4, none⟩ = some (.string ⟨#[]⟩) := (HB.out.cell (World.block_lt_of_cell? w _ aq4)).trans aq4
        have a5 : wr.cell? ⟨(ad1.add (i.toNat * 8)).block, (ad1.add (i.toNat * 8)).off + 5, none⟩ = some (.string (mkT (i - l.length))) := (HB.out.cell (World.block_lt_of_cell? w _ aq5)).trans aq5
        have a6 : wr.cell? ⟨(ad1.add (i.toNat * 8)).block, (ad1.add (i.toNat * 8)).off + 6, none⟩ = some (.bool false) := (HB.out.cell (World.block_lt_of_cell? w _ aq6)).trans aq6
        have a7 : wr.cell? ⟨(ad1.add (i.toNat * 8)).block, (ad1.add (i.toNat * 8)).off + 7, none⟩ = some (.bool false) := (HB.out.cell (World.block_lt_of_cell? w _ aq7)).trans aq7
        have hi2 : (l.length : Int) ≤ i := by omega
        have d2 : decide (i < (l.length : Int)) = false := decide_eq_false c2
        have d3 : decide ((l.length : Int) ≤ i) = true := decide_eq_true hi2
        have HMT := Aside0.mk (mkT_f (i - l.length))
        have hs1 : IntKind.i64.wrap (i - (l.length : Int)) = i - (l.length : Int) := IntWalk.i64_in _ (by omega)
        go_wp2
        have n0_ := Aside0.mk (below_drew1 HB.out)
        clear HB
        have HB := n0_
        clear n0_
        refine start_ (n := 35) (S := fun w' => w'.cell? (ad1.add (i.toNat * 8)) = some (.int .i64 ((-7))) ∧ w'.cell? ⟨(ad1.add (i.toNat * 8)).block, (ad1.add (i.toNat * 8)).off + 1, none⟩ = some (.string ⟨#[]⟩) ∧ w'.cell? ⟨(ad1.add (i.toNat * 8)).block, (ad1.add (i.toNat * 8)).off + 2, none⟩ = some (.string ⟨#[]⟩) ∧ w'.cell? ⟨(ad1.add (i.toNat * 8)).block, (ad1.add (i.toNat * 8)).off + 3, none⟩ = some (.string ⟨#[]⟩) ∧ w'.cell? ⟨(ad1.add (i.toNat * 8)).block, (ad1.add (i.toNat * 8)).off + 4, none⟩ = some (.string ⟨#[]⟩) ∧ w'.cell? ⟨(ad1.add (i.toNat * 8)).block, (ad1.add (i.toNat * 8)).off + 5, none⟩ = some (.string ((mkT (i - l.length)))) ∧ w'.cell? ⟨(ad1.add (i.toNat * 8)).block, (ad1.add (i.toNat * 8)).off + 6, none⟩ = some (.bool (false)) ∧ w'.cell? ⟨(ad1.add (i.toNat * 8)).block, (ad1.add (i.toNat * 8)).off + 7, none⟩ = some (.bool (false))) (ds := []) #[false, false, false, false, false, false, false, false, false, false, false, false, false, false, false, false, false, false, false, false, false, false, false, false, false, false, false, false, false, false, false, false, false, false, false] (by kernel_rfl) rfl rfl ⟨((HB.out.cell (World.block_lt_of_cell? w _ aq0)).trans aq0), ((HB.out.cell (World.block_lt_of_cell? w _ aq1)).trans aq1), ((HB.out.cell (World.block_lt_of_cell? w _ aq2)).trans aq2), ((HB.out.cell (World.block_lt_of_cell? w _ aq3)).trans aq3), ((HB.out.cell (World.block_lt_of_cell? w _ aq4)).trans aq4), ((HB.out.cell (World.block_lt_of_cell? w _ aq5)).trans aq5), ((HB.out.cell (World.block_lt_of_cell? w _ aq6)).trans aq6), ((HB.out.cell (World.block_lt_of_cell? w _ aq7)).trans aq7)⟩ (fun hHeld => ?_); refine with_tabW latchkeykit_KeptEdges.tab7 latchkeykit_KeptEdges.bits7 (fun HT_ HW_ => ?_)
        generalize wr.drew = w27 at HB a0 a1 a2 a3 a4 a5 a6 a7 hHeld ⊢
        refine pure_ (i := 0) (N := some 23) (v := ?_) (a' := ?_) #[true, false, false, false, false, false, false, false, false, false, false, false, false, false, false, false, false, false, false, false, false, false, false, false, false, false, false, false, false, false, false, false, false, false, false] rfl rfl (any_of HT_.out (by kernel_rfl)) (fun _ _ _ h => h) (Or.inl ⟨by rfl, ?_⟩) ?_ ?_
        rotate_left
        · intro w'
          go_simp
          with_reducible rfl
        rotate_left
        · simp only [Act.put, List.setIfInBounds_toArray, List.set_cons_zero, List.set_cons_succ, i64_w, i32_w]
          rfl
        refine pure_ (i := 1) (N := some 24) (v := ?_) (a' := ?_) #[true, true, false, false, false, false, false, false, false, false, false, false, false, false, false, false, false, false, false, false, false, false, false, false, false, false, false, false, false, false, false, false, false, false, false] rfl rfl (any_of HT_.out (by kernel_rfl)) (fun _ _ _ h => h) (Or.inl ⟨by rfl, ?_⟩) ?_ ?_
        rotate_left
        · intro w'
          go_simp
          with_reducible rfl
        rotate_left
        · simp only [Act.put, List.setIfInBounds_toArray, List.set_cons_zero, List.set_cons_succ, i64_w, i32_w]
          rfl
        refine pure_ (i := 2) (N := some 25) (v := ?_) (a' := ?_) #[true, true, true, false, false, false, false, false, false, false, false, false, false, false, false, false, false, false, false, false, false, false, false, false, false, false, false, false, false, false, false, false, false, false, false] rfl rfl (any_of HT_.out (by kernel_rfl)) (fun _ _ _ h => h) (Or.inl ⟨by rfl, ?_⟩) ?_ ?_
        rotate_left
        · intro w'
          go_simp
          with_reducible rfl
        rotate_left
        · simp only [Act.put, List.setIfInBounds_toArray, List.set_cons_zero, List.set_cons_succ, i64_w, i32_w]
          rfl
        refine pure_ (i := 3) (N := some 26) (v := ?_) (a' := ?_) #[true, true, true, true, false, false, false, false, false, false, false, false, false, false, false, false, false, false, false, false, false, false, false, false, false, false, false, false, false, false, false, false, false, false, false] rfl rfl (any_of HT_.out (by kernel_rfl)) (fun _ _ _ h => h) (Or.inl ⟨by rfl, ?_⟩) ?_ ?_
        rotate_left
        · intro w'
          go_simp
          with_reducible rfl
        rotate_left
        · simp only [Act.put, List.setIfInBounds_toArray, List.set_cons_zero, List.set_cons_succ, i64_w, i32_w]
          rfl
        refine pure_ (i := 4) (N := some 27) (v := ?_) (a' := ?_) #[true, true, true, true, true, false, false, false, false, false, false, false, false, false, false, false, false, false, false, false, false, false, false, false, false, false, false, false, false, false, false, false, false, false, false] rfl rfl (any_of HT_.out (by kernel_rfl)) (fun _ _ _ h => h) (Or.inl ⟨by rfl, ?_⟩) ?_ ?_
        rotate_left
        · intro w'
          go_simp
          with_reducible rfl
        rotate_left
        · simp only [Act.put, List.setIfInBounds_toArray, List.set_cons_zero, List.set_cons_succ, i64_w, i32_w]
          rfl
        refine pure_ (i := 5) (N := some 28) (v := undef) (a' := ?_) #[true, true, true, true, true, true, false, false, false, false, false, false, false, false, false, false, false, false, false, false, false, false, false, false, false, false, false, false, false, false, false, false, false, false, false] rfl rfl (any_of HT_.out (by kernel_rfl)) (fun _ _ _ h => h) (Or.inr ⟨by rfl, rfl⟩) ?_ ?_
        rotate_left
        · simp only [Act.put, List.setIfInBounds_toArray, List.set_cons_zero, List.set_cons_succ, i64_w, i32_w]
          rfl
        refine pure_ (i := 6) (N := some 29) (v := undef) (a' := ?_) #[true, true, true, true, true, true, true, false, false, false, false, false, false, false, false, false, false, false, false, false, false, false, false, false, false, false, false, false, false, false, false, false, false, false, false] rfl rfl (any_of HT_.out (by kernel_rfl)) (fun _ _ _ h => h) (Or.inr ⟨by rfl, rfl⟩) ?_ ?_
        rotate_left
        · simp only [Act.put, List.setIfInBounds_toArray, List.set_cons_zero, List.set_cons_succ, i64_w, i32_w]
          rfl
        refine pure_ (i := 7) (N := some 30) (v := undef) (a' := ?_) #[true, true, true, true, true, true, true, true, false, false, false, false, false, false, false, false, false, false, false, false, false, false, false, false, false, false, false, false, false, false, false, false, false, false, false] rfl rfl (any_of HT_.out (by kernel_rfl)) (fun _ _ _ h => h) (Or.inr ⟨by rfl, rfl⟩) ?_ ?_
        rotate_left
        · simp only [Act.put, List.setIfInBounds_toArray, List.set_cons_zero, List.set_cons_succ, i64_w, i32_w]
          rfl
        refine pure_ (i := 8) (N := some 31) (v := undef) (a' := ?_) #[true, true, true, true, true, true, true, true, true, false, false, false, false, false, false, false, false, false, false, false, false, false, false, false, false, false, false, false, false, false, false, false, false, false, false] rfl rfl (any_of HT_.out (by kernel_rfl)) (fun _ _ _ h => h) (Or.inr ⟨by rfl, rfl⟩) ?_ ?_
        rotate_left
        · simp only [Act.put, List.setIfInBounds_toArray, List.set_cons_zero, List.set_cons_succ, i64_w, i32_w]
          rfl
        refine pure_ (i := 9) (N := some 32) (v := undef) (a' := ?_) #[true, true, true, true, true, true, true, true, true, true, false, false, false, false, false, false, false, false, false, false, false, false, false, false, false, false, false, false, false, false, false, false, false, false, false] rfl rfl (any_of HT_.out (by kernel_rfl)) (fun _ _ _ h => h) (Or.inr ⟨by rfl, rfl⟩) ?_ ?_
        rotate_left
        · simp only [Act.put, List.setIfInBounds_toArray, List.set_cons_zero, List.set_cons_succ, i64_w, i32_w]
          rfl
        refine pure_ (i := 10) (N := some 33) (v := undef) (a' := ?_) #[true, true, true, true, true, true, true, true, true, true, true, false, false, false, false, false, false, false, false, false, false, false, false, false, false, false, false, false, false, false, false, false, false, false, false] rfl rfl (any_of HT_.out (by kernel_rfl)) (fun _ _ _ h => h) (Or.inr ⟨by rfl, rfl⟩) ?_ ?_
        rotate_left
        · simp only [Act.put, List.setIfInBounds_toArray, List.set_cons_zero, List.set_cons_succ, i64_w, i32_w]
          rfl
        refine pure_ (i := 11) (N := some 34) (v := undef) (a' := ?_) #[true, true, true, true, true, true, true, true, true, true, true, true, false, false, false, false, false, false, false, false, false, false, false, false, false, false, false, false, false, false, false, false, false, false, false] rfl rfl (any_of HT_.out (by kernel_rfl)) (fun _ _ _ h => h) (Or.inr ⟨by rfl, rfl⟩) ?_ ?_
        rotate_left
        · simp only [Act.put, List.setIfInBounds_toArray, List.set_cons_zero, List.set_cons_succ, i64_w, i32_w]
          rfl
        refine pure_ (i := 12) (N := some 35) (v := undef) (a' := ?_) #[true, true, true, true, true, true, true, true, true, true, true, true, true, false, false, false, false, false, false, false, false, false, false, false, false, false, false, false, false, false, false, false, false, false, false] rfl rfl (any_of HT_.out (by kernel_rfl)) (fun _ _ _ h => h) (Or.inr ⟨by rfl, rfl⟩) ?_ ?_
        rotate_left
        · simp only [Act.put, List.setIfInBounds_toArray, List.set_cons_zero, List.set_cons_succ, i64_w, i32_w]
          rfl
        refine pure_ (i := 13) (N := some 36) (v := undef) (a' := ?_) #[true, true, true, true, true, true, true, true, true, true, true, true, true, true, false, false, false, false, false, false, false, false, false, false, false, false, false, false, false, false, false, false, false, false, false] rfl rfl (any_of HT_.out (by kernel_rfl)) (fun _ _ _ h => h) (Or.inr ⟨by rfl, rfl⟩) ?_ ?_
        rotate_left
        · simp only [Act.put, List.setIfInBounds_toArray, List.set_cons_zero, List.set_cons_succ, i64_w, i32_w]
          rfl
        refine pure_ (i := 14) (N := some 37) (v := undef) (a' := ?_) #[true, true, true, true, true, true, true, true, true, true, true, true, true, true, true, false, false, false, false, false, false, false, false, false, false, false, false, false, false, false, false, false, false, false, false] rfl rfl (any_of HT_.out (by kernel_rfl)) (fun _ _ _ h => h) (Or.inr ⟨by rfl, rfl⟩) ?_ ?_
        rotate_left
        · simp only [Act.put, List.setIfInBounds_toArray, List.set_cons_zero, List.set_cons_succ, i64_w, i32_w]
          rfl
        refine pure_ (i := 15) (N := some 38) (v := ?_) (a' := ?_) #[true, true, true, true, true, true, true, true, true, true, true, true, true, true, true, true, false, false, false, false, false, false, false, false, false, false, false, false, false, false, false, false, false, false, false] rfl rfl (any_of HT_.out (by kernel_rfl)) (fun _ _ _ h => h) (Or.inl ⟨by rfl, ?_⟩) ?_ ?_
        rotate_left
        · intro w'
          go_simp
          with_reducible rfl
        rotate_left
        · simp only [Act.put, List.setIfInBounds_toArray, List.set_cons_zero, List.set_cons_succ, i64_w, i32_w]
          rfl
        refine pure_ (i := 16) (N := some 39) (v := ?_) (a' := ?_) #[true, true, true, true, true, true, true, true, true, true, true, true, true, true, true, true, true, false, false, false, false, false, false, false, false, false, false, false, false, false, false, false, false, false, false] rfl rfl (any_of HT_.out (by kernel_rfl)) (fun _ _ _ h => h) (Or.inl ⟨by rfl, ?_⟩) ?_ ?_
        rotate_left
        · intro w'
          go_simp
          with_reducible rfl
        rotate_left
        · simp only [Act.put, List.setIfInBounds_toArray, List.set_cons_zero, List.set_cons_succ, i64_w, i32_w]
          rfl
        refine pure_ (i := 17) (N := some 40) (v := ?_) (a' := ?_) #[true, true, true, true, true, true, true, true, true, true, true, true, true, true, true, true, true, true, false, false, false, false, false, false, false, false, false, false, false, false, false, false, false, false, false] rfl rfl (any_of HT_.out (by kernel_rfl)) (fun _ _ _ h => h) (Or.inl ⟨by rfl, ?_⟩) ?_ ?_
        rotate_left
        · intro w'
          go_simp
          with_reducible rfl
        rotate_left
        · simp only [Act.put, List.setIfInBounds_toArray, List.set_cons_zero, List.set_cons_succ, i64_w, i32_w]
          rfl
        refine pure_ (i := 18) (N := some 41) (v := ?_) (a' := ?_) #[true, true, true, true, true, true, true, true, true, true, true, true, true, true, true, true, true, true, true, false, false, false, false, false, false, false, false, false, false, false, false, false, false, false, false] rfl rfl (any_of HT_.out (by kernel_rfl)) (fun _ _ _ h => h) (Or.inl ⟨by rfl, ?_⟩) ?_ ?_
        rotate_left
        · intro w'
          go_simp
          with_reducible rfl
        rotate_left
        · simp only [Act.put, List.setIfInBounds_toArray, List.set_cons_zero, List.set_cons_succ, i64_w, i32_w]
          rfl
        refine pure_ (i := 19) (N := some 42) (v := ?_) (a' := ?_) #[true, true, true, true, true, true, true, true, true, true, true, true, true, true, true, true, true, true, true, true, false, false, false, false, false, false, false, false, false, false, false, false, false, false, false] rfl rfl (any_of HT_.out (by kernel_rfl)) (fun _ _ _ h => h) (Or.inl ⟨by rfl, ?_⟩) ?_ ?_
        rotate_left
        · intro w'
          go_simp
          with_reducible rfl
        rotate_left
        · simp only [Act.put, List.setIfInBounds_toArray, List.set_cons_zero, List.set_cons_succ, i64_w, i32_w]
          rfl
        refine pure_ (i := 20) (N := some 43) (v := ?_) (a' := ?_) #[true, true, true, true, true, true, true, true, true, true, true, true, true, true, true, true, true, true, true, true, true, false, false, false, false, false, false, false, false, false, false, false, false, false, false] rfl rfl (any_of HT_.out (by kernel_rfl)) (fun _ _ _ h => h) (Or.inl ⟨by rfl, ?_⟩) ?_ ?_
        rotate_left
        · intro w'
          go_simp
          with_reducible rfl
        rotate_left
        · simp only [Act.put, List.setIfInBounds_toArray, List.set_cons_zero, List.set_cons_succ, i64_w, i32_w]
          rfl
        refine pure_ (i := 21) (N := some 44) (v := ?_) (a' := ?_) #[true, true, true, true, true, true, true, true, true, true, true, true, true, true, true, true, true, true, true, true, true, true, false, false, false, false, false, false, false, false, false, false, false, false, false] rfl rfl (any_of HT_.out (by kernel_rfl)) (fun _ _ _ h => h) (Or.inl ⟨by rfl, ?_⟩) ?_ ?_
        rotate_left
        · intro w'
          go_simp
          with_reducible rfl
        rotate_left
        · simp only [Act.put, List.setIfInBounds_toArray, List.set_cons_zero, List.set_cons_succ, i64_w, i32_w]
          rfl
        refine pure_ (i := 22) (N := some 45) (v := ?_) (a' := ?_) #[true, true, true, true, true, true, true, true, true, true, true, true, true, true, true, true, true, true, true, true, true, true, true, false, false, false, false, false, false, false, false, false, false, false, false] rfl rfl (any_of HT_.out (by kernel_rfl)) (fun _ _ _ h => h) (Or.inl ⟨by rfl, ?_⟩) ?_ ?_
        rotate_left
        · intro w'
          go_simp
          with_reducible rfl
        rotate_left
        · simp only [Act.put, List.setIfInBounds_toArray, List.set_cons_zero, List.set_cons_succ, i64_w, i32_w]
          rfl
        refine pure_ (i := 23) (N := some 46) (v := ?_) (a' := ?_) #[true, true, true, true, true, true, true, true, true, true, true, true, true, true, true, true, true, true, true, true, true, true, true, true, false, false, false, false, false, false, false, false, false, false, false] rfl rfl (any_of HT_.out (by kernel_rfl)) (fun _ _ _ h => h) (Or.inl ⟨by rfl, ?_⟩) ?_ ?_
        rotate_left
        · intro w'
          go_simp
          with_reducible rfl
        rotate_left
        · simp only [Act.put, List.setIfInBounds_toArray, List.set_cons_zero, List.set_cons_succ, i64_w, i32_w]
          rfl
        refine pure_ (i := 24) (N := some 47) (v := ?_) (a' := ?_) #[true, true, true, true, true, true, true, true, true, true, true, true, true, true, true, true, true, true, true, true, true, true, true, true, true, false, false, false, false, false, false, false, false, false, false] rfl rfl (any_of HT_.out (by kernel_rfl)) (fun _ _ _ h => h) (Or.inl ⟨by rfl, ?_⟩) ?_ ?_
        rotate_left
        · intro w'
          go_simp
          with_reducible rfl
        rotate_left
        · simp only [Act.put, List.setIfInBounds_toArray, List.set_cons_zero, List.set_cons_succ, i64_w, i32_w]
          rfl
        refine pure_ (i := 26) (N := some 49) (v := ?_) (a' := ?_) #[true, true, true, true, true, true, true, true, true, true, true, true, true, true, true, true, true, true, true, true, true, true, true, true, true, false, true, false, false, false, false, false, false, false, false] rfl rfl (any_of HT_.out (by kernel_rfl)) (fun _ _ _ h => h) (Or.inl ⟨by rfl, ?_⟩) ?_ ?_
        rotate_left
        · intro w'
          go_simp
          with_reducible rfl
        rotate_left
        · simp only [Act.put, List.setIfInBounds_toArray, List.set_cons_zero, List.set_cons_succ, i64_w, i32_w]
          rfl
        refine pure_ (i := 27) (N := some 50) (v := ?_) (a' := ?_) #[true, true, true, true, true, true, true, true, true, true, true, true, true, true, true, true, true, true, true, true, true, true, true, true, true, false, true, true, false, false, false, false, false, false, false] rfl rfl (any_of HT_.out (by kernel_rfl)) (fun _ _ _ h => h) (Or.inl ⟨by rfl, ?_⟩) ?_ ?_
        rotate_left
        · intro w'
          go_simp
          with_reducible rfl
        rotate_left
        · simp only [Act.put, List.setIfInBounds_toArray, List.set_cons_zero, List.set_cons_succ, i64_w, i32_w]
          rfl
        refine pure_ (i := 28) (N := some 51) (v := ?_) (a' := ?_) #[true, true, true, true, true, true, true, true, true, true, true, true, true, true, true, true, true, true, true, true, true, true, true, true, true, false, true, true, true, false, false, false, false, false, false] rfl rfl (any_of HT_.out (by kernel_rfl)) (fun _ _ _ h => h) (Or.inl ⟨by rfl, ?_⟩) ?_ ?_
        rotate_left
        · intro w'
          go_simp
          with_reducible rfl
        rotate_left
        · simp only [Act.put, List.setIfInBounds_toArray, List.set_cons_zero, List.set_cons_succ, i64_w, i32_w]
          rfl
        refine pure_ (i := 29) (N := some 52) (v := ?_) (a' := ?_) #[true, true, true, true, true, true, true, true, true, true, true, true, true, true, true, true, true, true, true, true, true, true, true, true, true, false, true, true, true, true, false, false, false, false, false] rfl rfl (any_of HT_.out (by kernel_rfl)) (fun _ _ _ h => h) (Or.inl ⟨by rfl, ?_⟩) ?_ ?_
        rotate_left
        · intro w'
          go_simp
          with_reducible rfl
        rotate_left
        · simp only [Act.put, List.setIfInBounds_toArray, List.set_cons_zero, List.set_cons_succ, i64_w, i32_w]
          rfl
        refine take_ (i := 25) (N := some 48) (v := ?_) (a' := ?_) #[true, true, true, true, true, true, true, true, true, true, true, true, true, true, true, true, true, true, true, true, true, true, true, true, true, true, true, true, true, true, false, false, false, false, false] rfl rfl (take_ofW HT_.out HW_.out (by kernel_rfl)) (fun _ _ _ h => h) (Or.inl ⟨by rfl, ?_⟩) hHeld ?_ ?_
        rotate_left
        · rintro w' ⟨s0, s1, s2, s3, s4, s5, s6, s7⟩
          go_simp
          with_reducible rfl
        rotate_left
        · simp only [Act.put, List.setIfInBounds_toArray, List.set_cons_zero, List.set_cons_succ, i64_w, i32_w]
          rfl
        refine one_ (i := 30) (N := some 53) #[true, true, true, true, true, true, true, true, true, true, true, true, true, true, true, true, true, true, true, true, true, true, true, true, true, true, true, true, true, true, true, false, false, false, false] rfl rfl (one_of HT_.out (by kernel_rfl)) (by decide) (fun K hK => ?_)
        refine goes_ Try.func11 (by kernel_rfl) rfl #[.int .i64 1, .int .i64 (i - (l.length : Int))] (by rfl) rfl rfl (by (try simp only [List.map_toArray, List.map_cons, List.map_nil]); first | done | rfl | (simp only [List.length_drop, List.length_take]; rfl)) ?_
        with_reducible refine (latchkeykit_markText.calls 1 (i - (l.length : Int)) (mkT (i - (l.length : Int))) _ HMT.out).mono ?_
        rintro e w28 ⟨rfl, hb⟩
        refine ⟨_, rfl, ?_⟩
        have n0_ := Aside0.mk (below_step (by repeat (first | (with_reducible first | exact HB.out | apply below_alloc | apply pw_below_drewN | apply below_drew1) | exact HB.out)) hb)
        clear HB
        have HB := n0_
        clear n0_
        (try clear hb)
        (try clear hb2)
        (try clear hk)
        (try clear hi)
        refine hK.out _ _ ⟨((HB.out.cell (World.block_lt_of_cell? w _ aq0)).trans aq0), ((HB.out.cell (World.block_lt_of_cell? w _ aq1)).trans aq1), ((HB.out.cell (World.block_lt_of_cell? w _ aq2)).trans aq2), ((HB.out.cell (World.block_lt_of_cell? w _ aq3)).trans aq3), ((HB.out.cell (World.block_lt_of_cell? w _ aq4)).trans aq4), ((HB.out.cell (World.block_lt_of_cell? w _ aq5)).trans aq5), ((HB.out.cell (World.block_lt_of_cell? w _ aq6)).trans aq6), ((HB.out.cell (World.block_lt_of_cell? w _ aq7)).trans aq7)⟩ (fun hHeld => ?_)
        clear hK K
        refine norm_ (a' := ?_) ?_ ?_
        rotate_left
        · show Act.put _ (some 53) _ = _
          simp only [Act.put, List.setIfInBounds_toArray, List.set_cons_zero, List.set_cons_succ, i64_w, i32_w]
          rfl
        refine pure_ (i := 31) (N := some 54) (v := ?_) (a' := ?_) #[true, true, true, true, true, true, true, true, true, true, true, true, true, true, true, true, true, true, true, true, true, true, true, true, true, true, true, true, true, true, true, true, false, false, false] rfl rfl (any_of HT_.out (by kernel_rfl)) (fun _ _ _ h => h) (Or.inl ⟨by rfl, ?_⟩) ?_ ?_
        rotate_left
        · intro w'
          go_simp
          with_reducible rfl
        rotate_left
        · simp only [Act.put, List.setIfInBounds_toArray, List.set_cons_zero, List.set_cons_succ, i64_w, i32_w]
          rfl
        refine pure_ (i := 32) (N := some 55) (v := ?_) (a' := ?_) #[true, true, true, true, true, true, true, true, true, true, true, true, true, true, true, true, true, true, true, true, true, true, true, true, true, true, true, true, true, true, true, true, true, false, false] rfl rfl (any_of HT_.out (by kernel_rfl)) (fun _ _ _ h => h) (Or.inl ⟨by rfl, ?_⟩) ?_ ?_
        rotate_left
        · intro w'
          go_simp
          with_reducible rfl
        rotate_left
        · simp only [Act.put, List.setIfInBounds_toArray, List.set_cons_zero, List.set_cons_succ, i64_w, i32_w]
          rfl
        refine pure_ (i := 33) (N := some 56) (v := ?_) (a' := ?_) #[true, true, true, true, true, true, true, true, true, true, true, true, true, true, true, true, true, true, true, true, true, true, true, true, true, true, true, true, true, true, true, true, true, true, false] rfl rfl (any_of HT_.out (by kernel_rfl)) (fun _ _ _ h => h) (Or.inl ⟨by rfl, ?_⟩) ?_ ?_
        rotate_left
        · intro w'
          go_simp
          with_reducible rfl
        rotate_left
        · simp only [Act.put, List.setIfInBounds_toArray, List.set_cons_zero, List.set_cons_succ, i64_w, i32_w]
          rfl
        refine pure_ (i := 34) (N := some 57) (v := ?_) (a' := ?_) #[true, true, true, true, true, true, true, true, true, true, true, true, true, true, true, true, true, true, true, true, true, true, true, true, true, true, true, true, true, true, true, true, true, true, true] rfl rfl (any_of HT_.out (by kernel_rfl)) (fun _ _ _ h => h) (Or.inl ⟨by rfl, ?_⟩) ?_ ?_
        rotate_left
        · intro w'
          go_simp
          with_reducible rfl
        rotate_left
        · simp only [Act.put, List.setIfInBounds_toArray, List.set_cons_zero, List.set_cons_succ, i64_w, i32_w]
          rfl
        refine done_ (done_of HT_.out (by kernel_rfl)) ?_
        go_wp2
        go_roundg k1
        case measure => omega
        case rel => exact ⟨i + 1, rfl, ⟨by omega, by omega, by have := HI.out.2.2; omega⟩, ⟨by repeat (first | (with_reducible first | exact HB.out | apply below_alloc | apply pw_below_drewN | apply below_drew1) | exact HB.out)⟩⟩
    · obtain rfl : i = (l.length : Int) + 24 := by omega
      go_wp2
      go_ret
      exact ⟨rfl, HB.out⟩
end Go.Proofs.Ytopedblofdjklaa.PRoutesPicks
