/- The stable sort over an array, and roundings of float32, in plain Lean. No condition. -/
import Derived.Sort.Defs
import Ieee.Arith

/-! slices.SortStableFunc's bodies over an array and a 'less' (plain Lean): insertion sort of blocks of 20, SymMerge by rotations. -/
namespace Go.Stab
open Go.Sort
variable {α : Type} [Inhabited α]

/-- for ; i < n; i++ { swap a+i, b+i } -/
def swapRange (a b n i : Nat) (d : Array α) : Array α :=
  if i < n then swapRange a b n (i + 1) (swp d (a + i) (b + i)) else d
  termination_by n - i
/-- the loop of rotate (0 < i, 0 < j) -/
def rotLoop (m i j : Nat) (d : Array α) : Array α :=
  if i = j then swapRange (m - i) m i 0 d
  else if j < i then (if 0 < j then rotLoop m (i - j) j (swapRange (m - i) m j 0 d) else d)
  else (if 0 < i then rotLoop m i (j - i) (swapRange (m - i) (m + j - i) i 0 d) else d)
  termination_by i + j
/-- for i < j { h := (i+j)/2; if p h { i = h+1 } else { j = h } } -/
def search (p : Nat → Bool) (i j : Nat) : Nat :=
  if i < j then (if p ((i + j) / 2) then search p ((i + j) / 2 + 1) j else search p i ((i + j) / 2)) else i
  termination_by j - i
/-- for ; k < i; k++ { swap k, k+1 } -/
def moveUp (i k : Nat) (d : Array α) : Array α :=
  if k < i then moveUp i (k + 1) (swp d k (k + 1)) else d
  termination_by i - k
/-- for ; k > i; k-- { swap k, k-1 } -/
def moveDown (i : Nat) : Nat → Array α → Array α
  | 0, d => d
  | k + 1, d => if i < k + 1 then moveDown i k (swp d (k + 1) k) else d
variable (lt : α → α → Bool)
def symMerge (a m b : Nat) (d : Array α) : Array α :=
  if m - a = 1 then moveUp (search (fun h => lt d[h]! d[a]!) m b - 1) a d
  else if b - m = 1 then moveDown (search (fun h => !lt d[m]! d[h]!) a m) m d
  else
    match search (fun c => !lt d[(a + b) / 2 + m - 1 - c]! d[c]!) (if (a + b) / 2 < m then (a + b) / 2 + m - b else a) (if (a + b) / 2 < m then (a + b) / 2 else m) with
    | start =>
      match (if start < m ∧ m < (a + b) / 2 + m - start then rotLoop m (m - start) ((a + b) / 2 + m - start - m) d else d) with
      | d1 =>
        match (if a < start ∧ start < (a + b) / 2 then symMerge a start ((a + b) / 2) d1 else d1) with
        | d2 => if (a + b) / 2 < (a + b) / 2 + m - start ∧ (a + b) / 2 + m - start < b then symMerge ((a + b) / 2) ((a + b) / 2 + m - start) b d2 else d2
  termination_by b - a
  decreasing_by all_goals omega
/-- for b <= n { insertionSort a b; a = b; b += 20 }; insertionSort a n -/
def stabIns (n a b : Nat) (d : Array α) : Array α :=
  if b ≤ n then stabIns n b (b + 20) (insertionSort lt d a b) else insertionSort lt d a n
  termination_by n + 20 - b
def mergePass (bs n a b : Nat) (d : Array α) : Array α :=
  if _h : 0 < bs ∧ b ≤ n then mergePass bs n b (b + 2 * bs) (symMerge lt a (a + bs) b d)
  else if a + bs < n then symMerge lt a (a + bs) n d else d
  termination_by n + 2 * bs - b
def mergeAll (bs n : Nat) (d : Array α) : Array α :=
  if _h : 0 < bs ∧ bs < n then mergeAll (2 * bs) n (mergePass lt bs n 0 (2 * bs) d) else d
  termination_by n - bs
def stable (d : Array α) : Array α := mergeAll lt 20 d.size (stabIns lt d.size 0 20 d)
end Go.Stab

namespace Go.Stab
open Go.Sort
variable {α : Type} [Inhabited α]
set_option linter.unusedSectionVars false

theorem get_app (U : List α) (x : α) (V : List α) : (U ++ x :: V)[U.length]? = some x := by simp
theorem getBang_of {d : Array α} {i : Nat} {x : α} (h : d.toList[i]? = some x) : d[i]! = x := by
  have : d[i]? = some x := by simpa using h
  simp [getElem!_def, this]
theorem swp_list {d : Array α} {U V W : List α} {x y : α} (h : d.toList = U ++ x :: V ++ y :: W) :
    (swp d U.length (U.length + 1 + V.length)).toList = U ++ y :: V ++ x :: W := by
  have hx : d[U.length]! = x := getBang_of (by rw [h]; simp)
  have hy : d[U.length + 1 + V.length]! = y := getBang_of (by
    rw [h]
    have : U.length + 1 + V.length = (U ++ x :: V).length := by simp; omega
    rw [this, get_app])
  unfold swp
  rw [hx, hy, Array.toList_setIfInBounds, Array.toList_setIfInBounds, h]
  have e1 : (U ++ x :: V ++ y :: W).set U.length y = U ++ y :: V ++ y :: W := by simp
  rw [e1]
  have : U.length + 1 + V.length = (U ++ y :: V).length := by simp; omega
  rw [this]
  simp
theorem swp_size (d : Array α) (i j : Nat) : (swp d i j).size = d.size := by simp [swp]
/-- two ranges change places -/
theorem swapRange_list {U V W : List α} {n : Nat} : ∀ (A2 B2 A1 B1 : List α) (d : Array α), A1.length = B1.length → A2.length = B2.length → A1.length + A2.length = n →
    d.toList = U ++ (B1 ++ A2) ++ V ++ (A1 ++ B2) ++ W → (swapRange U.length (U.length + n + V.length) n A1.length d).toList = U ++ (B1 ++ B2) ++ V ++ (A1 ++ A2) ++ W
  | [], [], A1, B1, d, h1, h2, h3, h => by
    unfold swapRange
    rw [if_neg (by simp at h3; omega), h]
  | x :: A2, y :: B2, A1, B1, d, h1, h2, h3, h => by
    simp only [List.length_cons] at h2 h3
    unfold swapRange
    rw [if_pos (by omega)]
    have hs := swp_list (d := d) (U := U ++ B1) (V := A2 ++ V ++ A1) (W := B2 ++ W) (x := x) (y := y) (by rw [h]; simp)
    have e1 : (U ++ B1).length = U.length + A1.length := by simp [h1]
    have e2 : (U ++ B1).length + 1 + (A2 ++ V ++ A1).length = U.length + n + V.length + A1.length := by simp; omega
    rw [e2, e1] at hs
    have := swapRange_list (U := U) (V := V) (W := W) (n := n) A2 B2 (A1 ++ [x]) (B1 ++ [y]) (swp d (U.length + A1.length) (U.length + n + V.length + A1.length)) (by simp [h1]) (by omega) (by simp; omega) (by rw [hs]; simp)
    simp only [List.length_append, List.length_cons, List.length_nil, Nat.zero_add] at this
    rw [this]
    simp
  | [], y :: B2, _, _, _, _, h2, _, _ => by simp at h2
  | x :: A2, [], _, _, _, _, h2, _, _ => by simp at h2
theorem swapRange0 {U V W A B : List α} {d : Array α} (hl : A.length = B.length) (h : d.toList = U ++ A ++ V ++ B ++ W) {a b n : Nat} (ha : a = U.length) (hn : n = A.length) (hb : b = U.length + n + V.length) :
    (swapRange a b n 0 d).toList = U ++ B ++ V ++ A ++ W := by
  subst ha hn hb
  have := swapRange_list (U := U) (V := V) (W := W) (n := A.length) A B [] [] d rfl hl (by simp) (by rw [h]; simp)
  simpa using this
/-- A, B to B, A -/
theorem rotLoop_list {m : Nat} : ∀ (k : Nat) (i j : Nat) (U A B W : List α) (d : Array α), i + j ≤ k → A.length = i → B.length = j → 0 < i → 0 < j → m = U.length + i → d.toList = U ++ A ++ B ++ W → (rotLoop m i j d).toList = U ++ B ++ A ++ W
  | 0, i, j, U, A, B, W, d, hk, hA, hB, hi, hj, hm, h => by omega
  | k + 1, i, j, U, A, B, W, d, hk, hA, hB, hi, hj, hm, h => by
    unfold rotLoop
    split
    · rename_i e
      subst e
      have := swapRange0 (U := U) (V := []) (W := W) (A := A) (B := B) (d := d) (by omega) (by rw [h]; simp) (a := m - i) (b := m) (n := i) (by omega) hA.symm (by simp; omega)
      simpa using this
    · rename_i hne
      split
      · rename_i hlt
        -- A = A1 ++ A2
        obtain ⟨A1, A2, rfl, h1⟩ : ∃ A1 A2, A = A1 ++ A2 ∧ A1.length = j := ⟨A.take j, A.drop j, (List.take_append_drop j A).symm, by simp; omega⟩
        simp only [List.length_append] at hA
        have hs := swapRange0 (U := U) (V := A2) (W := W) (A := A1) (B := B) (d := d) (by omega) (by rw [h]; simp) (a := m - i) (b := m) (n := j) (by omega) h1.symm (by omega)
        have := rotLoop_list (m := m) k (i - j) j (U ++ B) A2 A1 W (swapRange (m - i) m j 0 d) (by omega) (by omega) h1 (by omega) hj (by simp; omega) (by rw [hs])
        rw [this]
        simp
      · rename_i hge
        obtain ⟨B1, B2, rfl, h1⟩ : ∃ B1 B2, B = B1 ++ B2 ∧ B2.length = i := ⟨B.take (j - i), B.drop (j - i), (List.take_append_drop (j - i) B).symm, by simp; omega⟩
        simp only [List.length_append] at hB
        have hs := swapRange0 (U := U) (V := B1) (W := W) (A := A) (B := B2) (d := d) (by omega) (by rw [h]; simp) (a := m - i) (b := m + j - i) (n := i) (by omega) hA.symm (by omega)
        have := rotLoop_list (m := m) k i (j - i) U B2 B1 (A ++ W) (swapRange (m - i) (m + j - i) i 0 d) (by omega) h1 (by omega) hi (by omega) hm (by rw [hs]; simp)
        rw [this]
        simp
/-- where the search ends: at the first place where p does not hold -/
theorem search_spec {p : Nat → Bool} : ∀ (k i j : Nat), j - i ≤ k → i ≤ j → (∀ x y, i ≤ x → x ≤ y → y < j → p y = true → p x = true) →
    i ≤ search p i j ∧ search p i j ≤ j ∧ (∀ x, i ≤ x → x < search p i j → p x = true) ∧ (∀ x, search p i j ≤ x → x < j → p x = false)
  | 0, i, j, hk, hij, hm => by
    unfold search
    rw [if_neg (by omega)]
    exact ⟨Nat.le_refl _, hij, fun x h1 h2 => by omega, fun x h1 h2 => by omega⟩
  | k + 1, i, j, hk, hij, hm => by
    unfold search
    by_cases h : i < j
    · rw [if_pos h]
      by_cases hp : p ((i + j) / 2) = true
      · rw [if_pos hp]
        obtain ⟨a1, a2, a3, a4⟩ := search_spec k ((i + j) / 2 + 1) j (by omega) (by omega) (fun x y h1 h2 h3 => hm x y (by omega) h2 h3)
        refine ⟨by omega, a2, fun x h1 h2 => ?_, a4⟩
        by_cases hx : (i + j) / 2 + 1 ≤ x
        · exact a3 x hx h2
        · exact hm x ((i + j) / 2) h1 (by omega) (by omega) hp
      · rw [if_neg hp]
        obtain ⟨a1, a2, a3, a4⟩ := search_spec k i ((i + j) / 2) (by omega) (by omega) (fun x y h1 h2 h3 => hm x y h1 h2 (by omega))
        refine ⟨a1, by omega, a3, fun x h1 h2 => ?_⟩
        by_cases hx : x < (i + j) / 2
        · exact a4 x h1 hx
        · cases hpx : p x with
          | false => rfl
          | true => exact absurd (hm ((i + j) / 2) x (by omega) (by omega) h2 hpx) hp
    · rw [if_neg h]
      exact ⟨Nat.le_refl _, hij, fun x h1 h2 => by omega, fun x h1 h2 => by omega⟩
/-- x goes over B -/
theorem moveUp_list {x : α} {W : List α} {i : Nat} : ∀ (B U : List α) (d : Array α), i = U.length + B.length → d.toList = U ++ x :: B ++ W → (moveUp i U.length d).toList = U ++ B ++ x :: W
  | [], U, d, hi, h => by
    unfold moveUp
    rw [if_neg (by simp at hi; omega), h]
    simp
  | y :: B, U, d, hi, h => by
    simp only [List.length_cons] at hi
    unfold moveUp
    rw [if_pos (by omega)]
    have hs := swp_list (d := d) (U := U) (V := []) (W := B ++ W) (x := x) (y := y) (by rw [h]; simp)
    simp only [List.length_nil, Nat.add_zero] at hs
    have := moveUp_list (x := x) (W := W) (i := i) B (U ++ [y]) (swp d U.length (U.length + 1)) (by simp; omega) (by rw [hs]; simp)
    simp only [List.length_append, List.length_cons, List.length_nil, Nat.zero_add] at this
    rw [this]
    simp
/-- y goes below B -/
theorem moveDown_list {y : α} {U W : List α} : ∀ (n : Nat) (B C : List α) (d : Array α), B.length = n → d.toList = U ++ B ++ y :: C ++ W → (moveDown U.length (U.length + n) d).toList = U ++ y :: B ++ C ++ W
  | 0, B, C, d, hn, h => by
    have : B = [] := List.length_eq_zero_iff.1 hn
    subst this
    cases hU : U.length with
    | zero => unfold moveDown; simp [h]
    | succ u => unfold moveDown; simp [h]
  | n + 1, B, C, d, hn, h => by
    obtain ⟨B, z, rfl⟩ : ∃ B' z, B = B' ++ [z] := by
      rcases List.eq_nil_or_concat B with rfl | ⟨B', z, e⟩
      · simp at hn
      · exact ⟨B', z, by rw [e, List.concat_eq_append]⟩
    have hn' : B.length = n := by simpa using hn
    show (moveDown U.length (U.length + n + 1) d).toList = _
    unfold moveDown
    rw [if_pos (by omega)]
    have hs := swp_list (d := d) (U := U ++ B) (V := []) (W := C ++ W) (x := z) (y := y) (by rw [h]; simp)
    simp only [List.length_append, List.length_nil, Nat.add_zero] at hs
    have hsw : swp d (U.length + n + 1) (U.length + n) = swp d (U.length + n) (U.length + n + 1) := by
      have hz : d.toList[U.length + n]? = some z := by rw [h, ← hn']; simp
      have hy : d.toList[U.length + n + 1]? = some y := by
        rw [h]
        have : U.length + n + 1 = (U ++ (B ++ [z])).length := by simp; omega
        rw [this]
        simp
      apply Array.ext'
      unfold swp
      simp only [Array.toList_setIfInBounds]
      rw [getBang_of hz, getBang_of hy]
      rw [List.set_comm _ _ (by omega)]
    rw [hsw]
    rw [hn'] at hs
    have := moveDown_list (y := y) (U := U) (W := W) n B (z :: C) (swp d (U.length + n) (U.length + n + 1)) hn' (by rw [hs]; simp)
    rw [this]
    simp
end Go.Stab

namespace Go.Stab
open Go.Sort
variable {α : Type} [Inhabited α]
set_option linter.unusedSectionVars false

/-- a list whose members rise (none ahead of an earlier one) -/
def Up (le : α → α → Prop) (l : List α) : Prop := l.Pairwise le

theorem at_app {d : Array α} {U V : List α} {i : Nat} {l : List α} (h : d.toList = U ++ l ++ V) (hi : i < l.length) : d[U.length + i]! = l[i] := by
  refine getBang_of ?_
  rw [h, List.append_assoc, List.getElem?_append_right (by omega), Nat.add_sub_cancel_left, List.getElem?_append_left hi, List.getElem?_eq_getElem hi]
theorem up_get {le : α → α → Prop} {l : List α} (h : Up le l) {i j : Nat} (hij : i < j) (hj : j < l.length) : le (l[i]'(by omega)) l[j] := List.pairwise_iff_getElem.1 h i j (by omega) hj hij

variable {lt : α → α → Bool} {le : α → α → Prop}
/-- what is asked of 'less' between a left list and a right one -/
structure Cmp (lt : α → α → Bool) (le : α → α → Prop) (L R : List α) : Prop where
  yes : ∀ x ∈ L, ∀ y ∈ R, lt y x = true → le y x
  no : ∀ x ∈ L, ∀ y ∈ R, lt y x = false → le x y
  /-- along rising lists the answer turns but once -/
  down : ∀ x ∈ L, ∀ y ∈ R, ∀ x' ∈ L, ∀ y' ∈ R, le x x' → le y' y → lt y x = true → lt y' x' = true
theorem Cmp.sub {L R L' R' : List α} (h : Cmp lt le L R) (hl : ∀ x ∈ L', x ∈ L) (hr : ∀ x ∈ R', x ∈ R) : Cmp lt le L' R' :=
  ⟨fun x hx y hy => h.yes x (hl x hx) y (hr y hy), fun x hx y hy => h.no x (hl x hx) y (hr y hy), fun x hx y hy x' hx' y' hy' => h.down x (hl x hx) y (hr y hy) x' (hl x' hx') y' (hr y' hy')⟩

theorem le_or {le : α → α → Prop} {l : List α} (hrefl : ∀ x, le x x) (h : Up le l) {i j : Nat} (hij : i ≤ j) (hj : j < l.length) : le (l[i]'(by omega)) l[j] := by
  rcases Nat.lt_or_eq_of_le hij with hlt | rfl
  · exact up_get h hlt hj
  · exact hrefl _
/-- SymMerge: two rising lists, one behind the other, become one -/
theorem symMerge_list (hrefl : ∀ x, le x x) (htr : ∀ x y z, le x y → le y z → le x z) : ∀ (k : Nat) (U L R W : List α) (d : Array α) (a m b : Nat), L.length + R.length ≤ k → 0 < L.length → 0 < R.length → a = U.length → m = a + L.length → b = m + R.length →
    Cmp lt le L R → Up le L → Up le R → d.toList = U ++ L ++ R ++ W → ∃ M, (symMerge lt a m b d).toList = U ++ M ++ W ∧ M.Perm (L ++ R) ∧ Up le M
  | 0, U, L, R, W, d, a, m, b, hk, hL, hR, ha, hm, hb, hC, uL, uR, h => by omega
  | k + 1, U, L, R, W, d, a, m, b, hk, hL, hR, ha, hm, hb, hC, uL, uR, h => by
    have getL : ∀ i (hi : i < L.length), d[a + i]! = L[i] := fun i hi => by
      rw [ha]
      exact at_app (V := R ++ W) (by rw [h]; simp) hi
    have getR : ∀ i (hi : i < R.length), d[m + i]! = R[i] := fun i hi => by
      have := at_app (d := d) (U := U ++ L) (V := W) (l := R) (by rw [h]) hi
      rw [List.length_append, ← ha, ← hm] at this
      exact this
    unfold symMerge
    split
    · -- one on the left
      rename_i h1
      obtain ⟨x, rfl⟩ : ∃ x, L = [x] := List.length_eq_one_iff.1 (by omega)
      have hx : d[a]! = x := by
        have := getL 0 (by simp)
        simpa using this
      have mono : ∀ p q, m ≤ p → p ≤ q → q < b → lt d[q]! d[a]! = true → lt d[p]! d[a]! = true := by
        intro p q h1 h2 h3 h4
        obtain ⟨p, rfl⟩ := Nat.exists_eq_add_of_le h1
        obtain ⟨q, rfl⟩ := Nat.exists_eq_add_of_le (Nat.le_trans h1 h2)
        rw [getR q (by omega), hx] at h4
        rw [getR p (by omega), hx]
        exact hC.down x (by simp) _ (List.getElem_mem _) x (by simp) _ (List.getElem_mem _) (hrefl _) (le_or hrefl uR (by omega) (by omega)) h4
      obtain ⟨s1, s2, s3, s4⟩ := search_spec (p := fun q => lt d[q]! d[a]!) (b - m) m b (Nat.le_refl _) (by omega) mono
      generalize hi : search (fun q => lt d[q]! d[a]!) m b = i at s1 s2 s3 s4 ⊢
      have hmv := moveUp_list (x := x) (W := R.drop (i - m) ++ W) (i := i - 1) (R.take (i - m)) U d (by simp only [List.length_take]; simp at hm; omega) (by rw [h]; simp only [List.append_assoc, List.cons_append, List.nil_append]; rw [← List.append_assoc (R.take (i - m)), List.take_append_drop])
      rw [← ha] at hmv
      refine ⟨R.take (i - m) ++ x :: R.drop (i - m), by rw [hmv]; simp, ?_, ?_⟩
      · refine List.perm_middle.trans ?_
        rw [List.take_append_drop]
        simp
      · refine List.pairwise_append.2 ⟨uR.sublist (List.take_sublist _ _), List.pairwise_cons.2 ⟨fun y hy => ?_, uR.sublist (List.drop_sublist _ _)⟩, fun y hy z hz => ?_⟩
        · obtain ⟨q, hq, rfl⟩ := List.getElem_of_mem hy
          rw [List.getElem_drop]
          simp only [List.length_drop] at hq
          refine hC.no x (by simp) _ (List.getElem_mem _) ?_
          have := s4 (m + (i - m + q)) (by omega) (by omega)
          rw [getR _ (by omega), hx] at this
          exact this
        · obtain ⟨q, hq, rfl⟩ := List.getElem_of_mem hy
          rw [List.getElem_take]
          simp only [List.length_take] at hq
          have hq' : lt R[q] x = true := by
            have := s3 (m + q) (by omega) (by omega)
            rw [getR _ (by omega), hx] at this
            exact this
          rcases List.mem_cons.1 hz with rfl | hz
          · exact hC.yes _ (by simp) _ (List.getElem_mem _) hq'
          · obtain ⟨r, hr, rfl⟩ := List.getElem_of_mem hz
            rw [List.getElem_drop]
            simp only [List.length_drop] at hr
            exact le_or hrefl uR (by omega) (by omega)
    · rename_i hL1
      split
      · -- one on the right
        rename_i h1
        obtain ⟨y, rfl⟩ : ∃ y, R = [y] := List.length_eq_one_iff.1 (by omega)
        have hy : d[m]! = y := by
          have := getR 0 (by simp)
          simpa using this
        have mono : ∀ p q, a ≤ p → p ≤ q → q < m → (!lt d[m]! d[q]!) = true → (!lt d[m]! d[p]!) = true := by
          intro p q h1 h2 h3 h4
          obtain ⟨p, rfl⟩ := Nat.exists_eq_add_of_le h1
          obtain ⟨q, rfl⟩ := Nat.exists_eq_add_of_le (Nat.le_trans h1 h2)
          rw [getL q (by omega), hy] at h4
          rw [getL p (by omega), hy]
          simp only [Bool.not_eq_true'] at h4 ⊢
          cases hp : lt y L[p] with
          | false => rfl
          | true =>
            have := hC.down _ (List.getElem_mem _) y (by simp) _ (List.getElem_mem (h := by omega)) y (by simp) (le_or (i := p) (j := q) hrefl uL (by omega) (by omega)) (hrefl _) hp
            rw [this] at h4
            cases h4
        obtain ⟨s1, s2, s3, s4⟩ := search_spec (p := fun q => !lt d[m]! d[q]!) (m - a) a m (Nat.le_refl _) (by omega) mono
        generalize hi : search (fun q => !lt d[m]! d[q]!) a m = i at s1 s2 s3 s4 ⊢
        have hmv := moveDown_list (y := y) (U := U ++ L.take (i - a)) (W := W) (m - i) (L.drop (i - a)) [] d (by simp; omega) (by rw [h]; simp only [List.append_assoc]; rw [← List.append_assoc (L.take (i - a)), List.take_append_drop]; try simp)
        have e1 : (U ++ L.take (i - a)).length = i := by simp; omega
        have e2 : i + (m - i) = m := by omega
        rw [e1, e2] at hmv
        refine ⟨L.take (i - a) ++ y :: L.drop (i - a), by rw [hmv]; simp, ?_, ?_⟩
        · refine List.perm_middle.trans ?_
          rw [List.take_append_drop]
          exact (List.perm_append_comm (l₁ := [y]) (l₂ := L))
        · refine List.pairwise_append.2 ⟨uL.sublist (List.take_sublist _ _), List.pairwise_cons.2 ⟨fun x hx => ?_, uL.sublist (List.drop_sublist _ _)⟩, fun x hx z hz => ?_⟩
          · obtain ⟨q, hq, rfl⟩ := List.getElem_of_mem hx
            rw [List.getElem_drop]
            simp only [List.length_drop] at hq
            refine hC.yes _ (List.getElem_mem _) y (by simp) ?_
            have := s4 (a + (i - a + q)) (by omega) (by omega)
            rw [getL _ (by omega), hy] at this
            simpa using this
          · obtain ⟨q, hq, rfl⟩ := List.getElem_of_mem hx
            rw [List.getElem_take]
            simp only [List.length_take] at hq
            rcases List.mem_cons.1 hz with rfl | hz
            · refine hC.no _ (List.getElem_mem _) _ (by simp) ?_
              have := s3 (a + q) (by omega) (by omega)
              rw [getL _ (by omega), hy] at this
              simpa using this
            · obtain ⟨r, hr, rfl⟩ := List.getElem_of_mem hz
              rw [List.getElem_drop]
              simp only [List.length_drop] at hr
              exact le_or hrefl uL (by omega) (by omega)
      · -- by rotation
        rename_i hR1
        have hab : a < b := by omega
        generalize hmid : (a + b) / 2 = mid
        have hm1 : a < mid := by omega
        have hm2 : mid < b := by omega
        generalize hs0 : (if mid < m then mid + m - b else a) = s0
        generalize hr0 : (if mid < m then mid else m) = r0
        have hs0' : a ≤ s0 ∧ s0 ≤ r0 ∧ r0 ≤ m ∧ r0 ≤ mid ∧ mid + m - s0 ≤ b ∧ m ≤ mid + m - r0 := by
          subst hs0 hr0
          split <;> omega
        have bounds : ∀ c, s0 ≤ c → c < r0 → a ≤ c ∧ c < m ∧ m ≤ mid + m - 1 - c ∧ mid + m - 1 - c < b := by
          intro c h1 h2
          omega
        have mono : ∀ p q, s0 ≤ p → p ≤ q → q < r0 → (!lt d[mid + m - 1 - q]! d[q]!) = true → (!lt d[mid + m - 1 - p]! d[p]!) = true := by
          intro p q h1 h2 h3 h4
          obtain ⟨bp1, bp2, bp3, bp4⟩ := bounds p h1 (by omega)
          obtain ⟨bq1, bq2, bq3, bq4⟩ := bounds q (by omega) h3
          have ep : d[p]! = L[p - a]'(by omega) := by
            have := getL (p - a) (by omega)
            rwa [Nat.add_sub_cancel' bp1] at this
          have eq' : d[q]! = L[q - a]'(by omega) := by
            have := getL (q - a) (by omega)
            rwa [Nat.add_sub_cancel' bq1] at this
          have fp : d[mid + m - 1 - p]! = R[mid + m - 1 - p - m]'(by omega) := by
            have := getR (mid + m - 1 - p - m) (by omega)
            rwa [Nat.add_sub_cancel' bp3] at this
          have fq : d[mid + m - 1 - q]! = R[mid + m - 1 - q - m]'(by omega) := by
            have := getR (mid + m - 1 - q - m) (by omega)
            rwa [Nat.add_sub_cancel' bq3] at this
          rw [eq', fq] at h4
          rw [ep, fp]
          simp only [Bool.not_eq_true'] at h4 ⊢
          cases hp : lt (R[mid + m - 1 - p - m]'(by omega)) (L[p - a]'(by omega)) with
          | false => rfl
          | true =>
            have := hC.down _ (List.getElem_mem _) _ (List.getElem_mem _) _ (List.getElem_mem (h := by omega)) _ (List.getElem_mem (h := by omega)) (le_or (i := p - a) (j := q - a) hrefl uL (by omega) (by omega)) (le_or (i := mid + m - 1 - q - m) (j := mid + m - 1 - p - m) hrefl uR (by omega) (by omega)) hp
            rw [this] at h4
            cases h4
        obtain ⟨s1, s2, s3, s4⟩ := search_spec (p := fun c => !lt d[mid + m - 1 - c]! d[c]!) (r0 - s0) s0 r0 (Nat.le_refl _) hs0'.2.1 mono
        generalize hst : search (fun c => !lt d[mid + m - 1 - c]! d[c]!) s0 r0 = st at s1 s2 s3 s4 ⊢
        dsimp only
        -- the four parts
        generalize he : mid + m - st = e
        have hb1 : a ≤ st ∧ st ≤ m ∧ st ≤ mid ∧ m ≤ e ∧ e ≤ b ∧ mid ≤ e := by omega
        obtain ⟨L1, L2, rfl, l1⟩ : ∃ L1 L2, L = L1 ++ L2 ∧ L1.length = st - a := ⟨L.take (st - a), L.drop (st - a), (List.take_append_drop _ L).symm, by simp; omega⟩
        obtain ⟨R1, R2, rfl, l3⟩ : ∃ R1 R2, R = R1 ++ R2 ∧ R1.length = e - m := ⟨R.take (e - m), R.drop (e - m), (List.take_append_drop _ R).symm, by simp; omega⟩
        have l2 : L2.length = m - st := by simp at hm; omega
        have l4 : R2.length = b - e := by simp at hb; omega
        have uL' := List.pairwise_append.1 uL
        have uR' := List.pairwise_append.1 uR
        have d1 : (if st < m ∧ m < e then rotLoop m (m - st) (e - m) d else d).toList = U ++ L1 ++ R1 ++ L2 ++ R2 ++ W := by
          split
          · rename_i hc
            have := rotLoop_list (m := m) (m - st + (e - m)) (m - st) (e - m) (U ++ L1) L2 R1 (R2 ++ W) d (Nat.le_refl _) l2 l3 (by omega) (by omega) (by simp; omega) (by rw [h]; simp)
            rw [this]
            simp
          · rename_i hc
            rw [h]
            by_cases hc1 : st < m
            · have : R1 = [] := List.length_eq_zero_iff.1 (by omega)
              subst this
              simp
            · have : L2 = [] := List.length_eq_zero_iff.1 (by omega)
              subst this
              simp
        -- all of the first half stand below all of the second
        have x1 : ∀ x ∈ L1, ∀ y ∈ R2, le x y := by
          intro x hx y hy
          have n1 : 0 < L1.length := List.length_pos_of_mem hx
          have n2 : 0 < R2.length := List.length_pos_of_mem hy
          have hlt : s0 < st := by
            by_cases hc : mid < m
            · rw [if_pos hc] at hs0; omega
            · rw [if_neg hc] at hs0; omega
          have := s3 (st - 1) (by omega) (by omega)
          have e1 : d[st - 1]! = (L1 ++ L2)[st - 1 - a]'(by simp; omega) := by
            have := getL (st - 1 - a) (by simp; omega)
            rwa [show a + (st - 1 - a) = st - 1 by omega] at this
          have e2 : d[mid + m - 1 - (st - 1)]! = (R1 ++ R2)[e - m]'(by simp; omega) := by
            have := getR (e - m) (by simp; omega)
            rwa [show m + (e - m) = mid + m - 1 - (st - 1) by omega] at this
          rw [e1, e2] at this
          simp only [Bool.not_eq_true'] at this
          have h2 := hC.no _ (List.getElem_mem _) _ (List.getElem_mem _) this
          rw [List.getElem_append_left (by omega), List.getElem_append_right (by omega)] at h2
          obtain ⟨i, hi, rfl⟩ := List.getElem_of_mem hx
          obtain ⟨j, hj, rfl⟩ := List.getElem_of_mem hy
          exact htr _ _ _ (le_or hrefl uL'.1 (by omega) (by omega)) (htr _ _ _ h2 (le_or hrefl uR'.2.1 (by omega) (by omega)))
        have x2 : ∀ y ∈ R1, ∀ x ∈ L2, le y x := by
          intro y hy x hx
          have n1 : 0 < R1.length := List.length_pos_of_mem hy
          have n2 : 0 < L2.length := List.length_pos_of_mem hx
          have hlt : st < r0 := by
            by_cases hc : mid < m
            · rw [if_pos hc] at hr0; omega
            · rw [if_neg hc] at hr0; omega
          have := s4 st (Nat.le_refl _) hlt
          have e1 : d[st]! = (L1 ++ L2)[st - a]'(by simp; omega) := by
            have := getL (st - a) (by simp; omega)
            rwa [show a + (st - a) = st by omega] at this
          have e2 : d[mid + m - 1 - st]! = (R1 ++ R2)[e - 1 - m]'(by simp; omega) := by
            have := getR (e - 1 - m) (by simp; omega)
            rwa [show m + (e - 1 - m) = mid + m - 1 - st by omega] at this
          rw [e1, e2] at this
          simp only [Bool.not_eq_false'] at this
          have h2 := hC.yes _ (List.getElem_mem _) _ (List.getElem_mem _) this
          rw [List.getElem_append_left (by omega), List.getElem_append_right (by omega)] at h2
          obtain ⟨i, hi, rfl⟩ := List.getElem_of_mem hy
          obtain ⟨j, hj, rfl⟩ := List.getElem_of_mem hx
          exact htr _ _ _ (le_or hrefl uR'.1 (by omega) (by omega)) (htr _ _ _ h2 (le_or hrefl uL'.2.1 (by omega) (by omega)))
        generalize hd1 : (if st < m ∧ m < e then rotLoop m (m - st) (e - m) d else d) = dd at d1 ⊢
        -- the first half
        obtain ⟨M1, p1, p2, p3⟩ : ∃ M1, (if a < st ∧ st < mid then symMerge lt a st mid dd else dd).toList = U ++ M1 ++ (L2 ++ R2 ++ W) ∧ M1.Perm (L1 ++ R1) ∧ Up le M1 := by
          split
          · rename_i hc
            have := symMerge_list hrefl htr k U L1 R1 (L2 ++ R2 ++ W) dd a st mid (by simp at hk hL1 hR1 ⊢; omega) (by omega) (by omega) ha (by omega) (by omega) (hC.sub (fun x hx => by simp [hx]) (fun x hx => by simp [hx])) uL'.1 uR'.1 (by rw [d1]; simp)
            exact this
          · rename_i hc
            refine ⟨L1 ++ R1, by rw [d1]; simp, List.Perm.refl _, ?_⟩
            by_cases hc1 : a < st
            · have : R1 = [] := List.length_eq_zero_iff.1 (by omega)
              subst this
              simpa [Up] using uL'.1
            · have : L1 = [] := List.length_eq_zero_iff.1 (by omega)
              subst this
              simpa [Up] using uR'.1
        generalize hd2 : (if a < st ∧ st < mid then symMerge lt a st mid dd else dd) = dd2 at p1 ⊢
        have hM1 : M1.length = mid - a := by
          have := p2.length_eq
          simp at this
          omega
        obtain ⟨M2, q1, q2, q3⟩ : ∃ M2, (if mid < e ∧ e < b then symMerge lt mid e b dd2 else dd2).toList = U ++ M1 ++ M2 ++ W ∧ M2.Perm (L2 ++ R2) ∧ Up le M2 := by
          split
          · rename_i hc
            have := symMerge_list hrefl htr k (U ++ M1) L2 R2 W dd2 mid e b (by simp at hk hL1 hR1 ⊢; omega) (by omega) (by omega) (by simp; omega) (by omega) (by omega) (hC.sub (fun x hx => by simp [hx]) (fun x hx => by simp [hx])) uL'.2.1 uR'.2.1 (by rw [p1]; simp)
            exact this
          · rename_i hc
            refine ⟨L2 ++ R2, by rw [p1]; simp, List.Perm.refl _, ?_⟩
            by_cases hc1 : mid < e
            · have : R2 = [] := List.length_eq_zero_iff.1 (by omega)
              subst this
              simpa [Up] using uL'.2.1
            · have : L2 = [] := List.length_eq_zero_iff.1 (by omega)
              subst this
              simpa [Up] using uR'.2.1
        refine ⟨M1 ++ M2, by rw [q1]; simp, ?_, List.pairwise_append.2 ⟨p3, q3, fun x hx y hy => ?_⟩⟩
        · refine (p2.append q2).trans ?_
          rw [List.append_assoc, List.append_assoc]
          refine List.Perm.append_left _ ?_
          rw [← List.append_assoc, ← List.append_assoc]
          exact List.Perm.append_right _ List.perm_append_comm
        · have hx' := p2.mem_iff.1 hx
          have hy' := q2.mem_iff.1 hy
          rcases List.mem_append.1 hx' with hx' | hx' <;> rcases List.mem_append.1 hy' with hy' | hy'
          · exact uL'.2.2 x hx' y hy'
          · exact x1 x hx' y hy'
          · exact x2 x hx' y hy'
          · exact uR'.2.2 x hx' y hy'
end Go.Stab

namespace Go.Stab
open Go.Sort
variable {α : Type} [Inhabited α]
set_option linter.unusedSectionVars false
variable {lt : α → α → Bool} {le : α → α → Prop}
/-- 'less' of a later and an earlier one -/
def C (lt : α → α → Bool) (le : α → α → Prop) (x y : α) : Prop := (lt y x = true → le y x) ∧ (lt y x = false → le x y)
theorem insInner_list (htr : ∀ x y z, le x y → le y z → le x z) {U : List α} : ∀ (n : Nat) (S W : List α) (y : α) (d : Array α), S.length = n → Up le S → (∀ x ∈ S, C lt le x y) → d.toList = U ++ S ++ y :: W →
    ∃ M, (insInner lt U.length (U.length + n) d).toList = U ++ M ++ W ∧ M.Perm (y :: S) ∧ Up le M
  | 0, S, W, y, d, hn, hS, hC, h => by
    have : S = [] := List.length_eq_zero_iff.1 hn
    subst this
    refine ⟨[y], ?_, List.Perm.refl _, List.pairwise_singleton _ _⟩
    have : insInner lt U.length (U.length + 0) d = d := by
      cases U.length with
      | zero => rfl
      | succ u =>
        show insInner lt (u + 1) (u + 1) d = d
        unfold insInner
        rw [if_neg (by simp)]
    rw [this, h]
    simp
  | n + 1, S, W, y, d, hn, hS, hC, h => by
    obtain ⟨S, z, rfl⟩ : ∃ S' z, S = S' ++ [z] := by
      rcases List.eq_nil_or_concat S with rfl | ⟨S', z, e⟩
      · simp at hn
      · exact ⟨S', z, by rw [e, List.concat_eq_append]⟩
    have hn' : S.length = n := by simpa using hn
    have hz : d[U.length + n]! = z := getBang_of (by rw [h, ← hn']; simp)
    have hy : d[U.length + n + 1]! = y := getBang_of (by
      rw [h]
      have : U.length + n + 1 = (U ++ (S ++ [z])).length := by simp; omega
      rw [this]
      simp)
    have hS' := List.pairwise_append.1 hS
    show ∃ M, (insInner lt U.length (U.length + n + 1) d).toList = _ ∧ _
    unfold insInner
    rw [hz, hy]
    cases hlt : lt y z with
    | true =>
      rw [if_pos (by simp; omega)]
      have hs := swp_list (d := d) (U := U ++ S) (V := []) (W := W) (x := z) (y := y) (by rw [h]; simp)
      simp only [List.length_append, List.length_nil, Nat.add_zero] at hs
      rw [hn'] at hs
      have hsw : swp d (U.length + n + 1) (U.length + n) = swp d (U.length + n) (U.length + n + 1) := by
        apply Array.ext'
        unfold swp
        simp only [Array.toList_setIfInBounds]
        rw [hz, hy, List.set_comm _ _ (by omega)]
      obtain ⟨M, e1, e2, e3⟩ := insInner_list htr (U := U) n S (z :: W) y (swp d (U.length + n + 1) (U.length + n)) hn' hS'.1 (fun x hx => hC x (by simp [hx])) (by rw [hsw, hs]; simp)
      refine ⟨M ++ [z], by rw [e1]; simp, ?_, List.pairwise_append.2 ⟨e3, List.pairwise_singleton _ _, fun x hx w hw => ?_⟩⟩
      · refine (e2.append_right [z]).trans ?_
        simp
      · rw [List.mem_singleton.1 hw]
        rcases List.mem_cons.1 (e2.mem_iff.1 hx) with rfl | hx
        · exact (hC z (by simp)).1 hlt
        · exact hS'.2.2 x hx z (by simp)
    | false =>
      rw [if_neg (by simp)]
      refine ⟨S ++ [z] ++ [y], by rw [h]; simp, List.perm_append_comm (l₂ := [y]), List.pairwise_append.2 ⟨hS, List.pairwise_singleton _ _, fun x hx w hw => ?_⟩⟩
      rw [List.mem_singleton.1 hw]
      have hzy := (hC z (by simp)).2 hlt
      rcases List.mem_append.1 hx with hx | hx
      · exact htr _ _ _ (hS'.2.2 x hx z (by simp)) hzy
      · rw [List.mem_singleton.1 hx]; exact hzy
theorem insOuter_list (htr : ∀ x y z, le x y → le y z → le x z) {U W : List α} {b : Nat} : ∀ (T S : List α) (i : Nat) (d : Array α), 0 < S.length → i = U.length + S.length → b = i + T.length → Up le S → (∀ x ∈ S, ∀ y ∈ T, C lt le x y) → T.Pairwise (C lt le) → d.toList = U ++ S ++ T ++ W →
    ∃ M, (insOuter lt U.length b i d).toList = U ++ M ++ W ∧ M.Perm (S ++ T) ∧ Up le M
  | [], S, i, d, hS0, hi, hb, hS, hC, hT, h => by
    unfold insOuter
    rw [if_neg (by simp at hb; omega)]
    exact ⟨S, by rw [h]; simp, by simp, hS⟩
  | y :: T, S, i, d, hS0, hi, hb, hS, hC, hT, h => by
    simp only [List.length_cons] at hb
    unfold insOuter
    rw [if_pos (by omega)]
    obtain ⟨M, e1, e2, e3⟩ := insInner_list (lt := lt) htr (U := U) S.length S (T ++ W) y d rfl hS (fun x hx => hC x hx y (by simp)) (by rw [h]; simp)
    rw [← hi] at e1
    have hM : M.length = S.length + 1 := by simpa using e2.length_eq
    have hT' := List.pairwise_cons.1 hT
    obtain ⟨N, f1, f2, f3⟩ := insOuter_list htr (U := U) (W := W) (b := b) T M (i + 1) (insInner lt U.length i d) (by omega) (by omega) (by omega) e3 (fun x hx z hz => by
      rcases List.mem_cons.1 (e2.mem_iff.1 hx) with rfl | hx
      · exact hT'.1 z hz
      · exact hC x hx z (by simp [hz])) hT'.2 (by rw [e1]; simp)
    refine ⟨N, f1, f2.trans ?_, f3⟩
    refine (e2.append_right T).trans ?_
    exact (List.perm_middle).symm
/-- a block in its first order -/
theorem insertionSort_list (htr : ∀ x y z, le x y → le y z → le x z) {U B W : List α} {a b : Nat} {d : Array α} (ha : a = U.length) (hb : b = a + B.length) (hB : B.Pairwise (C lt le)) (h : d.toList = U ++ B ++ W) :
    ∃ M, (insertionSort lt d a b).toList = U ++ M ++ W ∧ M.Perm B ∧ Up le M := by
  unfold insertionSort
  subst ha
  cases B with
  | nil =>
    unfold insOuter
    rw [if_neg (by simp at hb; omega)]
    exact ⟨[], h, List.Perm.refl _, List.Pairwise.nil⟩
  | cons x B =>
    have hB' := List.pairwise_cons.1 hB
    exact insOuter_list htr (U := U) (W := W) B [x] (U.length + 1) d (by simp) rfl (by simp at hb; omega) (List.pairwise_singleton _ _) (fun x' hx y hy => by rw [List.mem_singleton.1 hx]; exact hB'.1 y hy) hB'.2 (by rw [h]; simp)

/-! ### the whole: indices by keys -/
variable (K : Nat → Nat)
def leK (x y : Nat) : Prop := K x < K y ∨ K x = K y ∧ x ≤ y
def ltK (x y : Nat) : Bool := decide (K x < K y)
theorem leK_refl (x : Nat) : leK K x x := .inr ⟨rfl, Nat.le_refl _⟩
theorem leK_trans (x y z : Nat) (h : leK K x y) (k : leK K y z) : leK K x z := by
  unfold leK at *
  omega
theorem C_of {x y : Nat} (h : x < y) : C (ltK K) (leK K) x y := by
  unfold C ltK leK
  simp only [decide_eq_true_eq, decide_eq_false_iff_not]
  omega
theorem Cmp_of {L R : List Nat} (h : ∀ x ∈ L, ∀ y ∈ R, x < y) : Cmp (ltK K) (leK K) L R :=
  ⟨fun x hx y hy => (C_of K (h x hx y hy)).1, fun x hx y hy => (C_of K (h x hx y hy)).2, fun x hx y hy x' hx' y' hy' h1 h2 h3 => by
    unfold ltK leK at *
    simp only [decide_eq_true_eq] at *
    omega⟩
def seg (d : Array Nat) (a b : Nat) : List Nat := (d.toList.drop a).take (b - a)
/-- the places a .. b hold their own numbers, in order -/
def Good (d : Array Nat) (a b : Nat) : Prop := (seg d a b).Perm (List.range' a (b - a)) ∧ Up (leK K) (seg d a b)
theorem seg_of {d : Array Nat} {U M W : List Nat} {a b : Nat} (h : d.toList = U ++ M ++ W) (ha : a = U.length) (hb : b = a + M.length) : seg d a b = M := by
  unfold seg
  rw [h, ha, hb, List.append_assoc, List.drop_left' rfl, ha, Nat.add_sub_cancel_left, List.take_left' rfl]
theorem split_at (d : Array Nat) {a b : Nat} (hab : a ≤ b) (hb : b ≤ d.size) : d.toList = d.toList.take a ++ seg d a b ++ d.toList.drop b ∧ (d.toList.take a).length = a ∧ (seg d a b).length = b - a := by
  unfold seg
  refine ⟨?_, by simp; omega, by simp; omega⟩
  have h1 := List.take_append_drop (b - a) (d.toList.drop a)
  have h2 := List.take_append_drop a d.toList
  rw [List.drop_drop, Nat.add_sub_cancel' hab] at h1
  rw [List.append_assoc, h1, h2]
theorem seg_other {d d' : Array Nat} {U M M' W : List Nat} (h : d.toList = U ++ M ++ W) (h' : d'.toList = U ++ M' ++ W) (hl : M'.length = M.length) {c e : Nat} (hc : e ≤ U.length ∨ U.length + M.length ≤ c) : seg d' c e = seg d c e := by
  unfold seg
  rw [h, h']
  rcases hc with hc | hc
  · by_cases hce : c ≤ e
    · rw [List.append_assoc, List.append_assoc, List.drop_append_of_le_length (by omega), List.drop_append_of_le_length (by omega), List.take_append_of_le_length (by simp; omega), List.take_append_of_le_length (by simp; omega)]
    · have : e - c = 0 := by omega
      rw [this]
      simp
  · have h1 : (U ++ M ++ W).drop c = W.drop (c - (U ++ M).length) := by rw [List.drop_append, List.drop_eq_nil_of_le (by simp; omega)]; simp
    have h2 : (U ++ M' ++ W).drop c = W.drop (c - (U ++ M').length) := by rw [List.drop_append, List.drop_eq_nil_of_le (by simp; omega)]; simp
    rw [h1, h2]
    simp [hl]
theorem merge_step {d : Array Nat} {a m b : Nat} (h1 : a < m) (h2 : m < b) (h3 : b ≤ d.size) (g1 : Good K d a m) (g2 : Good K d m b) :
    Good K (symMerge (ltK K) a m b d) a b ∧ (symMerge (ltK K) a m b d).size = d.size ∧ ∀ c e, e ≤ a ∨ b ≤ c → seg (symMerge (ltK K) a m b d) c e = seg d c e := by
  obtain ⟨s1, l1, l2⟩ := split_at d (Nat.le_of_lt h1) (by omega : m ≤ d.size)
  obtain ⟨s2, l3, l4⟩ := split_at d (Nat.le_of_lt h2) h3
  have e1 : d.toList = d.toList.take a ++ (seg d a m) ++ (seg d m b) ++ d.toList.drop b := by
    have : d.toList.take m = d.toList.take a ++ seg d a m := by
      have h := congrArg (List.take m) s1
      rw [List.take_left' (by simp; omega)] at h
      exact h
    rw [← this]
    exact s2
  have hcmp : Cmp (ltK K) (leK K) (seg d a m) (seg d m b) := Cmp_of K fun x hx y hy => by
    have hx' := g1.1.mem_iff.1 hx
    have hy' := g2.1.mem_iff.1 hy
    rw [List.mem_range'_1] at hx' hy'
    omega
  obtain ⟨M, m1, m2, m3⟩ := symMerge_list (lt := ltK K) (le := leK K) (leK_refl K) (leK_trans K) _ (d.toList.take a) (seg d a m) (seg d m b) (d.toList.drop b) d a m b (Nat.le_refl _) (by omega) (by omega) l1.symm (by omega) (by omega) hcmp g1.2 g2.2 e1
  have hM : M.length = b - a := by
    have := m2.length_eq
    simp only [List.length_append] at this
    omega
  have hseg : seg (symMerge (ltK K) a m b d) a b = M := seg_of m1 l1.symm (by omega)
  refine ⟨⟨?_, ?_⟩, ?_, fun c e hc => ?_⟩
  · rw [hseg]
    refine m2.trans ((g1.1.append g2.1).trans ?_)
    have : b - a = (m - a) + (b - m) := by omega
    rw [this, ← List.range'_append_1, show a + (m - a) = m by omega]
  · rw [hseg]; exact m3
  · have := congrArg List.length m1
    have e2 := congrArg List.length e1
    simp only [List.length_append, Array.length_toList] at this e2
    omega
  · exact seg_other (M := seg d a m ++ seg d m b) (e1.trans (by simp)) m1 (by simp; omega) (by simp only [List.length_append]; omega)
theorem ins_step {d : Array Nat} {a b : Nat} (h1 : a ≤ b) (h3 : b ≤ d.size) (g : seg d a b = List.range' a (b - a)) :
    Good K (insertionSort (ltK K) d a b) a b ∧ (insertionSort (ltK K) d a b).size = d.size ∧ ∀ c e, e ≤ a ∨ b ≤ c → seg (insertionSort (ltK K) d a b) c e = seg d c e := by
  obtain ⟨s1, l1, l2⟩ := split_at d h1 h3
  have hB : (seg d a b).Pairwise (C (ltK K) (leK K)) := by
    rw [g]
    exact (List.pairwise_lt_range' (s := a) (n := b - a)).imp fun h => C_of K h
  obtain ⟨M, m1, m2, m3⟩ := insertionSort_list (lt := ltK K) (le := leK K) (b := b) (leK_trans K) l1.symm (by omega) hB s1
  have hM : M.length = b - a := by rw [m2.length_eq, l2]
  have hseg : seg (insertionSort (ltK K) d a b) a b = M := seg_of m1 l1.symm (by omega)
  refine ⟨⟨?_, ?_⟩, ?_, fun c e hc => ?_⟩
  · rw [hseg, ← g]; exact m2
  · rw [hseg]; exact m3
  · have := congrArg List.length m1
    have e2 := congrArg List.length s1
    simp only [List.length_append, Array.length_toList] at this e2
    omega
  · exact seg_other s1 m1 (by omega) (by omega)
theorem Good.congr {d d' : Array Nat} {a b : Nat} (h : seg d' a b = seg d a b) (g : Good K d a b) : Good K d' a b := by
  unfold Good
  rw [h]
  exact g
/-- blocks of bs -/
def Blocks (d : Array Nat) (bs n : Nat) : Prop := ∀ k, k * bs < n → Good K d (k * bs) (min ((k + 1) * bs) n)
theorem stabIns_spec (n : Nat) : ∀ (f q : Nat) (d : Array Nat), n + 20 - q * 20 ≤ f → q * 20 ≤ n → d.size = n → (∀ c e, q * 20 ≤ c → c ≤ e → e ≤ n → seg d c e = List.range' c (e - c)) → (∀ k, k < q → Good K d (k * 20) ((k + 1) * 20)) →
    (stabIns (ltK K) n (q * 20) (q * 20 + 20) d).size = n ∧ Blocks K (stabIns (ltK K) n (q * 20) (q * 20 + 20) d) 20 n
  | 0, q, d, hf, hq, hsz, h1, h2 => by omega
  | f + 1, q, d, hf, hq, hsz, h1, h2 => by
    unfold stabIns
    split
    · rename_i hb
      obtain ⟨g1, g2, g3⟩ := ins_step K (d := d) (a := q * 20) (b := q * 20 + 20) (by omega) (by omega) (h1 _ _ (Nat.le_refl _) (by omega) hb)
      have := stabIns_spec n f (q + 1) (insertionSort (ltK K) d (q * 20) (q * 20 + 20)) (by omega) (by omega) (by omega)
        (fun c e hc hce he => by rw [g3 c e (.inr (by omega))]; exact h1 c e (by omega) hce he)
        (fun k hk => by
          by_cases hkq : k = q
          · subst hkq
            have e : (k + 1) * 20 = k * 20 + 20 := by omega
            rw [e]
            exact g1
          · exact Good.congr K (g3 _ _ (.inl (by omega))) (h2 k (by omega)))
      have e : (q + 1) * 20 = q * 20 + 20 := by omega
      rw [e] at this
      exact this
    · rename_i hb
      obtain ⟨g1, g2, g3⟩ := ins_step K (d := d) (a := q * 20) (b := n) hq (by omega) (h1 _ _ (Nat.le_refl _) hq (Nat.le_refl _))
      refine ⟨by omega, fun k hk => ?_⟩
      by_cases hkq : k < q
      · have e : min ((k + 1) * 20) n = (k + 1) * 20 := by omega
        rw [e]
        exact Good.congr K (g3 _ _ (.inl (by omega))) (h2 k hkq)
      · have : k = q := by omega
        subst this
        have e : min ((k + 1) * 20) n = n := by omega
        rw [e]
        exact g1
theorem mergePass_spec (bs n : Nat) (hbs : 0 < bs) : ∀ (f q : Nat) (d : Array Nat), n + 2 * bs - q * (2 * bs) ≤ f → d.size = n → (∀ k, k < q → Good K d (k * (2 * bs)) (min ((k + 1) * (2 * bs)) n)) → (∀ k, 2 * q ≤ k → k * bs < n → Good K d (k * bs) (min ((k + 1) * bs) n)) → (q = 0 ∨ q * (2 * bs) ≤ n) →
    (mergePass (ltK K) bs n (q * (2 * bs)) (q * (2 * bs) + 2 * bs) d).size = n ∧ Blocks K (mergePass (ltK K) bs n (q * (2 * bs)) (q * (2 * bs) + 2 * bs) d) (2 * bs) n
  | 0, q, d, hf, hsz, h1, h2, hq => by
    exfalso
    rcases hq with rfl | hq
    · simp at hf; omega
    · omega
  | f + 1, q, d, hf, hsz, h1, h2, hq => by
    have c0 : 2 * q * bs = q * (2 * bs) := by rw [Nat.mul_comm 2 q, Nat.mul_assoc]
    have c1 : (2 * q + 1) * bs = q * (2 * bs) + bs := by rw [Nat.add_mul, c0, Nat.one_mul]
    have c2 : (2 * q + 1 + 1) * bs = q * (2 * bs) + 2 * bs := by rw [Nat.add_mul, c1, Nat.one_mul]; omega
    have c3 : (q + 1) * (2 * bs) = q * (2 * bs) + 2 * bs := by rw [Nat.add_mul, Nat.one_mul]
    have k2 := h2 (2 * q) (Nat.le_refl _)
    have k3 := h2 (2 * q + 1) (Nat.le_succ _)
    rw [c0, c1] at k2
    rw [c1, c2] at k3
    have below : ∀ k, k < q → (k + 1) * (2 * bs) ≤ q * (2 * bs) := fun k hk => Nat.mul_le_mul_right _ hk
    have above : ∀ k, 2 * (q + 1) ≤ k → q * (2 * bs) + 2 * bs ≤ k * bs := fun k hk => by
      have := Nat.mul_le_mul_right bs hk
      have e : 2 * (q + 1) * bs = q * (2 * bs) + 2 * bs := by rw [Nat.mul_comm 2 (q + 1), Nat.mul_assoc, c3]
      omega
    generalize hA0 : q * (2 * bs) = A at hf hq c0 c1 c2 c3 k2 k3 below above ⊢
    unfold mergePass
    split
    · rename_i hb
      have m1 := merge_step K (d := d) (a := A) (m := A + bs) (b := A + 2 * bs) (by omega) (by omega) (by omega) (by
        have := k2 (by omega)
        rwa [Nat.min_eq_left (by omega)] at this) (by
        have := k3 (by omega)
        rwa [Nat.min_eq_left (by omega)] at this)
      obtain ⟨g1, g2, g3⟩ := m1
      have := mergePass_spec bs n hbs f (q + 1) (symMerge (ltK K) A (A + bs) (A + 2 * bs) d) (by omega) (by omega)
        (fun k hk => by
          by_cases hkq : k = q
          · subst hkq
            rw [c3, Nat.min_eq_left (by omega)]
            rw [hA0]
            exact g1
          · have := below k (by omega)
            exact Good.congr K (g3 _ _ (.inl (by omega))) (h1 k (by omega)))
        (fun k hk hlt => Good.congr K (g3 _ _ (.inr (above k hk))) (h2 k (by omega) hlt)) (.inr (by omega))
      rw [c3] at this
      exact this
    · rename_i hb
      have fin : ∀ r : Array Nat, r.size = n → (A < n → Good K r A n) → (∀ c e, e ≤ A → seg r c e = seg d c e) → Blocks K r (2 * bs) n := by
        intro r hr hg hs k hk
        by_cases hkq : k < q
        · have := below k hkq
          exact Good.congr K (hs _ _ (by omega)) (h1 k hkq)
        · by_cases hke : k = q
          · subst hke
            rw [hA0] at hk
            rw [c3, Nat.min_eq_right (by omega), hA0]
            exact hg hk
          · exfalso
            have := Nat.mul_le_mul_right (2 * bs) (show q + 1 ≤ k by omega)
            rw [c3] at this
            omega
      split
      · rename_i hm
        obtain ⟨g1, g2, g3⟩ := merge_step K (d := d) (a := A) (m := A + bs) (b := n) (by omega) hm (by omega) (by
          have := k2 (by omega)
          rwa [Nat.min_eq_left (by omega)] at this) (by
          have := k3 (by omega)
          rwa [Nat.min_eq_right (by omega)] at this)
        exact ⟨by omega, fin _ (by omega) (fun _ => g1) (fun c e he => g3 c e (.inl he))⟩
      · rename_i hm
        refine ⟨hsz, fin d hsz (fun hA => ?_) fun _ _ _ => rfl⟩
        have := k2 hA
        rwa [Nat.min_eq_right (by omega)] at this
theorem mergeAll_spec (n : Nat) (hn : 0 < n) : ∀ (f bs : Nat) (d : Array Nat), n - bs ≤ f → 0 < bs → d.size = n → Blocks K d bs n → (mergeAll (ltK K) bs n d).size = n ∧ Good K (mergeAll (ltK K) bs n d) 0 n
  | 0, bs, d, hf, hbs, hsz, hB => by
    unfold mergeAll
    rw [dif_neg (by omega)]
    have := hB 0 (by omega)
    rw [Nat.zero_mul, Nat.zero_add, Nat.one_mul, Nat.min_eq_right (by omega)] at this
    exact ⟨hsz, this⟩
  | f + 1, bs, d, hf, hbs, hsz, hB => by
    unfold mergeAll
    split
    · rename_i h
      have := mergePass_spec K bs n hbs (n + 2 * bs) 0 d (by simp) hsz (fun k hk => by omega) (fun k _ hk => hB k hk) (.inl rfl)
      rw [Nat.zero_mul, Nat.zero_add] at this
      exact mergeAll_spec n hn f (2 * bs) _ (by omega) (by omega) this.1 this.2
    · rename_i h
      have := hB 0 (by omega)
      rw [Nat.zero_mul, Nat.zero_add, Nat.one_mul, Nat.min_eq_right (by omega)] at this
      exact ⟨hsz, this⟩
/-- The stable sort of 0 .. n by keys: a rearrangement, rising by key, equal keys in their first order. -/
theorem stable_spec (n : Nat) : (stable (ltK K) (Array.range n)).toList.Perm (List.range n) ∧ Up (leK K) (stable (ltK K) (Array.range n)).toList := by
  have hr : (Array.range n).toList = List.range' 0 n := by rw [Array.toList_range, List.range_eq_range']
  by_cases hn : n = 0
  · subst hn
    have : stable (ltK K) (Array.range 0) = #[] := by
      unfold stable mergeAll stabIns insertionSort insOuter
      simp
    rw [this]
    exact ⟨by simp, List.Pairwise.nil⟩
  · unfold stable
    rw [Array.size_range]
    obtain ⟨i1, i2⟩ := stabIns_spec K n (n + 20) 0 (Array.range n) (by omega) (by omega) (by simp) (fun c e _ hce he => by
      unfold seg
      rw [hr, List.drop_range']
      have e1 : 0 + c * 1 = c := by omega
      have e2 : n - c = (e - c) + (n - e) := by omega
      rw [e1, e2, ← List.range'_append_1, List.take_left' (by simp)]) (fun k hk => by omega)
    rw [Nat.zero_mul, Nat.zero_add] at i1 i2
    obtain ⟨m1, m2⟩ := mergeAll_spec K n (by omega) n 20 _ (by omega) (by omega) i1 i2
    have hs : seg (mergeAll (ltK K) 20 n (stabIns (ltK K) n 0 20 (Array.range n))) 0 n = (mergeAll (ltK K) 20 n (stabIns (ltK K) n 0 20 (Array.range n))).toList := by
      unfold seg
      rw [List.drop_zero, Nat.sub_zero, List.take_of_length_le (by simp [m1])]
    unfold Good at m2
    rw [hs, Nat.sub_zero, ← List.range_eq_range'] at m2
    exact m2
end Go.Stab

namespace Go.Stab
open Go.Sort
variable {α : Type} [Inhabited α]
theorem swapRange_size (a b n : Nat) : ∀ (k i : Nat) (d : Array α), n - i ≤ k → (swapRange a b n i d).size = d.size
  | 0, i, d, h => by unfold swapRange; rw [if_neg (by omega)]
  | k + 1, i, d, h => by
    unfold swapRange
    split
    · rw [swapRange_size a b n k (i + 1) _ (by omega), swp_size]
    · rfl
theorem rotLoop_size (m : Nat) : ∀ (k i j : Nat) (d : Array α), i + j ≤ k → (rotLoop m i j d).size = d.size
  | 0, i, j, d, h => by
    unfold rotLoop
    rw [if_pos (by omega), swapRange_size _ _ _ i 0 _ (by omega)]
  | k + 1, i, j, d, h => by
    unfold rotLoop
    repeat' split
    · rw [swapRange_size _ _ _ i 0 _ (by omega)]
    · rw [rotLoop_size m k _ _ _ (by omega), swapRange_size _ _ _ j 0 _ (by omega)]
    · rfl
    · rw [rotLoop_size m k _ _ _ (by omega), swapRange_size _ _ _ i 0 _ (by omega)]
    · rfl
theorem moveUp_size (i : Nat) : ∀ (k j : Nat) (d : Array α), i - j ≤ k → (moveUp i j d).size = d.size
  | 0, j, d, h => by unfold moveUp; rw [if_neg (by omega)]
  | k + 1, j, d, h => by
    unfold moveUp
    split
    · rw [moveUp_size i k _ _ (by omega), swp_size]
    · rfl
theorem moveDown_size (i : Nat) : ∀ (k : Nat) (d : Array α), (moveDown i k d).size = d.size
  | 0, d => rfl
  | k + 1, d => by
    unfold moveDown
    split
    · rw [moveDown_size i k, swp_size]
    · rfl
theorem search_in (p : Nat → Bool) : ∀ (k i j : Nat), j - i ≤ k → i ≤ j → i ≤ search p i j ∧ search p i j ≤ j
  | 0, i, j, h, hij => by unfold search; rw [if_neg (by omega)]; omega
  | k + 1, i, j, h, hij => by
    unfold search
    split
    · split
      · have := search_in p k ((i + j) / 2 + 1) j (by omega) (by omega); omega
      · have := search_in p k i ((i + j) / 2) (by omega) (by omega); omega
    · omega
variable (lt : α → α → Bool)
/-- the general case of symMerge, its parts by name -/
def stOf (a m b : Nat) (d : Array α) : Nat := search (fun c => !lt d[(a + b) / 2 + m - 1 - c]! d[c]!) (if (a + b) / 2 < m then (a + b) / 2 + m - b else a) (if (a + b) / 2 < m then (a + b) / 2 else m)
def d1Of (a m b s : Nat) (d : Array α) : Array α := if s < m ∧ m < (a + b) / 2 + m - s then rotLoop m (m - s) ((a + b) / 2 + m - s - m) d else d
def d2Of (a b s : Nat) (d : Array α) : Array α := if a < s ∧ s < (a + b) / 2 then symMerge lt a s ((a + b) / 2) d else d
def d3Of (a m b s : Nat) (d : Array α) : Array α := if (a + b) / 2 < (a + b) / 2 + m - s ∧ (a + b) / 2 + m - s < b then symMerge lt ((a + b) / 2) ((a + b) / 2 + m - s) b d else d
theorem symMerge_gen (a m b : Nat) (d : Array α) (h0 : m - a ≠ 1) (h1 : b - m ≠ 1) :
    symMerge lt a m b d = d3Of lt a m b (stOf lt a m b d) (d2Of lt a b (stOf lt a m b d) (d1Of a m b (stOf lt a m b d) d)) := by
  conv => lhs; unfold symMerge
  rw [if_neg h0, if_neg h1]
  rfl
theorem symMerge_size : ∀ (k a m b : Nat) (d : Array α), b - a ≤ k → a < m → m < b → (symMerge lt a m b d).size = d.size
  | 0, a, m, b, d, h, _, _ => by omega
  | k + 1, a, m, b, d, h, h2, h3 => by
    by_cases h0 : m - a = 1
    · unfold symMerge; rw [if_pos h0, moveUp_size _ _ _ _ (Nat.le_refl _)]
    · by_cases h1 : b - m = 1
      · unfold symMerge; rw [if_neg h0, if_pos h1, moveDown_size]
      · rw [symMerge_gen lt a m b d h0 h1]
        generalize stOf lt a m b d = s
        have e1 : (d1Of a m b s d).size = d.size := by unfold d1Of; split; rw [rotLoop_size _ _ _ _ _ (Nat.le_refl _)]; rfl
        generalize d1Of a m b s d = d1 at e1
        have e2 : (d2Of lt a b s d1).size = d.size := by
          unfold d2Of; split
          · rw [symMerge_size k _ _ _ _ (by omega) (by omega) (by omega), e1]
          · exact e1
        generalize d2Of lt a b s d1 = d2 at e2
        unfold d3Of; split
        · rw [symMerge_size k _ _ _ _ (by omega) (by omega) (by omega), e2]
        · exact e2
theorem insInner_size (a : Nat) : ∀ (k : Nat) (d : Array α), (insInner lt a k d).size = d.size := by
  intro k
  induction k with
  | zero => intro d; unfold insInner; rfl
  | succ k ih =>
    intro d
    unfold insInner
    split
    · rw [ih, swp_size]
    · rfl
theorem insOuter_size (a b : Nat) : ∀ (k i : Nat) (d : Array α), b - i ≤ k → (insOuter lt a b i d).size = d.size
  | 0, i, d, h => by unfold insOuter; rw [if_neg (by omega)]
  | k + 1, i, d, h => by
    unfold insOuter
    split
    · rw [insOuter_size a b k _ _ (by omega), insInner_size]
    · rfl
theorem insertionSort_size (d : Array α) (a b : Nat) : (insertionSort lt d a b).size = d.size := insOuter_size lt a b _ _ _ (Nat.le_refl _)
end Go.Stab

/-! Rounding of a nonnegative rational to a rung, and that it is monotone. -/
namespace Go.Flo
/-- the whole number nearest to N / n, the even one of two -/
def rne (N n : Nat) : Nat := if n < 2 * (N % n) ∨ (2 * (N % n) = n ∧ (N / n) % 2 = 1) then N / n + 1 else N / n
theorem div_mono {N n N' n' : Nat} (hn : 0 < n) (hn' : 0 < n') (h : N * n' ≤ N' * n) : N / n ≤ N' / n' := by
  rw [Nat.le_div_iff_mul_le hn']
  have h1 : N / n * n ≤ N := Nat.div_mul_le_self N n
  have h2 : N / n * n * n' ≤ N' * n := Nat.le_trans (Nat.mul_le_mul_right n' h1) h
  have h3 : N / n * n' * n ≤ N' * n := by
    rw [Nat.mul_right_comm]
    exact h2
  exact Nat.le_of_mul_le_mul_right h3 hn
theorem rne_mono {N n N' n' : Nat} (hn : 0 < n) (hn' : 0 < n') (h : N * n' ≤ N' * n) : rne N n ≤ rne N' n' := by
  have hq := div_mono hn hn' h
  have e1 := Nat.div_add_mod N n
  have e2 := Nat.div_add_mod N' n'
  rcases Nat.lt_or_eq_of_le hq with hlt | heq
  · unfold rne
    split <;> split <;> omega
  · have hr : (N % n) * n' ≤ (N' % n') * n := by
      have h1 : N * n' = N / n * (n * n') + N % n * n' := by
        conv => lhs; rw [← e1]
        rw [Nat.add_mul, Nat.mul_comm n (N / n), Nat.mul_assoc]
      have h2 : N' * n = N / n * (n * n') + N' % n' * n := by
        conv => lhs; rw [← e2]
        rw [← heq, Nat.add_mul, Nat.mul_comm n' (N / n), Nat.mul_assoc, Nat.mul_comm n' n]
      rw [h1, h2] at h
      omega
    have up1 : n < 2 * (N % n) → n' < 2 * (N' % n') := by
      intro hu
      have h1 : n * n' < 2 * (N % n) * n' := Nat.mul_lt_mul_of_pos_right hu hn'
      have h2 : 2 * (N % n) * n' ≤ 2 * (N' % n') * n := by rw [Nat.mul_assoc, Nat.mul_assoc]; omega
      have h3 : n' * n < 2 * (N' % n') * n := by rw [Nat.mul_comm n' n]; omega
      exact Nat.lt_of_mul_lt_mul_right h3
    have up2 : 2 * (N % n) = n → n' ≤ 2 * (N' % n') := by
      intro hu
      have h1 : n * n' = 2 * (N % n) * n' := by rw [hu]
      have h2 : 2 * (N % n) * n' ≤ 2 * (N' % n') * n := by rw [Nat.mul_assoc, Nat.mul_assoc]; omega
      have h3 : n' * n ≤ 2 * (N' % n') * n := by rw [Nat.mul_comm n' n]; omega
      exact Nat.le_of_mul_le_mul_right h3 hn
    unfold rne
    rw [← heq]
    split
    · rename_i hc
      rw [if_pos]
      · exact Nat.le_refl _
      · rcases hc with hc | ⟨hc, ho⟩
        · exact .inl (up1 hc)
        · have := up2 hc
          rcases Nat.lt_or_eq_of_le this with h' | h'
          · exact .inl h'
          · exact .inr ⟨h'.symm, ho⟩
    · split <;> omega
theorem rne_congr {N n N' n' : Nat} (hn : 0 < n) (hn' : 0 < n') (h : N * n' = N' * n) : rne N n = rne N' n' :=
  Nat.le_antisymm (rne_mono hn hn' (Nat.le_of_eq h)) (rne_mono hn' hn (Nat.le_of_eq h.symm))
theorem rne_mul (q n : Nat) (hn : 0 < n) : rne (q * n) n = q := by
  unfold rne
  rw [Nat.mul_mod_left, Nat.mul_div_cancel _ hn, if_neg (by omega)]
/-- how far above the least binade N / n stands (fb: the digits of a fraction) -/
def ex (fb N n : Nat) : Nat := (N / n).log2 - fb
def rungOf (fb N n : Nat) : Nat := ex fb N n * 2 ^ fb + rne N (n * 2 ^ ex fb N n)
theorem log2_mono {a b : Nat} (h : a ≤ b) : a.log2 ≤ b.log2 := by
  by_cases ha : a = 0
  · subst ha; simp
  · exact (Nat.le_log2 (by omega)).2 (Nat.le_trans (Nat.log2_self_le ha) h)
theorem ex_mono {fb N n N' n' : Nat} (hn : 0 < n) (hn' : 0 < n') (h : N * n' ≤ N' * n) : ex fb N n ≤ ex fb N' n' := by
  unfold ex
  have := log2_mono (div_mono hn hn' h)
  omega
theorem ex_hi {fb N n : Nat} (hn : 0 < n) : N < 2 ^ (fb + 1) * (n * 2 ^ ex fb N n) := by
  have h1 : N / n < 2 ^ ((N / n).log2 + 1) := Nat.lt_log2_self
  have h2 : 2 ^ ((N / n).log2 + 1) ≤ 2 ^ (fb + 1 + ex fb N n) := Nat.pow_le_pow_right (by decide) (by unfold ex; omega)
  have h3 : N < 2 ^ (fb + 1 + ex fb N n) * n := (Nat.div_lt_iff_lt_mul hn).1 (Nat.lt_of_lt_of_le h1 h2)
  rw [Nat.pow_add] at h3
  rw [Nat.mul_comm n, ← Nat.mul_assoc]
  exact h3
theorem ex_lo {fb N n : Nat} (hn : 0 < n) (he : 0 < ex fb N n) : 2 ^ fb * (n * 2 ^ ex fb N n) ≤ N := by
  have hne : N / n ≠ 0 := by
    intro h0
    unfold ex at he
    rw [h0] at he
    simp at he
  have h1 : 2 ^ (N / n).log2 ≤ N / n := Nat.log2_self_le hne
  have h2 : (N / n).log2 = fb + ex fb N n := by unfold ex at he ⊢; omega
  rw [h2] at h1
  have h3 := (Nat.le_div_iff_mul_le hn).1 h1
  rw [Nat.pow_add] at h3
  rw [Nat.mul_comm n, ← Nat.mul_assoc]
  exact h3
theorem rungOf_mono {fb N n N' n' : Nat} (hn : 0 < n) (hn' : 0 < n') (h : N * n' ≤ N' * n) : rungOf fb N n ≤ rungOf fb N' n' := by
  have he := ex_mono (fb := fb) hn hn' h
  have p : ∀ k, 0 < 2 ^ k := fun k => Nat.pos_of_ne_zero (by simp)
  rcases Nat.lt_or_eq_of_le he with hlt | heq
  · unfold rungOf
    have h1 : rne N (n * 2 ^ ex fb N n) ≤ 2 ^ (fb + 1) := by
      have hm : 0 < n * 2 ^ ex fb N n := Nat.mul_pos hn (p _)
      have := rne_mono (N := N) (N' := 2 ^ (fb + 1) * (n * 2 ^ ex fb N n)) hm hm (Nat.mul_le_mul_right _ (Nat.le_of_lt (ex_hi hn)))
      rwa [rne_mul _ _ hm] at this
    have h2 : 2 ^ fb ≤ rne N' (n' * 2 ^ ex fb N' n') := by
      have hm : 0 < n' * 2 ^ ex fb N' n' := Nat.mul_pos hn' (p _)
      have := rne_mono (N := 2 ^ fb * (n' * 2 ^ ex fb N' n')) (N' := N') hm hm (Nat.mul_le_mul_right _ (ex_lo hn' (by omega)))
      rwa [rne_mul _ _ hm] at this
    have h3 : (ex fb N n + 1) * 2 ^ fb ≤ ex fb N' n' * 2 ^ fb := Nat.mul_le_mul_right _ hlt
    rw [Nat.add_mul, Nat.one_mul] at h3
    rw [Nat.pow_succ] at h1
    omega
  · unfold rungOf
    rw [heq]
    refine Nat.add_le_add_left (rne_mono (Nat.mul_pos hn (p _)) (Nat.mul_pos hn' (p _)) ?_) _
    rw [← Nat.mul_assoc, ← Nat.mul_assoc]
    exact Nat.mul_le_mul_right _ h
theorem rungOf_congr {fb N n N' n' : Nat} (hn : 0 < n) (hn' : 0 < n') (h : N * n' = N' * n) : rungOf fb N n = rungOf fb N' n' :=
  Nat.le_antisymm (rungOf_mono hn hn' (Nat.le_of_eq h)) (rungOf_mono hn' hn (Nat.le_of_eq h.symm))
/-- cutting digits off -/
theorem cut_even (neg : Bool) (N drop : Nat) : Ieee.Toward.even.cut neg N drop = rne N (2 ^ drop) := by
  have key : ∀ gap : Nat, 0 < gap → N / gap + (decide (gap < 2 * (N % gap)) || (gap == 2 * (N % gap) && N / gap % 2 == 1)).toNat = rne N gap := by
    intro gap hg
    unfold rne
    by_cases h1 : gap < 2 * (N % gap)
    · rw [if_pos (.inl h1)]
      simp [h1]
    · by_cases h2 : gap = 2 * (N % gap)
      · by_cases h3 : N / gap % 2 = 1
        · rw [if_pos (.inr ⟨h2.symm, h3⟩)]
          have : (gap == 2 * (N % gap)) = true := by simpa using h2
          rw [this]
          simp [h3]
        · rw [if_neg (by rintro (h | ⟨_, h⟩) <;> contradiction)]
          simp [h1, h3]
      · rw [if_neg (by rintro (h | ⟨h, _⟩) <;> omega)]
        simp [h1, h2]
  unfold Ieee.Toward.cut
  simp only
  have hk := key (1 <<< min drop (N.log2 + 2)) (by rw [Nat.one_shiftLeft]; exact Nat.pos_of_ne_zero (by simp))
  rw [hk, Nat.one_shiftLeft]
  by_cases hd : drop ≤ N.log2 + 2
  · rw [Nat.min_eq_left hd]
  · rw [Nat.min_eq_right (by omega)]
    have small : ∀ k, N.log2 + 2 ≤ k → rne N (2 ^ k) = 0 := by
      intro k hk
      have h1 : N < 2 ^ (N.log2 + 1) := Nat.lt_log2_self
      have h2 : 2 ^ (N.log2 + 2) ≤ 2 ^ k := Nat.pow_le_pow_right (by decide) hk
      have h3 : 2 ^ (N.log2 + 2) = 2 * 2 ^ (N.log2 + 1) := by rw [Nat.pow_succ]; omega
      unfold rne
      rw [Nat.mod_eq_of_lt (by omega), Nat.div_eq_of_lt (by omega), if_neg (by omega)]
    rw [small _ (Nat.le_refl _), small _ (by omega)]
end Go.Flo

namespace Go.Flo
open Ieee
theorem p2 (k : Nat) : 0 < 2 ^ k := Nat.pos_of_ne_zero (by simp)
theorem log2_eq {n k : Nat} (h1 : 2 ^ k ≤ n) (h2 : n < 2 ^ (k + 1)) : n.log2 = k := by
  have hn : n ≠ 0 := by have := p2 k; omega
  have a := (Nat.le_log2 hn).2 h1
  have b := (Nat.log2_lt hn).2 h2
  omega
theorem log2_mul {m : Nat} (hm : m ≠ 0) (a : Nat) : (m * 2 ^ a).log2 = m.log2 + a := by
  refine log2_eq ?_ ?_
  · rw [Nat.pow_add]
    exact Nat.mul_le_mul_right _ (Nat.log2_self_le hm)
  · rw [show m.log2 + a + 1 = m.log2 + 1 + a by omega, Nat.pow_add]
    exact Nat.mul_lt_mul_of_pos_right Nat.lt_log2_self (p2 a)
theorem log2_div (m b : Nat) : (m / 2 ^ b).log2 = m.log2 - b := by
  by_cases hm : m = 0
  · subst hm; simp
  · by_cases hb : b ≤ m.log2
    · refine log2_eq ?_ ?_
      · rw [Nat.le_div_iff_mul_le (p2 b), ← Nat.pow_add, Nat.sub_add_cancel hb]
        exact Nat.log2_self_le hm
      · rw [Nat.div_lt_iff_lt_mul (p2 b), ← Nat.pow_add, show m.log2 - b + 1 + b = m.log2 + 1 by omega]
        exact Nat.lt_log2_self
    · have : m / 2 ^ b = 0 := Nat.div_eq_of_lt (Nat.lt_of_lt_of_le Nat.lt_log2_self (Nat.pow_le_pow_right (by decide) (by omega)))
      rw [this]
      simp
      omega
theorem rungOf_zero (fb n : Nat) (_hn : 0 < n) : rungOf fb 0 n = 0 := by
  unfold rungOf ex rne
  simp
  try omega
theorem nearest_eq (f : Format) (mag : Nat) (place : Int) :
    f.nearest false mag place = min (rungOf f.fractionBits (mag * 2 ^ (place - f.leastPlace).toNat) (2 ^ (f.leastPlace - place).toNat)) f.infRung := by
  unfold Format.nearest
  by_cases hm : mag = 0
  · rw [if_pos hm, hm, Nat.zero_mul, rungOf_zero _ _ (p2 _)]
    simp [Format.word]
  · rw [if_neg hm]
    simp only [Format.word, Bool.false_eq_true, if_false, cut_even, Nat.shiftLeft_eq]
    congr 1
    generalize hl : f.leastPlace = least
    generalize hlast : max (place + ↑mag.log2 - ↑f.fractionBits) least = last
    generalize ha : (place - least).toNat = a
    generalize hb : (least - place).toNat = b
    have hex : ex f.fractionBits (mag * 2 ^ a) (2 ^ b) = (last - least).toNat := by
      unfold ex
      rw [log2_div, log2_mul hm]
      omega
    unfold rungOf Format.binade
    rw [hex]
    congr 1
    refine rne_congr (p2 _) (Nat.mul_pos (p2 _) (p2 _)) ?_
    rw [← Nat.pow_add, Nat.mul_assoc, Nat.mul_assoc, ← Nat.pow_add, ← Nat.pow_add]
    congr 2
    omega
/-- what a rung is worth, in units of the least place -/
def val (fb w : Nat) : Nat := if w < 2 ^ fb then w else (2 ^ fb + w % 2 ^ fb) * 2 ^ (w / 2 ^ fb - 1)
theorem rungOf_val (fb w : Nat) : rungOf fb (val fb w) 1 = w := by
  unfold val
  split
  · rename_i h
    have he : ex fb w 1 = 0 := by
      unfold ex
      rw [Nat.div_one]
      by_cases hw : w = 0
      · subst hw; simp
      · have := (Nat.log2_lt hw).2 h
        omega
    unfold rungOf
    rw [he, Nat.zero_mul, Nat.zero_add, Nat.pow_zero, Nat.mul_one]
    have := rne_mul w 1 (by decide)
    rwa [Nat.mul_one] at this
  · rename_i h
    have hpos : 0 < 2 ^ fb := p2 fb
    have hq : 1 ≤ w / 2 ^ fb := (Nat.le_div_iff_mul_le hpos).2 (by omega)
    have hmod := Nat.mod_lt w hpos
    have hlog : (2 ^ fb + w % 2 ^ fb).log2 = fb := log2_eq (by omega) (by rw [Nat.pow_succ]; omega)
    have he : ex fb ((2 ^ fb + w % 2 ^ fb) * 2 ^ (w / 2 ^ fb - 1)) 1 = w / 2 ^ fb - 1 := by
      unfold ex
      rw [Nat.div_one, log2_mul (by omega), hlog]
      omega
    unfold rungOf
    rw [he, Nat.one_mul, rne_mul _ _ (p2 _), Nat.sub_mul, Nat.one_mul]
    have h1 := Nat.div_add_mod w (2 ^ fb)
    rw [Nat.mul_comm] at h1
    have h2 : 2 ^ fb ≤ w / 2 ^ fb * 2 ^ fb := Nat.le_mul_of_pos_left _ hq
    omega
/-- a finite word without a sign -/
theorem read_eq (f : Format) {w : Nat} (h : w < f.infRung) (hs : f.infRung ≤ f.signWeight) : ∃ (mag : Nat) (up : Nat), f.read w = .number false mag (f.leastPlace + up) ∧ mag * 2 ^ up = val f.fractionBits w ∧ (w = 0 ↔ mag = 0) := by
  have hw : w < f.signWeight := by omega
  unfold Format.read val
  rw [Nat.mod_eq_of_lt hw, Nat.div_eq_of_lt hw]
  have hpos : 0 < 2 ^ f.fractionBits := p2 _
  by_cases hb : w < 2 ^ f.fractionBits
  · refine ⟨w, 0, ?_, ?_, Iff.rfl⟩
    · have : w < f.binade := hb
      simp [this]
    · rw [if_pos hb]; simp
  · refine ⟨2 ^ f.fractionBits + w % 2 ^ f.fractionBits, w / 2 ^ f.fractionBits - 1, ?_, ?_, by constructor <;> intro hh <;> omega⟩
    · have : ¬ w < f.binade := hb
      simp only [this, if_false, h, if_true]
      rfl
    · rw [if_neg hb]
theorem add_eq (f : Format) {x y : Nat} (hx : x < f.infRung) (hy : y < f.infRung) (hs : f.infRung ≤ f.signWeight) :
    f.add x y = some (min (rungOf f.fractionBits (val f.fractionBits x + val f.fractionBits y) 1) f.infRung) := by
  obtain ⟨m, i, e1, v1, _⟩ := read_eq f hx hs
  obtain ⟨n, j, e2, v2, _⟩ := read_eq f hy hs
  unfold Format.add
  rw [e1, e2]
  simp only [Datum.sum, Option.map_some, Option.some.injEq, signed, Bool.false_eq_true, if_false, Bool.and_self]
  generalize hbase : min (f.leastPlace + (i : Int)) (f.leastPlace + (j : Int)) = base
  have hneg : ∀ A B : Nat, (if ((A : Int) + (B : Int)) = 0 then false else decide (((A : Int) + (B : Int)) < 0)) = false := by
    intro A B
    split
    · rfl
    · rw [decide_eq_false_iff_not]
      omega
  rw [hneg]
  have habs : (((m <<< (f.leastPlace + ↑i - base).toNat : Nat) : Int) + ((n <<< (f.leastPlace + ↑j - base).toNat : Nat) : Int)).natAbs = m * 2 ^ (f.leastPlace + ↑i - base).toNat + n * 2 ^ (f.leastPlace + ↑j - base).toNat := by
    rw [Nat.shiftLeft_eq, Nat.shiftLeft_eq]
    omega
  rw [habs]
  show f.nearest false _ base = _
  rw [nearest_eq]
  congr 1
  have h0 : (f.leastPlace - base).toNat = 0 := by omega
  rw [h0, Nat.pow_zero]
  congr 1
  rw [Nat.add_mul, Nat.mul_assoc, Nat.mul_assoc, ← Nat.pow_add, ← Nat.pow_add, ← v1, ← v2]
  congr 3 <;> omega
theorem sticky (fb D n a b : Nat) (hn : 0 < n) (_hab : a = 0 ∨ b = 0) (hF : D = 0 ∨ 2 ^ (fb + 1) ≤ D / n) :
    rungOf fb ((2 * (D / n) + (D % n != 0).toNat) * 2 ^ a) (2 ^ b) = rungOf fb (2 * D * 2 ^ a) (n * 2 ^ b) := by
  have hdm := Nat.div_add_mod D n
  by_cases hr : D % n = 0
  · refine rungOf_congr (p2 _) (Nat.mul_pos hn (p2 _)) ?_
    have : (D % n != 0).toNat = 0 := by simp [hr]
    rw [this, Nat.add_zero]
    rw [hr, Nat.add_zero] at hdm
    generalize D / n = F at *
    subst hdm
    simp only [Nat.mul_assoc, Nat.mul_left_comm, Nat.mul_comm]
  · have hs : (D % n != 0).toNat = 1 := by simp [hr]
    rw [hs]
    have hD : D ≠ 0 := by intro h; subst h; simp at hr
    have hF := hF.resolve_left hD
    have hmod := Nat.mod_lt D hn
    have p1 := p2 (fb + 1)
    -- the logarithms
    have hFne : D / n ≠ 0 := by omega
    have l1 : ((2 * (D / n) + 1) * 2 ^ a).log2 = (D / n).log2 + 1 + a := by
      rw [log2_mul (by omega)]
      congr 1
      refine log2_eq ?_ ?_
      · have := Nat.log2_self_le hFne
        rw [Nat.pow_succ]
        omega
      · have := @Nat.lt_log2_self (D / n)
        rw [Nat.pow_succ, Nat.pow_succ] at *
        omega
    have l2 : (2 * D * 2 ^ a / n).log2 = (D / n).log2 + 1 + a := by
      have ha := p2 a
      refine log2_eq ?_ ?_
      · rw [Nat.le_div_iff_mul_le hn, Nat.pow_add, Nat.pow_succ]
        have h1 := Nat.log2_self_le hFne
        have h2 : 2 ^ (D / n).log2 * n ≤ D := (Nat.le_div_iff_mul_le hn).1 h1
        calc 2 ^ (D / n).log2 * 2 * 2 ^ a * n = 2 * (2 ^ (D / n).log2 * n) * 2 ^ a := by simp only [Nat.mul_left_comm, Nat.mul_comm]
          _ ≤ 2 * D * 2 ^ a := Nat.mul_le_mul_right _ (Nat.mul_le_mul_left _ h2)
      · rw [Nat.div_lt_iff_lt_mul hn]
        have h1 := @Nat.lt_log2_self (D / n)
        have h2 : D < 2 ^ ((D / n).log2 + 1) * n := (Nat.div_lt_iff_lt_mul hn).1 h1
        calc 2 * D * 2 ^ a < 2 * (2 ^ ((D / n).log2 + 1) * n) * 2 ^ a := Nat.mul_lt_mul_of_pos_right (Nat.mul_lt_mul_of_pos_left h2 (by decide)) ha
          _ = 2 ^ ((D / n).log2 + 1 + a + 1) * n := by
            rw [Nat.pow_succ 2 ((D / n).log2 + 1 + a), Nat.pow_add 2 ((D / n).log2 + 1)]
            simp only [Nat.mul_left_comm, Nat.mul_comm]
    have he : ex fb (2 * D * 2 ^ a) (n * 2 ^ b) = ex fb ((2 * (D / n) + 1) * 2 ^ a) (2 ^ b) := by
      unfold ex
      rw [← Nat.div_div_eq_div_mul, log2_div, log2_div, l1, l2]
    have hlF : fb + 1 ≤ (D / n).log2 := (Nat.le_log2 hFne).2 hF
    have hk : a + 2 ≤ b + ex fb ((2 * (D / n) + 1) * 2 ^ a) (2 ^ b) := by
      unfold ex
      rw [log2_div, l1]
      omega
    unfold rungOf
    rw [he]
    congr 1
    generalize ex fb ((2 * (D / n) + 1) * 2 ^ a) (2 ^ b) = e at hk ⊢
    obtain ⟨k, hk2⟩ : ∃ k, b + e = a + k + 2 := ⟨b + e - a - 2, by omega⟩
    have g1 : rne ((2 * (D / n) + 1) * 2 ^ a) (2 ^ b * 2 ^ e) = rne (2 * (D / n) + 1) (2 * 2 ^ (k + 1)) := by
      refine rne_congr (Nat.mul_pos (p2 _) (p2 _)) (Nat.mul_pos (by decide) (p2 _)) ?_
      rw [← Nat.pow_add, hk2, show 2 * 2 ^ (k + 1) = 2 ^ (k + 2) by rw [Nat.pow_succ 2 (k + 1)]; omega, Nat.mul_assoc, ← Nat.pow_add]
      congr 2
      all_goals omega
    have g2 : rne (2 * D * 2 ^ a) (n * 2 ^ b * 2 ^ e) = rne D (n * 2 ^ (k + 1)) := by
      refine rne_congr (Nat.mul_pos (Nat.mul_pos hn (p2 _)) (p2 _)) (Nat.mul_pos hn (p2 _)) ?_
      rw [Nat.mul_assoc n, ← Nat.pow_add, hk2]
      have : 2 ^ (a + k + 2) = 2 * 2 ^ a * 2 ^ (k + 1) := by
        rw [show a + k + 2 = (a + 1) + (k + 1) by omega, Nat.pow_add, Nat.pow_succ 2 a]
        congr 1
        omega
      rw [this]
      simp only [Nat.mul_assoc, Nat.mul_left_comm, Nat.mul_comm]
    rw [g1, g2]
    -- the two roundings
    have hev : 2 ^ (k + 1) = 2 * 2 ^ k := by rw [Nat.pow_succ]; omega
    generalize hh : 2 ^ (k + 1) = h at *
    have hhp : 0 < h := by have := p2 k; omega
    generalize hF2 : D / n = F at *
    have q1 : (2 * F + 1) / (2 * h) = F / h := by
      rw [← Nat.div_div_eq_div_mul]
      congr 1
      omega
    have m1 : (2 * F + 1) % (2 * h) = 2 * (F % h) + 1 := by
      have c1 := Nat.div_add_mod (2 * F + 1) (2 * h)
      have c2 := Nat.div_add_mod F h
      rw [q1, Nat.mul_assoc] at c1
      omega
    have q2 : D / (n * h) = F / h := by rw [← Nat.div_div_eq_div_mul, hF2]
    have m2 : D % (n * h) = n * (F % h) + D % n := by
      rw [Nat.mod_mul, hF2]
      omega
    unfold rne
    rw [q1, m1, q2, m2]
    have hmF := Nat.mod_lt F hhp
    by_cases hc : h ≤ 2 * (F % h)
    · have := Nat.mul_le_mul_left n hc
      rw [← Nat.mul_assoc, Nat.mul_comm n 2, Nat.mul_assoc] at this
      have hc' : n * h < 2 * (n * (F % h) + D % n) := by omega
      rw [if_pos (.inl (by omega)), if_pos (.inl hc')]
    · have hc2 : 2 * (F % h) + 2 ≤ h := by omega
      have := Nat.mul_le_mul_left n hc2
      rw [Nat.mul_add, ← Nat.mul_assoc, Nat.mul_comm n 2, Nat.mul_assoc] at this
      rw [if_neg (by rintro (h' | ⟨h', _⟩) <;> omega), if_neg (by rintro (h' | ⟨h', _⟩) <;> omega)]
end Go.Flo

namespace Go.Flo
open Ieee
theorem val_mono {fb x y : Nat} (h : x ≤ y) : val fb x ≤ val fb y := by
  rcases Nat.lt_or_ge (val fb y) (val fb x) with hlt | hge
  · have := rungOf_mono (fb := fb) (N := val fb y) (n := 1) (N' := val fb x) (n' := 1) (by decide) (by decide) (by omega)
    rw [rungOf_val, rungOf_val] at this
    have : x = y := by omega
    subst this
    omega
  · exact hge
theorem val_pos {fb y : Nat} (h : y ≠ 0) : 0 < val fb y := by
  rcases Nat.eq_zero_or_pos (val fb y) with h0 | h0
  · have := rungOf_val fb y
    rw [h0, rungOf_zero _ _ (by decide)] at this
    omega
  · exact h0
theorem div_eq (f : Format) {x y : Nat} (hx : x < f.infRung) (hy : y < f.infRung) (hs : f.infRung ≤ f.signWeight) (hy0 : y ≠ 0) (hl : f.leastPlace ≤ 0) :
    f.div x y = some (min (rungOf f.fractionBits (val f.fractionBits x * 2 ^ (-f.leastPlace).toNat) (val f.fractionBits y)) f.infRung) := by
  obtain ⟨m, i, e1, v1, z1⟩ := read_eq f hx hs
  obtain ⟨n, j, e2, v2, z2⟩ := read_eq f hy hs
  have hn : n ≠ 0 := fun h => hy0 (z2.2 h)
  have hnp : 0 < n := Nat.pos_of_ne_zero hn
  unfold Format.div
  rw [e1, e2]
  simp only [Datum.quotient, hn, if_false, Option.map_some, Option.some.injEq, Bool.xor_self]
  generalize hmore : f.fractionBits + 2 + n.log2 - m.log2 = more
  generalize hpl : f.leastPlace + (i : Int) - (f.leastPlace + (j : Int)) - (more : Int) - 1 = place
  show f.nearest false _ place = _
  rw [nearest_eq]
  congr 1
  rw [Nat.shiftLeft_eq]
  have hF : m * 2 ^ more = 0 ∨ 2 ^ (f.fractionBits + 1) ≤ m * 2 ^ more / n := by
    by_cases hm : m = 0
    · exact .inl (by rw [hm, Nat.zero_mul])
    · refine .inr ?_
      rw [Nat.le_div_iff_mul_le hnp]
      have h1 : n < 2 ^ (n.log2 + 1) := Nat.lt_log2_self
      have h2 : 2 ^ (m * 2 ^ more).log2 ≤ m * 2 ^ more := Nat.log2_self_le (by have := Nat.mul_pos (Nat.pos_of_ne_zero hm) (p2 more); omega)
      rw [log2_mul hm] at h2
      have h3 : 2 ^ (f.fractionBits + 1) * n ≤ 2 ^ (f.fractionBits + 1) * 2 ^ (n.log2 + 1) := Nat.mul_le_mul_left _ (Nat.le_of_lt h1)
      rw [← Nat.pow_add] at h3
      have h4 : 2 ^ (f.fractionBits + 1 + (n.log2 + 1)) ≤ 2 ^ (m.log2 + more) := Nat.pow_le_pow_right (by decide) (by omega)
      omega
  rw [sticky _ _ _ _ _ hnp (by omega) hF]
  refine rungOf_congr (Nat.mul_pos hnp (p2 _)) (val_pos hy0) ?_
  rw [← v1, ← v2]
  have e3 : (place - f.leastPlace).toNat + more + 1 + j = i + (-f.leastPlace).toNat + (f.leastPlace - place).toNat := by omega
  have e4 : 2 * (m * 2 ^ more) * 2 ^ (place - f.leastPlace).toNat * (n * 2 ^ j) = m * n * 2 ^ ((place - f.leastPlace).toNat + more + 1 + j) := by
    rw [Nat.pow_add, Nat.pow_succ, Nat.pow_add]
    simp only [Nat.mul_assoc, Nat.mul_left_comm, Nat.mul_comm]
  have e5 : m * 2 ^ i * 2 ^ (-f.leastPlace).toNat * (n * 2 ^ (f.leastPlace - place).toNat) = m * n * 2 ^ (i + (-f.leastPlace).toNat + (f.leastPlace - place).toNat) := by
    rw [Nat.pow_add, Nat.pow_add]
    simp only [Nat.mul_assoc, Nat.mul_left_comm, Nat.mul_comm]
  rw [e4, e5, e3]

/-! ### float32 -/
abbrev inf32 : Nat := 0x7f800000
theorem inf_eq : single.infRung = inf32 := by decide
theorem sign_le : single.infRung ≤ single.signWeight := by decide
/-- a sum of two that are not below zero is no less than either -/
theorem add32 {x y : Nat} (hx : x < inf32) (hy : y < inf32) : ∃ w, single.add x y = some w ∧ x ≤ w ∧ y ≤ w ∧ w ≤ inf32 := by
  have h := add_eq single (x := x) (y := y) (by rw [inf_eq]; exact hx) (by rw [inf_eq]; exact hy) sign_le
  refine ⟨_, h, ?_, ?_, by rw [inf_eq]; exact Nat.min_le_right _ _⟩
  · have := rungOf_mono (fb := single.fractionBits) (N := val single.fractionBits x) (n := 1) (N' := val single.fractionBits x + val single.fractionBits y) (n' := 1) (by decide) (by decide) (by omega)
    rw [rungOf_val] at this
    rw [inf_eq]
    omega
  · have := rungOf_mono (fb := single.fractionBits) (N := val single.fractionBits y) (n := 1) (N' := val single.fractionBits x + val single.fractionBits y) (n' := 1) (by decide) (by decide) (by omega)
    rw [rungOf_val] at this
    rw [inf_eq]
    omega
abbrev one32 : Nat := 0x3f800000
theorem one_eq : rungOf 23 (2 ^ 149) 1 = one32 := by decide +kernel
/-- a share: not above 1, and no less of no less -/
theorem div32 {x s : Nat} (hs : s < inf32) (h0 : s ≠ 0) (hx : x ≤ s) : ∃ w, single.div x s = some w ∧ w ≤ one32 := by
  have h := div_eq single (x := x) (y := s) (by rw [inf_eq]; omega) (by rw [inf_eq]; exact hs) sign_le h0 (by decide)
  refine ⟨_, h, ?_⟩
  have hv := val_mono (fb := single.fractionBits) hx
  have := rungOf_mono (fb := single.fractionBits) (N := val single.fractionBits x * 2 ^ (-single.leastPlace).toNat) (n := val single.fractionBits s) (N' := 2 ^ 149) (n' := 1) (val_pos h0) (by decide) (by
    have e : (-single.leastPlace).toNat = 149 := by decide
    rw [e, Nat.mul_one, Nat.mul_comm (2 ^ 149)]
    exact Nat.mul_le_mul_right _ hv)
  have e1 : rungOf single.fractionBits (2 ^ 149) 1 = one32 := one_eq
  rw [e1] at this
  omega
theorem div32_mono {x y s : Nat} (hs : s < inf32) (h0 : s ≠ 0) (hxy : x ≤ y) (hy : y ≤ s) : ∃ v w, single.div x s = some v ∧ single.div y s = some w ∧ v ≤ w := by
  have h := div_eq single (x := x) (y := s) (by rw [inf_eq]; omega) (by rw [inf_eq]; exact hs) sign_le h0 (by decide)
  have k := div_eq single (x := y) (y := s) (by rw [inf_eq]; omega) (by rw [inf_eq]; exact hs) sign_le h0 (by decide)
  refine ⟨_, _, h, k, ?_⟩
  have := rungOf_mono (fb := single.fractionBits) (N := val single.fractionBits x * 2 ^ (-single.leastPlace).toNat) (n := val single.fractionBits s) (N' := val single.fractionBits y * 2 ^ (-single.leastPlace).toNat) (n' := val single.fractionBits s) (val_pos h0) (val_pos h0) (Nat.mul_le_mul_right _ (Nat.mul_le_mul_right _ (val_mono hxy)))
  omega
end Go.Flo

/-! Comparisons, differences and infinities of float32's words. -/
namespace Go.Flo
open Ieee
theorem read_gen (f : Format) (w : Nat) : (w % f.signWeight < f.infRung → ∃ mag up : Nat, f.read w = .number (w / f.signWeight % 2 == 1) mag (f.leastPlace + up) ∧ mag * 2 ^ up = val f.fractionBits (w % f.signWeight)) ∧
    (w % f.signWeight = f.infRung → f.binade ≤ f.infRung → f.read w = .infinity (w / f.signWeight % 2 == 1)) ∧ (f.infRung < w % f.signWeight → f.binade ≤ f.infRung → ∃ fr, f.read w = .nan (w / f.signWeight % 2 == 1) fr) := by
  refine ⟨fun h => ?_, fun h hb => ?_, fun h hb => ?_⟩
  · unfold Format.read val
    have hpos : 0 < 2 ^ f.fractionBits := p2 _
    by_cases hb : w % f.signWeight < 2 ^ f.fractionBits
    · refine ⟨w % f.signWeight, 0, ?_, ?_⟩
      · have : w % f.signWeight < f.binade := hb
        simp [this]
      · rw [if_pos hb]; simp
    · refine ⟨2 ^ f.fractionBits + w % f.signWeight % 2 ^ f.fractionBits, w % f.signWeight / 2 ^ f.fractionBits - 1, ?_, ?_⟩
      · have : ¬ w % f.signWeight < f.binade := hb
        simp only [this, if_false, h, if_true]
        rfl
      · rw [if_neg hb]
  · unfold Format.read
    simp only []
    rw [if_neg (by omega), if_neg (by omega), if_pos h]
  · unfold Format.read
    simp only []
    rw [if_neg (by omega), if_neg (by omega), if_neg (by omega)]
    exact ⟨_, rfl⟩
/-- a finite word as a whole number of least places -/
def ov (f : Format) (w : Nat) : Int := if (w / f.signWeight % 2 == 1) = true then -(val f.fractionBits (w % f.signWeight) : Int) else (val f.fractionBits (w % f.signWeight) : Int)
theorem compare_mul {a b : Int} {k : Int} (hk : 0 < k) : compare (a * k) (b * k) = compare a b := by
  rcases Int.lt_trichotomy a b with h | h | h
  · rw [(Int.compare_eq_lt).2 h, (Int.compare_eq_lt).2 (Int.mul_lt_mul_of_pos_right h hk)]
  · rw [h]; simp
  · rw [(Int.compare_eq_gt).2 h, (Int.compare_eq_gt).2 (Int.mul_lt_mul_of_pos_right h hk)]
theorem signed_mul (s : Bool) (m u k : Nat) : signed s m u * ((2 ^ k : Nat) : Int) = if s = true then -((m * 2 ^ (u + k) : Nat) : Int) else ((m * 2 ^ (u + k) : Nat) : Int) := by
  unfold signed
  rw [Nat.shiftLeft_eq]
  cases s <;> simp [Nat.pow_add, Int.neg_mul, Int.mul_assoc]
theorem order_fin (f : Format) {x y : Nat} (hx : x % f.signWeight < f.infRung) (hy : y % f.signWeight < f.infRung) : f.order x y = some (compare (ov f x) (ov f y)) := by
  obtain ⟨m, i, e1, v1⟩ := (read_gen f x).1 hx
  obtain ⟨n, j, e2, v2⟩ := (read_gen f y).1 hy
  unfold Format.order
  rw [e1, e2]
  simp only [Datum.order, Option.some.injEq]
  rw [← compare_mul (a := signed _ m _) (k := ((2 ^ (min i j) : Nat) : Int)) (by have := p2 (min i j); omega), signed_mul, signed_mul]
  have a1 : (f.leastPlace + (i : Int) - min (f.leastPlace + (i : Int)) (f.leastPlace + (j : Int))).toNat + min i j = i := by omega
  have a2 : (f.leastPlace + (j : Int) - min (f.leastPlace + (i : Int)) (f.leastPlace + (j : Int))).toNat + min i j = j := by omega
  rw [a1, a2, v1, v2]
  rfl
theorem compare_nat (a b : Nat) : compare (a : Int) (b : Int) = compare a b := by
  rcases Nat.lt_trichotomy a b with h | h | h
  · rw [(Int.compare_eq_lt).2 (by omega), (Nat.compare_eq_lt).2 h]
  · rw [h]; simp
  · rw [(Int.compare_eq_gt).2 (by omega), (Nat.compare_eq_gt).2 h]
theorem compare_val (fb a b : Nat) : compare (val fb a) (val fb b) = compare a b := by
  rcases Nat.lt_trichotomy a b with h | h | h
  · rw [(Nat.compare_eq_lt).2 h, (Nat.compare_eq_lt).2]
    have h1 := val_mono (fb := fb) (Nat.le_of_lt h)
    rcases Nat.lt_or_eq_of_le h1 with h2 | h2
    · exact h2
    · have := rungOf_val fb a
      rw [h2, rungOf_val] at this
      omega
  · rw [h]; simp
  · rw [(Nat.compare_eq_gt).2 h, (Nat.compare_eq_gt).2]
    have h1 := val_mono (fb := fb) (Nat.le_of_lt h)
    rcases Nat.lt_or_eq_of_le h1 with h2 | h2
    · exact h2
    · have := rungOf_val fb b
      rw [h2, rungOf_val] at this
      omega
theorem inf_eq' : single.infRung = 2139095040 := by decide
theorem sw_eq : single.signWeight = 2147483648 := by decide +kernel
theorem bin_le : single.binade ≤ single.infRung := by decide
theorem ov_pos {x : Nat} (h : x < 2147483648) : ov single x = (val single.fractionBits x : Int) := by
  unfold ov
  rw [sw_eq, Nat.div_eq_of_lt h, Nat.mod_eq_of_lt h]
  rfl
theorem ov_neg {x : Nat} (h : 2147483648 ≤ x) (h2 : x < 4294967296) : ov single x = -(val single.fractionBits (x - 2147483648) : Int) := by
  have e : (x / single.signWeight % 2 == 1) = true := by rw [sw_eq, show x / 2147483648 = 1 by omega]; rfl
  have e2 : x % single.signWeight = x - 2147483648 := by rw [sw_eq]; omega
  unfold ov
  rw [if_pos e, e2]
theorem val_zero (fb : Nat) : val fb 0 = 0 := by unfold val; rw [if_pos (p2 _)]
/-- words that are not below zero, infinity with them -/
theorem order_up {x y : Nat} (hx : x ≤ 2139095040) (hy : y ≤ 2139095040) : single.order x y = some (compare x y) := by
  have hx' : x % single.signWeight = x := by rw [sw_eq]; omega
  have hy' : y % single.signWeight = y := by rw [sw_eq]; omega
  have sx : (x / single.signWeight % 2 == 1) = false := by rw [sw_eq, Nat.div_eq_of_lt (by omega)]; rfl
  have sy : (y / single.signWeight % 2 == 1) = false := by rw [sw_eq, Nat.div_eq_of_lt (by omega)]; rfl
  by_cases h1 : x < 2139095040
  · by_cases h2 : y < 2139095040
    · rw [order_fin single (by rw [hx', inf_eq']; exact h1) (by rw [hy', inf_eq']; exact h2), ov_pos (by omega), ov_pos (by omega), compare_nat, compare_val]
    · obtain ⟨m, i, e1, _⟩ := (read_gen single x).1 (by rw [hx', inf_eq']; exact h1)
      have e2 := (read_gen single y).2.1 (by rw [hy', inf_eq']; omega) bin_le
      unfold Format.order
      rw [e1, e2, sy]
      simp only [Datum.order]
      rw [(Nat.compare_eq_lt).2 (by omega)]
      rfl
  · have e1 := (read_gen single x).2.1 (by rw [hx', inf_eq']; omega) bin_le
    by_cases h2 : y < 2139095040
    · obtain ⟨m, i, e2, _⟩ := (read_gen single y).1 (by rw [hy', inf_eq']; exact h2)
      unfold Format.order
      rw [e1, e2, sx]
      simp only [Datum.order]
      rw [(Nat.compare_eq_gt).2 (by omega)]
      rfl
    · have e2 := (read_gen single y).2.1 (by rw [hy', inf_eq']; omega) bin_le
      unfold Format.order
      rw [e1, e2, sx, sy, show x = y by omega]
      simp [Datum.order]
/-- one that is not below zero against one that has a sign -/
theorem order_down {x y : Nat} (hx : x ≤ 2139095040) (hy : 2147483648 ≤ y) (hy2 : y < 4294967296) (h : single.order x y = some .lt ∨ single.order x y = some .eq) : x = 0 := by
  have hx' : x % single.signWeight = x := by rw [sw_eq]; omega
  have sx : (x / single.signWeight % 2 == 1) = false := by rw [sw_eq, Nat.div_eq_of_lt (by omega)]; rfl
  have sy : (y / single.signWeight % 2 == 1) = true := by rw [sw_eq, show y / 2147483648 = 1 by omega]; rfl
  have key : ∀ c, single.order x y = some c → c = .gt ∨ x = 0 := by
    intro c hc
    by_cases h2 : y % single.signWeight < single.infRung
    · by_cases h1 : x < 2139095040
      · rw [order_fin single (by rw [hx', inf_eq']; exact h1) h2, ov_pos (by omega), ov_neg hy hy2] at hc
        by_cases h0 : x = 0
        · exact .inr h0
        · left
          have := val_pos (fb := single.fractionBits) h0
          rw [(Int.compare_eq_gt).2 (by omega)] at hc
          exact (Option.some.inj hc).symm
      · have e1 := (read_gen single x).2.1 (by rw [hx', inf_eq']; omega) bin_le
        obtain ⟨m, i, e2, _⟩ := (read_gen single y).1 h2
        unfold Format.order at hc
        rw [e1, e2, sx] at hc
        left
        exact (Option.some.inj hc).symm
    · by_cases h3 : y % single.signWeight = single.infRung
      · have e2 := (read_gen single y).2.1 h3 bin_le
        left
        by_cases h1 : x < 2139095040
        · obtain ⟨m, i, e1, _⟩ := (read_gen single x).1 (by rw [hx', inf_eq']; exact h1)
          unfold Format.order at hc
          rw [e1, e2, sy] at hc
          exact (Option.some.inj hc).symm
        · have e1 := (read_gen single x).2.1 (by rw [hx', inf_eq']; omega) bin_le
          unfold Format.order at hc
          rw [e1, e2, sx, sy] at hc
          exact (Option.some.inj hc).symm
      · obtain ⟨fr, e2⟩ := (read_gen single y).2.2 (by omega) bin_le
        unfold Format.order at hc
        rw [e2] at hc
        cases h : single.read x <;> rw [h] at hc <;> exact absurd hc (by simp [Datum.order])
  rcases h with h | h
  · rcases key _ h with h | h
    · cases h
    · exact h
  · rcases key _ h with h | h
    · cases h
    · exact h
theorem order_nan {x : Nat} (hx : 2139095040 < x % 2147483648) (y : Nat) : single.order x y = none := by
  obtain ⟨fr, e⟩ := (read_gen single x).2.2 (by rw [sw_eq, inf_eq']; exact hx) bin_le
  unfold Format.order
  rw [e]
  cases single.read y <;> rfl
theorem order_nan_right {y : Nat} (hy : 2139095040 < y % 2147483648) (x : Nat) : single.order x y = none := by
  obtain ⟨fr, e⟩ := (read_gen single y).2.2 (by rw [sw_eq, inf_eq']; exact hy) bin_le
  unfold Format.order
  rw [e]
  cases single.read x <;> rfl
/-- x > 0 -/
theorem gt_zero {x : Nat} (hx : x < 4294967296) : (single.order x 0 == some .gt) = decide (0 < x ∧ x ≤ 2139095040) := by
  by_cases h1 : x ≤ 2139095040
  · rw [order_up h1 (by omega)]
    by_cases h0 : x = 0
    · subst h0; rfl
    · rw [(Nat.compare_eq_gt).2 (by omega), decide_eq_true (by omega)]; rfl
  · rw [decide_eq_false (by omega)]
    by_cases h2 : 2139095040 < x % 2147483648
    · rw [order_nan h2]; rfl
    · have hn : 2147483648 ≤ x := by omega
      by_cases h3 : x % 2147483648 < 2139095040
      · rw [order_fin single (by rw [sw_eq, inf_eq']; exact h3) (by rw [inf_eq', sw_eq]; decide), ov_neg hn hx, ov_pos (x := 0) (by omega), val_zero]
        by_cases hc : compare (-(val single.fractionBits (x - 2147483648) : Int)) (0 : Nat) = .gt
        · rw [Int.compare_eq_gt] at hc; omega
        · cases h : compare (-(val single.fractionBits (x - 2147483648) : Int)) (0 : Nat)
          · rfl
          · rfl
          · exact absurd h hc
      · have e1 := (read_gen single x).2.1 (by rw [sw_eq, inf_eq']; omega) bin_le
        have sx : (x / single.signWeight % 2 == 1) = true := by rw [sw_eq, show x / 2147483648 = 1 by omega]; rfl
        unfold Format.order
        rw [e1, sx]
        rfl
/-- x >= 0 -/
theorem ge_zero {x : Nat} (hx : x < 4294967296) (h : (single.order x 0 == some .gt || single.order x 0 == some .eq) = true) : x ≤ 2139095040 ∨ x = 2147483648 := by
  by_cases h1 : x ≤ 2139095040
  · exact .inl h1
  · rw [gt_zero hx, decide_eq_false (by omega), Bool.false_or] at h
    have h' : single.order x 0 = some .eq := by
      cases e : single.order x 0 with
      | none => rw [e] at h; exact absurd h (by decide)
      | some c => rw [e] at h; cases c <;> first | rfl | exact absurd h (by decide)
    by_cases h2 : 2139095040 < x % 2147483648
    · rw [order_nan h2] at h'; cases h'
    · have hn : 2147483648 ≤ x := by omega
      by_cases h3 : x % 2147483648 < 2139095040
      · rw [order_fin single (by rw [sw_eq, inf_eq']; exact h3) (by rw [inf_eq', sw_eq]; decide), ov_neg hn hx, ov_pos (x := 0) (by omega), val_zero, Option.some.injEq, Int.compare_eq_eq] at h'
        right
        by_cases h0 : x - 2147483648 = 0
        · omega
        · have := val_pos (fb := single.fractionBits) h0
          omega
      · have e1 := (read_gen single x).2.1 (by rw [sw_eq, inf_eq']; omega) bin_le
        have sx : (x / single.signWeight % 2 == 1) = true := by rw [sw_eq, show x / 2147483648 = 1 by omega]; rfl
        unfold Format.order at h'
        rw [e1, sx] at h'
        cases h'
/-- x - x -/
theorem sub_self_fin {x : Nat} (_hx : x < 4294967296) (h : x % 2147483648 < 2139095040) : single.sub x x = some 0 := by
  obtain ⟨m, i, e1, v1⟩ := (read_gen single x).1 (by rw [sw_eq, inf_eq']; exact h)
  unfold Format.sub
  rw [e1]
  generalize (x / single.signWeight % 2 == 1) = s
  simp only [Datum.opposite, Datum.sum, Option.map_some, Option.some.injEq]
  have key : signed s m (single.leastPlace + (i : Int) - min (single.leastPlace + (i : Int)) (single.leastPlace + (i : Int))).toNat + signed (!s) m (single.leastPlace + (i : Int) - min (single.leastPlace + (i : Int)) (single.leastPlace + (i : Int))).toNat = 0 := by
    unfold signed
    cases s <;> simp <;> omega
  rw [key, if_pos rfl]
  cases s <;> rfl
theorem sub_self_not {x : Nat} (h : ¬ x % 2147483648 < 2139095040) : single.sub x x = none := by
  unfold Format.sub
  by_cases h2 : x % 2147483648 = 2139095040
  · rw [(read_gen single x).2.1 (by rw [sw_eq, inf_eq']; exact h2) bin_le]
    generalize (x / single.signWeight % 2 == 1) = s
    cases s <;> rfl
  · obtain ⟨fr, e⟩ := (read_gen single x).2.2 (by rw [sw_eq, inf_eq']; omega) bin_le
    rw [e]
    rfl
theorem add_inf {x : Nat} (hx : x < 2139095040) : single.add 2139095040 x = some 2139095040 := by
  obtain ⟨m, i, e2, _⟩ := (read_gen single x).1 (by rw [sw_eq, inf_eq']; omega)
  have e1 : single.read 2139095040 = .infinity false := by decide +kernel
  unfold Format.add
  rw [e1, e2]
  rfl
theorem div_inf {x : Nat} (hx : x < 2139095040) : single.div x 2139095040 = some 0 := by
  obtain ⟨m, i, e2, _⟩ := (read_gen single x).1 (by rw [sw_eq, inf_eq']; omega)
  have e1 : single.read 2139095040 = .infinity false := by decide +kernel
  have sx : (x / single.signWeight % 2 == 1) = false := by rw [sw_eq, Nat.div_eq_of_lt (by omega)]; rfl
  unfold Format.div
  rw [e1, e2, sx]
  rfl
/-- what plan.worth gives -/
def worthN (x : Nat) : Nat := if 0 < x ∧ x < 2139095040 then x else 0
theorem worthN_lt (x : Nat) : worthN x < 2139095040 := by unfold worthN; split <;> omega
/-- a sum of worths -/
def plusN (s x : Nat) : Nat := (single.add s x).getD 0
theorem plusN_spec {s x : Nat} (hs : s ≤ 2139095040) (hx : x < 2139095040) : single.add s x = some (plusN s x) ∧ s ≤ plusN s x ∧ x ≤ plusN s x ∧ plusN s x ≤ 2139095040 := by
  unfold plusN
  by_cases h : s = 2139095040
  · subst h
    rw [add_inf hx]
    exact ⟨rfl, by simp, by simp; omega, by simp⟩
  · obtain ⟨p, h1, h2, h3, h4⟩ := add32 (x := s) (y := x) (show s < 2139095040 by omega) hx
    rw [h1]
    exact ⟨rfl, h2, h3, h4⟩
/-- a share -/
def shareN (s x : Nat) : Nat := (single.div x s).getD 0
theorem shareN_spec {s x : Nat} (hs : s ≤ 2139095040) (h0 : s ≠ 0) (hx : x ≤ s) (hx2 : x < 2139095040) : single.div x s = some (shareN s x) ∧ shareN s x ≤ 0x3f800000 := by
  unfold shareN
  by_cases h : s = 2139095040
  · subst h
    rw [div_inf hx2]
    exact ⟨rfl, by simp⟩
  · obtain ⟨p, h1, h2⟩ := div32 (x := x) (s := s) (show s < 2139095040 by omega) h0 hx
    rw [h1]
    exact ⟨rfl, h2⟩
theorem shareN_mono {s x y : Nat} (hs : s ≤ 2139095040) (h0 : s ≠ 0) (hxy : x ≤ y) (hy : y ≤ s) (hy2 : y < 2139095040) : shareN s x ≤ shareN s y := by
  unfold shareN
  by_cases h : s = 2139095040
  · subst h
    rw [div_inf hy2, div_inf (by omega)]
    exact Nat.le_refl _
  · obtain ⟨p, q, h1, h2, h3⟩ := div32_mono (x := x) (y := y) (s := s) (show s < 2139095040 by omega) h0 hxy hy
    rw [h1, h2]
    exact h3
end Go.Flo
