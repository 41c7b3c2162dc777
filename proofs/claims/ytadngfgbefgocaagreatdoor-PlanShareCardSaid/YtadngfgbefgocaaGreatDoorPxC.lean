/- slices.SortStableFunc, walked at []int: what it computes is the plain sort. The conditions stand in each statement. -/
import Derived.Test.YtadngfgbefgocaaGreatDoorPxA
import Derived.Test.YtadngfgbefgocaaGreatDoorRows
import Derived.Shelf.SlSortCmp.Insertion1
import Derived.Deep.CutRange

namespace Go.Proofs.YtadngfgbefgocaaGreatDoor
open Go.Shelf Go.RowKit Go.Lib Go.Sort
variable {α : Type} [Inhabited α]
theorem mixed : Tryz.prog.follows .mixedOrders = true := by kernel_rfl
theorem swapRange_go (a b n i : Nat) (d : Array α) (h : i < n) : Stab.swapRange a b n i d = Stab.swapRange a b n (i + 1) (swp d (a + i) (b + i)) := by
  conv => lhs; unfold Stab.swapRange
  rw [if_pos h]
theorem swapRange_stop (a b n i : Nat) (d : Array α) (h : ¬ i < n) : Stab.swapRange a b n i d = d := by
  unfold Stab.swapRange
  rw [if_neg h]
set_option maxHeartbeats 16000000 in
set_option maxRecDepth 1000000 in
theorem swapRange_s (enc : α → Value) (cv : Value) (blk off cap a b n : Nat) (d0 d : Array α) (w0 w : World) (R : Row1 enc w0 blk off d0) (hs : d0.size = d.size) (S : SW enc w0 blk off d w) (ha : a + n ≤ d.size) (hb : b + n ≤ d.size) (hsz : d.size < 4611686018427387904) :
    Calls Tryz.prog 164 #[.slice (some ⟨blk, off, none⟩) d.size cap, .int .i64 a, .int .i64 b, .int .i64 n, cv] w fun e w' => e = .returned (.tuple #[]) ∧ SW enc w0 blk off (Stab.swapRange a b n 0 d) w' := by
  have mixed := mixed
  have t3 := Tryz.underlying3
  have t24 := Tryz.underlying24
  have u24 := run_underlying t24
  have hcl0 := R.hO.cells
  simp only [Value.cells] at hcl0
  have hst := R.hO.store Tryz.prog
  have S0 : Aside (SW enc w0 blk off d w) := S
  clear S
  go_enter Tryz.func164, Tryz.ntmps164
  go_wp2
  go_loopg [10] n (fun g1 vi wr => ∃ (i : Nat) (dk : Array α), vi = .int .i64 i ∧ i ≤ n ∧ n - i ≤ g1 ∧ dk.size = d.size ∧ Aside (SW enc w0 blk off dk wr) ∧ Hid (Stab.swapRange a b n i dk = Stab.swapRange a b n 0 d))
  case atStart => exact ⟨0, d, by go_num, by omega, by omega, rfl, S0, rfl⟩
  case round =>
    clear S0
    obtain ⟨i, dk, rfl, hin, hg1, hsk, S1, HO⟩ := hrel
    by_cases hlt : i < n
    · have hltz : (i : Int) < (n : Int) := by omega
      obtain ⟨iN, hiN⟩ : ∃ q, q = a + i := ⟨_, rfl⟩
      obtain ⟨jN, hjN⟩ : ∃ q, q = b + i := ⟨_, rfl⟩
      have ea : ((a : Int) + (i : Int)).toNat = iN := by omega
      have pa : (0 : Int) ≤ (a : Int) + (i : Int) := by omega
      have ba : (a : Int) + (i : Int) < (d.size : Int) := by omega
      have ra : IntKind.i64.wrap ((a : Int) + (i : Int)) = (a : Int) + (i : Int) := by rw [IntKind.wrap_i64]; omega
      have ec : ((b : Int) + (i : Int)).toNat = jN := by omega
      have pc : (0 : Int) ≤ (b : Int) + (i : Int) := by omega
      have bc : (b : Int) + (i : Int) < (d.size : Int) := by omega
      have rc : IntKind.i64.wrap ((b : Int) + (i : Int)) = (b : Int) + (i : Int) := by rw [IntKind.wrap_i64]; omega
      obtain ⟨x, hx⟩ : ∃ x, x = dk[a + i]! := ⟨_, rfl⟩
      obtain ⟨y, hy⟩ : ∃ x, x = dk[b + i]! := ⟨_, rfl⟩
      have S3 : Aside (SW enc w0 blk off (swp dk (a + i) (b + i)) ((wr.setCell ⟨blk, off + iN, none⟩ (enc y)).setCell ⟨blk, off + jN, none⟩ (enc x)).drew) := by rw [hiN, hjN, hx, hy]; exact S1.out.swapped R (a + i) (b + i) (by omega) (by omega)
      have c1 := S1.out.c1 R (by omega) (a + i) (by omega)
      have c2 := S1.out.c1 R (by omega) (b + i) (by omega)
      have f1 := S1.out.f1 R (by omega) (a + i) (by omega)
      have f2 := S1.out.f1 R (by omega) (b + i) (by omega)
      obtain ⟨u, c3⟩ := S1.out.c2 R (by omega) (a + i) (b + i) (by omega) (by omega) (enc y)
      rw [← hjN, ← hiN] at c3
      rw [← hx, ← hiN] at c1
      rw [← hy, ← hjN] at c2
      rw [← hiN] at f1
      rw [← hjN] at f2
      clear S1 hx hy hiN hjN
      go_wp2_with fail
      go_big_region_o
      clear c1 c2 c3 f1 f2
      generalize ((wr.setCell ⟨blk, off + iN, none⟩ (enc y)).setCell ⟨blk, off + jN, none⟩ (enc x)).drew = w3 at S3 ⊢
      clear ea ec
      go_wp2
      go_roundg (n - (i + 1))
      case measure => omega
      case rel => exact ⟨i + 1, swp dk (a + i) (b + i), by go_num, by omega, by omega, by rw [size_swp]; exact hsk, S3, (show Hid _ from by rw [← HO.out, swapRange_go a b n i dk hlt]; exact rfl)⟩
    · have hltz : ¬ (i : Int) < (n : Int) := by omega
      go_wp2
      go_end0
      exact ⟨rfl, by rw [← HO.out, swapRange_stop _ _ _ _ _ hlt]; exact S1.out⟩
end Go.Proofs.YtadngfgbefgocaaGreatDoor

namespace Go.Proofs.YtadngfgbefgocaaGreatDoor
open Go.Shelf Go.RowKit Go.Lib Go.Sort
variable {α : Type} [Inhabited α]
theorem rotLoop_eq (m i : Nat) (d : Array α) : Stab.rotLoop m i i d = Stab.swapRange (m - i) m i 0 d := by
  unfold Stab.rotLoop
  rw [if_pos rfl]
theorem rotLoop_gt (m i j : Nat) (d : Array α) (h : j < i) (hj : 0 < j) : Stab.rotLoop m i j d = Stab.rotLoop m (i - j) j (Stab.swapRange (m - i) m j 0 d) := by
  conv => lhs; unfold Stab.rotLoop
  rw [if_neg (by omega), if_pos h, if_pos hj]
theorem rotLoop_lt (m i j : Nat) (d : Array α) (h : i < j) (hi : 0 < i) : Stab.rotLoop m i j d = Stab.rotLoop m i (j - i) (Stab.swapRange (m - i) (m + j - i) i 0 d) := by
  conv => lhs; unfold Stab.rotLoop
  rw [if_neg (by omega), if_neg (by omega), if_pos hi]
theorem swapRange_size (a b n : Nat) : ∀ (k i : Nat) (d : Array α), n - i ≤ k → (Stab.swapRange a b n i d).size = d.size
  | 0, i, d, h => by rw [swapRange_stop _ _ _ _ _ (by omega)]
  | k + 1, i, d, h => by
    by_cases hi : i < n
    · rw [swapRange_go _ _ _ _ _ hi, swapRange_size a b n k (i + 1) _ (by omega), size_swp]
    · rw [swapRange_stop _ _ _ _ _ hi]
set_option maxHeartbeats 16000000 in
set_option maxRecDepth 1000000 in
theorem rotate_s (enc : α → Value) (cv : Value) (blk off cap a m b : Nat) (d0 d : Array α) (w0 w : World) (R : Row1 enc w0 blk off d0) (hs : d0.size = d.size) (S : SW enc w0 blk off d w) (ham : a < m) (hmb : m < b) (hb : b ≤ d.size) (hsz : d.size < 4611686018427387904) :
    Calls Tryz.prog 120 #[.slice (some ⟨blk, off, none⟩) d.size cap, .int .i64 a, .int .i64 m, .int .i64 b, cv] w fun e w' => e = .returned (.tuple #[]) ∧ SW enc w0 blk off (Stab.rotLoop m (m - a) (b - m) d) w' := by
  have mixed := mixed
  have e22 : ∀ args w, (callFunc 164 args).run Tryz.prog w = .ok (.enter 164 args) w := enters_of Tryz.func164 (by kernel_rfl) rfl
  have S0 : Aside (SW enc w0 blk off d w) := S
  clear S
  go_enter Tryz.func120, Tryz.ntmps120
  go_wp2
  go_loopg [10, 11] (b - a) (fun g1 vi vj wr => ∃ (i j : Nat) (dk : Array α), vi = .int .i64 i ∧ vj = .int .i64 j ∧ 0 < i ∧ 0 < j ∧ i ≤ m ∧ m + j ≤ d.size ∧ i + j ≤ g1 ∧ dk.size = d.size ∧ Aside (SW enc w0 blk off dk wr) ∧ Hid (Stab.rotLoop m i j dk = Stab.rotLoop m (m - a) (b - m) d))
  case atStart => exact ⟨m - a, b - m, d, by go_num, by go_num, by omega, by omega, by omega, by omega, by omega, rfl, S0, rfl⟩
  case round =>
    clear S0
    obtain ⟨i, j, dk, rfl, rfl, hi0, hj0, him, hmj, hg1, hsk, S1, HO⟩ := hrel
    by_cases heq : i = j
    · subst heq
      have hc : ((i : Int) != (i : Int)) = false := by simp
      have ra : IntKind.i64.wrap ((m : Int) - (i : Int)) = ((m - i : Nat) : Int) := by rw [IntKind.wrap_i64]; omega
      have hcall := swapRange_s enc cv blk off cap (m - i) m i d0 dk w0 wr R (by omega) S1.out (by omega) (by omega) (by omega)
      rw [hsk] at hcall
      clear S1
      go_wp2_with fail
      refine hcall.mono ?_
      rintro e w1 ⟨rfl, S2⟩
      go_wp2_with fail
      go_end0
      exact ⟨rfl, by rw [← HO.out, rotLoop_eq]; exact S2⟩
    · have hc : ((i : Int) != (j : Int)) = true := by simp; omega
      by_cases hgt : j < i
      · have hgtz : (j : Int) < (i : Int) := by omega
        have ra : IntKind.i64.wrap ((m : Int) - (i : Int)) = ((m - i : Nat) : Int) := by rw [IntKind.wrap_i64]; omega
        have rb : IntKind.i64.wrap ((i : Int) - (j : Int)) = ((i - j : Nat) : Int) := by rw [IntKind.wrap_i64]; omega
        have hcall := swapRange_s enc cv blk off cap (m - i) m j d0 dk w0 wr R (by omega) S1.out (by omega) (by omega) (by omega)
        rw [hsk] at hcall
        clear S1
        go_wp2_with fail
        refine hcall.mono ?_
        rintro e w1 ⟨rfl, S2⟩
        have S3 : Aside _ := S2
        clear S2 hcall
        go_wp2_with fail
        go_roundg (i - j + j)
        case measure => omega
        case rel => exact ⟨i - j, j, Stab.swapRange (m - i) m j 0 dk, by go_num, rfl, by omega, by omega, by omega, by omega, by omega, by rw [swapRange_size _ _ _ j 0 _ (by omega)]; exact hsk, S3, (show Hid _ from by rw [← HO.out, rotLoop_gt m i j dk hgt hj0]; exact rfl)⟩
      · have hgtz : ¬ (j : Int) < (i : Int) := by omega
        have ra : IntKind.i64.wrap ((m : Int) - (i : Int)) = ((m - i : Nat) : Int) := by rw [IntKind.wrap_i64]; omega
        have rc : IntKind.i64.wrap ((m : Int) + (j : Int)) = ((m + j : Nat) : Int) := by rw [IntKind.wrap_i64]; omega
        have rd : IntKind.i64.wrap ((m : Int) + (j : Int) - (i : Int)) = ((m + j - i : Nat) : Int) := by rw [IntKind.wrap_i64]; omega
        have rb : IntKind.i64.wrap ((j : Int) - (i : Int)) = ((j - i : Nat) : Int) := by rw [IntKind.wrap_i64]; omega
        have hcall := swapRange_s enc cv blk off cap (m - i) (m + j - i) i d0 dk w0 wr R (by omega) S1.out (by omega) (by omega) (by omega)
        rw [hsk] at hcall
        clear S1
        go_wp2_with fail
        refine hcall.mono ?_
        rintro e w1 ⟨rfl, S2⟩
        have S3 : Aside _ := S2
        clear S2 hcall
        go_wp2_with fail
        go_roundg (i + (j - i))
        case measure => omega
        case rel => exact ⟨i, j - i, Stab.swapRange (m - i) (m + j - i) i 0 dk, rfl, by go_num, by omega, by omega, by omega, by omega, by omega, by rw [swapRange_size _ _ _ i 0 _ (by omega)]; exact hsk, S3, (show Hid _ from by rw [← HO.out, rotLoop_lt m i j dk (by omega) hi0]; exact rfl)⟩
end Go.Proofs.YtadngfgbefgocaaGreatDoor

namespace Go.Proofs.YtadngfgbefgocaaGreatDoor
open Go.Shelf Go.RowKit Go.Lib Go.Sort
variable {α : Type} [Inhabited α]
theorem search_t (p : Nat → Bool) (i j : Nat) (h : i < j) (hp : p ((i + j) / 2) = true) : Stab.search p i j = Stab.search p ((i + j) / 2 + 1) j := by
  conv => lhs; unfold Stab.search
  rw [if_pos h, if_pos hp]
theorem search_f (p : Nat → Bool) (i j : Nat) (h : i < j) (hp : p ((i + j) / 2) = false) : Stab.search p i j = Stab.search p i ((i + j) / 2) := by
  conv => lhs; unfold Stab.search
  rw [if_pos h, if_neg (by rw [hp]; decide)]
theorem search_stop (p : Nat → Bool) (i j : Nat) (h : ¬ i < j) : Stab.search p i j = i := by
  unfold Stab.search
  rw [if_neg h]
theorem moveUp_go (i k : Nat) (d : Array α) (h : k < i) : Stab.moveUp i k d = Stab.moveUp i (k + 1) (swp d k (k + 1)) := by
  conv => lhs; unfold Stab.moveUp
  rw [if_pos h]
theorem moveUp_stop (i k : Nat) (d : Array α) (h : ¬ k < i) : Stab.moveUp i k d = d := by
  unfold Stab.moveUp
  rw [if_neg h]
theorem symMerge_up (lt : α → α → Bool) (a m b : Nat) (d : Array α) (h : m - a = 1) : Stab.symMerge lt a m b d = Stab.moveUp (Stab.search (fun h => lt d[h]! d[a]!) m b - 1) a d := by
  unfold Stab.symMerge
  rw [if_pos h]
set_option maxHeartbeats 4000000 in
set_option maxRecDepth 1000000 in
theorem symMerge_t (enc : α → Value) (cf : α → α → Int) (g : Nat) (cb : Array Value) (blk off cap a m b : Nat) (d0 d : Array α) (w0 w : World) (eg : ∀ args w, (callFunc g args).run Tryz.prog w = .ok (.enter g args) w) (hcmp : CmpLays1 Tryz.prog g cb enc cf blk off d0.size w0) (R : Row1 enc w0 blk off d0) (hs : d0.size = d.size) (S : SW enc w0 blk off d w) (ham : a < m) (hmb : m < b) (hb : b ≤ d.size) (hsz : d.size < 4611686018427387904) (h1 : m - a = 1) :
    Calls Tryz.prog 73 #[.slice (some ⟨blk, off, none⟩) d.size cap, .int .i64 a, .int .i64 m, .int .i64 b, .func (.func g) #[] cb] w fun e w' => e = .returned (.tuple #[]) ∧ SW enc w0 blk off (Stab.symMerge (ltOf cf) a m b d) w' := by
  have mixed := mixed
  have S0 : Aside (SW enc w0 blk off d w) := S
  clear S
  have HC : Aside _ := hcmp
  clear hcmp
  have ra : IntKind.i64.wrap ((m : Int) - (a : Int)) = 1 := by rw [IntKind.wrap_i64]; omega
  go_enter Tryz.func73, Tryz.ntmps73
  go_wp2_with fail
  go_loopg [10, 11] (b - m) (fun g1 vi vj wr => ∃ (i j : Nat), vi = .int .i64 i ∧ vj = .int .i64 j ∧ m ≤ i ∧ i ≤ j ∧ j ≤ b ∧ j - i ≤ g1 ∧ Aside (SW enc w0 blk off d wr) ∧ Hid (Stab.search (fun h => ltOf cf d[h]! d[a]!) i j = Stab.search (fun h => ltOf cf d[h]! d[a]!) m b))
  case atStart => exact ⟨m, b, by go_num, by go_num, by omega, by omega, by omega, by omega, S0, rfl⟩
  case round =>
    clear S0
    obtain ⟨i, j, rfl, rfl, him, hij, hjb, hg1, S1, HO⟩ := hrel
    by_cases hlt : i < j
    · have hltz : (i : Int) < (j : Int) := by omega
      have rb : IntKind.i64.wrap ((i : Int) + (j : Int)) = ((i + j : Nat) : Int) := by rw [IntKind.wrap_i64]; omega



      have ea : (((i : Int) + (j : Int)) / 2).toNat = (i + j) / 2 := by omega
      have pa : (0 : Int) ≤ ((i : Int) + (j : Int)) / 2 := by omega
      have ba : ((i : Int) + (j : Int)) / 2 < (d.size : Int) := by omega

      have pc : (0 : Int) ≤ (a : Int) := by omega
      have bc : (a : Int) < (d.size : Int) := by omega
      obtain ⟨x, hx⟩ : ∃ x, x = d[(i + j) / 2]! := ⟨_, rfl⟩
      obtain ⟨y, hy⟩ : ∃ x, x = d[a]! := ⟨_, rfl⟩
      have l1 := S1.out.cl R hs.symm ((i + j) / 2) (by omega)
      have l2 := S1.out.cl R hs.symm a (by omega)
      rw [← hx] at l1
      rw [← hy] at l2
      have hc := S1.out.cmp HC.out hs.symm x y
      cases hlv : ltOf cf d[(i + j) / 2]! d[a]! with
      | true =>
        have hv : cf x y < 0 := by rw [hx, hy]; exact of_decide_eq_true hlv
        have hd : decide (cf x y < 0) = true := decide_eq_true hv
        clear hx hy
        go_wp2_with fail
        go_quiet_grown (first | (go_at_fn g; refine Calls.grown_of (hc _ _)))
        have S2 : Aside (SW enc w0 blk off d (grow (wr.drewN nq) osq)) := S1.out.grown nq osq
        clear l1 l2 hc S1
        generalize grow (wr.drewN nq) osq = w2 at S2 ⊢
        clear nq osq
        have rg : IntKind.i64.wrap (((i : Int) + (j : Int)) / 2 + 1) = (((i + j) / 2 + 1 : Nat) : Int) := by rw [IntKind.wrap_i64]; omega
        go_wp2_with fail
        go_roundg (j - ((i + j) / 2 + 1))
        case measure => omega
        case rel => exact ⟨(i + j) / 2 + 1, j, by go_num, rfl, by omega, by omega, by omega, by omega, S2, (show Hid _ from by rw [← HO.out, search_t (fun h => ltOf cf d[h]! d[a]!) i j hlt hlv]; exact rfl)⟩
      | false =>
        have hv : ¬ cf x y < 0 := by rw [hx, hy]; exact of_decide_eq_false hlv
        have hd : decide (cf x y < 0) = false := decide_eq_false hv
        clear hx hy
        go_wp2_with fail
        go_quiet_grown (first | (go_at_fn g; refine Calls.grown_of (hc _ _)))
        have S2 : Aside (SW enc w0 blk off d (grow (wr.drewN nq) osq)) := S1.out.grown nq osq
        clear l1 l2 hc S1
        generalize grow (wr.drewN nq) osq = w2 at S2 ⊢
        clear nq osq
        go_wp2_with fail
        go_roundg ((i + j) / 2 - i)
        case measure => omega
        case rel => exact ⟨i, (i + j) / 2, rfl, by go_num, by omega, by omega, by omega, by omega, S2, (show Hid _ from by rw [← HO.out, search_f (fun h => ltOf cf d[h]! d[a]!) i j hlt hlv]; exact rfl)⟩
    · have hltz : ¬ (i : Int) < (j : Int) := by omega
      have hsr : Hid (Stab.search (fun h => ltOf cf d[h]! d[a]!) m b = i) := by show _ = _; rw [← HO.out, search_stop _ _ _ hlt]
      clear HO HC
      have rs : IntKind.i64.wrap ((i : Int) - 1) = ((i - 1 : Nat) : Int) := by rw [IntKind.wrap_i64]; omega
      have hcl0 := R.hO.cells
      simp only [Value.cells] at hcl0
      have hst := R.hO.store Tryz.prog
      have t3 := Tryz.underlying3
      have t24 := Tryz.underlying24
      have u24 := run_underlying t24
      go_wp2_with fail
      go_loopg [13] (i - 1 - a) (fun g2 vk wk => ∃ (k : Nat) (dk : Array α), vk = .int .i64 k ∧ a ≤ k ∧ k ≤ i - 1 ∧ i - 1 - k ≤ g2 ∧ dk.size = d.size ∧ Aside (SW enc w0 blk off dk wk) ∧ Hid (Stab.moveUp (i - 1) k dk = Stab.moveUp (i - 1) a d))
      case atStart => exact ⟨a, d, rfl, by omega, by omega, by omega, rfl, S1, rfl⟩
      case round =>
        clear S1
        obtain ⟨k, dk, rfl, hak, hki, hg2, hsk, S1, HO⟩ := hrel
        by_cases hlk : k < i - 1
        · have hlkz : (k : Int) < ((i - 1 : Nat) : Int) := by omega
          obtain ⟨iN, hiN⟩ : ∃ q, q = k := ⟨_, rfl⟩
          obtain ⟨jN, hjN⟩ : ∃ q, q = k + 1 := ⟨_, rfl⟩
          have ea : ((k : Int)).toNat = iN := by omega
          have pa : (0 : Int) ≤ (k : Int) := by omega
          have ba : (k : Int) < (d.size : Int) := by omega
          have ec : ((k : Int) + 1).toNat = jN := by omega
          have pc : (0 : Int) ≤ (k : Int) + 1 := by omega
          have bc : (k : Int) + 1 < (d.size : Int) := by omega
          have rc : IntKind.i64.wrap ((k : Int) + 1) = (k : Int) + 1 := by rw [IntKind.wrap_i64]; omega
          obtain ⟨x, hx⟩ : ∃ x, x = dk[k]! := ⟨_, rfl⟩
          obtain ⟨y, hy⟩ : ∃ x, x = dk[k + 1]! := ⟨_, rfl⟩
          have S3 : Aside (SW enc w0 blk off (swp dk k (k + 1)) ((wr.setCell ⟨blk, off + iN, none⟩ (enc y)).setCell ⟨blk, off + jN, none⟩ (enc x)).drew) := by rw [hiN, hjN, hx, hy]; exact S1.out.swapped R k (k + 1) (by omega) (by omega)
          have c1 := S1.out.c1 R (by omega) k (by omega)
          have c2 := S1.out.c1 R (by omega) (k + 1) (by omega)
          have f1 := S1.out.f1 R (by omega) k (by omega)
          have f2 := S1.out.f1 R (by omega) (k + 1) (by omega)
          obtain ⟨u, c3⟩ := S1.out.c2 R (by omega) k (k + 1) (by omega) (by omega) (enc y)
          rw [← hjN, ← hiN] at c3
          rw [← hx, ← hiN] at c1
          rw [← hy, ← hjN] at c2
          rw [← hiN] at f1
          rw [← hjN] at f2
          clear S1 hx hy hiN hjN
          go_wp2_with fail
          go_big_region_o
          clear c1 c2 c3 f1 f2
          generalize ((wr.setCell ⟨blk, off + iN, none⟩ (enc y)).setCell ⟨blk, off + jN, none⟩ (enc x)).drew = w3 at S3 ⊢
          clear ea ec
          go_wp2_with fail
          go_roundg (i - 1 - (k + 1))
          case measure => omega
          case rel => exact ⟨k + 1, swp dk k (k + 1), by go_num, by omega, by omega, by omega, by rw [size_swp]; exact hsk, S3, (show Hid _ from by rw [← HO.out, moveUp_go (i - 1) k dk hlk]; exact rfl)⟩
        · have hlkz : ¬ (k : Int) < ((i - 1 : Nat) : Int) := by omega
          go_wp2_with fail
          exact ⟨rfl, _, results_none rfl _ _ _, rfl, by rw [symMerge_up _ _ _ _ _ h1, hsr.out, ← HO.out, moveUp_stop _ _ _ hlk]; exact S1.out⟩
end Go.Proofs.YtadngfgbefgocaaGreatDoor

namespace Go.Proofs.YtadngfgbefgocaaGreatDoor
open Go.Shelf Go.RowKit Go.Lib Go.Sort
variable {α : Type} [Inhabited α]
theorem moveDown_go (i k : Nat) (d : Array α) (h : i < k + 1) : Stab.moveDown i (k + 1) d = Stab.moveDown i k (swp d (k + 1) k) := by
  conv => lhs; unfold Stab.moveDown
  rw [if_pos h]
theorem moveDown_stop (i k : Nat) (d : Array α) (h : ¬ i < k) : Stab.moveDown i k d = d := by
  cases k with
  | zero => rfl
  | succ k =>
    unfold Stab.moveDown
    rw [if_neg h]
theorem symMerge_down (lt : α → α → Bool) (a m b : Nat) (d : Array α) (h0 : m - a ≠ 1) (h : b - m = 1) : Stab.symMerge lt a m b d = Stab.moveDown (Stab.search (fun h => !lt d[m]! d[h]!) a m) m d := by
  unfold Stab.symMerge
  rw [if_neg h0, if_pos h]
set_option maxHeartbeats 4000000 in
set_option maxRecDepth 1000000 in
theorem symMerge_d (enc : α → Value) (cf : α → α → Int) (g : Nat) (cb : Array Value) (blk off cap a m b : Nat) (d0 d : Array α) (w0 w : World) (eg : ∀ args w, (callFunc g args).run Tryz.prog w = .ok (.enter g args) w) (hcmp : CmpLays1 Tryz.prog g cb enc cf blk off d0.size w0) (R : Row1 enc w0 blk off d0) (hs : d0.size = d.size) (S : SW enc w0 blk off d w) (ham : a < m) (hmb : m < b) (hb : b ≤ d.size) (hsz : d.size < 4611686018427387904) (h0 : m - a ≠ 1) (h1 : b - m = 1) :
    Calls Tryz.prog 73 #[.slice (some ⟨blk, off, none⟩) d.size cap, .int .i64 a, .int .i64 m, .int .i64 b, .func (.func g) #[] cb] w fun e w' => e = .returned (.tuple #[]) ∧ SW enc w0 blk off (Stab.symMerge (ltOf cf) a m b d) w' := by
  have mixed := mixed
  have S0 : Aside (SW enc w0 blk off d w) := S
  clear S
  have HC : Aside _ := hcmp
  clear hcmp
  have ra0 : IntKind.i64.wrap ((m : Int) - (a : Int)) = ((m - a : Nat) : Int) := by rw [IntKind.wrap_i64]; omega
  have ra1 : (((m - a : Nat) : Int) == 1) = false := by simp; omega
  have ra : IntKind.i64.wrap ((b : Int) - (m : Int)) = 1 := by rw [IntKind.wrap_i64]; omega
  go_enter Tryz.func73, Tryz.ntmps73
  go_wp2_with fail
  go_loopg [14, 15] (m - a) (fun g1 vi vj wr => ∃ (i j : Nat), vi = .int .i64 i ∧ vj = .int .i64 j ∧ a ≤ i ∧ i ≤ j ∧ j ≤ m ∧ j - i ≤ g1 ∧ Aside (SW enc w0 blk off d wr) ∧ Hid (Stab.search (fun h => !ltOf cf d[m]! d[h]!) i j = Stab.search (fun h => !ltOf cf d[m]! d[h]!) a m))
  case atStart => exact ⟨a, m, by go_num, by go_num, by omega, by omega, by omega, by omega, S0, rfl⟩
  case round =>
    clear S0
    obtain ⟨i, j, rfl, rfl, him, hij, hjb, hg1, S1, HO⟩ := hrel
    by_cases hlt : i < j
    · have hltz : (i : Int) < (j : Int) := by omega
      have rb : IntKind.i64.wrap ((i : Int) + (j : Int)) = ((i + j : Nat) : Int) := by rw [IntKind.wrap_i64]; omega



      have ea : (((i : Int) + (j : Int)) / 2).toNat = (i + j) / 2 := by omega
      have pa : (0 : Int) ≤ ((i : Int) + (j : Int)) / 2 := by omega
      have ba : ((i : Int) + (j : Int)) / 2 < (d.size : Int) := by omega

      have pc : (0 : Int) ≤ (m : Int) := by omega
      have bc : (m : Int) < (d.size : Int) := by omega
      obtain ⟨x, hx⟩ : ∃ x, x = d[m]! := ⟨_, rfl⟩
      obtain ⟨y, hy⟩ : ∃ x, x = d[(i + j) / 2]! := ⟨_, rfl⟩
      have l1 := S1.out.cl R hs.symm m (by omega)
      have l2 := S1.out.cl R hs.symm ((i + j) / 2) (by omega)
      rw [← hx] at l1
      rw [← hy] at l2
      have hc := S1.out.cmp HC.out hs.symm x y
      cases hlv : ltOf cf d[m]! d[(i + j) / 2]! with
      | false =>
        have hv : ¬ cf x y < 0 := by rw [hx, hy]; exact of_decide_eq_false hlv
        have hd : decide (cf x y < 0) = false := decide_eq_false hv
        clear hx hy
        go_wp2_with fail
        go_quiet_grown (first | (go_at_fn g; refine Calls.grown_of (hc _ _)))
        have S2 : Aside (SW enc w0 blk off d (grow (wr.drewN nq) osq)) := S1.out.grown nq osq
        clear l1 l2 hc S1
        generalize grow (wr.drewN nq) osq = w2 at S2 ⊢
        clear nq osq
        have rg : IntKind.i64.wrap (((i : Int) + (j : Int)) / 2 + 1) = (((i + j) / 2 + 1 : Nat) : Int) := by rw [IntKind.wrap_i64]; omega
        go_wp2_with fail
        go_roundg (j - ((i + j) / 2 + 1))
        case measure => omega
        case rel => exact ⟨(i + j) / 2 + 1, j, by go_num, rfl, by omega, by omega, by omega, by omega, S2, (show Hid _ from by rw [← HO.out, search_t (fun h => !ltOf cf d[m]! d[h]!) i j hlt (by simp only [hlv]; rfl)]; exact rfl)⟩
      | true =>
        have hv : cf x y < 0 := by rw [hx, hy]; exact of_decide_eq_true hlv
        have hd : decide (cf x y < 0) = true := decide_eq_true hv
        clear hx hy
        go_wp2_with fail
        go_quiet_grown (first | (go_at_fn g; refine Calls.grown_of (hc _ _)))
        have S2 : Aside (SW enc w0 blk off d (grow (wr.drewN nq) osq)) := S1.out.grown nq osq
        clear l1 l2 hc S1
        generalize grow (wr.drewN nq) osq = w2 at S2 ⊢
        clear nq osq
        go_wp2_with fail
        go_roundg ((i + j) / 2 - i)
        case measure => omega
        case rel => exact ⟨i, (i + j) / 2, rfl, by go_num, by omega, by omega, by omega, by omega, S2, (show Hid _ from by rw [← HO.out, search_f (fun h => !ltOf cf d[m]! d[h]!) i j hlt (by simp only [hlv]; rfl)]; exact rfl)⟩
    · have hltz : ¬ (i : Int) < (j : Int) := by omega
      have hsr : Hid (Stab.search (fun h => !ltOf cf d[m]! d[h]!) a m = i) := by show _ = _; rw [← HO.out, search_stop _ _ _ hlt]
      clear HO HC
      have hcl0 := R.hO.cells
      simp only [Value.cells] at hcl0
      have hst := R.hO.store Tryz.prog
      have t3 := Tryz.underlying3
      have t24 := Tryz.underlying24
      have u24 := run_underlying t24
      go_wp2_with fail
      go_loopg [17] (m - i) (fun g2 vk wk => ∃ (k : Nat) (dk : Array α), vk = .int .i64 k ∧ k ≤ m ∧ k - i ≤ g2 ∧ dk.size = d.size ∧ Aside (SW enc w0 blk off dk wk) ∧ Hid (Stab.moveDown i k dk = Stab.moveDown i m d))
      case atStart => exact ⟨m, d, rfl, by omega, by omega, rfl, S1, rfl⟩
      case round =>
        clear S1
        obtain ⟨k, dk, rfl, hki, hg2, hsk, S1, HO⟩ := hrel
        by_cases hlk : i < k
        · have hlkz : (i : Int) < (k : Int) := by omega
          obtain ⟨jp, hjp⟩ : ∃ q, q + 1 = k := ⟨k - 1, by omega⟩
          have zjp : (k : Int) = (jp : Int) + 1 := by omega
          have hjad : decide ((jp : Int) + 1 > (i : Int)) = true := decide_eq_true (by omega)
          have hjaz' : (i : Int) < (jp : Int) + 1 := by omega
          obtain ⟨iN, hiN⟩ : ∃ q, q = k := ⟨_, rfl⟩
          obtain ⟨jN, hjN⟩ : ∃ q, q = k - 1 := ⟨_, rfl⟩
          have ea : ((jp : Int) + 1).toNat = iN := by omega
          have pa : (0 : Int) ≤ (jp : Int) + 1 := by omega
          have ba : (jp : Int) + 1 < (d.size : Int) := by omega
          have ra' : IntKind.i64.wrap ((jp : Int) + 1) = (jp : Int) + 1 := by rw [IntKind.wrap_i64]; omega
          have ec : ((jp : Int)).toNat = jN := by omega
          have pc : (0 : Int) ≤ (jp : Int) := by omega
          have bc : (jp : Int) < (d.size : Int) := by omega
          have rc : IntKind.i64.wrap ((jp : Int)) = (jp : Int) := by rw [IntKind.wrap_i64]; omega
          obtain ⟨x, hx⟩ : ∃ x, x = dk[k]! := ⟨_, rfl⟩
          obtain ⟨y, hy⟩ : ∃ x, x = dk[k - 1]! := ⟨_, rfl⟩
          have S3 : Aside (SW enc w0 blk off (swp dk k (k - 1)) ((wr.setCell ⟨blk, off + iN, none⟩ (enc y)).setCell ⟨blk, off + jN, none⟩ (enc x)).drew) := by rw [hiN, hjN, hx, hy]; exact S1.out.swapped R k (k - 1) (by omega) (by omega)
          have c1 := S1.out.c1 R (by omega) k (by omega)
          have c2 := S1.out.c1 R (by omega) (k - 1) (by omega)
          have f1 := S1.out.f1 R (by omega) k (by omega)
          have f2 := S1.out.f1 R (by omega) (k - 1) (by omega)
          obtain ⟨u, c3⟩ := S1.out.c2 R (by omega) k (k - 1) (by omega) (by omega) (enc y)
          rw [← hjN, ← hiN] at c3
          rw [← hx, ← hiN] at c1
          rw [← hy, ← hjN] at c2
          rw [← hiN] at f1
          rw [← hjN] at f2
          clear S1 hx hy hiN hjN
          go_wp2_with fail
          go_big_region_o
          clear c1 c2 c3 f1 f2
          generalize ((wr.setCell ⟨blk, off + iN, none⟩ (enc y)).setCell ⟨blk, off + jN, none⟩ (enc x)).drew = w3 at S3 ⊢
          clear ea ec
          go_wp2_with fail
          go_roundg (k - 1 - i)
          case measure => omega
          case rel => exact ⟨k - 1, swp dk k (k - 1), by first | rfl | go_num | (congr 1; omega), by omega, by omega, by rw [size_swp]; exact hsk, S3, (show Hid _ from by rw [← HO.out, ← hjp, moveDown_go i jp dk (by omega)]; exact rfl)⟩
        · have hlkz : ¬ (i : Int) < (k : Int) := by omega
          go_wp2_with fail
          exact ⟨rfl, _, results_none rfl _ _ _, rfl, by rw [symMerge_down _ _ _ _ _ h0 h1, hsr.out, ← HO.out, moveDown_stop _ _ _ hlk]; exact S1.out⟩
end Go.Proofs.YtadngfgbefgocaaGreatDoor

namespace Go.Proofs.YtadngfgbefgocaaGreatDoor
open Go.Shelf Go.RowKit Go.Lib Go.Sort
variable {α : Type} [Inhabited α]
set_option maxHeartbeats 4000000 in
set_option maxRecDepth 1000000 in
theorem symMerge_g (enc : α → Value) (cf : α → α → Int) (g : Nat) (cb : Array Value) (blk off cap a m b : Nat) (d0 d : Array α) (w0 w : World) (hcmp : CmpLays1 Tryz.prog g cb enc cf blk off d0.size w0) (eg : ∀ args w, (callFunc g args).run Tryz.prog w = .ok (.enter g args) w) (R : Row1 enc w0 blk off d0) (hs : d0.size = d.size) (S : SW enc w0 blk off d w) (ham : a < m) (hmb : m < b) (hb : b ≤ d.size) (hsz : d.size < 4611686018427387904) (h0 : m - a ≠ 1) (h1 : b - m ≠ 1)
    (ih : ∀ (a' m' b' : Nat) (d' : Array α) (w' : World), a' < m' → m' < b' → b' ≤ d.size → d'.size = d.size → b' - a' < b - a → SW enc w0 blk off d' w' → Calls Tryz.prog 73 #[.slice (some ⟨blk, off, none⟩) d.size cap, .int .i64 a', .int .i64 m', .int .i64 b', .func (.func g) #[] cb] w' fun e w'' => e = .returned (.tuple #[]) ∧ SW enc w0 blk off (Stab.symMerge (ltOf cf) a' m' b' d') w'') :
    Calls Tryz.prog 73 #[.slice (some ⟨blk, off, none⟩) d.size cap, .int .i64 a, .int .i64 m, .int .i64 b, .func (.func g) #[] cb] w fun e w' => e = .returned (.tuple #[]) ∧ SW enc w0 blk off (Stab.symMerge (ltOf cf) a m b d) w' := by
  have mixed := mixed
  have e21 : ∀ args w, (callFunc 120 args).run Tryz.prog w = .ok (.enter 120 args) w := enters_of Tryz.func120 (by kernel_rfl) rfl
  have e19 : ∀ args w, (callFunc 73 args).run Tryz.prog w = .ok (.enter 73 args) w := enters_of Tryz.func73 (by kernel_rfl) rfl
  have S0 : Aside (SW enc w0 blk off d w) := S
  clear S
  have HC : Aside _ := hcmp
  clear hcmp
  have IH : Aside _ := ih
  clear ih
  obtain ⟨mid, hmid⟩ : ∃ q, q = (a + b) / 2 := ⟨_, rfl⟩
  have hm1 : 2 * mid ≤ a + b := by omega
  have hm2 : a + b < 2 * mid + 2 := by omega
  have HM : Aside (mid = (a + b) / 2) := hmid
  clear hmid
  have ra0 : IntKind.i64.wrap ((m : Int) - (a : Int)) = ((m - a : Nat) : Int) := by rw [IntKind.wrap_i64]; omega
  have ra1 : (((m - a : Nat) : Int) == 1) = false := by simp; omega
  have rb0 : IntKind.i64.wrap ((b : Int) - (m : Int)) = ((b - m : Nat) : Int) := by rw [IntKind.wrap_i64]; omega
  have rb1 : (((b - m : Nat) : Int) == 1) = false := by simp; omega
  have rc0 : IntKind.i64.wrap ((a : Int) + (b : Int)) = ((a + b : Nat) : Int) := by rw [IntKind.wrap_i64]; omega
  have bc1 : ((a : Int) + (b : Int)) / 2 < (d.size : Int) := by omega
  have RC : Aside (((a : Int) + (b : Int)) / 2 = (mid : Int)) := (show ((a : Int) + (b : Int)) / 2 = (mid : Int) by have := HM.out; omega)
  have rn : IntKind.i64.wrap ((mid : Int) + (m : Int)) = ((mid + m : Nat) : Int) := by rw [IntKind.wrap_i64]; omega
  go_enter Tryz.func73, Tryz.ntmps73
  go_upto_region 25 with fail
  rw [RC.out]
  clear bc1 RC rc0 ra0 ra1 rb0 rb1
  go_upto_if 140 with fail
  obtain ⟨s0, hs0⟩ : ∃ q, Aside (q = (if mid < m then mid + m - b else a)) := ⟨_, rfl⟩
  obtain ⟨r0, hr0⟩ : ∃ q, Aside (q = (if mid < m then mid else m)) := ⟨_, rfl⟩
  go_cut [20, 21, 140] from 141 to 146 (fun v20 v21 _v140 wc => v20 = .int .i64 s0 ∧ v21 = .int .i64 r0 ∧ wc = w)
  case first =>
    by_cases hm : mid < m
    · have hmz : (mid : Int) < (m : Int) := by omega
      have e1 : Aside (s0 = mid + m - b) := by show _ = _; rw [hs0.out, if_pos (by omega)]
      have e2 : Aside (r0 = mid) := by show _ = _; rw [hr0.out, if_pos (by omega)]
      have rs : IntKind.i64.wrap ((mid : Int) + (m : Int) - (b : Int)) = ((mid + m - b : Nat) : Int) := by rw [IntKind.wrap_i64]; omega
      go_wp2_with fail
      go_meet
      case rel => exact ⟨by rw [e1.out], by rw [e2.out], rfl⟩
    · have hmz : ¬ (mid : Int) < (m : Int) := by omega
      have e1 : Aside (s0 = a) := by show _ = _; rw [hs0.out, if_neg (by omega)]
      have e2 : Aside (r0 = m) := by show _ = _; rw [hr0.out, if_neg (by omega)]
      go_wp2_with fail
      go_meet
      case rel => exact ⟨by rw [e1.out], by rw [e2.out], rfl⟩
  case rest =>
    obtain ⟨rfl, rfl, rfl⟩ := hcut
    have hs1 : a ≤ s0 ∧ s0 ≤ r0 ∧ r0 ≤ m ∧ r0 ≤ mid ∧ mid + m ≤ b + s0 := by rw [hs0.out, hr0.out]; split <;> omega
    obtain ⟨hs1, hs2, hs3, hs4, hs5⟩ := hs1
    clear rn
    obtain ⟨P, hP⟩ : ∃ q, q + 1 = mid + m := ⟨mid + m - 1, by omega⟩
    have rp : IntKind.i64.wrap ((mid : Int) + (m : Int) - 1) = (P : Int) := by rw [IntKind.wrap_i64]; omega
    obtain ⟨pr, hpr⟩ : ∃ q : Nat → Bool, Aside (q = fun c => !ltOf cf d[P - c]! d[c]!) := ⟨_, rfl⟩
    go_wp2_with fail
    clear rp
    go_loopg [20, 21] (r0 - s0) (fun g1 vi vj wr => ∃ (i j : Nat), vi = .int .i64 i ∧ vj = .int .i64 j ∧ s0 ≤ i ∧ i ≤ j ∧ j ≤ r0 ∧ j - i ≤ g1 ∧ Aside (SW enc w0 blk off d wr) ∧ Hid (Stab.search pr i j = Stab.search pr s0 r0))
    case atStart => exact ⟨s0, r0, rfl, rfl, by omega, by omega, by omega, by omega, S0, rfl⟩
    case round =>
      clear S0
      obtain ⟨i, j, rfl, rfl, his, hij, hjr, hg1, S1, HO⟩ := hrel
      by_cases hlt : i < j
      · have hltz : (i : Int) < (j : Int) := by omega
        have rb : IntKind.i64.wrap ((i : Int) + (j : Int)) = ((i + j : Nat) : Int) := by rw [IntKind.wrap_i64]; omega
        obtain ⟨c, hc⟩ : ∃ q, Aside (q = (i + j) / 2) := ⟨_, rfl⟩
        have hc1 : 2 * c ≤ i + j := by rw [hc.out]; omega
        have hc2 : i + j < 2 * c + 2 := by rw [hc.out]; omega
        have RC : Aside (((i : Int) + (j : Int)) / 2 = (c : Int)) := (show ((i : Int) + (j : Int)) / 2 = (c : Int) by omega)
        have bc1 : ((i : Int) + (j : Int)) / 2 < (d.size : Int) := by omega
        go_upto_region 35 with fail
        rw [RC.out]
        clear RC bc1 rb
        obtain ⟨u, hu⟩ : ∃ q, q + c = P := ⟨P - c, by omega⟩
        have hpv : Aside (pr ((i + j) / 2) = !ltOf cf d[u]! d[c]!) := by
          show _ = _
          rw [← hc.out, hpr.out]
          show (!ltOf cf d[P - c]! d[c]!) = _
          rw [show P - c = u by omega]
        have rq : IntKind.i64.wrap ((P : Int) - (c : Int)) = (u : Int) := by rw [IntKind.wrap_i64]; omega
        have pa : (0 : Int) ≤ (u : Int) := by omega
        have ba : (u : Int) < (d.size : Int) := by omega
        have pc : (0 : Int) ≤ (c : Int) := by omega
        have bc : (c : Int) < (d.size : Int) := by omega
        obtain ⟨x, hx⟩ : ∃ x, x = d[u]! := ⟨_, rfl⟩
        obtain ⟨y, hy⟩ : ∃ x, x = d[c]! := ⟨_, rfl⟩
        have l1 := S1.out.cl R hs.symm u (by omega)
        have l2 := S1.out.cl R hs.symm c (by omega)
        rw [← hx] at l1
        rw [← hy] at l2
        have hk := S1.out.cmp HC.out hs.symm x y
        cases hlv : ltOf cf d[u]! d[c]! with
        | false =>
          have hv : ¬ cf x y < 0 := by rw [hx, hy]; exact of_decide_eq_false hlv
          have hd : decide (cf x y < 0) = false := decide_eq_false hv
          clear hx hy
          go_wp2_with fail
          go_quiet_grown (first | (go_at_fn g; refine Calls.grown_of (hk _ _)))
          have S2 : Aside (SW enc w0 blk off d (grow (wr.drewN nq) osq)) := S1.out.grown nq osq
          clear l1 l2 hk S1
          generalize grow (wr.drewN nq) osq = w2 at S2 ⊢
          clear nq osq
          have rg : IntKind.i64.wrap ((c : Int) + 1) = ((c + 1 : Nat) : Int) := by rw [IntKind.wrap_i64]; omega
          go_wp2_with fail
          go_roundg (j - (c + 1))
          case measure => omega
          case rel => exact ⟨c + 1, j, by go_num, rfl, by omega, by omega, by omega, by omega, S2, (show Hid _ from by rw [← HO.out, search_t pr i j hlt (by rw [hpv.out, hlv]; rfl), ← hc.out]; exact rfl)⟩
        | true =>
          have hv : cf x y < 0 := by rw [hx, hy]; exact of_decide_eq_true hlv
          have hd : decide (cf x y < 0) = true := decide_eq_true hv
          clear hx hy
          go_wp2_with fail
          go_quiet_grown (first | (go_at_fn g; refine Calls.grown_of (hk _ _)))
          have S2 : Aside (SW enc w0 blk off d (grow (wr.drewN nq) osq)) := S1.out.grown nq osq
          clear l1 l2 hk S1
          generalize grow (wr.drewN nq) osq = w2 at S2 ⊢
          clear nq osq
          go_wp2_with fail
          go_roundg (c - i)
          case measure => omega
          case rel => exact ⟨i, c, rfl, by go_num, by omega, by omega, by omega, by omega, S2, (show Hid _ from by rw [← HO.out, search_f pr i j hlt (by rw [hpv.out, hlv]; rfl), ← hc.out]; exact rfl)⟩
      · have hltz : ¬ (i : Int) < (j : Int) := by omega
        have hst : Aside (Stab.stOf (ltOf cf) a m b d = i) := by
          show _ = _
          unfold Stab.stOf
          rw [← HM.out, ← hs0.out, ← hr0.out, show mid + m - 1 = P by omega, ← hpr.out, ← HO.out, search_stop _ _ _ hlt]
        have his2 : i ≤ r0 := by omega
        clear HO hpr HC
        obtain ⟨E, hE⟩ : ∃ q, q + i = mid + m := ⟨mid + m - i, by omega⟩
        have re : IntKind.i64.wrap ((mid : Int) + (m : Int) - (i : Int)) = (E : Int) := by rw [IntKind.wrap_i64]; omega
        have SA : Aside (SW enc w0 blk off d wr) := S1
        clear S1
        go_upto_region 39 with fail
        clear re
        go_cut [185] from 178 to 184 (fun v wx => v = .bool (decide (i < m ∧ m < E)) ∧ wx = wr)
        case first =>
          by_cases q1 : i < m
          · have z1 : (i : Int) < (m : Int) := by omega
            by_cases q2 : m < E
            · have z2 : (m : Int) < (E : Int) := by omega
              go_wp2_with fail
              go_meet
              case rel => exact ⟨by simp [q1, q2], rfl⟩
            · have z2 : ¬ (m : Int) < (E : Int) := by omega
              go_wp2_with fail
              go_meet
              case rel => exact ⟨by simp [q2], rfl⟩
          · have z1 : ¬ (i : Int) < (m : Int) := by omega
            go_wp2_with fail
            go_meet
            case rel => exact ⟨by simp [q1], rfl⟩
        case rest =>
          obtain ⟨rfl, rfl⟩ := hcut
          have hd1 : Aside (Stab.d1Of a m b i d = if i < m ∧ m < E then Stab.rotLoop m (m - i) (E - m) d else d) := by
            show _ = _
            unfold Stab.d1Of
            rw [← HM.out, show mid + m - i = E by omega]
          go_upto_if 185 with fail
          go_cut [185] from 186 to 191 (fun _v wx => Aside (SW enc w0 blk off (Stab.d1Of a m b i d) wx))
          case first =>
            by_cases hA : i < m ∧ m < E
            · have hq : decide (i < m ∧ m < E) = true := decide_eq_true hA
              have hcall := rotate_s enc (.func (.func g) #[] cb) blk off cap i m E d0 d w0 wc R hs SA.out hA.1 hA.2 (by omega) hsz
              clear SA
              go_wp2_with fail
              refine hcall.mono ?_
              rintro e w1 ⟨rfl, S2⟩
              have S3 : Aside (SW enc w0 blk off (Stab.d1Of a m b i d) w1) := by rw [hd1.out, if_pos hA]; exact S2
              clear S2 hcall
              go_wp2_with fail
              go_meet
              case rel => exact S3
            · have hq : decide (i < m ∧ m < E) = false := decide_eq_false hA
              have S3 : Aside (SW enc w0 blk off (Stab.d1Of a m b i d) wc) := by rw [hd1.out, if_neg hA]; exact SA.out
              clear SA
              go_wp2_with fail
              go_meet
              case rel => exact S3
          case rest =>
            have hz1 : Aside ((Stab.d1Of a m b i d).size = d.size) := by
              show _ = _
              unfold Stab.d1Of
              split
              · rw [Stab.rotLoop_size _ _ _ _ _ (Nat.le_refl _)]
              · rfl
            clear SA hd1
            have SB : Aside (SW enc w0 blk off (Stab.d1Of a m b i d) wc) := hcut
            clear hcut
            obtain ⟨d1, hd1⟩ : ∃ q, Aside (q = Stab.d1Of a m b i d) := ⟨_, rfl⟩
            rw [← hd1.out] at hz1 SB
            go_upto_region 41 with fail
            go_cut [199] from 192 to 198 (fun v wx => v = .bool (decide (a < i ∧ i < mid)) ∧ wx = wc)
            case first =>
              by_cases q1 : a < i
              · have z1 : (a : Int) < (i : Int) := by omega
                by_cases q2 : i < mid
                · have z2 : (i : Int) < (mid : Int) := by omega
                  go_wp2_with fail
                  go_meet
                  case rel => exact ⟨by simp [q1, q2], rfl⟩
                · have z2 : ¬ (i : Int) < (mid : Int) := by omega
                  go_wp2_with fail
                  go_meet
                  case rel => exact ⟨by simp [q2], rfl⟩
              · have z1 : ¬ (a : Int) < (i : Int) := by omega
                go_wp2_with fail
                go_meet
                case rel => exact ⟨by simp [q1], rfl⟩
            case rest =>
              obtain ⟨rfl, rfl⟩ := hcut
              have hd2 : Aside (Stab.d2Of (ltOf cf) a b i d1 = if a < i ∧ i < mid then Stab.symMerge (ltOf cf) a i mid d1 else d1) := by
                show _ = _
                unfold Stab.d2Of
                rw [← HM.out]
              go_upto_if 199 with fail
              go_cut [199] from 200 to 205 (fun _v wx => Aside (SW enc w0 blk off (Stab.d2Of (ltOf cf) a b i d1) wx))
              case first =>
                by_cases hA : a < i ∧ i < mid
                · have hq : decide (a < i ∧ i < mid) = true := decide_eq_true hA
                  have hcall := IH.out a i mid d1 wc hA.1 hA.2 (by omega) hz1.out (by omega) SB.out
                  clear SB IH
                  go_wp2_with fail
                  refine hcall.mono ?_
                  rintro e w1 ⟨rfl, S2⟩
                  have S3 : Aside (SW enc w0 blk off (Stab.d2Of (ltOf cf) a b i d1) w1) := by rw [hd2.out, if_pos hA]; exact S2
                  clear S2 hcall
                  go_wp2_with fail
                  go_meet
                  case rel => exact S3
                · have hq : decide (a < i ∧ i < mid) = false := decide_eq_false hA
                  have S3 : Aside (SW enc w0 blk off (Stab.d2Of (ltOf cf) a b i d1) wc) := by rw [hd2.out, if_neg hA]; exact SB.out
                  clear SB IH
                  go_wp2_with fail
                  go_meet
                  case rel => exact S3
              case rest =>
                have hz2 : Aside ((Stab.d2Of (ltOf cf) a b i d1).size = d.size) := by
                  show _ = _
                  unfold Stab.d2Of
                  rw [← HM.out]
                  split
                  · rename_i hA
                    rw [Stab.symMerge_size (ltOf cf) _ _ _ _ _ (Nat.le_refl _) hA.1 hA.2]
                    exact hz1.out
                  · exact hz1.out
                clear SB hd2 hz1
                have SD : Aside (SW enc w0 blk off (Stab.d2Of (ltOf cf) a b i d1) wc) := hcut
                clear hcut
                obtain ⟨d2, hd2⟩ : ∃ q, Aside (q = Stab.d2Of (ltOf cf) a b i d1) := ⟨_, rfl⟩
                rw [← hd2.out] at hz2 SD
                go_upto_region 43 with fail
                go_cut [213] from 206 to 212 (fun v wx => v = .bool (decide (mid < E ∧ E < b)) ∧ wx = wc)
                case first =>
                  by_cases q1 : mid < E
                  · have z1 : (mid : Int) < (E : Int) := by omega
                    by_cases q2 : E < b
                    · have z2 : (E : Int) < (b : Int) := by omega
                      go_wp2_with fail
                      go_meet
                      case rel => exact ⟨by simp [q1, q2], rfl⟩
                    · have z2 : ¬ (E : Int) < (b : Int) := by omega
                      go_wp2_with fail
                      go_meet
                      case rel => exact ⟨by simp [q2], rfl⟩
                  · have z1 : ¬ (mid : Int) < (E : Int) := by omega
                    go_wp2_with fail
                    go_meet
                    case rel => exact ⟨by simp [q1], rfl⟩
                case rest =>
                  obtain ⟨rfl, rfl⟩ := hcut
                  have hd3 : Aside (Stab.symMerge (ltOf cf) a m b d = if mid < E ∧ E < b then Stab.symMerge (ltOf cf) mid E b d2 else d2) := by
                    show _ = _
                    rw [Stab.symMerge_gen (ltOf cf) a m b d h0 h1, hst.out, ← hd1.out, ← hd2.out]
                    unfold Stab.d3Of
                    rw [← HM.out, show mid + m - i = E by omega]
                  go_upto_if 213 with fail
                  by_cases hA : mid < E ∧ E < b
                  · have hq : decide (mid < E ∧ E < b) = true := decide_eq_true hA
                    have hcall := IH.out mid E b d2 wc hA.1 hA.2 hb hz2.out (by omega) SD.out
                    clear SD IH
                    go_wp2_with fail
                    refine hcall.mono ?_
                    rintro e w1 ⟨rfl, S2⟩
                    go_wp2_with fail
                    go_end0
                    exact ⟨rfl, by rw [hd3.out, if_pos hA]; exact S2⟩
                  · have hq : decide (mid < E ∧ E < b) = false := decide_eq_false hA
                    go_wp2_with fail
                    go_end0
                    exact ⟨rfl, by rw [hd3.out, if_neg hA]; exact SD.out⟩
theorem symMerge_s (enc : α → Value) (cf : α → α → Int) (g : Nat) (cb : Array Value) (blk off cap : Nat) (d0 : Array α) (w0 : World) (eg : ∀ args w, (callFunc g args).run Tryz.prog w = .ok (.enter g args) w) (hcmp : CmpLays1 Tryz.prog g cb enc cf blk off d0.size w0) (R : Row1 enc w0 blk off d0) (hsz : d0.size < 4611686018427387904) :
    ∀ (k a m b : Nat) (d : Array α) (w : World), b - a ≤ k → a < m → m < b → b ≤ d0.size → d.size = d0.size → SW enc w0 blk off d w →
    Calls Tryz.prog 73 #[.slice (some ⟨blk, off, none⟩) d0.size cap, .int .i64 a, .int .i64 m, .int .i64 b, .func (.func g) #[] cb] w fun e w' => e = .returned (.tuple #[]) ∧ SW enc w0 blk off (Stab.symMerge (ltOf cf) a m b d) w'
  | 0, a, m, b, d, w, h, h2, h3, _, _, _ => absurd h (by omega)
  | k + 1, a, m, b, d, w, h, h2, h3, h4, hs, S => by
    by_cases h0 : m - a = 1
    · rw [← hs]; exact symMerge_t enc cf g cb blk off cap a m b d0 d w0 w eg hcmp R hs.symm S h2 h3 (by omega) (by omega) h0
    · by_cases h1 : b - m = 1
      · rw [← hs]; exact symMerge_d enc cf g cb blk off cap a m b d0 d w0 w eg hcmp R hs.symm S h2 h3 (by omega) (by omega) h0 h1
      · have ih := symMerge_s enc cf g cb blk off cap d0 w0 eg hcmp R hsz k
        rw [← hs]
        refine symMerge_g enc cf g cb blk off cap a m b d0 d w0 w hcmp eg R hs.symm S h2 h3 (by omega) (by omega) h0 h1 ?_
        intro a' m' b' d' w' q1 q2 q3 q4 q5 q6
        rw [hs]
        exact ih a' m' b' d' w' (by omega) q1 q2 (by omega) (by omega) q6
end Go.Proofs.YtadngfgbefgocaaGreatDoor

namespace Go.Proofs.YtadngfgbefgocaaGreatDoor
open Go.Shelf Go.RowKit Go.Lib Go.Sort
variable {α : Type} [Inhabited α]
def rho : Ren := ⟨fun x => if x = 20 then 72 else x, fun x => if x = 22 then 24 else if x = 24 then 3 else if x = 25 then 35 else x, fun x => x⟩
theorem insLays : SlLaysF.n20 Tryz.prog rho where
  mixed := by kernel_rfl
  f20 := ⟨"slices.insertionSortCmpFunc[int]", by kernel_rfl, by kernel_rfl⟩
  t0 := by kernel_rfl
  a0 := fun w => by kernel_rfl
  z0 := fun w => by kernel_rfl
  v0 := fun w => by kernel_rfl
  t3 := by kernel_rfl
  a3 := fun w => by kernel_rfl
  z3 := fun w => by kernel_rfl
  v3 := fun w => by kernel_rfl
  t4 := by kernel_rfl
  a4 := fun w => by kernel_rfl
  z4 := fun w => by kernel_rfl
  v4 := fun w => by kernel_rfl
  t22 := by kernel_rfl
  a22 := fun w => by kernel_rfl
  z22 := fun w => by kernel_rfl
  v22 := fun w => by kernel_rfl
  a24 := fun w => by kernel_rfl
  z24 := fun w => by kernel_rfl
  t25 := by kernel_rfl
  a25 := fun w => by kernel_rfl
  z25 := fun w => by kernel_rfl
  v25 := fun w => by kernel_rfl
theorem ins_s (enc : α → Value) (cf : α → α → Int) (g : Nat) (cb : Array Value) (blk off cap a b : Nat) (d0 d : Array α) (w0 w : World)
    (eg : ∀ args w, (callFunc g args).run Tryz.prog w = .ok (.enter g args) w) (hcmp : CmpLays1 Tryz.prog g cb enc cf blk off d0.size w0) (R : Row1 enc w0 blk off d0) (hs : d.size = d0.size) (S : SW enc w0 blk off d w) (hab : a ≤ b) (hb : b ≤ d0.size) (hsz : d0.size < 4611686018427387904) :
    Calls Tryz.prog 72 #[.slice (some ⟨blk, off, none⟩) d0.size cap, .int .i64 a, .int .i64 b, .func (.func g) #[] cb] w fun e w' => e = .returned (.tuple #[]) ∧ SW enc w0 blk off (Sort.insertionSort (ltOf cf) d a b) w' := by
  rw [← hs]
  exact Any.insertionSortCmpFunc_s insLays enc cf g cb blk off cap a b d0 d w0 w eg hcmp R hs.symm S hab (by omega) (by omega)
end Go.Proofs.YtadngfgbefgocaaGreatDoor

namespace Go.Proofs.YtadngfgbefgocaaGreatDoor
open Go.Shelf Go.RowKit Go.Lib Go.Sort
variable {α : Type} [Inhabited α]
theorem stabIns_go (lt : α → α → Bool) (n a b : Nat) (d : Array α) (h : b ≤ n) : Stab.stabIns lt n a b d = Stab.stabIns lt n b (b + 20) (Sort.insertionSort lt d a b) := by
  conv => lhs; unfold Stab.stabIns
  rw [if_pos h]
theorem stabIns_stop (lt : α → α → Bool) (n a b : Nat) (d : Array α) (h : ¬ b ≤ n) : Stab.stabIns lt n a b d = Sort.insertionSort lt d a n := by
  unfold Stab.stabIns
  rw [if_neg h]
theorem mergePass_go (lt : α → α → Bool) (bs n a b : Nat) (d : Array α) (h0 : 0 < bs) (h : b ≤ n) : Stab.mergePass lt bs n a b d = Stab.mergePass lt bs n b (b + 2 * bs) (Stab.symMerge lt a (a + bs) b d) := by
  conv => lhs; unfold Stab.mergePass
  rw [dif_pos ⟨h0, h⟩]
theorem mergePass_stop (lt : α → α → Bool) (bs n a b : Nat) (d : Array α) (h : ¬ b ≤ n) : Stab.mergePass lt bs n a b d = if a + bs < n then Stab.symMerge lt a (a + bs) n d else d := by
  unfold Stab.mergePass
  rw [dif_neg (by omega)]
theorem mergeAll_go (lt : α → α → Bool) (bs n : Nat) (d : Array α) (h0 : 0 < bs) (h : bs < n) : Stab.mergeAll lt bs n d = Stab.mergeAll lt (2 * bs) n (Stab.mergePass lt bs n 0 (2 * bs) d) := by
  conv => lhs; unfold Stab.mergeAll
  rw [dif_pos ⟨h0, h⟩]
theorem mergeAll_stop (lt : α → α → Bool) (bs n : Nat) (d : Array α) (h : ¬ bs < n) : Stab.mergeAll lt bs n d = d := by
  unfold Stab.mergeAll
  rw [dif_neg (by omega)]
set_option maxHeartbeats 4000000 in
set_option maxRecDepth 1000000 in
theorem stable_s (enc : α → Value) (cf : α → α → Int) (g : Nat) (cb : Array Value) (blk off cap : Nat) (d0 : Array α) (w0 : World) (eg : ∀ args w, (callFunc g args).run Tryz.prog w = .ok (.enter g args) w) (hcmp : CmpLays1 Tryz.prog g cb enc cf blk off d0.size w0) (R : Row1 enc w0 blk off d0) (hsz : d0.size < 1152921504606846976) (d : Array α) (w : World) (hs : d.size = d0.size) (S : SW enc w0 blk off d w) :
    Calls Tryz.prog 37 #[.slice (some ⟨blk, off, none⟩) d0.size cap, .int .i64 d0.size, .func (.func g) #[] cb] w fun e w' => e = .returned (.tuple #[]) ∧ SW enc w0 blk off (Stab.stable (ltOf cf) d) w' := by
  have mixed := mixed
  have e18 : ∀ args w, (callFunc 72 args).run Tryz.prog w = .ok (.enter 72 args) w := enters_of Tryz.func72 (by kernel_rfl) rfl
  have e19 : ∀ args w, (callFunc 73 args).run Tryz.prog w = .ok (.enter 73 args) w := enters_of Tryz.func73 (by kernel_rfl) rfl
  have S0 : Aside (SW enc w0 blk off d w) := S
  clear S
  obtain ⟨n, hn⟩ : ∃ q, Aside (q = d0.size) := ⟨_, rfl⟩
  have CI : Aside (∀ (a b : Nat) (d : Array α) (w : World), d.size = n → SW enc w0 blk off d w → a ≤ b → b ≤ n → Calls Tryz.prog 72 #[.slice (some ⟨blk, off, none⟩) n cap, .int .i64 a, .int .i64 b, .func (.func g) #[] cb] w fun e w' => e = .returned (.tuple #[]) ∧ SW enc w0 blk off (Sort.insertionSort (ltOf cf) d a b) w') := (show ∀ (a b : Nat) (d : Array α) (w : World), d.size = n → SW enc w0 blk off d w → a ≤ b → b ≤ n → Calls Tryz.prog 72 #[.slice (some ⟨blk, off, none⟩) n cap, .int .i64 a, .int .i64 b, .func (.func g) #[] cb] w fun e w' => e = .returned (.tuple #[]) ∧ SW enc w0 blk off (Sort.insertionSort (ltOf cf) d a b) w' from by
    rw [hn.out]
    intro a b d w q1 q2 q3 q4
    exact ins_s enc cf g cb blk off cap a b d0 d w0 w eg hcmp R q1 q2 q3 q4 (by omega))
  have CM : Aside (∀ (a m b : Nat) (d : Array α) (w : World), d.size = n → SW enc w0 blk off d w → a < m → m < b → b ≤ n → Calls Tryz.prog 73 #[.slice (some ⟨blk, off, none⟩) n cap, .int .i64 a, .int .i64 m, .int .i64 b, .func (.func g) #[] cb] w fun e w' => e = .returned (.tuple #[]) ∧ SW enc w0 blk off (Stab.symMerge (ltOf cf) a m b d) w') := (show ∀ (a m b : Nat) (d : Array α) (w : World), d.size = n → SW enc w0 blk off d w → a < m → m < b → b ≤ n → Calls Tryz.prog 73 #[.slice (some ⟨blk, off, none⟩) n cap, .int .i64 a, .int .i64 m, .int .i64 b, .func (.func g) #[] cb] w fun e w' => e = .returned (.tuple #[]) ∧ SW enc w0 blk off (Stab.symMerge (ltOf cf) a m b d) w' from by
    rw [hn.out]
    intro a m b d w q1 q2 q3 q4 q5
    exact symMerge_s enc cf g cb blk off cap d0 w0 eg hcmp R (by omega) (b - a) a m b d w (Nat.le_refl _) q3 q4 q5 q1 q2)
  have hz : Aside (d.size = n) := (show _ = _ from hs.trans hn.out.symm)
  rw [← hn.out] at hsz ⊢
  clear hcmp R hs
  go_enter Tryz.func37, Tryz.ntmps37
  go_wp2_with fail
  go_loopg [7, 8] (n + 20) (fun g1 va vb wr => ∃ (a b : Nat) (dk : Array α), va = .int .i64 a ∧ vb = .int .i64 b ∧ a ≤ b ∧ a ≤ n ∧ b ≤ n + 20 ∧ n + 20 - b ≤ g1 ∧ Aside (dk.size = n) ∧ Aside (SW enc w0 blk off dk wr) ∧ Hid (Stab.stabIns (ltOf cf) n a b dk = Stab.stabIns (ltOf cf) n 0 20 d))
  case atStart => exact ⟨0, 20, d, by go_num, by go_num, by omega, by omega, by omega, by omega, hz, S0, rfl⟩
  case round =>
    have hz0 := hz
    clear S0 hz
    obtain ⟨a, b, dk, rfl, rfl, hab, han, hbn, hg1, hsk, S1, HO⟩ := hrel
    by_cases hlt : b ≤ n
    · have hltz : (b : Int) ≤ (n : Int) := by omega
      have rb : IntKind.i64.wrap ((b : Int) + 20) = ((b + 20 : Nat) : Int) := by rw [IntKind.wrap_i64]; omega
      have hcall := CI.out a b dk wr hsk.out S1.out hab hlt
      clear S1 CI CM
      go_wp2_with fail
      refine hcall.mono ?_
      rintro e w1 ⟨rfl, S2⟩
      have S3 : Aside _ := S2
      clear S2 hcall
      go_wp2_with fail
      go_roundg (n + 20 - (b + 20))
      case measure => omega
      case rel => exact ⟨b, b + 20, Sort.insertionSort (ltOf cf) dk a b, rfl, by go_num, by omega, by omega, by omega, by omega, (show _ = _ from (Stab.insertionSort_size _ _ _ _).trans hsk.out), S3, (show Hid _ from by rw [← HO.out, stabIns_go _ n a b dk hlt]; exact rfl)⟩
    · have hltz : ¬ (b : Int) ≤ (n : Int) := by omega
      have hcall := CI.out a n dk wr hsk.out S1.out han (Nat.le_refl _)
      have hzi : Aside ((Sort.insertionSort (ltOf cf) dk a n).size = n) := (show _ = _ from (Stab.insertionSort_size _ _ _ _).trans hsk.out)
      have hei : Aside (Sort.insertionSort (ltOf cf) dk a n = Stab.stabIns (ltOf cf) n 0 20 d) := (show _ = _ from by rw [← HO.out, stabIns_stop _ _ _ _ _ hlt])
      clear S1 CI HO hsk
      go_wp2_with fail
      refine hcall.mono ?_
      rintro e w1 ⟨rfl, S2⟩
      rw [hei.out] at S2 hzi
      have S3 : Aside _ := S2
      clear S2 hcall hei
      obtain ⟨d1, hd1⟩ : ∃ q, Aside (q = Stab.stabIns (ltOf cf) n 0 20 d) := ⟨_, rfl⟩
      rw [← hd1.out] at S3 hzi
      go_wp2_with fail
      clear hlt hltz hab han hbn hg1
      go_loopg [6] n (fun g1 v6 wr => ∃ (bs : Nat) (dk : Array α), v6 = .int .i64 bs ∧ 0 < bs ∧ bs ≤ 2 * n + 20 ∧ n - bs ≤ g1 ∧ Aside (dk.size = n) ∧ Aside (SW enc w0 blk off dk wr) ∧ Hid (Stab.mergeAll (ltOf cf) bs n dk = Stab.mergeAll (ltOf cf) 20 n d1))
      case atStart => exact ⟨20, d1, by go_num, by omega, by omega, by omega, hzi, S3, rfl⟩
      case round =>
        clear S3 hzi
        obtain ⟨bs, dk, rfl, hb0, hbb, hg1, hsk, S1, HO⟩ := hrel
        by_cases hlt : bs < n
        · have hltz : (bs : Int) < (n : Int) := by omega
          have rb : IntKind.i64.wrap (2 * (bs : Int)) = ((2 * bs : Nat) : Int) := by rw [IntKind.wrap_i64]; omega
          go_wp2_with fail
          go_loopg [7, 8] (n + 2 * bs) (fun g2 va vb wr => ∃ (a b : Nat) (dj : Array α), va = .int .i64 a ∧ vb = .int .i64 b ∧ b = a + 2 * bs ∧ a ≤ n ∧ n + 2 * bs - b ≤ g2 ∧ Aside (dj.size = n) ∧ Aside (SW enc w0 blk off dj wr) ∧ Hid (Stab.mergePass (ltOf cf) bs n a b dj = Stab.mergePass (ltOf cf) bs n 0 (2 * bs) dk))
          case atStart => exact ⟨0, 2 * bs, dk, by go_num, by go_num, by omega, by omega, by omega, hsk, S1, rfl⟩
          case round =>
            clear S1 hsk
            obtain ⟨a, b, dj, rfl, rfl, hab, han, hg2, hsj, SJ, HI⟩ := hrel
            by_cases hlb : b ≤ n
            · have hlbz : (b : Int) ≤ (n : Int) := by omega
              have ra : IntKind.i64.wrap ((a : Int) + (bs : Int)) = ((a + bs : Nat) : Int) := by rw [IntKind.wrap_i64]; omega
              have rc : IntKind.i64.wrap ((b : Int) + 2 * (bs : Int)) = ((b + 2 * bs : Nat) : Int) := by rw [IntKind.wrap_i64]; omega
              have hcall := CM.out a (a + bs) b dj wr hsj.out SJ.out (by omega) (by omega) hlb
              have hzj : Aside ((Stab.symMerge (ltOf cf) a (a + bs) b dj).size = n) := (show _ = _ from (Stab.symMerge_size _ _ _ _ _ _ (Nat.le_refl _) (by omega) (by omega)).trans hsj.out)
              have hej : Aside (Stab.mergePass (ltOf cf) bs n b (b + 2 * bs) (Stab.symMerge (ltOf cf) a (a + bs) b dj) = Stab.mergePass (ltOf cf) bs n 0 (2 * bs) dk) := (show _ = _ from by rw [← HI.out, mergePass_go (ltOf cf) bs n a b dj hb0 hlb])
              clear SJ CM HI HO hsj hab
              go_wp2_with fail
              refine hcall.mono ?_
              rintro e w1 ⟨rfl, S2⟩
              have S3 : Aside _ := S2
              clear S2 hcall
              go_wp2_with fail
              go_roundg (n + 2 * bs - (b + 2 * bs))
              case measure => omega
              case rel => exact ⟨b, b + 2 * bs, Stab.symMerge (ltOf cf) a (a + bs) b dj, rfl, by go_num, by omega, by omega, by omega, hzj, S3, hej⟩
            · have hlbz : ¬ (b : Int) ≤ (n : Int) := by omega
              have ra : IntKind.i64.wrap ((a : Int) + (bs : Int)) = ((a + bs : Nat) : Int) := by rw [IntKind.wrap_i64]; omega
              have rc : IntKind.i64.wrap ((bs : Int) * 2) = ((2 * bs : Nat) : Int) := by rw [IntKind.wrap_i64]; omega
              by_cases hm : a + bs < n
              · have hmz : (a : Int) + (bs : Int) < (n : Int) := by omega
                have hcall := CM.out a (a + bs) n dj wr hsj.out SJ.out (by omega) hm (Nat.le_refl _)
                have hzj : Aside ((Stab.symMerge (ltOf cf) a (a + bs) n dj).size = n) := (show _ = _ from (Stab.symMerge_size _ _ _ _ _ _ (Nat.le_refl _) (by omega) (by omega)).trans hsj.out)
                have hej : Aside (Stab.mergeAll (ltOf cf) (2 * bs) n (Stab.symMerge (ltOf cf) a (a + bs) n dj) = Stab.mergeAll (ltOf cf) 20 n d1) := (show _ = _ from by rw [← HO.out, mergeAll_go (ltOf cf) bs n dk hb0 hlt, ← HI.out, mergePass_stop (ltOf cf) bs n a b dj hlb, if_pos hm])
                clear SJ CM HI HO hsj hab
                go_wp2_with fail
                refine hcall.mono ?_
                rintro e w1 ⟨rfl, S2⟩
                have S3 : Aside _ := S2
                clear S2 hcall
                go_wp2_with fail
                go_roundg (n - 2 * bs)
                case measure => omega
                case rel => exact ⟨2 * bs, Stab.symMerge (ltOf cf) a (a + bs) n dj, by go_num, by omega, by omega, by omega, hzj, S3, hej⟩
              · have hmz : ¬ (a : Int) + (bs : Int) < (n : Int) := by omega
                have hej : Aside (Stab.mergeAll (ltOf cf) (2 * bs) n dj = Stab.mergeAll (ltOf cf) 20 n d1) := (show _ = _ from by rw [← HO.out, mergeAll_go (ltOf cf) bs n dk hb0 hlt, ← HI.out, mergePass_stop (ltOf cf) bs n a b dj hlb, if_neg hm])
                clear CM HI HO hab
                go_wp2_with fail
                go_roundg (n - 2 * bs)
                case measure => omega
                case rel => exact ⟨2 * bs, dj, by go_num, by omega, by omega, by omega, hsj, SJ, hej⟩
        · have hltz : ¬ (bs : Int) < (n : Int) := by omega
          go_wp2_with fail
          go_end0
          refine ⟨rfl, ?_⟩
          unfold Stab.stable
          rw [hz0.out, ← hd1.out, ← HO.out, mergeAll_stop _ _ _ _ hlt]
          exact S1.out
end Go.Proofs.YtadngfgbefgocaaGreatDoor
