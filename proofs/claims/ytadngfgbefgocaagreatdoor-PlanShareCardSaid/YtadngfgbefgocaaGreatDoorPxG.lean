/- latchkeyref24.Share and Order, SameReals and LentReals, walked. The conditions stand in each statement. -/
import Derived.Test.YtadngfgbefgocaaGreatDoorPxF
import Derived.Deep.CutRange
import Derived.Maps.AppendAt
import Derived.OwnWalk
import Derived.ArgAppend
import Derived.Laws.OwnMore
import Derived.Deep.AppendLies
import Derived.Deep.RegionHeld3

namespace Go.Proofs.YtadngfgbefgocaaGreatDoor
open Go.Shelf Go.RowKit Go.Lib Go.Sort Go.Big Go.Flo
theorem WordsAt.below {w w' : World} {B n : Nat} {a : Option Addr} {ls : Array Nat} (h : WordsAt w a n ls) (hB : w.heap.size ≤ B) (hb : Below B w w') : WordsAt w' a n ls :=
  ⟨h.1, fun h0 => by
    obtain ⟨lb, lo, e, hl, hw⟩ := h.2 h0
    exact ⟨lb, lo, e, Nat.lt_of_lt_of_le hl hb.size, hw.size, hw.small, fun i hi => by rw [hb.cell (by show lb < B; omega)]; exact hw.cell i hi⟩⟩
theorem Told.below {B : Nat} {w1 wr w2 : World} {blk n i : Nat} {F : Nat → Nat} (h : Told B w1 wr blk n i F) (hb : Below wr.heap.size wr w2) (hB : B ≤ w1.heap.size) : Told B w1 w2 blk n i F :=
  ⟨h.bel.trans (hb.mono (Nat.le_trans hB h.bel.size)), Nat.lt_of_lt_of_le h.lt hb.size, fun j hj => by rw [hb.cell (by exact h.lt)]; exact h.cell j hj, fun j hj => by rw [hb.frozen (by exact h.lt)]; exact h.fr j hj⟩
theorem Told.all {B : Nat} {w1 wr : World} {blk n i : Nat} {F : Nat → Nat} (h : Told B w1 wr blk n i F) (hF : ∀ j, i ≤ j → j < n → F j = 0) : Told B w1 wr blk n n F :=
  ⟨h.bel, h.lt, fun j hj => by
    obtain ⟨v, hv, hl, hz⟩ := h.cell j hj
    refine ⟨v, hv, fun _ => ?_, fun q => absurd q (by omega)⟩
    by_cases q : j < i
    · exact hl q
    · rw [hz (by omega), hF j (by omega) hj], h.fr⟩
set_option maxHeartbeats 8000000 in
set_option maxRecDepth 1000000 in
theorem share_r (a0 : Option Addr) (n lc : Nat) (ls : Array Nat) (w : World) (hn : n ≤ 16777216) (hl : WordsAt w a0 n ls) :
    Calls Tryz.prog 6 #[.slice a0 n lc] w fun e w' => ∃ blk, e = .returned (.slice (some ⟨blk, 0, none⟩) n n) ∧ w.heap.size ≤ blk ∧ Told w.heap.size w w' blk n n (outN ls n) := by
  have mixed := mixed
  have t22 := Tryz.underlying22
  have t27 := Tryz.underlying32
  have e17 : ∀ args w, (callFunc 18 args).run Tryz.prog w = .ok (.enter 18 args) w := enters_of Tryz.func18 (by kernel_rfl) rfl
  have e18 : ∀ args w, (callFunc 19 args).run Tryz.prog w = .ok (.enter 19 args) w := enters_of Tryz.func19 (by kernel_rfl) rfl
  have e19 : ∀ args w, (callFunc 20 args).run Tryz.prog w = .ok (.enter 20 args) w := enters_of Tryz.func20 (by kernel_rfl) rfl
  have hm := mk22 n hn
  have HL : Aside _ := hl
  clear hl
  go_enter Tryz.func6, Tryz.ntmps6
  go_wp2_with fail
  go_loopg [3, 4] n (fun g1 vs vi wr => ∃ (i : Nat), vi = .int .i64 i ∧ vs = .float .f32 (sumN ls i) ∧ i ≤ n ∧ n - i ≤ g1 ∧ Aside (Below w.heap.size w wr))
  case atStart => exact ⟨0, by go_num, rfl, by omega, by omega, Below.refl _ _⟩
  case round =>
    obtain ⟨i, rfl, rfl, hin, hg1, BW⟩ := hrel
    by_cases hlt : i < n
    · have hltz : (i : Int) < (n : Int) := by omega
      obtain ⟨lb, lo, rfl, hlb, hw⟩ := HL.out.2 (by omega)
      obtain ⟨x, hx⟩ : ∃ x, Aside (x = ls[i]!) := ⟨_, rfl⟩
      have hc : wr.cell? ⟨lb, lo + i, none⟩ = some (.float .f32 x) := by rw [BW.out.cell (by exact hlb), hx.out]; exact hw.cell i hlt
      have hx2 : x < 4294967296 := by rw [hx.out]; exact hw.small i hlt
      have ra : IntKind.i64.wrap ((i : Int) + 1) = ((i + 1 : Nat) : Int) := by rw [IntKind.wrap_i64]; omega
      have h9 := worth_r x hx2 wr
      have h8 := fun w => plus24_r (sumN ls i) (worthN x) (sumN_le ls i) (worthN_lt x) w
      have hs : Aside (plusN (sumN ls i) (worthN x) = sumN ls (i + 1)) := by show _ = _; rw [hx.out]; rfl
      rw [hs.out] at h8
      clear hw hs
      obtain ⟨s, hs⟩ : ∃ s, Aside (s = sumN ls i) := ⟨_, rfl⟩
      obtain ⟨s', hs'⟩ : ∃ s, Aside (s = sumN ls (i + 1)) := ⟨_, rfl⟩
      rw [← hs.out] at h8 ⊢
      rw [← hs'.out] at h8
      go_wp2_with fail
      refine h9.mono ?_
      rintro e w1 ⟨rfl, q1, rfl⟩
      clear h9
      have B1 : Aside (Below w.heap.size w (wr.drewN q1)) := BW.out.trans ⟨rfl, rfl, rfl, Nat.le_refl _, fun _ _ => rfl⟩
      clear hc BW
      generalize wr.drewN q1 = w2 at B1 ⊢
      go_wp2_with fail
      refine (h8 _).mono ?_
      rintro e w3 ⟨rfl, hb⟩
      have B2 : Aside (Below w.heap.size w w3) := B1.out.trans (hb.mono B1.out.size)
      clear h8 hb B1
      go_wp2_with fail
      go_roundg (n - (i + 1))
      case measure => omega
      case rel => exact ⟨i + 1, by go_num, by rw [hs'.out], by omega, by omega, B2⟩
    · have hltz : ¬ (i : Int) < (n : Int) := by omega
      have hi : i = n := by omega
      subst hi
      obtain ⟨s, hs⟩ : ∃ s, Aside (s = sumN ls i) := ⟨_, rfl⟩
      rw [← hs.out]
      have hgr : Aside (w.heap.size ≤ wr.heap.size) := BW.out.size
      obtain ⟨bk, hbk⟩ : ∃ q, Aside (q = wr.heap.size) := ⟨_, rfl⟩
      obtain ⟨w0, hw0⟩ : ∃ q, Aside (q = wr.alloc (.cells (madeCells #[.float .f32 0] i) 32)) := ⟨_, rfl⟩
      have TS : Aside (Told w.heap.size w w0 bk i 0 (outN ls i)) := by
        rw [hw0.out, hbk.out]
        have h := Told.start wr i 32 (outN ls i)
        exact ⟨BW.out.trans (h.bel.mono hgr.out), h.lt, h.cell, h.fr⟩
      have hge : Aside (w.heap.size ≤ bk) := by rw [hbk.out]; exact hgr.out
      go_wp2_with fail
      rw [← hw0.out, ← hbk.out]
      clear hw0 hbk BW
      go_loopg [6] i (fun g1 vi wr => ∃ (j : Nat), vi = .int .i64 j ∧ j ≤ i ∧ i - j ≤ g1 ∧ Aside (Told w.heap.size w wr bk i j (outN ls i)))
      case atStart => exact ⟨0, by go_num, by omega, by omega, TS⟩
      case round =>
        clear TS hgr
        obtain ⟨j, rfl, hjn, hg1, T⟩ := hrel
        by_cases hlj : j < i
        · have hljz : (j : Int) < (i : Int) := by omega
          obtain ⟨lb, lo, rfl, hlb, hw⟩ := HL.out.2 (by omega)
          obtain ⟨x, hx⟩ : ∃ x, Aside (x = ls[j]!) := ⟨_, rfl⟩
          have hc : wr.cell? ⟨lb, lo + j, none⟩ = some (.float .f32 x) := by rw [T.out.bel.cell (by exact hlb), hx.out]; exact hw.cell j hlj
          have hx2 : x < 4294967296 := by rw [hx.out]; exact hw.small j hlj
          have ra : IntKind.i64.wrap ((j : Int) + 1) = ((j + 1 : Nat) : Int) := by rw [IntKind.wrap_i64]; omega
          have hz := f_neq s 0
          rw [zero_ne (by rw [hs.out]; exact sumN_le ls i)] at hz
          by_cases h0 : s = 0
          · have hd : decide (s ≠ 0) = false := decide_eq_false (by omega)
            have T2 : Aside (Told w.heap.size w wr bk i i (outN ls i)) := T.out.all (fun k _ _ => by unfold outN; rw [← hs.out, if_pos h0])
            rw [hd] at hz
            clear T hw h0 hd hc
            go_wp2_with fail
            go_ret
            exact ⟨bk, rfl, hge.out, T2.out⟩
          · have hd : decide (s ≠ 0) = true := decide_eq_true h0
            rw [hd] at hz
            have h9 := worth_r x hx2 wr
            have hle : worthN x ≤ s := by rw [hs.out, hx.out]; exact worth_le_sum ls i j hlj
            have h10 := fun w => do_over_r s (worthN x) (by rw [hs.out]; exact sumN_le ls i) h0 hle (worthN_lt x) w
            have ho : Aside (shareN s (worthN x) = outN ls i j) := by show _ = _; unfold outN; rw [← hs.out, if_neg h0, hx.out]
            rw [ho.out] at h10
            clear ho hle hw hd h0
            obtain ⟨o, ho⟩ : ∃ o, Aside (o = outN ls i j) := ⟨_, rfl⟩
            rw [← ho.out] at h10
            go_wp2_with fail
            refine h9.mono ?_
            rintro e w1 ⟨rfl, q1, rfl⟩
            clear h9
            have T1 : Aside (Told w.heap.size w (wr.drewN q1) bk i j (outN ls i)) := T.out.drewN q1
            clear T hc
            generalize wr.drewN q1 = w2 at T1 ⊢
            go_wp2_with fail
            refine (h10 _).mono ?_
            rintro e w3 ⟨rfl, hb3⟩
            clear h10
            have T3 : Aside (Told w.heap.size w w3 bk i j (outN ls i)) := T1.out.below hb3 (Nat.le_refl _)
            clear T1 hb3
            obtain ⟨v, hcv, _⟩ := T3.out.cell j hlj
            have hf := T3.out.fr j hlj
            have T2 : Aside _ := T3.out.put hlj hge.out
            rw [← ho.out] at T2
            clear T3
            have hst := fun a m w => run_store Tryz.prog w a (.float .f32 o) m rfl
            go_wp2_with fail
            go_roundg (i - (j + 1))
            case measure => omega
            case rel => exact ⟨j + 1, by go_num, by omega, by omega, T2⟩
        · have hljz : ¬ (j : Int) < (i : Int) := by omega
          have hj : j = i := by omega
          subst hj
          go_wp2_with fail
          go_ret
          exact ⟨bk, rfl, hge.out, T.out⟩
end Go.Proofs.YtadngfgbefgocaaGreatDoor

namespace Go.Proofs.YtadngfgbefgocaaGreatDoor
open Go.Shelf Go.RowKit Go.Lib Go.Sort Go.Big Go.Flo
/-- what plan.Order gives -/
def ordN (n : Nat) (ls : Array Nat) : Array Nat := Stab.stable (ltOf (cfOf n ls)) (Array.range n)
theorem ord_perm (n : Nat) (ls : Array Nat) : (ordN n ls).toList.Perm (List.range n) := by
  unfold ordN
  rw [lt_key]
  exact (Stab.stable_spec (keyOf n ls) n).1
theorem ord_up' (n : Nat) (ls : Array Nat) : Stab.Up (Stab.leK (keyOf n ls)) (ordN n ls).toList := by
  unfold ordN
  rw [lt_key]
  exact (Stab.stable_spec (keyOf n ls) n).2
theorem ord_size (n : Nat) (ls : Array Nat) : (ordN n ls).size = n := stable_size n ls
theorem ord_mem {n j : Nat} (ls : Array Nat) (h : j < n) : (ordN n ls)[j]! ∈ (ordN n ls).toList := by
  have hj : j < (ordN n ls).size := by rw [ord_size]; exact h
  rw [getElem!_pos _ j hj, ← Array.getElem_toList]
  exact List.getElem_mem _
theorem ord_lt {n j : Nat} (ls : Array Nat) (h : j < n) : (ordN n ls)[j]! < n := by
  have := (ord_perm n ls).mem_iff.1 (ord_mem ls h)
  simpa using this
theorem ord_up {n j : Nat} (ls : Array Nat) (h : j + 1 < n) : cmpN ls[(ordN n ls)[j]!]! ls[(ordN n ls)[j + 1]!]! ≤ 0 := by
  have hj : j + 1 < (ordN n ls).toList.length := by rw [Array.length_toList, ord_size]; exact h
  have h1 := Stab.up_get (ord_up' n ls) (i := j) (j := j + 1) (by omega) hj
  have e1 : (ordN n ls).toList[j] = (ordN n ls)[j]! := by rw [Array.getElem_toList, getElem!_pos]
  have e2 : (ordN n ls).toList[j + 1] = (ordN n ls)[j + 1]! := by rw [Array.getElem_toList, getElem!_pos]
  rw [e1, e2] at h1
  unfold Stab.leK keyOf at h1
  rw [Nat.mod_eq_of_lt (ord_lt ls (by omega)), Nat.mod_eq_of_lt (ord_lt ls h)] at h1
  unfold cmpN
  split
  · omega
  · split <;> omega
theorem ord_tie {n j : Nat} (ls : Array Nat) (h : j + 1 < n) (hc : cmpN ls[(ordN n ls)[j]!]! ls[(ordN n ls)[j + 1]!]! = 0) : (ordN n ls)[j]! < (ordN n ls)[j + 1]! := by
  have hj : j + 1 < (ordN n ls).toList.length := by rw [Array.length_toList, ord_size]; exact h
  have h1 := Stab.up_get (ord_up' n ls) (i := j) (j := j + 1) (by omega) hj
  have hn : (ordN n ls).toList.Nodup := (ord_perm n ls).nodup_iff.2 List.nodup_range
  have e1 : (ordN n ls).toList[j] = (ordN n ls)[j]! := by rw [Array.getElem_toList, getElem!_pos]
  have e2 : (ordN n ls).toList[j + 1] = (ordN n ls)[j + 1]! := by rw [Array.getElem_toList, getElem!_pos]
  have hne : (ordN n ls)[j]! ≠ (ordN n ls)[j + 1]! := by
    rw [← e1, ← e2]
    intro q
    have := (List.getElem_inj hn).1 q
    omega
  rw [e1, e2] at h1
  unfold Stab.leK keyOf at h1
  rw [Nat.mod_eq_of_lt (ord_lt ls (by omega)), Nat.mod_eq_of_lt (ord_lt ls h)] at h1
  have hk : keyN ls[(ordN n ls)[j]!]! = keyN ls[(ordN n ls)[j + 1]!]! := by
    unfold cmpN at hc
    split at hc
    · omega
    · split at hc <;> omega
  omega
end Go.Proofs.YtadngfgbefgocaaGreatDoor

namespace Go.Proofs.YtadngfgbefgocaaGreatDoor
open Go.Shelf Go.RowKit Go.Lib Go.Sort Go.Big Go.Flo
/-- a row of ints, as it lies -/
def OrdAt (w : World) (ob n : Nat) (ls : Array Nat) : Prop := ob < w.heap.size ∧ ∀ j, j < n → w.cell? ⟨ob, j, none⟩ = some (.int .i64 (ordN n ls)[j]!)
theorem OrdAt.below {w w' : World} {B n ob : Nat} {ls : Array Nat} (h : OrdAt w ob n ls) (hB : w.heap.size ≤ B) (hb : Below B w w') : OrdAt w' ob n ls :=
  ⟨Nat.lt_of_lt_of_le h.1 hb.size, fun j hj => by rw [hb.cell (by have := h.1; show ob < B; omega)]; exact h.2 j hj⟩
theorem cmpN_vals (x y : Nat) : cmpN x y = -1 ∨ cmpN x y = 0 ∨ cmpN x y = 1 := by
  unfold cmpN
  split
  · exact .inl rfl
  · split
    · exact .inr (.inr rfl)
    · exact .inr (.inl rfl)
set_option maxHeartbeats 16000000 in
set_option maxRecDepth 1000000 in
theorem order_r (a0 : Option Addr) (n lc ob oc : Nat) (ls : Array Nat) (w : World) (hn : n ≤ 16777216) (hl : WordsAt w a0 n ls) (ho : OrdAt w ob n ls) :
    Calls Tryz.prog 9 #[.slice a0 n lc, .slice (some ⟨ob, 0, none⟩) n oc] w fun e w' => e = .returned (.bool true) ∧ Below w.heap.size w w' := by
  have mixed := mixed
  have t22 := Tryz.underlying22
  have t24 := Tryz.underlying24
  have t3 := Tryz.underlying3
  have u22 := run_underlying t22
  have u24 := run_underlying t24
  have e7 : ∀ args w, (callFunc 25 args).run Tryz.prog w = .ok (.enter 25 args) w := enters_of Tryz.func25 (by kernel_rfl) rfl
  have HL : Aside _ := hl
  have HO : Aside (OrdAt w ob n ls) := ho
  clear hl ho
  go_enter Tryz.func9, Tryz.ntmps9
  go_wp2_with fail
  go_loopg [5, 6] n (fun g1 vi vc wr => ∃ (i : Nat), vi = .int .i64 i ∧ i ≤ n ∧ n - i ≤ g1 ∧ Aside (Below w.heap.size w wr))
  case atStart => exact ⟨0, by go_num, by omega, by omega, Below.refl _ _⟩
  case round =>
    obtain ⟨j, rfl, hjn, hg1, B⟩ := hrel
    by_cases hlt : j < n
    · have hltz : (j : Int) < (n : Int) := by omega
      obtain ⟨lb, lo, rfl, hlb, hw⟩ := HL.out.2 (by omega)
      obtain ⟨p, hp⟩ : ∃ s, Aside (s = (ordN n ls)[j]!) := ⟨_, rfl⟩
      have c2 : wr.cell? ⟨ob, j, none⟩ = some (.int .i64 p) := by rw [B.out.cell (by exact HO.out.1), hp.out]; exact HO.out.2 j hlt
      have hpn : p < n := by rw [hp.out]; exact ord_lt ls hlt
      have hp0 : ¬ (p : Int) < 0 := by omega
      have hp1 : (p : Int) < (n : Int) := by omega
      have hp2 : ¬ (n : Int) ≤ (p : Int) := by omega
      have ra : IntKind.i64.wrap ((j : Int) + 1) = ((j + 1 : Nat) : Int) := by rw [IntKind.wrap_i64]; omega
      have hsm : Aside (∀ i, i < n → ls[i]! < 4294967296) := hw.small
      have hwc : Aside (∀ i, i < n → w.cell? ⟨lb, lo + i, none⟩ = some (.float .f32 ls[i]!)) := hw.cell
      clear hw
      by_cases hj0 : j = 0
      · have hjz : ((j : Int) == 0) = true := by rw [hj0]; rfl
        have HJ : Aside (j = 0) := hj0
        clear hj0
        go_wp2_with fail
        go_roundg (n - (j + 1))
        case measure => omega
        case rel => exact ⟨j + 1, by go_num, by omega, by omega, B⟩
      · have hjz : ((j : Int) == 0) = false := by simp; omega
        obtain ⟨jp, hjp⟩ : ∃ q, q + 1 = j := ⟨j - 1, by omega⟩
        obtain ⟨iN, hiN⟩ : ∃ q, q = j := ⟨_, rfl⟩
        obtain ⟨jN, hjN⟩ : ∃ q, q = jp := ⟨_, rfl⟩
        have hjN2 : Aside (jN = jp ∧ iN = j ∧ jp + 1 = j) := ⟨hjN, hiN, hjp⟩
        have zjp : (j : Int) = (jp : Int) + 1 := by omega
        have ea : ((jp : Int) + 1).toNat = iN := by omega
        have pa : (0 : Int) ≤ (jp : Int) + 1 := by omega
        have ba : (jp : Int) + 1 < (n : Int) := by omega
        have ra2 : IntKind.i64.wrap ((jp : Int) + 1) = (jp : Int) + 1 := by rw [IntKind.wrap_i64]; omega
        have ec : ((jp : Int)).toNat = jN := by omega
        have pc : (0 : Int) ≤ (jp : Int) := by omega
        have bc : (jp : Int) < (n : Int) := by omega
        have rc : IntKind.i64.wrap ((jp : Int)) = (jp : Int) := by rw [IntKind.wrap_i64]; omega
        go_wp2_with fail
        obtain ⟨r, hr⟩ : ∃ s, Aside (s = (ordN n ls)[jp]!) := ⟨_, rfl⟩
        have hrn : r < n := by rw [hr.out]; exact ord_lt ls (by omega)
        have hrz : (r : Int) < (n : Int) := by omega
        obtain ⟨x, hx⟩ : ∃ s, Aside (s = ls[r]!) := ⟨_, rfl⟩
        obtain ⟨y, hy⟩ : ∃ s, Aside (s = ls[p]!) := ⟨_, rfl⟩
        have hx2 : x < 4294967296 := by rw [hx.out]; exact hsm.out r hrn
        have hy2 : y < 4294967296 := by rw [hy.out]; exact hsm.out p hpn
        have hle0 : cmpN x y ≤ 0 := by
          rw [hx.out, hy.out, hp.out, hr.out, ← hjp]
          exact ord_up ls (by omega)
        have htie : Aside (cmpN x y = 0 → r < p) := (show cmpN x y = 0 → r < p from fun h => by
          rw [hx.out, hy.out, hp.out, hr.out, ← hjp] at h
          rw [hp.out, hr.out, ← hjp]
          exact ord_tie ls (by omega) h)
        have hcv := cmpN_vals x y
        have key : ∀ (b o : Nat), b < w.heap.size → ∀ (q : Nat) (os : Array Obj), (grow (wr.drewN q) os).cell? ⟨b, o, none⟩ = w.cell? ⟨b, o, none⟩ := fun b o hb q os => (B.out.trans (Lib.below_grow w.heap.size wr B.out.size q os)).cell (by exact hb)
        have k1 : ∀ (q : Nat) (os : Array Obj), (grow (wr.drewN q) os).cell? ⟨ob, jN, none⟩ = some (.int .i64 r) := fun q os => by rw [key _ _ HO.out.1, hjN, hr.out]; exact HO.out.2 jp (by omega)
        have k2 : ∀ (q : Nat) (os : Array Obj), (grow (wr.drewN q) os).cell? ⟨ob, iN, none⟩ = some (.int .i64 p) := fun q os => by rw [key _ _ HO.out.1, hiN, hp.out]; exact HO.out.2 j hlt
        have k3 : ∀ (q : Nat) (os : Array Obj), (grow (wr.drewN q) os).cell? ⟨lb, lo + r, none⟩ = some (.float .f32 x) := fun q os => by rw [key _ _ hlb, hx.out]; exact hwc.out r hrn
        have k4 : ∀ (q : Nat) (os : Array Obj), (grow (wr.drewN q) os).cell? ⟨lb, lo + p, none⟩ = some (.float .f32 y) := fun q os => by rw [key _ _ hlb, hy.out]; exact hwc.out p hpn
        have hc : ∀ (m : Nat) (os : Array Obj), Calls Tryz.prog 25 #[.float .f32 x, .float .f32 y] (grow (wr.drewN m) os) fun e w' => e = .returned (.int .i64 (cmpN x y)) ∧ ∃ q os', w' = grow ((grow (wr.drewN m) os).drewN q) os' := fun m os => (compare_r x y hx2 hy2 _).mono fun e w' ⟨h1, h2⟩ => ⟨h1, 0, #[], by rw [h2, grow_empty]; rfl⟩
        generalize cmpN x y = c at hle0 hc htie hcv
        have hcn : ¬ (0 : Int) < c := by omega
        clear key hx hy hiN hjN c2
        go_quiet_grown (first | (go_at_call 25; refine Calls.grown_of (hc _ _)))
        have B2 : Aside (Below w.heap.size w (grow (wr.drewN nq) osq)) := B.out.trans (Lib.below_grow w.heap.size wr B.out.size nq osq)
        clear B k1 k2 k3 k4 hc
        generalize grow (wr.drewN nq) osq = w6 at B2 ⊢
        clear nq osq
        have ra3 : IntKind.i64.wrap ((jp : Int) + 1 + 1) = ((j + 1 : Nat) : Int) := by rw [IntKind.wrap_i64]; omega
        have BD : Aside (Below w.heap.size w w6.drew) := B2.out.trans ⟨rfl, rfl, rfl, Nat.le_refl _, fun _ _ => rfl⟩
        by_cases hc0 : c = 0
        · subst hc0
          have hrp := htie.out rfl
          have d1 : w6.cell? ⟨ob, jN, none⟩ = some (.int .i64 r) := by rw [B2.out.cell (by exact HO.out.1), hjN2.out.1, hr.out]; exact HO.out.2 jp (by omega)
          have d2 : w6.cell? ⟨ob, iN, none⟩ = some (.int .i64 p) := by rw [B2.out.cell (by exact HO.out.1), hjN2.out.2.1, hp.out]; exact HO.out.2 j hlt
          have hpr : ¬ (p : Int) ≤ (r : Int) := by omega
          have hprd : decide ((r : Int) ≥ (p : Int)) = false := decide_eq_false (by omega)
          clear htie hle0 hcn hcv B2
          go_wp2_with fail
          go_big_region_o
          clear d1 d2
          generalize w6.drew = w7 at BD ⊢
          go_wp2_with fail
          go_roundg (n - (j + 1))
          case measure => omega
          case rel => exact ⟨j + 1, by first | rfl | go_num | (congr 1; omega), by omega, by omega, BD⟩
        · have hc1 : c = -1 := by omega
          subst hc1
          clear htie hle0 hcn hcv B2 hc0
          go_wp2_with fail
          go_big_region_o
          generalize w6.drew = w7 at BD ⊢
          go_wp2_with fail
          go_roundg (n - (j + 1))
          case measure => omega
          case rel => exact ⟨j + 1, by first | rfl | go_num | (congr 1; omega), by omega, by omega, BD⟩
    · have hltz : ¬ (j : Int) < (n : Int) := by omega
      have hj : j = n := by omega
      subst hj
      go_wp2_with fail
      go_ret
      exact ⟨rfl, B.out⟩
end Go.Proofs.YtadngfgbefgocaaGreatDoor

namespace Go.Proofs.YtadngfgbefgocaaGreatDoor
open Go.Shelf Go.RowKit Go.Lib Go.Sort Go.Big Go.Flo
set_option maxHeartbeats 4000000 in
set_option maxRecDepth 1000000 in
theorem samereal_s (x : Nat) (w : World) : Calls Tryz.prog 24 #[.float .f32 x, .float .f32 x] w fun e w' => e = .returned (.bool true) ∧ w' = w := by
  have h16 := ext16 x
  go_enter Tryz.func24, Tryz.ntmps24
  go_wp2_with fail
  go_ret
  exact ⟨rfl, rfl⟩
/-- float32s, as they lie -/
def FltAt (w : World) (b n : Nat) (F : Nat → Nat) : Prop := b < w.heap.size ∧ ∀ j, j < n → w.cell? ⟨b, j, none⟩ = some (.float .f32 (F j))
theorem FltAt.below {w w' : World} {B n b : Nat} {F : Nat → Nat} (h : FltAt w b n F) (hB : w.heap.size ≤ B) (hb : Below B w w') : FltAt w' b n F :=
  ⟨Nat.lt_of_lt_of_le h.1 hb.size, fun j hj => by rw [hb.cell (by have := h.1; show b < B; omega)]; exact h.2 j hj⟩
theorem FltAt.of {B : Nat} {w1 w : World} {b n : Nat} {F : Nat → Nat} (h : Told B w1 w b n n F) : FltAt w b n F := ⟨h.lt, fun j hj => by
  obtain ⟨v, hv, hl, _⟩ := h.cell j hj
  rw [hv, hl hj]⟩
set_option maxHeartbeats 8000000 in
set_option maxRecDepth 1000000 in
theorem samereals_s (ab bb ac bc n : Nat) (F : Nat → Nat) (w : World) (hn : n ≤ 16777216) (ha : FltAt w ab n F) (hb : FltAt w bb n F) :
    Calls Tryz.prog 8 #[.slice (some ⟨ab, 0, none⟩) n ac, .slice (some ⟨bb, 0, none⟩) n bc] w fun e w' => e = .returned (.bool true) ∧ Below w.heap.size w w' := by
  have mixed := mixed
  have t22 := Tryz.underlying22
  have t32 := Tryz.underlying32
  have u22 := run_underlying t22
  have e23 : ∀ args w, (callFunc 24 args).run Tryz.prog w = .ok (.enter 24 args) w := enters_of Tryz.func24 (by kernel_rfl) rfl
  have HA : Aside _ := ha
  have HB : Aside _ := hb
  clear ha hb
  go_enter Tryz.func8, Tryz.ntmps8
  go_wp2_with fail
  go_loopg [5] n (fun g1 vi wr => ∃ (i : Nat), vi = .int .i64 i ∧ i ≤ n ∧ n - i ≤ g1 ∧ Aside (Below w.heap.size w wr))
  case atStart => exact ⟨0, by go_num, by omega, by omega, Below.refl _ _⟩
  case round =>
    obtain ⟨j, rfl, hjn, hg1, B⟩ := hrel
    by_cases hlt : j < n
    · have hltz : (j : Int) < (n : Int) := by omega
      have ra : IntKind.i64.wrap ((j : Int) + 1) = ((j + 1 : Nat) : Int) := by rw [IntKind.wrap_i64]; omega
      obtain ⟨x, hx⟩ : ∃ s, Aside (s = F j) := ⟨_, rfl⟩
      have key : ∀ (b o : Nat), b < w.heap.size → ∀ (q : Nat) (os : Array Obj), (grow (wr.drewN q) os).cell? ⟨b, o, none⟩ = w.cell? ⟨b, o, none⟩ := fun b o hb q os => (B.out.trans (Lib.below_grow w.heap.size wr B.out.size q os)).cell (by exact hb)
      have k1 : ∀ (q : Nat) (os : Array Obj), (grow (wr.drewN q) os).cell? ⟨ab, j, none⟩ = some (.float .f32 x) := fun q os => by rw [key _ _ HA.out.1, hx.out]; exact HA.out.2 j hlt
      have k2 : ∀ (q : Nat) (os : Array Obj), (grow (wr.drewN q) os).cell? ⟨bb, j, none⟩ = some (.float .f32 x) := fun q os => by rw [key _ _ HB.out.1, hx.out]; exact HB.out.2 j hlt
      have hc : ∀ (m : Nat) (os : Array Obj), Calls Tryz.prog 24 #[.float .f32 x, .float .f32 x] (grow (wr.drewN m) os) fun e w' => e = .returned (.bool true) ∧ ∃ q os', w' = grow ((grow (wr.drewN m) os).drewN q) os' := fun m os => (samereal_s x _).mono fun e w' ⟨h1, h2⟩ => ⟨h1, 0, #[], by rw [h2, grow_empty]; rfl⟩
      clear key hx
      go_wp2_with fail
      go_quiet_grown (first | (go_at_call 24; refine Calls.grown_of (hc _ _)))
      have B2 : Aside (Below w.heap.size w (grow (wr.drewN nq) osq)) := B.out.trans (Lib.below_grow w.heap.size wr B.out.size nq osq)
      clear B k1 k2 hc
      generalize grow (wr.drewN nq) osq = w6 at B2 ⊢
      clear nq osq
      go_wp2_with fail
      go_roundg (n - (j + 1))
      case measure => omega
      case rel => exact ⟨j + 1, by first | rfl | go_num | (congr 1; omega), by omega, by omega, B2⟩
    · have hltz : ¬ (j : Int) < (n : Int) := by omega
      have hj : j = n := by omega
      subst hj
      go_wp2_with fail
      go_ret
      exact ⟨rfl, B.out⟩
end Go.Proofs.YtadngfgbefgocaaGreatDoor

namespace Go.Proofs.YtadngfgbefgocaaGreatDoor
open Go.Shelf Go.RowKit Go.Lib Go.Sort Go.Big Go.Flo
theorem info32 : (Tryz.prog.info? 32).map (fun i => (i.zero, i.size, i.bytes)) = some (some (.float .f32 0), 1, 4) := by kernel_rfl
def markN (k i : Nat) : Nat := 1000003 * (k + 7) + i
/-- float32 of a whole number -/
def fm (m : Nat) : Nat := FloatKind.f32.nearest (m : Int)
theorem fm_le (m : Nat) : fm m ≤ 2139095040 := by
  unfold fm FloatKind.nearest FloatKind.encode
  show Ieee.single.nearest (decide ((m : Int) < 0)) (m : Int).natAbs 0 ≤ _
  rw [decide_eq_false (by omega), nearest_eq, inf_eq']
  exact Nat.min_le_right _ _
theorem c_mark (m : Nat) (w : World) : (convert 3 32 (.int .i64 m)).run Tryz.prog w = .ok (.float .f32 (fm m)) w := by
  have : (convert 3 32 (.int .i64 m)).run Tryz.prog w = (Conv.intToFloat .f32 m).run Tryz.prog w := by kernel_rfl
  rw [this]
  rfl
theorem eq_mark (m : Nat) : (Ieee.single.order (fm m) (fm m) == some .eq) = true := by
  rw [Flo.eq_self]
  have := fm_le m
  exact decide_eq_true (by omega)
theorem neq_mark (m : Nat) : (Ieee.single.order (fm m) (fm m) != some .eq) = false := by
  show (!(Ieee.single.order (fm m) (fm m) == some .eq)) = false
  rw [eq_mark]
  rfl
set_option maxHeartbeats 4000000 in
set_option maxRecDepth 1000000 in
theorem mark_s (k i : Nat) (hk : k ≤ 8) (hi : i ≤ 100000000) (w : World) : Calls Tryz.prog 14 #[.int .i64 k, .int .i64 i] w fun e w' => e = .returned (.int .i64 (markN k i)) ∧ w' = w := by
  have r1 : IntKind.i64.wrap ((k : Int) + 7) = (k : Int) + 7 := by rw [IntKind.wrap_i64]; omega
  have r2 : IntKind.i64.wrap (1000003 * ((k : Int) + 7)) = 1000003 * ((k : Int) + 7) := by rw [IntKind.wrap_i64]; omega
  have r3 : IntKind.i64.wrap (1000003 * ((k : Int) + 7) + (i : Int)) = ((markN k i : Nat) : Int) := by rw [IntKind.wrap_i64]; unfold markN; omega
  go_enter Tryz.func14, Tryz.ntmps14
  go_wp2_with fail
  go_ret
  exact ⟨rfl, rfl⟩
/-- a list that was lent: its words, and marks behind them -/
structure Lent (w : World) (g cap n : Nat) (F : Nat → Nat) : Prop where
  lt : g < w.heap.size
  room : n + 24 ≤ cap
  cell : ∀ j, j < n → w.cell? ⟨g, j, none⟩ = some (.float .f32 (F j))
  mark : ∀ j, j < 24 → w.cell? ⟨g, n + j, none⟩ = some (.float .f32 (fm (markN 1 j)))
  fr : ∀ j, j < n → w.frozen? ⟨g, j, none⟩ = false
theorem Lent.below {w w' : World} {B g cap n : Nat} {F : Nat → Nat} (h : Lent w g cap n F) (hB : g < B) (hb : Below B w w') : Lent w' g cap n F :=
  ⟨Nat.lt_of_lt_of_le h.lt hb.size, h.room, fun j hj => by rw [hb.cell (by exact hB)]; exact h.cell j hj, fun j hj => by rw [hb.cell (by exact hB)]; exact h.mark j hj, fun j hj => by rw [hb.frozen (by exact hB)]; exact h.fr j hj⟩
def lentL (ls : List Nat) (j : Nat) : List Value := ls.map fv ++ (List.range j).map fun i => fv (fm (markN 1 i))
theorem lent_of_own {w : World} {B n : Nat} {v : Value} {ls : Array Nat} (hs : ls.size = n) (h : w.ownsRow B 32 1 v (n + 24) (lentL ls.toList 24)) : ∃ g cap, v = .slice (some ⟨g, 0, none⟩) (n + 24) cap ∧ B ≤ g ∧ Lent w g cap n (fun j => ls[j]!) := by
  rcases h.2 with ⟨_, h0⟩ | ⟨g, cap, cur, rfl, hb, hg, hcap⟩
  · omega
  · have hlen : (ls.toList.map fv).length = n := by rw [List.length_map, Array.length_toList, hs]
    refine ⟨g, cap, rfl, hb, (h.lt g rfl).2, hcap.1, fun j hj => ?_, fun j hj => ?_, fun j _ => World.ownsRow.frozenAt h j⟩
    · rw [World.ownsRow.cellAt h j (by omega)]
      unfold lentL
      have hl : j < ls.toList.length := by rw [Array.length_toList]; omega
      rw [List.getElem?_append_left (by rw [hlen]; exact hj), List.getElem?_map, List.getElem?_eq_getElem hl, Option.map_some, getElem!_pos ls j (by omega)]
      rfl
    · rw [World.ownsRow.cellAt h (n + j) (by omega)]
      unfold lentL
      rw [List.getElem?_append_right (by rw [hlen]; omega), hlen, List.getElem?_map, List.getElem?_range (by omega), Option.map_some]
      rw [show n + j - n = j by omega]
      rfl
set_option maxHeartbeats 8000000 in
set_option maxRecDepth 1000000 in
theorem lent_s (a0 : Option Addr) (n lc : Nat) (ls : Array Nat) (w : World) (hn : n ≤ 16777216) (hl : WordsAt w a0 n ls) :
    Calls Tryz.prog 4 #[.slice a0 n lc] w fun e w' => ∃ g cap, e = .returned (.slice (some ⟨g, 0, none⟩) n cap) ∧ w.heap.size ≤ g ∧ Lent w' g cap n (fun j => ls[j]!) ∧ Below w.heap.size w w' := by
  have mixed := mixed
  have t22 := Tryz.underlying22
  have t3 := Tryz.underlying3
  have u22 := run_underlying t22
  have e13 : ∀ args w, (callFunc 14 args).run Tryz.prog w = .ok (.enter 14 args) w := enters_of Tryz.func14 (by kernel_rfl) rfl
  obtain ⟨i0, hi, hz0, hz1, hz2⟩ := info_parts info32
  have HI : Aside ((Tryz.prog.info? 32 = some i0) ∧ i0.zero = some (.float .f32 0) ∧ i0.size = 1 ∧ i0.bytes = 4) := ⟨hi, hz0, hz1, hz2⟩
  clear hi hz0 hz1 hz2
  have HL : Aside _ := hl
  clear hl
  go_enter Tryz.func4, Tryz.ntmps4
  go_wp2_with fail
  go_loopg [3, 4] n (fun g1 vo vi wr => ∃ (i : Nat), vi = .int .i64 i ∧ i ≤ n ∧ n - i ≤ g1 ∧ Aside (wr.ownsRow w.heap.size 32 1 vo i ((ls.toList.take i).map fv)) ∧ Aside (Below w.heap.size w wr))
  case atStart => exact ⟨0, rfl, by omega, by omega, World.ownsRow_nil _ _ _ _, Below.refl _ _⟩
  case round =>
    obtain ⟨i, rfl, hin, hg1, O, B⟩ := hrel
    by_cases hlt : i < n
    · have hltz : (i : Int) < (n : Int) := by omega
      obtain ⟨lb, lo, rfl, hlb, hw⟩ := HL.out.2 (by omega)
      obtain ⟨x, hx⟩ : ∃ x, Aside (x = ls[i]!) := ⟨_, rfl⟩
      have hc : wr.cell? ⟨lb, lo + i, none⟩ = some (.float .f32 x) := by rw [B.out.cell (by exact hlb), hw.cell i hlt, hx.out]
      have ra : IntKind.i64.wrap ((i : Int) + 1) = ((i + 1 : Nat) : Int) := by rw [IntKind.wrap_i64]; omega
      have hws : Aside (w.heap.size ≤ wr.heap.size) := B.out.size
      clear hw
      go_wp2_with (at_builtin; refine wpList_append_own _ rfl _ _ 22 rfl w.heap.size 32 i0 (.float .f32 0) 1 4 Tryz.underlying22 HI.out.1 HI.out.2.1 HI.out.2.2.1 HI.out.2.2.2 rfl (by decide) _ _ _ rfl (O.out.alloc _) ⟨wr.heap.size, 0, none⟩ 1 1 [.float .f32 x] rfl rfl (cell_one_new _ _ _) (by intro u hu; simp at hu; subst hu; rfl) (by unfold maxLen; omega) (by omega) (by have := hws.out; simp; omega) ?_; intro v' w2 hown' hgrow2 hnil2)
      have O2 : Aside (w2.ownsRow w.heap.size 32 1 v' (i + 1) ((ls.toList.take (i + 1)).map fv)) := by
        show World.ownsRow _ _ _ _ _ _ _
        have e : (ls.toList.take (i + 1)).map fv = (ls.toList.take i).map fv ++ [.float .f32 x] := by
          have hlen : i < ls.toList.length := by rw [Array.length_toList, HL.out.1]; exact hlt
          rw [List.take_add_one, List.getElem?_eq_getElem hlen, Option.toList_some, List.map_append, hx.out, getElem!_pos ls i (by simpa using hlen)]
          rfl
        rw [e]
        exact hown'
      have B2 : Aside (Below w.heap.size w w2) := ((B.out.alloc hws.out _).grown hgrow2 (by have := hws.out; simp; omega) (fun k hk => (O.out.lt k hk).1))
      clear O B hown' hgrow2 hnil2
      go_wp2_with fail
      go_roundg (n - (i + 1))
      case measure => omega
      case rel => exact ⟨i + 1, by go_num, by omega, by omega, O2, B2⟩
    · have hltz : ¬ (i : Int) < (n : Int) := by omega
      have hi : i = n := by omega
      subst hi
      have O2 : Aside (wr.ownsRow w.heap.size 32 1 u3 (i + 0) (lentL ls.toList 0)) := by
        have := O.out
        rw [List.take_of_length_le (by rw [Array.length_toList, HL.out.1]; exact Nat.le_refl _)] at this
        show World.ownsRow _ _ _ _ _ _ _
        unfold lentL
        rw [List.range_zero, List.map_nil, List.append_nil]
        exact this
      clear O
      go_wp2_with fail
      go_loopg [3, 5] 24 (fun g1 vo vj wr => ∃ (j : Nat), vj = .int .i64 j ∧ j ≤ 24 ∧ 24 - j ≤ g1 ∧ Aside (wr.ownsRow w.heap.size 32 1 vo (i + j) (lentL ls.toList j)) ∧ Aside (Below w.heap.size w wr))
      case atStart => exact ⟨0, by go_num, by omega, by omega, O2, B⟩
      case round =>
        clear O2 B
        obtain ⟨j, rfl, hjn, hg1, O, B⟩ := hrel
        by_cases hlj : j < 24
        · have hljz : (j : Int) < 24 := by omega
          have ra : IntKind.i64.wrap ((j : Int) + 1) = ((j + 1 : Nat) : Int) := by rw [IntKind.wrap_i64]; omega
          have hws : Aside (w.heap.size ≤ wr.heap.size) := B.out.size
          have c13 := mark_s 1 j (by omega) (by omega)
          obtain ⟨m, hm⟩ : ∃ q, Aside (q = markN 1 j) := ⟨_, rfl⟩
          rw [← hm.out] at c13
          have cm := c_mark m
          obtain ⟨y, hy⟩ : ∃ q, Aside (q = fm m) := ⟨_, rfl⟩
          rw [← hy.out] at cm
          go_wp2_with fail
          refine (c13 _).mono ?_
          rintro en w5 ⟨rfl, rfl⟩
          clear c13
          go_wp2_with (at_builtin; refine wpList_append_own _ rfl _ _ 22 rfl w.heap.size 32 i0 (.float .f32 0) 1 4 Tryz.underlying22 HI.out.1 HI.out.2.1 HI.out.2.2.1 HI.out.2.2.2 rfl (by decide) _ _ _ rfl (O.out.alloc _) ⟨w5.heap.size, 0, none⟩ 1 1 [.float .f32 y] rfl rfl (cell_one_new _ _ _) (by intro u hu; simp at hu; subst hu; rfl) (by unfold maxLen; omega) (by omega) (by have := hws.out; simp; omega) ?_; intro v' w2 hown' hgrow2 hnil2)
          have O2 : Aside (w2.ownsRow w.heap.size 32 1 v' (i + (j + 1)) (lentL ls.toList (j + 1))) := by
            show World.ownsRow _ _ _ _ _ _ _
            have e : lentL ls.toList (j + 1) = lentL ls.toList j ++ [.float .f32 y] := by
              unfold lentL
              rw [List.range_succ, List.map_append, List.append_assoc, hy.out, hm.out]
              rfl
            rw [e]
            exact hown'
          have B2 : Aside (Below w.heap.size w w2) := ((B.out.alloc hws.out _).grown hgrow2 (by have := hws.out; simp; omega) (fun k hk => (O.out.lt k hk).1))
          clear O B hown' hgrow2 hnil2
          go_wp2_with fail
          go_roundg (24 - (j + 1))
          case measure => omega
          case rel => exact ⟨j + 1, by go_num, by omega, by omega, O2, B2⟩
        · have hljz : ¬ (j : Int) < 24 := by omega
          have hj : j = 24 := by omega
          subst hj
          obtain ⟨g, cap, rfl, hgb, hLent⟩ := lent_of_own HL.out.1 O.out
          have LE : Aside _ := hLent
          have hroom := hLent.room
          have b1 : (i : Int) ≤ ((i + 24 : Nat) : Int) := by omega
          have b2 : (i : Int) ≤ (cap : Int) := by omega
          clear O hLent
          go_wp2_with fail
          go_ret
          exact ⟨g, cap, rfl, hgb, LE.out, B.out⟩
end Go.Proofs.YtadngfgbefgocaaGreatDoor

namespace Go.Proofs.YtadngfgbefgocaaGreatDoor
open Go.Shelf Go.RowKit Go.Lib Go.Sort Go.Big Go.Flo
/-- but for the two lists all is as it was -/
structure ApO (Bk : Nat → Nat) (w w' : World) : Prop where
  os : w'.os = w.os
  tape : w'.tape = w.tape
  output : w'.output = w.output
  size : w.heap.size ≤ w'.heap.size
  block : ∀ k, k < w.heap.size → k ≠ Bk 0 → k ≠ Bk 1 → w'.heap[k]? = w.heap[k]?
theorem ApO.refl (Bk : Nat → Nat) (w : World) : ApO Bk w w := ⟨rfl, rfl, rfl, Nat.le_refl _, fun _ _ _ _ => rfl⟩
theorem ApO.more {Bk : Nat → Nat} {w wr w2 : World} {B : Nat} (h : ApO Bk w wr) (hb : Below B wr w2) (hB : w.heap.size ≤ B) : ApO Bk w w2 :=
  ⟨hb.os.trans h.os, hb.tape.trans h.tape, hb.output.trans h.output, Nat.le_trans h.size hb.size, fun k hk h0 h1 => (hb.block k (by omega)).trans (h.block k hk h0 h1)⟩
theorem ApO.put {Bk : Nat → Nat} {w wr : World} (h : ApO Bk w wr) (b o : Nat) (u : Value) (hb : b = Bk 0 ∨ b = Bk 1 ∨ w.heap.size ≤ b) : ApO Bk w (wr.setCell ⟨b, o, none⟩ u) :=
  ⟨h.os, h.tape, h.output, by simpa [World.setCell] using h.size, fun k hk h0 h1 => (Below.heap_setCell wr ⟨b, o, none⟩ u k (by show k ≠ b; omega)).trans (h.block k hk h0 h1)⟩
theorem ApO.below {Bk : Nat → Nat} {w w' : World} {H : Nat} (h : ApO Bk w w') (h0 : H ≤ Bk 0) (h1 : H ≤ Bk 1) (hH : H ≤ w.heap.size) : Below H w w' :=
  ⟨h.os, h.tape, h.output, h.size, fun k hk => h.block k (by omega) (by omega) (by omega)⟩
/-- where the two lists lie -/
structure ApG (L n : Nat) (Bk : Nat → Nat) : Prop where
  two : Bk 0 ≠ Bk 1
  far : ∀ k, k < 2 → L ≠ Bk k
theorem ApG.inj {L n : Nat} {Bk : Nat → Nat} (h : ApG L n Bk) {k m : Nat} (hk : k < 2) (hm : m < 2) (hkm : k ≠ m) : Bk k ≠ Bk m := by
  have h2 := h.two
  by_cases q : k = 0
  · have : m = 1 := by omega
    subst q this
    exact h2
  · have h1 : k = 1 := by omega
    have : m = 0 := by omega
    subst h1 this
    exact fun e => h2 e.symm
/-- while the marks are written: behind place i of list k -/
structure ApA (cv : Nat → Value) (L n : Nat) (Bk : Nat → Nat) (w0 : World) (k i : Nat) (wr : World) : Prop where
  bel : ApO Bk w0 wr
  sz : wr.heap.size = w0.heap.size
  row : ∀ k, k < 2 → wr.cell? ⟨L, k, none⟩ = some (.slice (some ⟨Bk k, 0, none⟩) n n)
  fr : ∀ k i, k < 2 → i < n → wr.frozen? ⟨Bk k, i, none⟩ = false
  is : ∀ k i, k < 2 → i < n → ∃ v, wr.cell? ⟨Bk k, i, none⟩ = some v
  did : ∀ k' i', k' < 2 → i' < n → (k' < k ∨ k' = k ∧ i' < i) → wr.cell? ⟨Bk k', i', none⟩ = some (cv (markN k' i'))
theorem ApA.drewN {cv : Nat → Value} {L n : Nat} {Bk : Nat → Nat} {w0 wr : World} {k i : Nat} (h : ApA cv L n Bk w0 k i wr) (q : Nat) : ApA cv L n Bk w0 k i (wr.drewN q) :=
  ⟨h.bel.more (B := w0.heap.size) ⟨rfl, rfl, rfl, Nat.le_refl _, fun _ _ => rfl⟩ (Nat.le_refl _), h.sz, h.row, h.fr, h.is, h.did⟩
theorem ap_or {Bk : Nat → Nat} {k m : Nat} (hk : k < 2) : Bk k = Bk 0 ∨ Bk k = Bk 1 ∨ m ≤ Bk k := by
  by_cases q : k = 0
  · subst q
    exact .inl rfl
  · have : k = 1 := by omega
    subst this
    exact .inr (.inl rfl)
theorem ApA.put {cv : Nat → Value} {L n : Nat} {Bk : Nat → Nat} {w0 wr : World} {k i : Nat} (g : ApG L n Bk) (h : ApA cv L n Bk w0 k i wr) (hk : k < 2) (hi : i < n) :
    ApA cv L n Bk w0 k (i + 1) (wr.setCell ⟨Bk k, i, none⟩ (cv (markN k i))) := by
  have other : ∀ (b o : Nat), (b ≠ Bk k ∨ o ≠ i) → (wr.setCell ⟨Bk k, i, none⟩ (cv (markN k i))).cell? ⟨b, o, none⟩ = wr.cell? ⟨b, o, none⟩ := fun b o hne => World.cell?_setCell_other _ _ _ _ (by
    intro e
    simp only [Addr.mk.injEq] at e
    rcases hne with q | q
    · exact q (by omega)
    · exact q (by omega))
  have same : (wr.setCell ⟨Bk k, i, none⟩ (cv (markN k i))).cell? ⟨Bk k, i, none⟩ = some (cv (markN k i)) := by
    obtain ⟨v, hv⟩ := h.is k i hk hi
    exact World.cell?_setCell_same _ _ _ hv
  refine ⟨h.bel.put _ _ _ (ap_or hk), by rw [← h.sz]; simp [World.setCell], fun m hm => by rw [other _ _ (.inl (g.far k hk))]; exact h.row m hm, fun m j hm hj => by rw [World.frozen?_setCell]; exact h.fr m j hm hj, fun m j hm hj => ?_, fun m j hm hj hd => ?_⟩
  · by_cases q : m = k ∧ j = i
    · obtain ⟨rfl, rfl⟩ := q
      exact ⟨_, same⟩
    · rw [other _ _ (by
        by_cases q2 : m = k
        · right; intro e; exact q ⟨q2, e⟩
        · left; exact g.inj hm hk q2)]
      exact h.is m j hm hj
  · by_cases q : m = k ∧ j = i
    · obtain ⟨rfl, rfl⟩ := q
      exact same
    · rw [other _ _ (by
        by_cases q2 : m = k
        · right; intro e; exact q ⟨q2, e⟩
        · left; exact g.inj hm hk q2)]
      exact h.did m j hm hj (by
        by_cases q2 : m = k
        · have : j ≠ i := fun e => q ⟨q2, e⟩
          omega
        · omega)
theorem ApA.next {cv : Nat → Value} {L n : Nat} {Bk : Nat → Nat} {w0 wr : World} {k : Nat} (h : ApA cv L n Bk w0 k n wr) : ApA cv L n Bk w0 (k + 1) 0 wr :=
  ⟨h.bel, h.sz, h.row, h.fr, h.is, fun m j hm hj hd => h.did m j hm hj (by omega)⟩
/-- behind the marks -/
structure ApB (cv : Nat → Value) (L n : Nat) (Bk : Nat → Nat) (w0 wr : World) : Prop where
  bel : ApO Bk w0 wr
  hH : w0.heap.size ≤ wr.heap.size
  row : ∀ k, k < 2 → wr.cell? ⟨L, k, none⟩ = some (.slice (some ⟨Bk k, 0, none⟩) n n)
  mks : ∀ k i, k < 2 → i < n → wr.cell? ⟨Bk k, i, none⟩ = some (cv (markN k i))
theorem blk_lt {w : World} {b o : Nat} {v : Value} (h : w.cell? ⟨b, o, none⟩ = some v) : b < w.heap.size := World.block_lt_of_cell? w _ h
theorem ApB.more {cv : Nat → Value} {L n : Nat} {Bk : Nat → Nat} {w0 wr w2 : World} (h : ApB cv L n Bk w0 wr) {B : Nat} (hB : wr.heap.size ≤ B) (hb : Below B wr w2) : ApB cv L n Bk w0 w2 :=
  ⟨h.bel.more hb (Nat.le_trans h.hH hB), Nat.le_trans h.hH hb.size, fun k hk => by
    rw [hb.cell (by have := blk_lt (h.row k hk); show L < B; omega)]; exact h.row k hk, fun k i hk hi => by
    rw [hb.cell (by have := blk_lt (h.mks k i hk hi); show Bk k < B; omega)]; exact h.mks k i hk hi⟩
theorem ApA.all {cv : Nat → Value} {L n : Nat} {Bk : Nat → Nat} {w0 wr : World} (h : ApA cv L n Bk w0 2 0 wr) : ApB cv L n Bk w0 wr :=
  ⟨h.bel, by rw [h.sz]; exact Nat.le_refl _, h.row, fun k i hk hi => h.did k i hk hi (by omega)⟩
/-- a grown list in gs, at block b: N marks, and not in the row GS itself -/
def ApL (cv : Nat → Value) (n N k : Nat) (GS : Nat) (w : World) (v : Value) : Prop := ∃ b cap, v = .slice (some ⟨b, 0, none⟩) (n + 64) cap ∧ b < w.heap.size ∧ b ≠ GS ∧ ∀ i, i < N → w.cell? ⟨b, i, none⟩ = some (cv (markN k i))
theorem ApL.below {cv : Nat → Value} {n N k GS : Nat} {w w' : World} {v : Value} (h : ApL cv n N k GS w v) (hb : Below w.heap.size w w') : ApL cv n N k GS w' v := by
  obtain ⟨b, cap, e, hl, hne, hc⟩ := h
  exact ⟨b, cap, e, Nat.lt_of_lt_of_le hl hb.size, hne, fun i hi => by rw [hb.cell (by exact hl)]; exact hc i hi⟩
theorem ApL.less {cv : Nat → Value} {n N M k GS : Nat} {w : World} {v : Value} (h : ApL cv n N k GS w v) (hM : M ≤ N) : ApL cv n M k GS w v := by
  obtain ⟨b, cap, e, hl, hne, hc⟩ := h
  exact ⟨b, cap, e, hl, hne, fun i hi => hc i (by omega)⟩
/-- gs whole -/
structure ApS (cv : Nat → Value) (n N GS : Nat) (w : World) : Prop where
  lt : GS < w.heap.size
  fr : ∀ k, k < 2 → w.frozen? ⟨GS, k, none⟩ = false
  el : ∀ k, k < 2 → ∃ v, w.cell? ⟨GS, k, none⟩ = some v ∧ ApL cv n N k GS w v
theorem ApS.below {cv : Nat → Value} {n N GS : Nat} {w w' : World} (h : ApS cv n N GS w) (hb : Below w.heap.size w w') : ApS cv n N GS w' :=
  ⟨Nat.lt_of_lt_of_le h.lt hb.size, fun k hk => by rw [hb.frozen (by exact h.lt)]; exact h.fr k hk, fun k hk => by
    obtain ⟨v, hv, hl⟩ := h.el k hk
    exact ⟨v, by rw [hb.cell (by exact h.lt)]; exact hv, hl.below hb⟩⟩
theorem ApS.less {cv : Nat → Value} {n N M GS : Nat} {w : World} (h : ApS cv n N GS w) (hM : M ≤ N) : ApS cv n M GS w :=
  ⟨h.lt, h.fr, fun k hk => by
    obtain ⟨v, hv, hl⟩ := h.el k hk
    exact ⟨v, hv, hl.less hM⟩⟩
theorem ApS.put {cv : Nat → Value} {n N GS k : Nat} {w : World} {u : Value} (h : ApS cv n N GS w) (hk : k < 2) (hu : ApL cv n N k GS w u) : ApS cv n N GS (w.setCell ⟨GS, k, none⟩ u) := by
  have keep : ∀ m v, ApL cv n N m GS w v → ApL cv n N m GS (w.setCell ⟨GS, k, none⟩ u) v := fun m v ⟨b, cap, e, hl, hne, hc⟩ => ⟨b, cap, e, by simpa [World.setCell] using hl, hne, fun i hi => by
    rw [World.cell?_setCell_other _ _ _ _ (by intro q; simp only [Addr.mk.injEq] at q; exact hne (by omega))]
    exact hc i hi⟩
  refine ⟨by simpa [World.setCell] using h.lt, fun m hm => by rw [World.frozen?_setCell]; exact h.fr m hm, fun m hm => ?_⟩
  by_cases q : m = k
  · subst q
    obtain ⟨v, hv, _⟩ := h.el m hm
    exact ⟨u, World.cell?_setCell_same _ _ _ hv, keep m u hu⟩
  · obtain ⟨v, hv, hl⟩ := h.el m hm
    refine ⟨v, ?_, keep m v hl⟩
    rw [World.cell?_setCell_other _ _ _ _ (by intro e; simp only [Addr.mk.injEq] at e; exact q (by omega))]
    exact hv
def marksL (cv : Nat → Value) (k n : Nat) : List Value := (List.range n).map fun i => cv (markN k i)
theorem marksL_len (cv : Nat → Value) (k n : Nat) : (marksL cv k n).length = n := by unfold marksL; rw [List.length_map, List.length_range]
theorem marksL_get (cv : Nat → Value) (k n i : Nat) (h : i < n) : (marksL cv k n)[i]? = some (cv (markN k i)) := by
  unfold marksL
  rw [List.getElem?_map, List.getElem?_range h]
  rfl
theorem marksL_succ (cv : Nat → Value) (k n : Nat) : marksL cv k (n + 1) = marksL cv k n ++ [cv (markN k n)] := by
  unfold marksL
  rw [List.range_succ, List.map_append]
  rfl
theorem ownsRow_mono {w : World} {B B' e size n : Nat} {v : Value} {xs : List Value} (h : w.ownsRow B e size v n xs) (hB : B' ≤ B) : w.ownsRow B' e size v n xs := by
  refine ⟨h.1, ?_⟩
  rcases h.2 with h2 | ⟨g, cap, cur, hv, hb, r⟩
  · exact .inl h2
  · exact .inr ⟨g, cap, cur, hv, Nat.le_trans hB hb, r⟩
theorem Below.grownBy {w w' : World} (h : Below w.heap.size w w') : w.grownBy w' none := ⟨h.os, h.tape, h.output, h.size, fun k hk _ => h.block k hk⟩
theorem ownsRow_below {w w' : World} {B e size n : Nat} {v : Value} {xs : List Value} (h : w.ownsRow B e size v n xs) (hb : Below w.heap.size w w') : w'.ownsRow B e size v n xs :=
  World.ownsRow.kept h (Below.grownBy hb) (by cases v.ownBlock <;> simp)
/-- a grown list -/
def ApM (cv : Nat → Value) (n k : Nat) (w : World) (v : Value) : Prop := ∃ b cap, v = .slice (some ⟨b, 0, none⟩) (n + 64) cap ∧ b < w.heap.size ∧ ∀ i, i < n + 64 → w.cell? ⟨b, i, none⟩ = some (cv (markN k i))
theorem ApM.below {cv : Nat → Value} {n k : Nat} {w w' : World} {v : Value} (h : ApM cv n k w v) (hb : Below w.heap.size w w') : ApM cv n k w' v := by
  obtain ⟨b, cap, e, hl, hc⟩ := h
  exact ⟨b, cap, e, Nat.lt_of_lt_of_le hl hb.size, fun i hi => by rw [hb.cell (by exact hl)]; exact hc i hi⟩
theorem ApM.grown {cv : Nat → Value} {n k : Nat} {w w' : World} {v : Value} {r : Option Nat} (h : ApM cv n k w v) (hb : w.grownBy w' r) (hr : ∀ b cap, v = .slice (some ⟨b, 0, none⟩) (n + 64) cap → some b ≠ r) : ApM cv n k w' v := by
  obtain ⟨b, cap, e, hl, hc⟩ := h
  exact ⟨b, cap, e, Nat.lt_of_lt_of_le hl hb.size, fun i hi => by rw [World.cell?_of_block (hb.block b hl (hr b cap e))]; exact hc i hi⟩
theorem ApM.of_own {cv : Nat → Value} {n k B e : Nat} {w : World} {v : Value} (h : w.ownsRow B e 1 v (n + 64) (marksL cv k (n + 64))) : ApM cv n k w v := by
  rcases h.2 with ⟨_, h0⟩ | ⟨g, cap, cur, rfl, hb, hg, hcap⟩
  · omega
  · exact ⟨g, cap, rfl, (h.lt g rfl).2, fun i hi => by rw [World.ownsRow.cellAt h i (by omega), marksL_get _ _ _ _ hi]⟩
/-- gs, while it grows -/
def ApR (cv : Nat → Value) (B e n k : Nat) (v : Value) (w : World) : Prop := ∃ gl, w.ownsRow B e 1 v k gl ∧ (k = 0 → v = .slice none 0 0) ∧ ∀ m, m < k → ∃ u, gl[m]? = some u ∧ ApM cv n m w u
theorem ApR.nil (cv : Nat → Value) (B e n : Nat) (w : World) : ApR cv B e n 0 (.slice none 0 0) w := ⟨[], World.ownsRow_nil _ _ _ _, fun _ => rfl, fun m hm => absurd hm (by omega)⟩
theorem ApR.below {cv : Nat → Value} {B e n k : Nat} {v : Value} {w w' : World} (h : ApR cv B e n k v w) (hb : Below w.heap.size w w') : ApR cv B e n k v w' := by
  obtain ⟨gl, ho, h0, hm⟩ := h
  exact ⟨gl, ownsRow_below ho hb, h0, fun m hk => by
    obtain ⟨u, hu, hM⟩ := hm m hk
    exact ⟨u, hu, hM.below hb⟩⟩
/-- the row gs itself is none of the lists in it -/
theorem ApR.apart {cv : Nat → Value} (hcv : ∀ m a l c, cv m ≠ .slice a l c) {B e n k : Nat} {g len cap : Nat} {gl : List Value} {w : World} (ho : w.ownsRow B e 1 (.slice (some ⟨g, 0, none⟩) len cap) k gl) (hk : 0 < k) (h0 : ∃ a l c, gl[0]? = some (.slice a l c)) {m : Nat} {u : Value} (hM : ApM cv n m w u) : ∀ b c, u = .slice (some ⟨b, 0, none⟩) (n + 64) c → b ≠ g := by
  intro b c e hbg
  obtain ⟨b', c', e', _, hc⟩ := hM
  rw [e] at e'
  simp only [Value.slice.injEq, Option.some.injEq, Addr.mk.injEq, and_true, true_and] at e'
  obtain ⟨rfl, _⟩ := e'
  obtain ⟨a, l, c2, h0⟩ := h0
  have h1 := hc 0 (by omega)
  rcases ho.2 with ⟨hv, _⟩ | ⟨g', cap', cur, hv, _, hg, hle, hmx, hsz, htake⟩
  · simp at hv
  · simp only [Value.slice.injEq, Option.some.injEq, Addr.mk.injEq, and_true] at hv
    obtain ⟨rfl, rfl, rfl⟩ := hv
    have h2 := World.ownsRow.cellAt ho 0 (by omega)
    rw [h0] at h2
    rw [hbg, h2] at h1
    exact hcv _ _ _ _ (Option.some.inj h1).symm
theorem ApR.push {cv : Nat → Value} (hcv : ∀ m a l c, cv m ≠ .slice a l c) {B e n k : Nat} {v v' u : Value} {w w2 : World} {gl : List Value} (ho : w.ownsRow B e 1 v k gl) (h0 : k = 0 → v = .slice none 0 0) (hm : ∀ m, m < k → ∃ u, gl[m]? = some u ∧ ApM cv n m w u) (hu : ApM cv n k w u)
    (ho2 : w2.ownsRow B e 1 v' (k + 1) (gl ++ [u])) (hg : w.grownBy w2 v.ownBlock) : ApR cv B e n (k + 1) v' w2 := by
  have hlen : gl.length = k := by have := ho.1; omega
  have far : ∀ m x, ApM cv n m w x → ∀ b c, x = .slice (some ⟨b, 0, none⟩) (n + 64) c → some b ≠ v.ownBlock := by
    intro m x hx b c e1
    rcases ho.2 with ⟨hv, _⟩ | ⟨g, cap, cur, hv, _, hgg, _⟩
    · rw [hv]
      simp [Value.ownBlock]
    · subst hv
      by_cases hk : k = 0
      · have := h0 hk
        simp at this
      · have hq := ApR.apart hcv ho (by omega) (by
          obtain ⟨y, hy, b1, c1, e2, _⟩ := hm 0 (by omega)
          exact ⟨_, _, _, by rw [hy, e2]⟩) hx b c e1
        intro q
        simp only [Value.ownBlock, Option.some.injEq] at q
        exact hq q
  refine ⟨_, ho2, fun q => absurd q (by omega), fun m hmk => ?_⟩
  by_cases q : m < k
  · obtain ⟨x, hx, hM⟩ := hm m q
    exact ⟨x, by rw [List.getElem?_append_left (by omega)]; exact hx, hM.grown hg (far m x hM)⟩
  · have : m = k := by omega
    subst this
    exact ⟨u, by rw [List.getElem?_append_right (by omega), hlen, Nat.sub_self]; rfl, hu.grown hg (far _ u hu)⟩
theorem ApR.whole {cv : Nat → Value} (hcv : ∀ m a l c, cv m ≠ .slice a l c) {B e n : Nat} {v : Value} {w : World} (h : ApR cv B e n 2 v w) : ∃ GS cap, v = .slice (some ⟨GS, 0, none⟩) 2 cap ∧ B ≤ GS ∧ ApS cv n (n + 64) GS w := by
  obtain ⟨gl, ho, _, hm⟩ := h
  have ho' := ho
  rcases ho.2 with ⟨_, h0⟩ | ⟨g, cap, cur, rfl, hb, hg, hcap⟩
  · omega
  · refine ⟨g, cap, rfl, hb, (ho'.lt g rfl).2, fun k _ => World.ownsRow.frozenAt ho' k, fun k hk => ?_⟩
    obtain ⟨u, hu, hM⟩ := hm k hk
    have hM2 := hM
    obtain ⟨b, c, e1, hl, hc⟩ := hM
    refine ⟨u, by rw [World.ownsRow.cellAt ho' k (by omega)]; exact hu, b, c, e1, hl, ApR.apart hcv ho' (by omega) (by
      obtain ⟨y, hy, b1, c1, e2, _⟩ := hm 0 (by omega)
      exact ⟨_, _, _, by rw [hy, e2]⟩) hM2 b c e1, hc⟩
theorem ApB.put {cv : Nat → Value} {L n GS k : Nat} {Bk : Nat → Nat} {w0 wr : World} {u : Value} (h : ApB cv L n Bk w0 wr) (g : w0.heap.size ≤ GS ∧ L < GS ∧ ∀ k i, k < 2 → i < n → Bk k < GS) : ApB cv L n Bk w0 (wr.setCell ⟨GS, k, none⟩ u) := by
  refine ⟨h.bel.put _ _ _ (.inr (.inr g.1)), by simpa [World.setCell] using h.hH, fun m hm => ?_, fun m i hm hi => ?_⟩
  · rw [World.cell?_setCell_other _ _ _ _ (by intro e; simp only [Addr.mk.injEq] at e; have := g.2.1; omega)]
    exact h.row m hm
  · rw [World.cell?_setCell_other _ _ _ _ (by intro e; simp only [Addr.mk.injEq] at e; have := g.2.2 m i hm hi; omega)]
    exact h.mks m i hm hi
theorem marksL_add (cv : Nat → Value) (k n : Nat) (xs : List Value) (i : Nat) (h : i < n) : (marksL cv k n ++ xs)[i]? = some (cv (markN k i)) := by
  rw [List.getElem?_append_left (by rw [marksL_len]; exact h), marksL_get _ _ _ _ h]
theorem ApL.of_own {cv : Nat → Value} {n k B e GS : Nat} {w : World} {v : Value} {xs : List Value} (h : w.ownsRow B e 1 v (n + 64) (marksL cv k n ++ xs)) (hG : GS < B) : ∃ g cap, v = .slice (some ⟨g, 0, none⟩) (n + 64) cap ∧ ApL cv n n k GS w v := by
  rcases h.2 with ⟨_, h0⟩ | ⟨g, cap, cur, rfl, hb, hg, hcap⟩
  · omega
  · exact ⟨g, cap, rfl, g, cap, rfl, (h.lt g rfl).2, by omega, fun i hi => by rw [World.ownsRow.cellAt h i (by omega), marksL_add _ _ _ _ _ hi]⟩
theorem marks_mem {cv : Nat → Value} (h1 : ∀ m, (cv m).oneCell' = true) (k n : Nat) : ∀ u ∈ marksL cv k n, u.oneCell' = true := by
  intro u hu
  unfold marksL at hu
  rw [List.mem_map] at hu
  obtain ⟨i, _, rfl⟩ := hu
  exact h1 _
end Go.Proofs.YtadngfgbefgocaaGreatDoor
