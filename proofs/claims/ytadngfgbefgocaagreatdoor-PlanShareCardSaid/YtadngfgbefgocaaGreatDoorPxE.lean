/- latchkeyref03, walked: its sums, products and comparisons of digits, the nearest float32 of a fraction. The conditions stand in each statement. -/
import Derived.Test.YtadngfgbefgocaaGreatDoorPxD
import Derived.Test.YtadngfgbefgocaaGreatDoorPxB
import Derived.Deep.RegionHeld3

namespace Go.Proofs.YtadngfgbefgocaaGreatDoor
open Go.Shelf Go.RowKit Go.Lib Go.Sort Go.Big
def iv (d : Nat) : Value := .int .i64 (d : Int)
theorem info3 : (Tryz.prog.info? 3).map (fun i => (i.zero, i.size, i.bytes)) = some (some (.int .i64 0), 1, 8) := by kernel_rfl
/-- the digits that a slice holds -/
def Digs (w : World) (v : Value) (ds : List Nat) : Prop := ∃ a0 c, v = .slice a0 ds.length c ∧ ds.length ≤ c ∧ (ds ≠ [] → ∃ g o, a0 = some ⟨g, o, none⟩ ∧ g < w.heap.size ∧ ∀ i, i < ds.length → w.cell? ⟨g, o + i, none⟩ = some (iv (ds.getD i 0)))
theorem Digs.below {w w' : World} {B : Nat} {v : Value} {ds : List Nat} (h : Digs w v ds) (hB : w.heap.size ≤ B) (hb : Below B w w') : Digs w' v ds := by
  obtain ⟨a0, c, e, hl, hc⟩ := h
  refine ⟨a0, c, e, hl, fun h0 => ?_⟩
  obtain ⟨g, o, e2, hg, hi⟩ := hc h0
  exact ⟨g, o, e2, Nat.lt_of_lt_of_le hg hb.size, fun i q => by rw [hb.cell (by show g < B; omega)]; exact hi i q⟩
theorem digs_of_own {w : World} {B : Nat} {v : Value} {ds : List Nat} (h : w.ownsRow B 3 1 v ds.length (ds.map iv)) : Digs w v ds := by
  rcases h.2 with ⟨rfl, h0⟩ | ⟨g, cap, cur, rfl, hb, hg, hcap⟩
  · have : ds = [] := List.length_eq_zero_iff.1 h0
    subst this
    exact ⟨none, 0, rfl, Nat.le_refl _, fun h => absurd rfl h⟩
  · refine ⟨_, cap, rfl, hcap.1, fun _ => ⟨g, 0, rfl, (h.lt g rfl).2, fun i hi => ?_⟩⟩
    rw [Nat.zero_add, World.ownsRow.cellAt h i (by omega), List.getElem?_map, List.getElem?_eq_getElem hi, Option.map_some, List.getD_eq_getElem?_getD, List.getElem?_eq_getElem hi]
    rfl
theorem own_snoc {w : World} {B : Nat} {v : Value} {xs : List Nat} {d : Nat} (h : w.ownsRow B 3 1 v (xs.length + 1) (xs.map iv ++ [.int .i64 (d : Int)])) : w.ownsRow B 3 1 v (xs ++ [d]).length ((xs ++ [d]).map iv) := by
  rw [List.length_append, List.length_singleton, List.map_append]
  exact h
set_option maxHeartbeats 4000000 in
set_option maxRecDepth 1000000 in
theorem number_s (X : Nat) (hX : X < 18446744073709551616) (w : World) :
    Calls Tryz.prog 67 #[.int .u64 X] w fun e w' => ∃ v, e = .returned v ∧ Digs w' v (dig X) ∧ Below w.heap.size w w' := by
  have mixed := mixed
  have t24 := Tryz.underlying24
  have t3 := Tryz.underlying3
  obtain ⟨i0, hi, hz0, hz1, hz2⟩ := info_parts info3
  have HI : Aside ((Tryz.prog.info? 3 = some i0) ∧ i0.zero = some (.int .i64 0) ∧ i0.size = 1 ∧ i0.bytes = 8) := ⟨hi, hz0, hz1, hz2⟩
  clear hi hz0 hz1 hz2
  go_enter Tryz.func67, Tryz.ntmps67
  go_wp2_with fail
  go_loopg [0, 3] X (fun g1 vx vo wr => ∃ (x : Nat) (xs : List Nat), vx = .int .u64 x ∧ x ≤ g1 ∧ x < 18446744073709551616 ∧ xs.length ≤ 10 ∧ Aside (x < 1000000000 ^ (10 - xs.length)) ∧ Aside (wr.ownsRow w.heap.size 3 1 vo xs.length (xs.map iv)) ∧ Aside (Below w.heap.size w wr) ∧ Hid (xs ++ dig x = dig X))
  case atStart => exact ⟨X, [], rfl, by omega, hX, by simp, (show X < 1000000000 ^ 10 by omega), World.ownsRow_nil _ _ _ _, Below.refl _ _, rfl⟩
  case round =>
    obtain ⟨x, xs, rfl, hg1, hx64, hlen, HP, O, B, HO⟩ := hrel
    by_cases h0 : 0 < x
    · have hz : (0 : Int) < (x : Int) := by omega
      have hws : Aside (w.heap.size ≤ wr.heap.size) := B.out.size
      have hl9 : xs.length < 10 := by
        rcases Nat.lt_or_ge xs.length 10 with q | q
        · exact q
        · have := HP.out
          rw [show 10 - xs.length = 0 by omega] at this
          omega
      go_wp2_with (at_builtin; refine wpList_append_own _ rfl _ _ 24 rfl w.heap.size 3 i0 (.int .i64 0) 1 8 Tryz.underlying24 HI.out.1 HI.out.2.1 HI.out.2.2.1 HI.out.2.2.2 rfl (by decide) _ _ _ rfl (O.out.alloc _) ⟨wr.heap.size, 0, none⟩ 1 1 [Value.int .i64 ((x : Int) % 1000000000)] rfl rfl (cell_one_new _ _ _) (by intro u hu; simp at hu; subst hu; rfl) (by unfold maxLen; omega) (by omega) (by have := hws.out; simp; omega) ?_; intro v' w2 hown' hgrow2 hnil2)
      have O2 : Aside (w2.ownsRow w.heap.size 3 1 v' (xs ++ [x % 1000000000]).length ((xs ++ [x % 1000000000]).map iv)) := by
        rw [show Value.int .i64 ((x : Int) % 1000000000) = .int .i64 ((x % 1000000000 : Nat) : Int) from congrArg (Value.int .i64) (by omega)] at hown'
        exact own_snoc hown'
      have B2 : Aside (Below w.heap.size w w2) := ((B.out.alloc hws.out _).grown hgrow2 (by have := hws.out; simp; omega) (fun k hk => (O.out.lt k hk).1))
      clear O B hown' hgrow2 hnil2
      have hstep : Hid ((xs ++ [x % 1000000000]) ++ dig (x / 1000000000) = dig X) := number_step HO.out h0
      have rq : (x : Int) / 1000000000 = ((x / 1000000000 : Nat) : Int) := by omega
      have HP2 : Aside (x / 1000000000 < 1000000000 ^ (10 - (xs ++ [x % 1000000000]).length)) := by
        show _ < _
        rw [List.length_append, List.length_singleton]
        refine Nat.div_lt_of_lt_mul ?_
        have := HP.out
        rw [show 10 - xs.length = (10 - (xs.length + 1)) + 1 by omega, Nat.pow_succ, Nat.mul_comm] at this
        exact this
      go_wp2_with fail
      go_roundg (x / 1000000000)
      case measure => omega
      case rel => exact ⟨x / 1000000000, xs ++ [x % 1000000000], by first | rfl | go_num, by omega, by omega, by simp; omega, HP2, O2, B2, hstep⟩
    · have hx0 : x = 0 := by omega
      subst hx0
      have hd : Aside (xs = dig X) := (show xs = dig X by have := HO.out; rw [dig_zero, List.append_nil] at this; exact this)
      have O2 : Aside (Digs wr u3 (dig X)) := by rw [← hd.out]; exact digs_of_own O.out
      clear O HO
      go_wp2_with fail
      go_ret
      exact ⟨_, rfl, O2.out, B.out⟩
end Go.Proofs.YtadngfgbefgocaaGreatDoor

namespace Go.Proofs.YtadngfgbefgocaaGreatDoor
open Go.Shelf Go.RowKit Go.Lib Go.Sort Go.Big
theorem Digs.take {w : World} {a0 : Option Addr} {c : Nat} {l : List Nat} (h : Digs w (.slice a0 l.length c) l) (k : Nat) (hk : k ≤ l.length) : Digs w (.slice a0 k c) (l.take k) := by
  obtain ⟨a1, c1, e, hl, hc⟩ := h
  have e' : a1 = a0 ∧ c1 = c := by simp only [Value.slice.injEq] at e; exact ⟨e.1.symm, e.2.2.symm⟩
  obtain ⟨rfl, rfl⟩ := e'
  have hlen : (l.take k).length = k := by rw [List.length_take, Nat.min_eq_left hk]
  refine ⟨_, _, by rw [hlen], by omega, fun h0 => ?_⟩
  have hne : l ≠ [] := by intro q; subst q; simp at h0
  obtain ⟨g, o, e2, hg, hi⟩ := hc hne
  refine ⟨g, o, e2, hg, fun i q => ?_⟩
  rw [hi i (by omega)]
  congr 2
  rw [List.getD_eq_getElem?_getD, List.getD_eq_getElem?_getD, List.getElem?_take_of_lt (by omega)]
set_option maxHeartbeats 4000000 in
set_option maxRecDepth 1000000 in
theorem plain_s (v : Value) (l : List Nat) (w : World) (hD : Digs w v l) (hlen : l.length ≤ 1000000) :
    Calls Tryz.prog 118 #[v] w fun e w' => ∃ v', e = .returned v' ∧ Digs w v' (strip l) ∧ w' = w := by
  have mixed := mixed
  have t24 := Tryz.underlying24
  have t3 := Tryz.underlying3
  have u24 := run_underlying t24
  obtain ⟨a0, c, rfl, hlc, hc⟩ := hD
  have HD : Aside (Digs w (.slice a0 l.length c) l) := ⟨a0, c, rfl, hlc, hc⟩
  have HC : Aside _ := hc
  clear hc
  obtain ⟨n, hn⟩ : ∃ q, Aside (q = l.length) := ⟨_, rfl⟩
  rw [← hn.out] at hlen hlc ⊢
  go_enter Tryz.func118, Tryz.ntmps118
  go_wp2_with fail
  go_loopg [3] n (fun g1 vk wr => ∃ (k : Nat), vk = .int .i64 k ∧ k ≤ n ∧ k ≤ g1 ∧ wr = w ∧ Hid (strip (l.take k) = strip l))
  case atStart => exact ⟨n, rfl, by omega, by omega, rfl, (show _ = _ by rw [hn.out, List.take_of_length_le (Nat.le_refl _)])⟩
  case round =>
    obtain ⟨k, rfl, hkn, hg1, rfl, HO⟩ := hrel
    have fin : strip (l.take k) = l.take k → Digs wr (.slice a0 k c) (strip l) := fun e => by
      rw [← HO.out, e]
      refine Digs.take ?_ k (by rw [← hn.out]; exact hkn)
      exact HD.out
    have FIN : Aside _ := fin
    clear fin
    by_cases h0 : k = 0
    · subst h0
      go_wp2_with fail
      go_ret
      exact ⟨_, rfl, FIN.out rfl, rfl⟩
    · obtain ⟨kp, hkp⟩ : ∃ q, q + 1 = k := ⟨k - 1, by omega⟩
      have hne : l ≠ [] := by intro q; rw [q] at hn; have := hn.out; simp at this; omega
      have hkl : kp < l.length := by rw [← hn.out]; omega
      obtain ⟨g, o, rfl, hg, hi⟩ := HC.out hne
      obtain ⟨d, hd⟩ : ∃ d, Aside (d = l.getD kp 0) := ⟨_, rfl⟩
      have hck := hi kp hkl
      rw [← hd.out] at hck
      have hck' : wr.cell? ⟨g, o + kp, none⟩ = some (.int .i64 (d : Int)) := hck
      clear hck hi
      have hst := strip_take l kp hkl
      rw [hkp, ← hd.out] at hst
      have HS : Aside _ := hst
      clear hst
      have zjp : (k : Int) = (kp : Int) + 1 := by omega
      have hja : decide ((kp : Int) + 1 > 0) = true := decide_eq_true (by omega)
      have hjz : (0 : Int) < (kp : Int) + 1 := by omega
      have pc : (0 : Int) ≤ (kp : Int) := by omega
      have bc : (kp : Int) < (n : Int) := by omega
      have rc : IntKind.i64.wrap ((kp : Int)) = (kp : Int) := by rw [IntKind.wrap_i64]; omega
      have rk : Aside (k ≤ n) := hkn
      by_cases hz : d = 0
      · have hb : ((d : Int) == 0) = true := by rw [hz]; rfl
        have HR : Hid (strip (l.take kp) = strip l) := by show _ = _; rw [← HO.out, HS.out, if_pos hz]
        have HZ : Aside (d = 0) := hz
        clear hz HS HO FIN
        go_wp2_with fail
        go_roundg kp
        case measure => omega
        case rel => exact ⟨kp, by first | rfl | go_num, by omega, by omega, rfl, HR⟩
      · have hb : ((d : Int) == 0) = false := by simp; omega
        have HF : Aside (Digs wr (.slice (some ⟨g, o, none⟩) k c) (strip l)) := FIN.out (by rw [HS.out, if_neg hz])
        have b1 : (kp : Int) + 1 ≤ (n : Int) := by omega
        have b2 : (kp : Int) + 1 ≤ (c : Int) := by omega
        have b3 : ((kp : Int) + 1).toNat = k := by omega
        clear hz HS HO FIN
        go_wp2_with fail
        go_ret
        exact ⟨_, rfl, HF.out, rfl⟩
end Go.Proofs.YtadngfgbefgocaaGreatDoor

namespace Go.Proofs.YtadngfgbefgocaaGreatDoor
open Go.Shelf Go.RowKit Go.Lib Go.Sort Go.Big
set_option maxHeartbeats 4000000 in
set_option maxRecDepth 1000000 in
theorem times_s (v : Value) (n : List Nat) (k : Nat) (w : World) (hD : Digs w v n) (hf : Fine n) (hk : k ≤ 1000000000) (hlen : n.length ≤ 900000) :
    Calls Tryz.prog 119 #[v, .int .i64 k] w fun e w' => ∃ v', e = .returned v' ∧ Digs w' v' (dig (Big.val n * k)) ∧ Below w.heap.size w w' := by
  have mixed := mixed
  have t24 := Tryz.underlying24
  have t3 := Tryz.underlying3
  have u24 := run_underlying t24
  have e53 : ∀ args w, (callFunc 118 args).run Tryz.prog w = .ok (.enter 118 args) w := enters_of Tryz.func118 (by kernel_rfl) rfl
  obtain ⟨i0, hi, hz0, hz1, hz2⟩ := info_parts info3
  have HI : Aside ((Tryz.prog.info? 3 = some i0) ∧ i0.zero = some (.int .i64 0) ∧ i0.size = 1 ∧ i0.bytes = 8) := ⟨hi, hz0, hz1, hz2⟩
  clear hi hz0 hz1 hz2
  obtain ⟨a0, c0, rfl, hlc, hc⟩ := hD
  have HC : Aside _ := hc
  clear hc
  obtain ⟨m, hm⟩ : ∃ q, Aside (q = n.length) := ⟨_, rfl⟩
  rw [← hm.out] at hlen hlc ⊢
  have HF : Aside _ := hf
  clear hf
  go_enter Tryz.func119, Tryz.ntmps119
  go_wp2_with fail
  go_loopg [5, 6, 7] m (fun g1 vo vc vi wr => ∃ (i c : Nat) (xs : List Nat), vi = .int .i64 i ∧ vc = .int .i64 c ∧ i ≤ m ∧ m - i ≤ g1 ∧ c ≤ 1000000000 ∧ xs.length ≤ 900000 ∧ Aside (Tm n k i xs c) ∧ Aside (wr.ownsRow w.heap.size 3 1 vo xs.length (xs.map iv)) ∧ Aside (Below w.heap.size w wr))
  case atStart => exact ⟨0, 0, [], by go_num, by go_num, by omega, by omega, by omega, by simp, Tm.start n k, World.ownsRow_nil _ _ _ _, Below.refl _ _⟩
  case round =>
    obtain ⟨i, c, xs, rfl, rfl, him, hg1, hc9, hxl, HT, O, B⟩ := hrel
    by_cases hlt : i < m
    · have hltz : (i : Int) < (m : Int) := by omega
      have hne : n ≠ [] := by intro q; rw [q] at hm; have := hm.out; simp at this; omega
      obtain ⟨g, o, rfl, hg, hi⟩ := HC.out hne
      obtain ⟨d, hd⟩ : ∃ d, Aside (d = n.getD i 0) := ⟨_, rfl⟩
      have hck : wr.cell? ⟨g, o + i, none⟩ = some (.int .i64 (d : Int)) := by rw [B.out.cell (by exact hg), hi i (by rw [← hm.out]; exact hlt), hd.out]; rfl
      have hd9 : d < 1000000000 := by rw [hd.out]; exact getD_lt HF.out i
      have HT2 : Aside _ := HT.out.step HF.out (by rw [← hm.out]; exact hlt)
      rw [← hd.out] at HT2
      have hdk : d * k ≤ 999999999 * 1000000000 := Nat.mul_le_mul (by omega) hk
      have r1 : IntKind.i64.wrap ((d : Int) * (k : Int)) = ((d * k : Nat) : Int) := by rw [IntKind.wrap_i64, ← Int.natCast_mul]; omega
      have r2 : IntKind.i64.wrap ((d : Int) * (k : Int) + (c : Int)) = ((d * k + c : Nat) : Int) := by rw [IntKind.wrap_i64, ← Int.natCast_mul]; omega
      have ra : IntKind.i64.wrap ((i : Int) + 1) = ((i + 1 : Nat) : Int) := by rw [IntKind.wrap_i64]; omega
      have hws : Aside (w.heap.size ≤ wr.heap.size) := B.out.size
      clear hi
      have hxl2 : xs.length = i := HT.out.len
      go_wp2_with (at_builtin; refine wpList_append_own _ rfl _ _ 24 rfl w.heap.size 3 i0 (.int .i64 0) 1 8 Tryz.underlying24 HI.out.1 HI.out.2.1 HI.out.2.2.1 HI.out.2.2.2 rfl (by decide) _ _ _ rfl (O.out.alloc _) ⟨wr.heap.size, 0, none⟩ 1 1 [Value.int .i64 (((d : Int) * (k : Int) + (c : Int)) % 1000000000)] rfl rfl (cell_one_new _ _ _) (by intro u hu; simp at hu; subst hu; rfl) (by unfold maxLen; omega) (by omega) (by have := hws.out; simp; omega) ?_; intro v' w2 hown' hgrow2 hnil2)
      have O2 : Aside (w2.ownsRow w.heap.size 3 1 v' (xs ++ [(d * k + c) % 1000000000]).length ((xs ++ [(d * k + c) % 1000000000]).map iv)) := by
        rw [show Value.int .i64 (((d : Int) * (k : Int) + (c : Int)) % 1000000000) = .int .i64 (((d * k + c) % 1000000000 : Nat) : Int) from congrArg (Value.int .i64) (by rw [← Int.natCast_mul]; omega)] at hown'
        exact own_snoc hown'
      have B2 : Aside (Below w.heap.size w w2) := ((B.out.alloc hws.out _).grown hgrow2 (by have := hws.out; simp; omega) (fun k hk => (O.out.lt k hk).1))
      clear O B hown' hgrow2 hnil2
      have rq : ((d : Int) * (k : Int) + (c : Int)) / 1000000000 = (((d * k + c) / 1000000000 : Nat) : Int) := by rw [← Int.natCast_mul]; omega
      have hc2 : (d * k + c) / 1000000000 ≤ 1000000000 := by have := HT2.out.carry; omega
      go_wp2_with fail
      go_roundg (m - (i + 1))
      case measure => omega
      case rel => exact ⟨i + 1, (d * k + c) / 1000000000, xs ++ [(d * k + c) % 1000000000], by go_num, by first | rfl | go_num, by omega, by omega, hc2, by rw [List.length_append, List.length_singleton]; omega, HT2, O2, B2⟩
    · have hltz : ¬ (i : Int) < (m : Int) := by omega
      have him2 : i = m := by omega
      subst him2
      have HR : Aside (Cr (Big.val n * k) xs c) := by
        have h := HT.out
        rw [hm.out] at h
        exact h.rest
      have hxl2 : xs.length = i := HT.out.len
      clear HT
      go_wp2_with fail
      go_loopg [5, 6] c (fun g1 vo vc wr => ∃ (c : Nat) (xs : List Nat), vc = .int .i64 c ∧ c ≤ g1 ∧ (xs.length = i ∧ c ≤ 1000000000 ∨ xs.length = i + 1 ∧ c ≤ 1 ∨ xs.length = i + 2 ∧ c = 0) ∧ Aside (Cr (Big.val n * k) xs c) ∧ Aside (wr.ownsRow w.heap.size 3 1 vo xs.length (xs.map iv)) ∧ Aside (Below w.heap.size w wr))
      case atStart => exact ⟨c, xs, rfl, Nat.le_refl _, .inl ⟨hxl2, hc9⟩, HR, O, B⟩
      case round =>
        clear HR O B hxl2 hc9 hxl
        obtain ⟨c, xs, rfl, hg1, hcs, HR, O, B⟩ := hrel
        by_cases h0 : 0 < c
        · have hz : (0 : Int) < (c : Int) := by omega
          have hws : Aside (w.heap.size ≤ wr.heap.size) := B.out.size
          have HR2 : Aside _ := HR.out.step
          go_wp2_with (at_builtin; refine wpList_append_own _ rfl _ _ 24 rfl w.heap.size 3 i0 (.int .i64 0) 1 8 Tryz.underlying24 HI.out.1 HI.out.2.1 HI.out.2.2.1 HI.out.2.2.2 rfl (by decide) _ _ _ rfl (O.out.alloc _) ⟨wr.heap.size, 0, none⟩ 1 1 [Value.int .i64 ((c : Int) % 1000000000)] rfl rfl (cell_one_new _ _ _) (by intro u hu; simp at hu; subst hu; rfl) (by unfold maxLen; omega) (by omega) (by have := hws.out; simp; omega) ?_; intro v' w2 hown' hgrow2 hnil2)
          have O2 : Aside (w2.ownsRow w.heap.size 3 1 v' (xs ++ [c % 1000000000]).length ((xs ++ [c % 1000000000]).map iv)) := by
            rw [show Value.int .i64 ((c : Int) % 1000000000) = .int .i64 ((c % 1000000000 : Nat) : Int) from congrArg (Value.int .i64) (by omega)] at hown'
            exact own_snoc hown'
          have B2 : Aside (Below w.heap.size w w2) := ((B.out.alloc hws.out _).grown hgrow2 (by have := hws.out; simp; omega) (fun k hk => (O.out.lt k hk).1))
          clear O B hown' hgrow2 hnil2
          have rq : (c : Int) / 1000000000 = ((c / 1000000000 : Nat) : Int) := by omega
          have hcs2 : (xs ++ [c % 1000000000]).length = i ∧ c / 1000000000 ≤ 1000000000 ∨ (xs ++ [c % 1000000000]).length = i + 1 ∧ c / 1000000000 ≤ 1 ∨ (xs ++ [c % 1000000000]).length = i + 2 ∧ c / 1000000000 = 0 := by
            rw [List.length_append, List.length_singleton]
            omega
          have HS : Aside _ := hcs2
          clear hcs2
          go_wp2_with fail
          go_roundg (c / 1000000000)
          case measure => omega
          case rel => exact ⟨c / 1000000000, xs ++ [c % 1000000000], by first | rfl | go_num, by omega, HS.out, HR2, O2, B2⟩
        · have hc0 : c = 0 := by omega
          subst hc0
          have hcall := plain_s u5 xs wr (digs_of_own O.out) (by omega)
          have hd : Aside (strip xs = dig (Big.val n * k)) := HR.out.done
          rw [hd.out] at hcall
          clear HR O
          go_wp2_with fail
          refine hcall.mono ?_
          rintro e w2 ⟨v', rfl, hD, rfl⟩
          have HD : Aside (Digs w2 v' (dig (Big.val n * k))) := hD
          clear hD hcall
          go_wp2_with fail
          go_ret
          exact ⟨_, rfl, HD.out, B.out⟩
end Go.Proofs.YtadngfgbefgocaaGreatDoor

namespace Go.Proofs.YtadngfgbefgocaaGreatDoor
open Go.Shelf Go.RowKit Go.Lib Go.Sort Go.Big
theorem q29 (k e : Nat) (h : e = 29 * k) : 2 ^ e ≤ 1000000000 ^ k := by
  rw [h, Nat.pow_mul]
  exact Nat.pow_le_pow_left (by decide) k
theorem len_pow {X j : Nat} (hX : X < 1000000000 ^ 100) (hj : j ≤ 2000) : (dig (X * 2 ^ j)).length ≤ 900000 := by
  refine Nat.le_trans (dig_len (k := 169) ?_) (by decide)
  obtain ⟨e, he⟩ : ∃ e, e = 29 * 69 := ⟨_, rfl⟩
  have h1 : 2 ^ j ≤ 2 ^ e := Nat.pow_le_pow_right (by decide) (by omega)
  have h2 : 2 ^ e ≤ 1000000000 ^ 69 := q29 69 e he
  have h3 : X * 2 ^ j < 1000000000 ^ 100 * 1000000000 ^ 69 := Nat.lt_of_lt_of_le (Nat.mul_lt_mul_of_pos_right hX (Nat.pow_pos (by decide))) (Nat.mul_le_mul_left _ (Nat.le_trans h1 h2))
  rw [← Nat.pow_add] at h3
  exact h3
set_option maxHeartbeats 4000000 in
set_option maxRecDepth 1000000 in
theorem powers_s (v : Value) (X : Nat) (k : Int) (w : World) (hD : Digs w v (dig X)) (hX : X < 1000000000 ^ 100) (hk : k ≤ 2000) (hk0 : -2000 ≤ k) :
    Calls Tryz.prog 68 #[v, .int .i64 2, .int .i64 k] w fun e w' => ∃ v', e = .returned v' ∧ Digs w' v' (dig (X * 2 ^ k.toNat)) ∧ Below w.heap.size w w' := by
  have mixed := mixed
  have t24 := Tryz.underlying24
  have t3 := Tryz.underlying3
  have e54 : ∀ args w, (callFunc 119 args).run Tryz.prog w = .ok (.enter 119 args) w := enters_of Tryz.func119 (by kernel_rfl) rfl
  have ct : ∀ (v : Value) (Y K : Nat) (w : World), Digs w v (dig Y) → (dig Y).length ≤ 900000 → K ≤ 1000000000 → Calls Tryz.prog 119 #[v, .int .i64 K] w fun e w' => ∃ v', e = .returned v' ∧ Digs w' v' (dig (Y * K)) ∧ Below w.heap.size w w' := fun v Y K w h1 h2 h3 => by
    have := times_s v (dig Y) K w h1 (fine_dig Y) h3 h2
    rw [val_dig] at this
    exact this
  have CT : Aside _ := ct
  clear ct
  have HD : Aside (Digs w v (dig X)) := hD
  clear hD
  have HX : Aside (X < 1000000000 ^ 100) := hX
  clear hX
  go_enter Tryz.func68, Tryz.ntmps68
  go_wp2_with fail
  go_loopg [0, 2] k.toNat (fun g1 v0 vk wr => ∃ (j : Nat) (r : Int), vk = .int .i64 r ∧ r = k - j ∧ (j = 0 ∨ 0 ≤ r) ∧ r.toNat ≤ g1 ∧ Aside (Digs wr v0 (dig (X * 2 ^ j))) ∧ Aside (Below w.heap.size w wr))
  case atStart => exact ⟨0, k, rfl, by omega, .inl rfl, Nat.le_refl _, (show Digs _ _ _ by rw [Nat.pow_zero, Nat.mul_one]; exact HD.out), Below.refl _ _⟩
  case round =>
    obtain ⟨j, r, rfl, hr, hj0, hg1, D, B⟩ := hrel
    by_cases h8 : 8 ≤ r
    · have HR : Aside (r = k - j) := hr
      have hcall := CT.out u0 (X * 2 ^ j) 256 wr D.out (len_pow HX.out (by omega)) (by decide)
      have r8 : IntKind.i64.wrap (r - 8) = r - 8 := by rw [IntKind.wrap_i64]; omega
      clear hr D
      go_wp2_with fail
      refine hcall.mono ?_
      rintro e w2 ⟨v', rfl, hD2, hb2⟩
      have D2 : Aside (Digs w2 v' (dig (X * 2 ^ (j + 8)))) := by rw [Nat.pow_add, ← Nat.mul_assoc]; exact hD2
      have B2 : Aside (Below w.heap.size w w2) := B.out.trans (hb2.mono B.out.size)
      clear hD2 hb2 hcall B
      go_wp2_with fail
      go_roundg (r - 8).toNat
      case measure => omega
      case rel => exact ⟨j + 8, r - 8, rfl, by rw [HR.out]; omega, .inr (by omega), Nat.le_refl _, D2, B2⟩
    · have HR : Aside (r = k - j) := hr
      have hjr : j + r.toNat = k.toNat := by omega
      have HJ : Aside (j + r.toNat = k.toNat) := hjr
      have hjk : j ≤ 2000 := by omega
      have hr8 : r < 8 := by omega
      have hr2 : -2000 ≤ r := by omega
      clear hr hjr
      go_wp2_with fail
      go_loopg [0, 7] r.toNat (fun g2 v0 vi wr => ∃ (i : Nat), vi = .int .i64 i ∧ i ≤ r.toNat ∧ r.toNat - i ≤ g2 ∧ Aside (Digs wr v0 (dig (X * 2 ^ (j + i)))) ∧ Aside (Below w.heap.size w wr))
      case atStart => exact ⟨0, by go_num, by omega, by omega, D, B⟩
      case round =>
        clear D B
        obtain ⟨i, rfl, hir, hg2, D, B⟩ := hrel
        by_cases hlt : (i : Int) < r
        · have hcall := CT.out u0 (X * 2 ^ (j + i)) 2 wr D.out (len_pow HX.out (by have := HJ.out; omega)) (by decide)
          have ra : IntKind.i64.wrap ((i : Int) + 1) = ((i + 1 : Nat) : Int) := by rw [IntKind.wrap_i64]; omega
          clear D
          go_wp2_with fail
          refine hcall.mono ?_
          rintro e w2 ⟨v', rfl, hD2, hb2⟩
          have D2 : Aside (Digs w2 v' (dig (X * 2 ^ (j + (i + 1))))) := by rw [← Nat.add_assoc, Nat.pow_succ, ← Nat.mul_assoc]; exact hD2
          have B2 : Aside (Below w.heap.size w w2) := B.out.trans (hb2.mono B.out.size)
          clear hD2 hb2 hcall B
          go_wp2_with fail
          go_roundg (r.toNat - (i + 1))
          case measure => omega
          case rel => exact ⟨i + 1, by go_num, by omega, by omega, D2, B2⟩
        · have hi : i = r.toNat := by omega
          have D2 : Aside (Digs wr u0 (dig (X * 2 ^ k.toNat))) := by rw [← HJ.out, ← hi]; exact D.out
          clear D hi
          go_wp2_with fail
          go_ret
          exact ⟨_, rfl, D2.out, B.out⟩
end Go.Proofs.YtadngfgbefgocaaGreatDoor

namespace Go.Proofs.YtadngfgbefgocaaGreatDoor
open Go.Shelf Go.RowKit Go.Lib Go.Sort Go.Big
set_option maxHeartbeats 4000000 in
set_option maxRecDepth 1000000 in
theorem sum_s (va vb : Value) (X Y : Nat) (w : World) (hA : Digs w va (dig X)) (hB : Digs w vb (dig Y)) (hla : (dig X).length ≤ 800000) (hlb : (dig Y).length ≤ 800000) :
    Calls Tryz.prog 69 #[va, vb] w fun e w' => ∃ v', e = .returned v' ∧ Digs w' v' (dig (X + Y)) ∧ Below w.heap.size w w' := by
  have mixed := mixed
  have t24 := Tryz.underlying24
  have t3 := Tryz.underlying3
  have u24 := run_underlying t24
  obtain ⟨i0, hi, hz0, hz1, hz2⟩ := info_parts info3
  have HI : Aside ((Tryz.prog.info? 3 = some i0) ∧ i0.zero = some (.int .i64 0) ∧ i0.size = 1 ∧ i0.bytes = 8) := ⟨hi, hz0, hz1, hz2⟩
  clear hi hz0 hz1 hz2
  obtain ⟨a, ha⟩ : ∃ a, Aside (a = dig X) := ⟨_, rfl⟩
  obtain ⟨b, hb⟩ : ∃ a, Aside (a = dig Y) := ⟨_, rfl⟩
  rw [← ha.out] at hA hla
  rw [← hb.out] at hB hlb
  have FA : Aside (Fine a ∧ Plain a) := by rw [ha.out]; exact ⟨fine_dig X, plain_dig X⟩
  have FB : Aside (Fine b ∧ Plain b) := by rw [hb.out]; exact ⟨fine_dig Y, plain_dig Y⟩
  obtain ⟨aa, ca, rfl, hca, hc1⟩ := hA
  obtain ⟨ab, cb, rfl, hcb, hc2⟩ := hB
  have CA : Aside _ := hc1
  have CB : Aside _ := hc2
  clear hc1 hc2
  obtain ⟨la, hn⟩ : ∃ q, Aside (q = a.length) := ⟨_, rfl⟩
  obtain ⟨lb, hm⟩ : ∃ q, Aside (q = b.length) := ⟨_, rfl⟩
  rw [← hn.out] at hla hca ⊢
  rw [← hm.out] at hlb hcb ⊢
  go_enter Tryz.func69, Tryz.ntmps69
  go_wp2_with fail
  go_loopg [5, 6, 7] (la + lb + 1) (fun g1 vo vc vi wr => ∃ (i c : Nat) (xs : List Nat), vi = .int .i64 i ∧ vc = .int .i64 c ∧ i ≤ la + lb + 1 ∧ la + lb + 1 - i ≤ g1 ∧ c ≤ 1 ∧ xs.length = i ∧ (i = la + lb + 1 → c = 0) ∧ Aside (Sm a b i xs c) ∧ Aside (wr.ownsRow w.heap.size 3 1 vo xs.length (xs.map iv)) ∧ Aside (Below w.heap.size w wr))
  case atStart => exact ⟨0, 0, [], by go_num, by go_num, by omega, by omega, by omega, rfl, by omega, Sm.start a b, World.ownsRow_nil _ _ _ _, Below.refl _ _⟩
  case round =>
    obtain ⟨i, c, xs, rfl, rfl, him, hg1, hc1, hxl, hend, HT, O, B⟩ := hrel
    have hws : Aside (w.heap.size ≤ wr.heap.size) := B.out.size
    have HE : Aside (i = la + lb + 1 → c = 0) := hend
    clear hend
    have ra : IntKind.i64.wrap ((i : Int) + 1) = ((i + 1 : Nat) : Int) := by rw [IntKind.wrap_i64]; omega
    by_cases hia0 : i < la
    · by_cases hib0 : i < lb
      · have neA : a ≠ [] := by intro q; rw [q] at hn; have := hn.out; simp at this; omega
        obtain ⟨ga, oa, rfl, hga, hia⟩ := CA.out neA
        obtain ⟨d, hd⟩ : ∃ d, Aside (d = a.getD i 0) := ⟨_, rfl⟩
        have cka : wr.cell? ⟨ga, oa + i, none⟩ = some (.int .i64 (d : Int)) := by rw [B.out.cell (by exact hga), hia i (by rw [← hn.out]; exact hia0), hd.out]; rfl
        have hd9 : d < 1000000000 := by rw [hd.out]; exact getD_lt FA.out.1 i
        have hza : (i : Int) < (la : Int) := by omega
        clear hia
        have neB : b ≠ [] := by intro q; rw [q] at hm; have := hm.out; simp at this; omega
        obtain ⟨gb, ob, rfl, hgb, hib⟩ := CB.out neB
        obtain ⟨f, hf⟩ : ∃ d, Aside (d = b.getD i 0) := ⟨_, rfl⟩
        have ckb : wr.cell? ⟨gb, ob + i, none⟩ = some (.int .i64 (f : Int)) := by rw [B.out.cell (by exact hgb), hib i (by rw [← hm.out]; exact hib0), hf.out]; rfl
        have hf9 : f < 1000000000 := by rw [hf.out]; exact getD_lt FB.out.1 i
        have hzb : (i : Int) < (lb : Int) := by omega
        clear hib
        have r1 : IntKind.i64.wrap ((c : Int) + (d : Int)) = (c : Int) + (d : Int) := by rw [IntKind.wrap_i64]; omega
        have r2 : IntKind.i64.wrap ((c : Int) + (d : Int) + (f : Int)) = (c : Int) + (d : Int) + (f : Int) := by rw [IntKind.wrap_i64]; omega
        have HT2 : Aside _ := HT.out.step FA.out.1 FB.out.1 FA.out.2 FB.out.2 (by rw [← hn.out, ← hm.out]; omega)
        rw [← hd.out, ← hf.out] at HT2
        go_wp2_with (at_builtin; refine wpList_append_own _ rfl _ _ 24 rfl w.heap.size 3 i0 (.int .i64 0) 1 8 Tryz.underlying24 HI.out.1 HI.out.2.1 HI.out.2.2.1 HI.out.2.2.2 rfl (by decide) _ _ _ rfl (O.out.alloc _) ⟨wr.heap.size, 0, none⟩ 1 1 [Value.int .i64 (((c : Int) + (d : Int) + (f : Int)) % 1000000000)] rfl rfl (cell_one_new _ _ _) (by intro u hu; simp at hu; subst hu; rfl) (by unfold maxLen; omega) (by omega) (by have := hws.out; simp; omega) ?_; intro v' w2 hown' hgrow2 hnil2)
        have O2 : Aside (w2.ownsRow w.heap.size 3 1 v' (xs ++ [(c + d + f) % 1000000000]).length ((xs ++ [(c + d + f) % 1000000000]).map iv)) := by
          rw [show Value.int .i64 (((c : Int) + (d : Int) + (f : Int)) % 1000000000) = .int .i64 (((c + d + f) % 1000000000 : Nat) : Int) from congrArg (Value.int .i64) (by omega)] at hown'
          exact own_snoc hown'
        have B2 : Aside (Below w.heap.size w w2) := ((B.out.alloc hws.out _).grown hgrow2 (by have := hws.out; simp; omega) (fun k hk => (O.out.lt k hk).1))
        clear O B hown' hgrow2 hnil2
        have rq : ((c : Int) + (d : Int) + (f : Int)) / 1000000000 = (((c + d + f) / 1000000000 : Nat) : Int) := by omega
        have hc3 : (c + d + f) / 1000000000 ≤ 1 := HT2.out.carry
        have HE2 : Aside (i + 1 = la + lb + 1 → (c + d + f) / 1000000000 = 0) := (show i + 1 = la + lb + 1 → (c + d + f) / 1000000000 = 0 from fun q => by omega)
        have hib2 : i + 1 ≤ la + lb + 1 := by have := HE.out; omega
        go_wp2_with fail
        go_roundg (la + lb + 1 - (i + 1))
        case measure => omega
        case rel => exact ⟨i + 1, (c + d + f) / 1000000000, xs ++ [(c + d + f) % 1000000000], by go_num, by first | rfl | go_num, hib2, by omega, hc3, by rw [List.length_append, List.length_singleton]; omega, HE2.out, HT2, O2, B2⟩
      · have neA : a ≠ [] := by intro q; rw [q] at hn; have := hn.out; simp at this; omega
        obtain ⟨ga, oa, rfl, hga, hia⟩ := CA.out neA
        obtain ⟨d, hd⟩ : ∃ d, Aside (d = a.getD i 0) := ⟨_, rfl⟩
        have cka : wr.cell? ⟨ga, oa + i, none⟩ = some (.int .i64 (d : Int)) := by rw [B.out.cell (by exact hga), hia i (by rw [← hn.out]; exact hia0), hd.out]; rfl
        have hd9 : d < 1000000000 := by rw [hd.out]; exact getD_lt FA.out.1 i
        have hza : (i : Int) < (la : Int) := by omega
        clear hia
        have hf : Aside (0 = b.getD i 0) := (show 0 = b.getD i 0 from (getD_beyond (by rw [← hm.out]; omega)).symm)
        have hzb : ¬ (i : Int) < (lb : Int) := by omega
        have r1 : IntKind.i64.wrap ((c : Int) + (d : Int)) = (c : Int) + (d : Int) := by rw [IntKind.wrap_i64]; omega
        have HT2 : Aside _ := HT.out.step FA.out.1 FB.out.1 FA.out.2 FB.out.2 (by rw [← hn.out, ← hm.out]; omega)
        rw [← hd.out, ← hf.out] at HT2
        go_wp2_with (at_builtin; refine wpList_append_own _ rfl _ _ 24 rfl w.heap.size 3 i0 (.int .i64 0) 1 8 Tryz.underlying24 HI.out.1 HI.out.2.1 HI.out.2.2.1 HI.out.2.2.2 rfl (by decide) _ _ _ rfl (O.out.alloc _) ⟨wr.heap.size, 0, none⟩ 1 1 [Value.int .i64 (((c : Int) + (d : Int)) % 1000000000)] rfl rfl (cell_one_new _ _ _) (by intro u hu; simp at hu; subst hu; rfl) (by unfold maxLen; omega) (by omega) (by have := hws.out; simp; omega) ?_; intro v' w2 hown' hgrow2 hnil2)
        have O2 : Aside (w2.ownsRow w.heap.size 3 1 v' (xs ++ [(c + d + 0) % 1000000000]).length ((xs ++ [(c + d + 0) % 1000000000]).map iv)) := by
          rw [show Value.int .i64 (((c : Int) + (d : Int)) % 1000000000) = .int .i64 (((c + d + 0) % 1000000000 : Nat) : Int) from congrArg (Value.int .i64) (by omega)] at hown'
          exact own_snoc hown'
        have B2 : Aside (Below w.heap.size w w2) := ((B.out.alloc hws.out _).grown hgrow2 (by have := hws.out; simp; omega) (fun k hk => (O.out.lt k hk).1))
        clear O B hown' hgrow2 hnil2
        have rq : ((c : Int) + (d : Int)) / 1000000000 = (((c + d + 0) / 1000000000 : Nat) : Int) := by omega
        have hc3 : (c + d + 0) / 1000000000 ≤ 1 := HT2.out.carry
        have HE2 : Aside (i + 1 = la + lb + 1 → (c + d + 0) / 1000000000 = 0) := (show i + 1 = la + lb + 1 → (c + d + 0) / 1000000000 = 0 from fun q => by omega)
        have hib2 : i + 1 ≤ la + lb + 1 := by have := HE.out; omega
        go_wp2_with fail
        go_roundg (la + lb + 1 - (i + 1))
        case measure => omega
        case rel => exact ⟨i + 1, (c + d + 0) / 1000000000, xs ++ [(c + d + 0) % 1000000000], by go_num, by first | rfl | go_num, hib2, by omega, hc3, by rw [List.length_append, List.length_singleton]; omega, HE2.out, HT2, O2, B2⟩
    · by_cases hib0 : i < lb
      · have hd : Aside (0 = a.getD i 0) := (show 0 = a.getD i 0 from (getD_beyond (by rw [← hn.out]; omega)).symm)
        have hza : ¬ (i : Int) < (la : Int) := by omega
        have neB : b ≠ [] := by intro q; rw [q] at hm; have := hm.out; simp at this; omega
        obtain ⟨gb, ob, rfl, hgb, hib⟩ := CB.out neB
        obtain ⟨f, hf⟩ : ∃ d, Aside (d = b.getD i 0) := ⟨_, rfl⟩
        have ckb : wr.cell? ⟨gb, ob + i, none⟩ = some (.int .i64 (f : Int)) := by rw [B.out.cell (by exact hgb), hib i (by rw [← hm.out]; exact hib0), hf.out]; rfl
        have hf9 : f < 1000000000 := by rw [hf.out]; exact getD_lt FB.out.1 i
        have hzb : (i : Int) < (lb : Int) := by omega
        clear hib
        have r2 : IntKind.i64.wrap ((c : Int) + (f : Int)) = (c : Int) + (f : Int) := by rw [IntKind.wrap_i64]; omega
        have HT2 : Aside _ := HT.out.step FA.out.1 FB.out.1 FA.out.2 FB.out.2 (by rw [← hn.out, ← hm.out]; omega)
        rw [← hd.out, ← hf.out] at HT2
        go_wp2_with (at_builtin; refine wpList_append_own _ rfl _ _ 24 rfl w.heap.size 3 i0 (.int .i64 0) 1 8 Tryz.underlying24 HI.out.1 HI.out.2.1 HI.out.2.2.1 HI.out.2.2.2 rfl (by decide) _ _ _ rfl (O.out.alloc _) ⟨wr.heap.size, 0, none⟩ 1 1 [Value.int .i64 (((c : Int) + (f : Int)) % 1000000000)] rfl rfl (cell_one_new _ _ _) (by intro u hu; simp at hu; subst hu; rfl) (by unfold maxLen; omega) (by omega) (by have := hws.out; simp; omega) ?_; intro v' w2 hown' hgrow2 hnil2)
        have O2 : Aside (w2.ownsRow w.heap.size 3 1 v' (xs ++ [(c + 0 + f) % 1000000000]).length ((xs ++ [(c + 0 + f) % 1000000000]).map iv)) := by
          rw [show Value.int .i64 (((c : Int) + (f : Int)) % 1000000000) = .int .i64 (((c + 0 + f) % 1000000000 : Nat) : Int) from congrArg (Value.int .i64) (by omega)] at hown'
          exact own_snoc hown'
        have B2 : Aside (Below w.heap.size w w2) := ((B.out.alloc hws.out _).grown hgrow2 (by have := hws.out; simp; omega) (fun k hk => (O.out.lt k hk).1))
        clear O B hown' hgrow2 hnil2
        have rq : ((c : Int) + (f : Int)) / 1000000000 = (((c + 0 + f) / 1000000000 : Nat) : Int) := by omega
        have hc3 : (c + 0 + f) / 1000000000 ≤ 1 := HT2.out.carry
        have HE2 : Aside (i + 1 = la + lb + 1 → (c + 0 + f) / 1000000000 = 0) := (show i + 1 = la + lb + 1 → (c + 0 + f) / 1000000000 = 0 from fun q => by omega)
        have hib2 : i + 1 ≤ la + lb + 1 := by have := HE.out; omega
        go_wp2_with fail
        go_roundg (la + lb + 1 - (i + 1))
        case measure => omega
        case rel => exact ⟨i + 1, (c + 0 + f) / 1000000000, xs ++ [(c + 0 + f) % 1000000000], by go_num, by first | rfl | go_num, hib2, by omega, hc3, by rw [List.length_append, List.length_singleton]; omega, HE2.out, HT2, O2, B2⟩
      · by_cases hcp : 0 < c
        · have hd : Aside (0 = a.getD i 0) := (show 0 = a.getD i 0 from (getD_beyond (by rw [← hn.out]; omega)).symm)
          have hza : ¬ (i : Int) < (la : Int) := by omega
          have hf : Aside (0 = b.getD i 0) := (show 0 = b.getD i 0 from (getD_beyond (by rw [← hm.out]; omega)).symm)
          have hzb : ¬ (i : Int) < (lb : Int) := by omega
          have hcz : (0 : Int) < (c : Int) := by omega
          have HT2 : Aside _ := HT.out.step FA.out.1 FB.out.1 FA.out.2 FB.out.2 (by rw [← hn.out, ← hm.out]; omega)
          rw [← hd.out, ← hf.out] at HT2
          go_wp2_with (at_builtin; refine wpList_append_own _ rfl _ _ 24 rfl w.heap.size 3 i0 (.int .i64 0) 1 8 Tryz.underlying24 HI.out.1 HI.out.2.1 HI.out.2.2.1 HI.out.2.2.2 rfl (by decide) _ _ _ rfl (O.out.alloc _) ⟨wr.heap.size, 0, none⟩ 1 1 [Value.int .i64 (((c : Int)) % 1000000000)] rfl rfl (cell_one_new _ _ _) (by intro u hu; simp at hu; subst hu; rfl) (by unfold maxLen; omega) (by omega) (by have := hws.out; simp; omega) ?_; intro v' w2 hown' hgrow2 hnil2)
          have O2 : Aside (w2.ownsRow w.heap.size 3 1 v' (xs ++ [(c + 0 + 0) % 1000000000]).length ((xs ++ [(c + 0 + 0) % 1000000000]).map iv)) := by
            rw [show Value.int .i64 (((c : Int)) % 1000000000) = .int .i64 (((c + 0 + 0) % 1000000000 : Nat) : Int) from congrArg (Value.int .i64) (by omega)] at hown'
            exact own_snoc hown'
          have B2 : Aside (Below w.heap.size w w2) := ((B.out.alloc hws.out _).grown hgrow2 (by have := hws.out; simp; omega) (fun k hk => (O.out.lt k hk).1))
          clear O B hown' hgrow2 hnil2
          have rq : ((c : Int)) / 1000000000 = (((c + 0 + 0) / 1000000000 : Nat) : Int) := by omega
          have hc3 : (c + 0 + 0) / 1000000000 ≤ 1 := HT2.out.carry
          have HE2 : Aside (i + 1 = la + lb + 1 → (c + 0 + 0) / 1000000000 = 0) := (show i + 1 = la + lb + 1 → (c + 0 + 0) / 1000000000 = 0 from fun q => by omega)
          have hib2 : i + 1 ≤ la + lb + 1 := by have := HE.out; omega
          go_wp2_with fail
          go_roundg (la + lb + 1 - (i + 1))
          case measure => omega
          case rel => exact ⟨i + 1, (c + 0 + 0) / 1000000000, xs ++ [(c + 0 + 0) % 1000000000], by go_num, by first | rfl | go_num, hib2, by omega, hc3, by rw [List.length_append, List.length_singleton]; omega, HE2.out, HT2, O2, B2⟩
        · have hc0 : c = 0 := by omega
          subst hc0
          have hza : ¬ (i : Int) < (la : Int) := by omega
          have hzb : ¬ (i : Int) < (lb : Int) := by omega
          have hd : Aside (xs = dig (X + Y)) := by
            have h := HT.out.done (by rw [← hn.out]; omega) (by rw [← hm.out]; omega)
            rw [ha.out, hb.out, val_dig, val_dig] at h
            exact h
          have O2 : Aside (Digs wr u5 (dig (X + Y))) := by rw [← hd.out]; exact digs_of_own O.out
          clear O HT hd
          go_wp2_with fail
          go_ret
          exact ⟨_, rfl, O2.out, B.out⟩
end Go.Proofs.YtadngfgbefgocaaGreatDoor

namespace Go.Proofs.YtadngfgbefgocaaGreatDoor
open Go.Shelf Go.RowKit Go.Lib Go.Sort Go.Big
theorem cmpI_lt {a b : Nat} (h : a < b) : cmpI a b = -1 := by unfold cmpI; rw [if_pos h]
theorem cmpI_gt {a b : Nat} (h : b < a) : cmpI a b = 1 := by unfold cmpI; rw [if_neg (by omega), if_pos h]
theorem cmpI_eq (a : Nat) : cmpI a a = 0 := by unfold cmpI; rw [if_neg (by omega), if_neg (by omega)]
theorem drop_step {a b : List Nat} {j : Nat} (h : a.drop (j + 1) = b.drop (j + 1)) (ha : j < a.length) (hb : j < b.length) (e : a.getD j 0 = b.getD j 0) : a.drop j = b.drop j := by
  rw [List.drop_eq_getElem_cons ha, List.drop_eq_getElem_cons hb, h]
  rw [List.getD_eq_getElem?_getD, List.getD_eq_getElem?_getD, List.getElem?_eq_getElem ha, List.getElem?_eq_getElem hb] at e
  congr 1
set_option maxHeartbeats 4000000 in
set_option maxRecDepth 1000000 in
theorem compareB_s (va vb : Value) (X Y : Nat) (w : World) (hA : Digs w va (dig X)) (hB : Digs w vb (dig Y)) (hla : (dig X).length ≤ 900000) (hlb : (dig Y).length ≤ 900000) :
    Calls Tryz.prog 70 #[va, vb] w fun e w' => e = .returned (.int .i64 (cmpI X Y)) ∧ ∃ q, w' = w.drewN q := by
  have mixed := mixed
  have t24 := Tryz.underlying24
  have t3 := Tryz.underlying3
  have u24 := run_underlying t24
  obtain ⟨a, ha⟩ : ∃ a, Aside (a = dig X) := ⟨_, rfl⟩
  obtain ⟨b, hb⟩ : ∃ a, Aside (a = dig Y) := ⟨_, rfl⟩
  have hlt1 : Aside (a.length < b.length → cmpI X Y = -1) := (show _ → _ from fun h => cmp_len_lt (by rw [← ha.out, ← hb.out]; exact h))
  have hgt1 : Aside (b.length < a.length → cmpI X Y = 1) := (show _ → _ from fun h => cmp_len_gt (by rw [← ha.out, ← hb.out]; exact h))
  rw [← ha.out] at hA hla
  rw [← hb.out] at hB hlb
  have FA : Aside (Fine a ∧ Big.val a = X) := by rw [ha.out]; exact ⟨fine_dig X, val_dig X⟩
  have FB : Aside (Fine b ∧ Big.val b = Y) := by rw [hb.out]; exact ⟨fine_dig Y, val_dig Y⟩
  obtain ⟨aa, ca, rfl, hca, hc1⟩ := hA
  obtain ⟨ab, cb, rfl, hcb, hc2⟩ := hB
  have CA : Aside _ := hc1
  have CB : Aside _ := hc2
  clear hc1 hc2 ha hb
  obtain ⟨la, hn⟩ : ∃ q, Aside (q = a.length) := ⟨_, rfl⟩
  obtain ⟨lb, hm⟩ : ∃ q, Aside (q = b.length) := ⟨_, rfl⟩
  rw [← hn.out] at hla hca hlt1 hgt1 ⊢
  rw [← hm.out] at hlb hcb hlt1 hgt1 ⊢
  obtain ⟨R, hR⟩ : ∃ R, Aside (R = cmpI X Y) := ⟨_, rfl⟩
  rw [← hR.out] at hlt1 hgt1 ⊢
  by_cases hll : la = lb
  · subst hll
    have hq : ((la : Int) != (la : Int)) = false := by simp
    have r1 : IntKind.i64.wrap ((la : Int) - 1) = (la : Int) - 1 := by rw [IntKind.wrap_i64]; omega
    clear hlt1 hgt1
    go_enter Tryz.func70, Tryz.ntmps70
    go_wp2_with fail
    go_loopg [5] la (fun g1 vt wr => ∃ (j q : Nat) (t : Int), vt = .int .i64 t ∧ t = j - 1 ∧ j ≤ la ∧ j ≤ g1 ∧ wr = w.drewN q ∧ Hid (a.drop j = b.drop j))
    case atStart => exact ⟨la, 0, (la : Int) - 1, rfl, rfl, by omega, by omega, rfl, (show _ = _ by rw [List.drop_of_length_le (by rw [← hn.out]; exact Nat.le_refl _), List.drop_of_length_le (by rw [← hm.out]; exact Nat.le_refl _)])⟩
    case round =>
      obtain ⟨j, q, t, rfl, ht, hjl, hg1, hw, HO⟩ := hrel
      have HW : Aside (wr = w.drewN q) := hw
      clear hw
      by_cases h0 : t < 0
      · have hj : j = 0 := by omega
        have hr : Aside (R = 0) := by
          have e : a = b := by have := HO.out; rw [hj] at this; exact this
          show _ = _
          rw [hR.out, ← FA.out.2, ← FB.out.2, e, cmpI_eq]
        clear HO ht hj
        go_wp2_with fail
        go_ret
        exact ⟨by rw [hr.out]; rfl, q, HW.out⟩
      · obtain ⟨jp, hjp⟩ : ∃ jp : Nat, j = jp + 1 := ⟨j - 1, by omega⟩
        have htj : t = (jp : Int) := by omega
        subst htj
        subst hjp
        clear ht
        have neA : a ≠ [] := by intro q; rw [q] at hn; have := hn.out; simp at this; omega
        have neB : b ≠ [] := by intro q; rw [q] at hm; have := hm.out; simp at this; omega
        obtain ⟨ga, oa, rfl, hga, hia⟩ := CA.out neA
        obtain ⟨gb, ob, rfl, hgb, hib⟩ := CB.out neB
        have ja : jp < a.length := by rw [← hn.out]; omega
        have jb : jp < b.length := by rw [← hm.out]; omega
        obtain ⟨d, hd⟩ : ∃ d, Aside (d = a.getD jp 0) := ⟨_, rfl⟩
        obtain ⟨f, hf⟩ : ∃ d, Aside (d = b.getD jp 0) := ⟨_, rfl⟩
        have cka : wr.cell? ⟨ga, oa + jp, none⟩ = some (.int .i64 (d : Int)) := by rw [HW.out, hd.out]; exact hia jp ja
        have ckb : wr.cell? ⟨gb, ob + jp, none⟩ = some (.int .i64 (f : Int)) := by rw [HW.out, hf.out]; exact hib jp jb
        have ckA : Aside _ := hia jp ja
        have ckB : Aside _ := hib jp jb
        have r2 : IntKind.i64.wrap ((jp : Int) - 1) = (jp : Int) - 1 := by rw [IntKind.wrap_i64]; omega
        clear hia hib
        by_cases h1 : d < f
        · have hz : (d : Int) < (f : Int) := by omega
          have hr : Aside (R = -1) := by
            show _ = _
            rw [hR.out, ← FA.out.2, ← FB.out.2]
            exact cmpI_lt (below_of_digit FA.out.1 HO.out ja (by rw [← hd.out, ← hf.out]; exact h1))
          clear HO
          go_wp2_with fail
          go_big_region_o
          go_wp2_with fail
          go_ret
          exact ⟨by rw [hr.out]; rfl, q + 1, by rw [HW.out]; rfl⟩
        · have hz : ¬ (d : Int) < (f : Int) := by omega
          go_wp2_with fail
          go_big_region_o
          clear cka ckb
          obtain ⟨w5, hw5⟩ : ∃ x, Aside (x = wr.drew) := ⟨_, rfl⟩
          rw [← hw5.out]
          have cka : w5.cell? ⟨ga, oa + jp, none⟩ = some (.int .i64 (d : Int)) := by rw [hw5.out, HW.out, hd.out]; exact ckA.out
          have ckb : w5.cell? ⟨gb, ob + jp, none⟩ = some (.int .i64 (f : Int)) := by rw [hw5.out, HW.out, hf.out]; exact ckB.out
          by_cases h2 : f < d
          · have hz2 : (f : Int) < (d : Int) := by omega
            have hr : Aside (R = 1) := by
              show _ = _
              rw [hR.out, ← FA.out.2, ← FB.out.2]
              exact cmpI_gt (below_of_digit FB.out.1 HO.out.symm jb (by rw [← hd.out, ← hf.out]; exact h2))
            clear HO
            go_wp2_with fail
            go_big_region_o
            go_wp2_with fail
            go_ret
            exact ⟨by rw [hr.out]; rfl, q + 2, by rw [hw5.out, HW.out]; rfl⟩
          · have hz2 : ¬ (f : Int) < (d : Int) := by omega
            have HO2 : Hid (a.drop jp = b.drop jp) := drop_step HO.out ja jb (by rw [← hd.out, ← hf.out]; omega)
            clear HO
            go_wp2_with fail
            go_big_region_o
            clear cka ckb
            go_wp2_with fail
            go_roundg jp
            case measure => omega
            case rel => exact ⟨jp, q + 2, (jp : Int) - 1, by first | rfl | go_num, rfl, by omega, Nat.le_refl _, by rw [hw5.out, HW.out]; rfl, HO2⟩
  · have hq : ((la : Int) != (lb : Int)) = true := by simp; omega
    by_cases h1 : la < lb
    · have hz : (la : Int) < (lb : Int) := by omega
      have hr : Aside (R = -1) := hlt1.out h1
      clear hlt1 hgt1
      go_enter Tryz.func70, Tryz.ntmps70
      go_wp2_with fail
      go_ret
      exact ⟨by rw [hr.out]; rfl, 0, rfl⟩
    · have hz : ¬ (la : Int) < (lb : Int) := by omega
      have hr : Aside (R = 1) := hgt1.out (by omega)
      clear hlt1 hgt1
      go_enter Tryz.func70, Tryz.ntmps70
      go_wp2_with fail
      go_ret
      exact ⟨by rw [hr.out]; rfl, 0, rfl⟩
end Go.Proofs.YtadngfgbefgocaaGreatDoor

namespace Go.Proofs.YtadngfgbefgocaaGreatDoor
open Go.Shelf Go.RowKit Go.Lib Go.Sort Go.Big
structure OutD (B : Nat) (w1 wr : World) (blk : Nat) (o : List Nat) : Prop where
  bel : Below B w1 wr
  lt : blk < wr.heap.size
  cell : ∀ j, j < o.length → wr.cell? ⟨blk, j, none⟩ = some (iv (o.getD j 0))
  fr : ∀ j, j < o.length → wr.frozen? ⟨blk, j, none⟩ = false
theorem OutD.start (w1 : World) (n T : Nat) : OutD w1.heap.size w1 (w1.alloc (.cells (madeCells #[.int .i64 0] n) T)) w1.heap.size (List.replicate n 0) where
  bel := (Below.refl _ _).alloc (Nat.le_refl _) _
  lt := by simp
  cell := fun j hj => by
    rw [List.length_replicate] at hj
    rw [List.getD_eq_getElem?_getD, List.getElem?_replicate, if_pos hj]
    simp [madeCells, hj, Nat.mod_one, iv]
  fr := fun j hj => by simp
theorem OutD.drew {B : Nat} {w1 wr : World} {blk : Nat} {o : List Nat} (h : OutD B w1 wr blk o) : OutD B w1 wr.drew blk o :=
  ⟨h.bel.trans ⟨rfl, rfl, rfl, Nat.le_refl _, fun _ _ => rfl⟩, h.lt, h.cell, h.fr⟩
theorem OutD.put {B : Nat} {w1 wr : World} {blk : Nat} {o : List Nat} (h : OutD B w1 wr blk o) {i x : Nat} (_hi : i < o.length) (hB : B ≤ blk) : OutD B w1 (wr.setCell ⟨blk, i, none⟩ (.int .i64 (x : Int))) blk (o.set i x) where
  bel := h.bel.setCell (by exact hB) _
  lt := by simpa [World.setCell] using h.lt
  cell := fun j hj => by
    rw [List.length_set] at hj
    by_cases e : i = j
    · subst e
      rw [World.cell?_setCell_same _ _ _ (h.cell i hj), List.getD_eq_getElem?_getD, List.getElem?_set_self hj]
      rfl
    · rw [World.cell?_setCell_other _ _ _ _ (by intro e'; simp only [Addr.mk.injEq] at e'; omega), Big.getD_set_ne e]
      exact h.cell j hj
  fr := fun j hj => by rw [World.frozen?_setCell]; exact h.fr j (by rw [List.length_set] at hj; exact hj)
theorem digs_of_out {B : Nat} {w1 wr : World} {blk : Nat} {o : List Nat} {n : Nat} (h : OutD B w1 wr blk o) (hn : n = o.length) : Digs wr (.slice (some ⟨blk, 0, none⟩) n n) o := by
  subst hn
  exact ⟨_, _, rfl, Nat.le_refl _, fun _ => ⟨blk, 0, rfl, h.lt, fun i hi => by rw [Nat.zero_add]; exact h.cell i hi⟩⟩
set_option maxHeartbeats 4000000 in
set_option maxRecDepth 1000000 in
theorem product_s (va vb : Value) (X Y : Nat) (w : World) (hA : Digs w va (dig X)) (hB : Digs w vb (dig Y)) (hla : (dig X).length ≤ 400000) (hlb : (dig Y).length ≤ 400000) :
    Calls Tryz.prog 66 #[va, vb] w fun e w' => ∃ v', e = .returned v' ∧ Digs w' v' (dig (X * Y)) ∧ Below w.heap.size w w' := by
  have mixed := mixed
  have t24 := Tryz.underlying24
  have t3 := Tryz.underlying3
  have u24 := run_underlying t24
  have e53 : ∀ args w, (callFunc 118 args).run Tryz.prog w = .ok (.enter 118 args) w := enters_of Tryz.func118 (by kernel_rfl) rfl
  obtain ⟨a, ha⟩ : ∃ a, Aside (a = dig X) := ⟨_, rfl⟩
  obtain ⟨b, hb⟩ : ∃ a, Aside (a = dig Y) := ⟨_, rfl⟩
  have hXY : Aside (dig (Big.val a * Big.val b) = dig (X * Y)) := by show _ = _; rw [ha.out, hb.out, val_dig, val_dig]
  rw [← hXY.out]
  rw [← ha.out] at hA hla
  rw [← hb.out] at hB hlb
  have FA : Aside (Fine a) := by rw [ha.out]; exact fine_dig X
  have FB : Aside (Fine b) := by rw [hb.out]; exact fine_dig Y
  obtain ⟨aa, ca, rfl, hca, hc1⟩ := hA
  obtain ⟨ab, cb, rfl, hcb, hc2⟩ := hB
  have CA : Aside _ := hc1
  have CB : Aside _ := hc2
  clear hc1 hc2 ha hb hXY
  obtain ⟨la, hn⟩ : ∃ q, Aside (q = a.length) := ⟨_, rfl⟩
  obtain ⟨lb, hm⟩ : ∃ q, Aside (q = b.length) := ⟨_, rfl⟩
  rw [← hn.out] at hla hca ⊢
  rw [← hm.out] at hlb hcb ⊢
  obtain ⟨L, hL⟩ : ∃ L, L = la + lb + 1 := ⟨_, rfl⟩
  have hmk : ∀ w : World, (Instr.makeSlice 24 (.int .i64 ((la : Int) + (lb : Int) + 1)) (.int .i64 ((la : Int) + (lb : Int) + 1))).run Tryz.prog w = .ok (.slice (some ⟨w.heap.size, 0, none⟩) L L) (w.alloc (.cells (madeCells #[.int .i64 0] L) 3)) := fun w => by
    have := mk24 L (by omega) w
    rw [show (L : Int) = (la : Int) + (lb : Int) + 1 by omega] at this
    exact this
  have hLa : la + lb + 1 ≤ L := by omega
  have hLs : L ≤ 900000 := by omega
  have HL : Aside (L = a.length + b.length + 1) := by show _ = _; rw [hL, hn.out, hm.out]
  have rL1 : IntKind.i64.wrap ((la : Int) + (lb : Int)) = (la : Int) + (lb : Int) := by rw [IntKind.wrap_i64]; omega
  have rL2 : IntKind.i64.wrap ((la : Int) + (lb : Int) + 1) = (la : Int) + (lb : Int) + 1 := by rw [IntKind.wrap_i64]; omega
  clear hL
  obtain ⟨B0, hB0⟩ : ∃ q, Aside (q = w.heap.size) := ⟨_, rfl⟩
  go_enter Tryz.func66, Tryz.ntmps66
  go_wp2_with fail
  clear hmk rL1 rL2
  go_loopg [6] la (fun g1 vi wr => ∃ (i : Nat) (o : List Nat), vi = .int .i64 i ∧ i ≤ la ∧ la - i ≤ g1 ∧ Aside (Pr a b i o) ∧ Aside (OutD w.heap.size w wr w.heap.size o))
  case atStart => exact ⟨0, List.replicate L 0, by go_num, by omega, by omega, (show Pr _ _ _ _ by rw [HL.out]; exact Pr.start a b), OutD.start w L 3⟩
  case round =>
    obtain ⟨i, o, rfl, hil, hg1, HP, HO⟩ := hrel
    by_cases hlt : i < la
    · have hltz : (i : Int) < (la : Int) := by omega
      have neA : a ≠ [] := by intro q; rw [q] at hn; have := hn.out; simp at this; omega
      obtain ⟨ga, oa, rfl, hga, hia⟩ := CA.out neA
      have ja : i < a.length := by rw [← hn.out]; exact hlt
      obtain ⟨d, hd⟩ : ∃ d, Aside (d = a.getD i 0) := ⟨_, rfl⟩
      have cA : Aside _ := hia i ja
      have hd9 : d < 1000000000 := by rw [hd.out]; exact getD_lt FA.out i
      clear hia
      go_wp2_with fail
      go_loopg [7, 8] lb (fun g2 vc vk wr => ∃ (k c : Nat) (o : List Nat), vk = .int .i64 k ∧ vc = .int .i64 c ∧ k ≤ lb ∧ lb - k ≤ g2 ∧ c < 1000000000 ∧ Aside (Pi a b i k o c) ∧ Aside (OutD w.heap.size w wr w.heap.size o))
      case atStart => exact ⟨0, 0, o, by go_num, by go_num, by omega, by omega, by decide, HP.out.enter, HO⟩
      case round =>
        clear HP HO
        obtain ⟨k, c, o, rfl, rfl, hkl, hg2, hc9, HQ, HO⟩ := hrel
        have hol : Aside (o.length = L) := (show o.length = L by rw [HQ.out.len, HL.out])
        by_cases hkt : k < lb
        · have hktz : (k : Int) < (lb : Int) := by omega
          have neB : b ≠ [] := by intro q; rw [q] at hm; have := hm.out; simp at this; omega
          obtain ⟨gb, ob, rfl, hgb, hib⟩ := CB.out neB
          have jb : k < b.length := by rw [← hm.out]; exact hkt
          obtain ⟨f, hf⟩ : ∃ d, Aside (d = b.getD k 0) := ⟨_, rfl⟩
          have hf9 : f < 1000000000 := by rw [hf.out]; exact getD_lt FB.out k
          obtain ⟨z, hz⟩ : ∃ d, Aside (d = o.getD (i + k) 0) := ⟨_, rfl⟩
          have hz9 : z < 1000000000 := by rw [hz.out]; exact getD_lt HQ.out.fine (i + k)
          obtain ⟨iN, hiN⟩ : ∃ q, q = i + k := ⟨_, rfl⟩
          have HN : Aside (iN = i + k) := hiN
          have ea : ((i : Int) + (k : Int)).toNat = iN := by omega
          have pa : (0 : Int) ≤ (i : Int) + (k : Int) := by omega
          have ba : (i : Int) + (k : Int) < (L : Int) := by omega
          have ra : IntKind.i64.wrap ((i : Int) + (k : Int)) = (i : Int) + (k : Int) := by rw [IntKind.wrap_i64]; omega
          have hiL : iN < L := by omega
          clear hiN
          have ck1 : wr.cell? ⟨w.heap.size, iN, none⟩ = some (.int .i64 (z : Int)) := by rw [HN.out, hz.out]; exact HO.out.cell (i + k) (by rw [hol.out, ← HN.out]; exact hiL)
          have ck2 : wr.cell? ⟨ga, oa + i, none⟩ = some (.int .i64 (d : Int)) := by rw [HO.out.bel.cell (by exact hga), hd.out]; exact cA.out
          have ck3 : wr.cell? ⟨gb, ob + k, none⟩ = some (.int .i64 (f : Int)) := by rw [HO.out.bel.cell (by exact hgb), hf.out]; exact hib k jb
          have hdf : d * f ≤ 999999999 * 999999999 := Nat.mul_le_mul (by omega) (by omega)
          have r1 : IntKind.i64.wrap ((d : Int) * (f : Int)) = (d : Int) * (f : Int) := by rw [IntKind.wrap_i64, ← Int.natCast_mul]; omega
          have r2 : IntKind.i64.wrap ((z : Int) + (d : Int) * (f : Int)) = (z : Int) + (d : Int) * (f : Int) := by rw [IntKind.wrap_i64, ← Int.natCast_mul]; omega
          have r3 : IntKind.i64.wrap ((z : Int) + (d : Int) * (f : Int) + (c : Int)) = (z : Int) + (d : Int) * (f : Int) + (c : Int) := by rw [IntKind.wrap_i64, ← Int.natCast_mul]; omega
          have HQ2 : Aside _ := HQ.out.step FA.out FB.out ja jb
          rw [← hd.out, ← hf.out, ← hz.out, ← HN.out] at HQ2
          clear hib
          go_wp2_with fail
          go_big_region_o
          clear ck1 ck2 ck3
          have HO2 : Aside (OutD w.heap.size w wr.drew w.heap.size o) := HO.out.drew
          clear HO
          generalize wr.drew = w5 at HO2 ⊢
          have ck1 : w5.cell? ⟨w.heap.size, iN, none⟩ = some (.int .i64 (z : Int)) := by rw [hz.out, ← HN.out]; exact HO2.out.cell iN (by rw [hol.out]; exact hiL)
          have fr1 : w5.frozen? ⟨w.heap.size, iN, none⟩ = false := HO2.out.fr iN (by rw [hol.out]; exact hiL)
          have HO3 : Aside _ := HO2.out.put (i := iN) (x := (z + d * f + c) % 1000000000) (by rw [hol.out]; exact hiL) (Nat.le_refl _)
          have rm : ((z : Int) + (d : Int) * (f : Int) + (c : Int)) % 1000000000 = (((z + d * f + c) % 1000000000 : Nat) : Int) := by rw [← Int.natCast_mul]; omega
          have rq : ((z : Int) + (d : Int) * (f : Int) + (c : Int)) / 1000000000 = (((z + d * f + c) / 1000000000 : Nat) : Int) := by rw [← Int.natCast_mul]; omega
          rw [← rm] at HO3
          have RQ : Aside (((z : Int) + (d : Int) * (f : Int) + (c : Int)) / 1000000000 = (((z + d * f + c) / 1000000000 : Nat) : Int)) := rq
          clear HO2 rm rq
          go_wp2_with fail
          clear ck1 fr1
          generalize w5.setCell ⟨w.heap.size, iN, none⟩ (.int .i64 (((z : Int) + (d : Int) * (f : Int) + (c : Int)) % 1000000000)) = w6 at HO3 ⊢
          go_wp2_with fail
          go_roundg (lb - (k + 1))
          case measure => omega
          case rel => exact ⟨k + 1, (z + d * f + c) / 1000000000, o.set iN ((z + d * f + c) % 1000000000), by go_num, congrArg (Value.int .i64) RQ.out, by omega, by omega, HQ2.out.carry, HQ2, HO3⟩
        · have hktz : ¬ (k : Int) < (lb : Int) := by omega
          have hk : k = lb := by omega
          subst hk
          have hP2 : Aside (Pr a b (i + 1) (o.set (i + k) (o.getD (i + k) 0 + c))) := by
            have h := HQ.out
            rw [hm.out] at h ⊢
            exact h.leave ja
          obtain ⟨z, hz⟩ : ∃ d, Aside (d = o.getD (i + k) 0) := ⟨_, rfl⟩
          have hz9 : z < 1000000000 := by rw [hz.out]; exact getD_lt HQ.out.fine (i + k)
          obtain ⟨iN, hiN⟩ : ∃ q, q = i + k := ⟨_, rfl⟩
          have HN : Aside (iN = i + k) := hiN
          have ea : ((i : Int) + (k : Int)).toNat = iN := by omega
          have pa : (0 : Int) ≤ (i : Int) + (k : Int) := by omega
          have ba : (i : Int) + (k : Int) < (L : Int) := by omega
          have ra : IntKind.i64.wrap ((i : Int) + (k : Int)) = (i : Int) + (k : Int) := by rw [IntKind.wrap_i64]; omega
          have rb : IntKind.i64.wrap ((i : Int) + 1) = ((i + 1 : Nat) : Int) := by rw [IntKind.wrap_i64]; omega
          have hiL : iN < L := by omega
          clear hiN
          have ck1 : wr.cell? ⟨w.heap.size, iN, none⟩ = some (.int .i64 (z : Int)) := by rw [hz.out, ← HN.out]; exact HO.out.cell iN (by rw [hol.out]; exact hiL)
          have fr1 : wr.frozen? ⟨w.heap.size, iN, none⟩ = false := HO.out.fr iN (by rw [hol.out]; exact hiL)
          have r1 : IntKind.i64.wrap ((z : Int) + (c : Int)) = (z : Int) + (c : Int) := by rw [IntKind.wrap_i64]; omega
          have HO3 : Aside (OutD w.heap.size w (wr.setCell ⟨w.heap.size, iN, none⟩ (.int .i64 ((z : Int) + (c : Int)))) w.heap.size (o.set iN (z + c))) := by
            have h := HO.out.put (i := iN) (x := z + c) (by rw [hol.out]; exact hiL) (Nat.le_refl _)
            rw [Int.natCast_add] at h
            exact h
          rw [← hz.out, ← HN.out] at hP2
          clear HO HQ
          go_wp2_with fail
          clear ck1 fr1
          generalize wr.setCell ⟨w.heap.size, iN, none⟩ (.int .i64 ((z : Int) + (c : Int))) = w6 at HO3 ⊢
          go_wp2_with fail
          go_roundg (la - (i + 1))
          case measure => omega
          case rel => exact ⟨i + 1, o.set iN (z + c), by go_num, by omega, by omega, hP2, HO3⟩
    · have hltz : ¬ (i : Int) < (la : Int) := by omega
      have hi : i = la := by omega
      subst hi
      have hP2 : Aside (strip o = dig (Big.val a * Big.val b)) := by
        have h := HP.out
        rw [hn.out] at h
        exact h.done
      have hol : Aside (o.length = L) := (show o.length = L by rw [HP.out.len, HL.out])
      have hcall := plain_s (.slice (some ⟨w.heap.size, 0, none⟩) L L) o wr (digs_of_out HO.out hol.out.symm) (by rw [hol.out]; omega)
      rw [hP2.out] at hcall
      have BW : Aside (Below w.heap.size w wr) := HO.out.bel
      clear HP HO
      go_wp2_with fail
      refine hcall.mono ?_
      rintro e w2 ⟨v', rfl, hD, rfl⟩
      have HD : Aside _ := hD
      clear hD hcall
      go_wp2_with fail
      go_ret
      exact ⟨_, rfl, HD.out, BW.out⟩
end Go.Proofs.YtadngfgbefgocaaGreatDoor

namespace Go.Proofs.YtadngfgbefgocaaGreatDoor
open Go.Shelf Go.RowKit Go.Lib Go.Sort Go.Big
theorem dig_one : dig 1 = [1] := by rw [dig_pos (by decide)]; show 1 % 1000000000 :: dig 0 = _; rw [dig_zero]
theorem results_cell1 {fn : Func} {p : Tmp} {ty : TypeId} (h : fn.results = #[.cell p ty]) (tmps : Array Value) (P : Program) (w : World) :
    (results fn tmps).run P w = ((asAddr (tmps.getD p undef)).run P w).andThen fun a w₁ => (loadVar ty a).run P w₁ := by
  simp only [results, h]
  simp [Sem.run_bind, Result.andThen]
theorem Digs.store {w : World} {v : Value} {ds : List Nat} (h : Digs w v ds) {b k : Nat} {a0 : Option Addr} {n c : Nat} (hc : w.cell? ⟨b, k, none⟩ = some (.slice a0 n c)) (u : Value) : Digs (w.setCell ⟨b, k, none⟩ u) v ds := by
  obtain ⟨a1, c1, e, hl, hi⟩ := h
  refine ⟨a1, c1, e, hl, fun h0 => ?_⟩
  obtain ⟨g, o, e2, hg, hq⟩ := hi h0
  refine ⟨g, o, e2, by simpa [World.setCell] using hg, fun i hil => ?_⟩
  by_cases e3 : (⟨g, o + i, none⟩ : Addr) = ⟨b, k, none⟩
  · have := hq i hil
    rw [e3, hc] at this
    cases this
  · rw [World.cell?_setCell_other _ _ _ _ (fun q => e3 q.symm)]
    exact hq i hil
theorem digs_one (w : World) : Digs (w.alloc (.cells #[.int .i64 1] 3)) (.slice (some ⟨w.heap.size, 0, none⟩) 1 1) (dig 1) := by
  rw [dig_one]
  exact ⟨_, _, rfl, Nat.le_refl _, fun _ => ⟨w.heap.size, 0, rfl, by simp, fun i hi => by
    have : i = 0 := by simpa using hi
    subst this
    simp [iv]⟩⟩
set_option maxHeartbeats 4000000 in
set_option maxRecDepth 1000000 in
theorem worthB_s (m : Nat) (e : Int) (w : World) (hm : m < 18446744073709551616) (h1 : e ≤ 2000) (h2 : -2000 ≤ e) :
    Calls Tryz.prog 65 #[.int .u64 m, .int .i64 e] w fun en w' => ∃ va vb, en = .returned (.agg #[va, vb]) ∧ Digs w' va (dig (m * 2 ^ e.toNat)) ∧ Digs w' vb (dig (2 ^ (-e).toNat)) ∧ Below w.heap.size w w' := by
  have mixed := mixed
  have t24 := Tryz.underlying24
  have t3 := Tryz.underlying3
  have t54 := Tryz.underlying114
  have e44 : ∀ args w, (callFunc 67 args).run Tryz.prog w = .ok (.enter 67 args) w := enters_of Tryz.func67 (by kernel_rfl) rfl
  have e45 : ∀ args w, (callFunc 68 args).run Tryz.prog w = .ok (.enter 68 args) w := enters_of Tryz.func68 (by kernel_rfl) rfl
  have c1 := number_s m hm (w.alloc (.cells #[.slice none 0 0, .slice none 0 0] 114))
  have rn : IntKind.i64.wrap (-e) = -e := by rw [IntKind.wrap_i64]; omega
  go_enter Tryz.func65, Tryz.ntmps65
  go_wp2_with fail
  obtain ⟨w0, hw0⟩ : ∃ x, Aside (x = w.alloc (.cells #[.slice none 0 0, .slice none 0 0] 114)) := ⟨_, rfl⟩
  have hs0 : w0.heap.size = w.heap.size + 1 := by rw [hw0.out]; simp
  have HS0 : Aside (w0.heap.size = w.heap.size + 1) := hs0
  have z0 : Aside (w0.cell? ⟨w.heap.size, 0, none⟩ = some (.slice none 0 0)) := by rw [hw0.out]; show _ = _; simp
  have z1 : Aside (w0.cell? ⟨w.heap.size, 1, none⟩ = some (.slice none 0 0)) := by rw [hw0.out]; show _ = _; simp
  have zf0 : Aside (w0.frozen? ⟨w.heap.size, 0, none⟩ = false) := by rw [hw0.out]; show _ = _; simp
  have zf1 : Aside (w0.frozen? ⟨w.heap.size, 1, none⟩ = false) := by rw [hw0.out]; show _ = _; simp
  have BW0 : Aside (Below w.heap.size w w0) := by rw [hw0.out]; exact (Below.refl _ _).alloc (Nat.le_refl _) _
  rw [← hw0.out] at c1 ⊢
  clear hs0
  refine c1.mono ?_
  rintro en w1 ⟨v0, rfl, hD1, hb1⟩
  have c2 := powers_s v0 m e w1 hD1 (Nat.lt_of_lt_of_le hm (by decide +kernel)) h1 h2
  have B1 : Aside (Below w0.heap.size w0 w1) := hb1
  clear c1 hb1 hD1
  go_wp2_with fail
  refine c2.mono ?_
  rintro en w2 ⟨va, rfl, hD2, hb2⟩
  have B2 : Aside (Below w0.heap.size w0 w2) := B1.out.trans (hb2.mono B1.out.size)
  have D2 : Aside (Digs w2 va (dig (m * 2 ^ e.toNat))) := hD2
  clear hD2 hb2 c2 B1
  have c3 := powers_s (.slice (some ⟨w2.heap.size, 0, none⟩) 1 1) 1 (-e) (w2.alloc (.cells #[.int .i64 1] 3)) (digs_one w2) (by decide +kernel) (by omega) (by omega)
  rw [Nat.one_mul] at c3
  go_wp2_with fail
  refine c3.mono ?_
  rintro en w3 ⟨vb, rfl, hD3, hb3⟩
  have hb23 : Below w2.heap.size w2 w3 := ((Below.refl w2.heap.size w2).alloc (Nat.le_refl _) _).trans (hb3.mono (by simp))
  have B3 : Aside (Below w0.heap.size w0 w3) := B2.out.trans (hb23.mono B2.out.size)
  have D3 : Aside (Digs w3 vb (dig (2 ^ (-e).toNat))) := hD3
  have D2' : Aside (Digs w3 va (dig (m * 2 ^ e.toNat))) := D2.out.below (Nat.le_refl _) hb23
  clear hD3 hb3 hb23 c3 D2 B2
  have ck0 : w3.cell? ⟨w.heap.size, 0, none⟩ = some (.slice none 0 0) := by rw [B3.out.cell (by show w.heap.size < w0.heap.size; rw [HS0.out]; omega)]; exact z0.out
  have ck1 : w3.cell? ⟨w.heap.size, 1, none⟩ = some (.slice none 0 0) := by rw [B3.out.cell (by show w.heap.size < w0.heap.size; rw [HS0.out]; omega)]; exact z1.out
  have fr0 : w3.frozen? ⟨w.heap.size, 0, none⟩ = false := by rw [B3.out.frozen (by show w.heap.size < w0.heap.size; rw [HS0.out]; omega)]; exact zf0.out
  have fr1 : w3.frozen? ⟨w.heap.size, 1, none⟩ = false := by rw [B3.out.frozen (by show w.heap.size < w0.heap.size; rw [HS0.out]; omega)]; exact zf1.out
  obtain ⟨aa, ca, ea, _, _⟩ := D2'.out
  subst ea
  obtain ⟨ab, cb, eb, _, _⟩ := D3.out
  subst eb
  have BE : Aside (Below w.heap.size w ((w3.setCell ⟨w.heap.size, 0, none⟩ (.slice aa (dig (m * 2 ^ e.toNat)).length ca)).setCell ⟨w.heap.size, 1, none⟩ (.slice ab (dig (2 ^ (-e).toNat)).length cb))) := by
    have h3 : Below w.heap.size w w3 := BW0.out.trans (B3.out.mono (by rw [HS0.out]; omega))
    exact (h3.setCell (Nat.le_refl _) _).setCell (Nat.le_refl _) _
  go_wp2_with fail
  obtain ⟨n1, hn1⟩ : ∃ q, q = (dig (m * 2 ^ e.toNat)).length := ⟨_, rfl⟩
  rw [← hn1] at BE D2' ⊢
  clear hn1
  have q0 : ((w3.setCell ⟨w.heap.size, 0, none⟩ (.slice aa n1 ca)).setCell ⟨w.heap.size, 1, none⟩ (.slice ab (dig (2 ^ (-e).toNat)).length cb)).cell? ⟨w.heap.size, 0, none⟩ = some (.slice aa n1 ca) := by
    rw [World.cell?_setCell_other _ _ _ _ (by intro e'; simp at e'), World.cell?_setCell_same _ _ _ ck0]
  have q1 : (w3.setCell ⟨w.heap.size, 0, none⟩ (.slice aa n1 ca)).cell? ⟨w.heap.size, 1, none⟩ = some (.slice none 0 0) := by
    rw [World.cell?_setCell_other _ _ _ _ (by intro e'; simp at e')]
    exact ck1
  refine ⟨rfl, .agg #[.slice aa n1 ca, .slice ab (dig (2 ^ (-e).toNat)).length cb], ?_, _, _, rfl, ?_, ?_, BE.out⟩
  · rw [results_cell1 rfl]
    go_simp
  · exact (D2'.out.store ck0 _).store q1 _
  · exact (D3.out.store ck0 _).store q1 _
end Go.Proofs.YtadngfgbefgocaaGreatDoor

namespace Go.Proofs.YtadngfgbefgocaaGreatDoor
open Go.Shelf Go.RowKit Go.Lib Go.Sort Go.Big Go.Flo
theorem len_small {X j : Nat} (hX : X < 18446744073709551616) (hj : j ≤ 2000) : (dig (X * 2 ^ j)).length ≤ 400000 := by
  refine Nat.le_trans (dig_len (k := 72) ?_) (by decide)
  obtain ⟨e, he⟩ : ∃ e, e = 29 * 69 := ⟨_, rfl⟩
  have h1 : 2 ^ j ≤ 2 ^ e := Nat.pow_le_pow_right (by decide) (by omega)
  have h2 : 2 ^ e ≤ 1000000000 ^ 69 := q29 69 e he
  have h3 : X < 1000000000 ^ 3 := Nat.lt_of_lt_of_le hX (by decide +kernel)
  have h4 : X * 2 ^ j < 1000000000 ^ 3 * 1000000000 ^ 69 := Nat.lt_of_lt_of_le (Nat.mul_lt_mul_of_pos_right h3 (Nat.pow_pos (by decide))) (Nat.mul_le_mul_left _ (Nat.le_trans h1 h2))
  rw [← Nat.pow_add] at h4
  exact h4
theorem len_prod {X Y : Nat} {a b : Nat} (hX : (dig X).length ≤ a) (hY : (dig Y).length ≤ b) : (dig (X * Y)).length ≤ a + b := by
  refine dig_len ?_
  have h1 := val_lt (fine_dig X)
  have h2 := val_lt (fine_dig Y)
  rw [val_dig] at h1 h2
  have h3 : X < 1000000000 ^ a := Nat.lt_of_lt_of_le h1 (Nat.pow_le_pow_right (by decide) hX)
  have h4 : Y < 1000000000 ^ b := Nat.lt_of_lt_of_le h2 (Nat.pow_le_pow_right (by decide) hY)
  rw [Nat.pow_add]
  exact Nat.mul_lt_mul'' h3 h4
set_option maxHeartbeats 8000000 in
set_option maxRecDepth 1000000 in
theorem against_s (va vb : Value) (A B m : Nat) (e : Int) (w : World) (hA : Digs w va (dig A)) (hB : Digs w vb (dig B)) (hA9 : A < 1000000000 ^ 100) (hB9 : B < 1000000000 ^ 100) (hm : m < 18446744073709551616) (h1 : e ≤ 2000) (h2 : -2000 ≤ e) :
    Calls Tryz.prog 117 #[.agg #[va, vb], .int .u64 m, .int .i64 e] w fun en w' => en = .returned (.int .i64 (agI A B m e)) ∧ Below w.heap.size w w' := by
  have mixed := mixed
  have t24 := Tryz.underlying24
  have t3 := Tryz.underlying3
  have t54 := Tryz.underlying114
  have u54 := run_underlying t54
  have e42 : ∀ args w, (callFunc 65 args).run Tryz.prog w = .ok (.enter 65 args) w := enters_of Tryz.func65 (by kernel_rfl) rfl
  have e43 : ∀ args w, (callFunc 66 args).run Tryz.prog w = .ok (.enter 66 args) w := enters_of Tryz.func66 (by kernel_rfl) rfl
  have e47 : ∀ args w, (callFunc 70 args).run Tryz.prog w = .ok (.enter 70 args) w := enters_of Tryz.func70 (by kernel_rfl) rfl
  obtain ⟨aa, ca, rfl, hla, hda⟩ := hA
  obtain ⟨ab, cb, rfl, hlb, hdb⟩ := hB
  have DA : Aside (Digs w (.slice aa (dig A).length ca) (dig A)) := ⟨aa, ca, rfl, hla, hda⟩
  have DB : Aside (Digs w (.slice ab (dig B).length cb) (dig B)) := ⟨ab, cb, rfl, hlb, hdb⟩
  clear hda hdb hla hlb
  obtain ⟨n1, hn1⟩ : ∃ q, q = (dig A).length := ⟨_, rfl⟩
  obtain ⟨n2, hn2⟩ : ∃ q, q = (dig B).length := ⟨_, rfl⟩
  rw [← hn1] at DA ⊢
  rw [← hn2] at DB ⊢
  clear hn1 hn2
  obtain ⟨w0, hw0⟩ : ∃ x, Aside (x = w.alloc (.cells #[.slice aa n1 ca, .slice ab n2 cb] 114)) := ⟨_, rfl⟩
  have c1 := worthB_s m e w0 hm h1 h2
  go_enter Tryz.func117, Tryz.ntmps117
  go_wp2_with fail
  rw [← hw0.out]
  refine c1.mono ?_
  rintro en w1 ⟨vga, vgb, rfl, hG1, hG2, hb1⟩
  obtain ⟨ga, gca, rfl, gla, gda⟩ := hG1
  obtain ⟨gb, gcb, rfl, glb, gdb⟩ := hG2
  have GA : Aside (Digs w1 (.slice ga (dig (m * 2 ^ e.toNat)).length gca) (dig (m * 2 ^ e.toNat))) := ⟨ga, gca, rfl, gla, gda⟩
  have GB : Aside (Digs w1 (.slice gb (dig (2 ^ (-e).toNat)).length gcb) (dig (2 ^ (-e).toNat))) := ⟨gb, gcb, rfl, glb, gdb⟩
  clear gda gdb gla glb c1
  obtain ⟨m1, hm1⟩ : ∃ q, q = (dig (m * 2 ^ e.toNat)).length := ⟨_, rfl⟩
  obtain ⟨m2, hm2⟩ : ∃ q, q = (dig (2 ^ (-e).toNat)).length := ⟨_, rfl⟩
  rw [← hm1] at GA ⊢
  rw [← hm2] at GB ⊢
  clear hm1 hm2
  have HB1 : Aside (Below w0.heap.size w0 w1) := hb1
  clear hb1
  go_wp2_with fail
  obtain ⟨w2, hw2⟩ : ∃ x, Aside (x = w1.alloc (.cells #[.slice ga m1 gca, .slice gb m2 gcb] 114)) := ⟨_, rfl⟩
  obtain ⟨bw, hbw⟩ : ∃ q, Aside (q = w.heap.size) := ⟨_, rfl⟩
  obtain ⟨b2, hb2⟩ : ∃ q, Aside (q = w1.heap.size) := ⟨_, rfl⟩
  have s0 : w0.heap.size = w.heap.size + 1 := by rw [hw0.out]; simp
  have s1 := HB1.out.size
  have BW0 : Below w.heap.size w w0 := by rw [hw0.out]; exact (Below.refl _ _).alloc (Nat.le_refl _) _
  have B12 : Below w1.heap.size w1 w2 := by rw [hw2.out]; exact (Below.refl _ _).alloc (Nat.le_refl _) _
  have BW2 : Aside (Below w.heap.size w w2) := (BW0.trans (HB1.out.mono (by omega))).trans (B12.mono (by omega))
  have k0 : Aside (w2.cell? ⟨bw, 0, none⟩ = some (.slice aa n1 ca)) := by
    show _ = _
    rw [B12.cell (by show bw < _; rw [hbw.out]; omega), HB1.out.cell (by show bw < _; rw [hbw.out]; omega), hbw.out, hw0.out]; simp
  have k1 : Aside (w2.cell? ⟨bw, 1, none⟩ = some (.slice ab n2 cb)) := by
    show _ = _
    rw [B12.cell (by show bw < _; rw [hbw.out]; omega), HB1.out.cell (by show bw < _; rw [hbw.out]; omega), hbw.out, hw0.out]; simp
  have k2 : Aside (w2.cell? ⟨b2, 0, none⟩ = some (.slice ga m1 gca)) := by show _ = _; rw [hb2.out, hw2.out]; simp
  have k3 : Aside (w2.cell? ⟨b2, 1, none⟩ = some (.slice gb m2 gcb)) := by show _ = _; rw [hb2.out, hw2.out]; simp
  have sb : Aside (bw < w2.heap.size ∧ b2 < w2.heap.size) := by rw [hbw.out, hb2.out, hw2.out]; exact ⟨by simp; omega, by simp⟩
  have DA2 : Aside (Digs w2 (.slice aa n1 ca) (dig A)) := DA.out.below (Nat.le_refl _) BW2.out
  have DB2 : Aside (Digs w2 (.slice ab n2 cb) (dig B)) := DB.out.below (Nat.le_refl _) BW2.out
  have GA2 : Aside (Digs w2 (.slice ga m1 gca) (dig (m * 2 ^ e.toNat))) := GA.out.below (Nat.le_refl _) B12
  have GB2 : Aside (Digs w2 (.slice gb m2 gcb) (dig (2 ^ (-e).toNat))) := GB.out.below (Nat.le_refl _) B12
  have keep : Aside (∀ x x' : World, Below w2.heap.size w2 x → Below x.heap.size x x' → x'.cell? ⟨bw, 0, none⟩ = some (.slice aa n1 ca) ∧ x'.cell? ⟨bw, 1, none⟩ = some (.slice ab n2 cb) ∧ x'.cell? ⟨b2, 0, none⟩ = some (.slice ga m1 gca) ∧ x'.cell? ⟨b2, 1, none⟩ = some (.slice gb m2 gcb) ∧ Below w2.heap.size w2 x') := (show ∀ x x' : World, Below w2.heap.size w2 x → Below x.heap.size x x' → x'.cell? ⟨bw, 0, none⟩ = some (.slice aa n1 ca) ∧ x'.cell? ⟨bw, 1, none⟩ = some (.slice ab n2 cb) ∧ x'.cell? ⟨b2, 0, none⟩ = some (.slice ga m1 gca) ∧ x'.cell? ⟨b2, 1, none⟩ = some (.slice gb m2 gcb) ∧ Below w2.heap.size w2 x' from fun x x' h h' => by
    have hh : Below w2.heap.size w2 x' := h.trans (h'.mono h.size)
    exact ⟨by rw [hh.cell (by exact sb.out.1)]; exact k0.out, by rw [hh.cell (by exact sb.out.1)]; exact k1.out, by rw [hh.cell (by exact sb.out.2)]; exact k2.out, by rw [hh.cell (by exact sb.out.2)]; exact k3.out, hh⟩)
  have len1 : Aside ((dig A).length ≤ 400000 ∧ (dig B).length ≤ 400000) := ⟨Nat.le_trans (dig_len hA9) (by decide), Nat.le_trans (dig_len hB9) (by decide)⟩
  have len2 : Aside ((dig (m * 2 ^ e.toNat)).length ≤ 400000 ∧ (dig (2 ^ (-e).toNat)).length ≤ 400000) := ⟨len_small hm (by omega), by have := len_small (X := 1) (j := (-e).toNat) (by decide) (by omega); rw [Nat.one_mul] at this; exact this⟩
  have P1 : ∀ (x : World) (u v : Value) (X Y : Nat), Aside (Digs w2 u (dig X) ∧ (dig X).length ≤ 400000) → Aside (Digs w2 v (dig Y) ∧ (dig Y).length ≤ 400000) → Below w2.heap.size w2 x → Calls Tryz.prog 66 #[u, v] x fun en x' => ∃ v, en = .returned v ∧ Aside (Digs x' v (dig (X * Y))) ∧ Aside (Below x.heap.size x x') ∧ (x'.cell? ⟨bw, 0, none⟩ = some (.slice aa n1 ca) ∧ x'.cell? ⟨bw, 1, none⟩ = some (.slice ab n2 cb) ∧ x'.cell? ⟨b2, 0, none⟩ = some (.slice ga m1 gca) ∧ x'.cell? ⟨b2, 1, none⟩ = some (.slice gb m2 gcb) ∧ Below w2.heap.size w2 x') := fun x u v X Y g1 g2 hx =>
    (product_s _ _ X Y x (g1.out.1.below (Nat.le_refl _) hx) (g2.out.1.below (Nat.le_refl _) hx) g1.out.2 g2.out.2).mono fun en x' ⟨v, e1, hD, hb⟩ => ⟨v, e1, hD, hb, keep.out x x' hx hb⟩
  have R1 : Aside (Digs w2 (.slice aa n1 ca) (dig A) ∧ (dig A).length ≤ 400000) := ⟨DA2.out, len1.out.1⟩
  have R2 : Aside (Digs w2 (.slice ab n2 cb) (dig B) ∧ (dig B).length ≤ 400000) := ⟨DB2.out, len1.out.2⟩
  have R3 : Aside (Digs w2 (.slice ga m1 gca) (dig (m * 2 ^ e.toNat)) ∧ (dig (m * 2 ^ e.toNat)).length ≤ 400000) := ⟨GA2.out, len2.out.1⟩
  have R4 : Aside (Digs w2 (.slice gb m2 gcb) (dig (2 ^ (-e).toNat)) ∧ (dig (2 ^ (-e).toNat)).length ≤ 400000) := ⟨GB2.out, len2.out.2⟩
  have P3 : ∀ x y v1 v2, Aside (Digs x v1 (dig (A * 2 ^ (-e).toNat))) → Aside (Below x.heap.size x y) → Aside (Digs y v2 (dig (m * 2 ^ e.toNat * B))) → Calls Tryz.prog 70 #[v1, v2] y fun en y' => en = .returned (.int .i64 (agI A B m e)) ∧ ∃ q, y' = y.drewN q := fun x y v1 v2 g1 g2 g3 =>
    compareB_s v1 v2 _ _ y (g1.out.below (Nat.le_refl _) g2.out) g3.out (by have := len_prod len1.out.1 len2.out.2; omega) (by have := len_prod len2.out.1 len1.out.2; omega)
  rw [← hw2.out, ← hbw.out, ← hb2.out]
  have q0 := k0.out
  have q1 := k1.out
  have q2 := k2.out
  have q3 := k3.out
  have q4 : Below w2.heap.size w2 w2 := Below.refl _ _
  clear s0 s1 BW0 B12 HB1 DA DB GA GB
  have P3' : ∀ x y v1 v2, Aside (Digs x v1 (dig (A * 2 ^ (-e).toNat))) → Aside (Below x.heap.size x y) → Aside (Digs y v2 (dig (m * 2 ^ e.toNat * B))) → Below w2.heap.size w2 y → Calls Tryz.prog 70 #[v1, v2] y fun en y' => en = .returned (.int .i64 (agI A B m e)) ∧ Aside (Below w2.heap.size w2 y') ∧ (y'.cell? ⟨bw, 0, none⟩ = some (.slice aa n1 ca) ∧ y'.cell? ⟨bw, 1, none⟩ = some (.slice ab n2 cb) ∧ y'.cell? ⟨b2, 0, none⟩ = some (.slice ga m1 gca) ∧ y'.cell? ⟨b2, 1, none⟩ = some (.slice gb m2 gcb) ∧ Below w2.heap.size w2 y') := fun x y v1 v2 g1 g2 g3 g4 =>
    (P3 x y v1 v2 g1 g2 g3).mono fun en y' ⟨h, q, hq⟩ => by
      have hb : Below y.heap.size y y' := by rw [hq]; exact ⟨rfl, rfl, rfl, Nat.le_refl _, fun _ _ => rfl⟩
      have hk := keep.out y y' g4 hb
      exact ⟨h, hk.2.2.2.2, hk⟩
  clear P3 DA2 DB2 GA2 GB2 len1 len2 keep
  obtain ⟨res, hres⟩ : ∃ r, Aside (r = agI A B m e) := ⟨_, rfl⟩
  rw [← hres.out] at P3'
  go_region_held3 (fun x => x.cell? ⟨bw, 0, none⟩ = some (.slice aa n1 ca) ∧ x.cell? ⟨bw, 1, none⟩ = some (.slice ab n2 cb) ∧ x.cell? ⟨b2, 0, none⟩ = some (.slice ga m1 gca) ∧ x.cell? ⟨b2, 1, none⟩ = some (.slice gb m2 gcb) ∧ Below w2.heap.size w2 x) (first | exact ⟨q0, q1, q2, q3, q4.drew⟩ | (refine ⟨?_, ?_, ?_, ?_, ?_⟩ <;> assumption)) (first | (go_at_call 66; refine (P1 _ _ _ _ _ (by assumption) (by assumption) (by first | assumption | exact q4.drew)).mono ?_; rintro en x1 ⟨v1, rfl, D1, X1, hk0, hk1, hk2, hk3, hk4⟩) | (go_at_call 70; refine (P3' _ _ _ _ (by assumption) (by assumption) (by assumption) (by assumption)).mono ?_; rintro en x3 ⟨rfl, Z3, hk0, hk1, hk2, hk3, hk4⟩))
  all_goals (go_wp2_with fail; go_ret; exact ⟨by rw [← hres.out]; rfl, BW2.out.trans ((Aside.out (by assumption : Aside (Below w2.heap.size w2 _))).mono BW2.out.size)⟩)
end Go.Proofs.YtadngfgbefgocaaGreatDoor

namespace Go.Proofs.YtadngfgbefgocaaGreatDoor
open Go.Shelf Go.RowKit Go.Lib Go.Sort Go.Big Go.Flo
set_option maxHeartbeats 4000000 in
set_option maxRecDepth 1000000 in
theorem at_s (n : Nat) (hn : n < 4294967296) (w : World) :
    Calls Tryz.prog 63 #[.int .u32 n] w fun en w' => en = .returned (.tuple #[.int .u64 (sg n), .int .i64 (atE n)]) ∧ w' = w := by
  have mixed := mixed
  by_cases h : n < 8388608
  · have hz : (n : Int) < 8388608 := by omega
    have e1 : Aside (sg n = n) := (show sg n = n by unfold sg; rw [if_pos h])
    have e2 : Aside (atE n = -149) := (show atE n = -149 by unfold atE up; rw [if_pos h]; rfl)
    rw [e1.out, e2.out]
    go_enter Tryz.func63, Tryz.ntmps63
    go_wp2_with fail
    go_ret2
    exact ⟨rfl, rfl⟩
  · have hz : ¬ (n : Int) < 8388608 := by omega
    have e1 : Aside (((sg n : Nat) : Int) = 8388608 + (n : Int) % 8388608) := (show ((sg n : Nat) : Int) = _ by unfold sg; rw [if_neg h]; omega)
    have e2 : Aside (atE n = (n : Int) / 8388608 - 150) := (show atE n = _ by unfold atE up; rw [if_neg h]; omega)
    rw [e1.out, e2.out]
    have r1 : IntKind.u32.wrap (8388608 + (n : Int) % 8388608) = 8388608 + (n : Int) % 8388608 := by rw [IntKind.wrap_u32]; omega
    have r2 : IntKind.i64.wrap ((n : Int) / 8388608 - 150) = (n : Int) / 8388608 - 150 := by rw [IntKind.wrap_i64]; omega
    go_enter Tryz.func63, Tryz.ntmps63
    go_wp2_with fail
    go_ret2
    exact ⟨rfl, rfl⟩
end Go.Proofs.YtadngfgbefgocaaGreatDoor

namespace Go.Proofs.YtadngfgbefgocaaGreatDoor
open Go.Shelf Go.RowKit Go.Lib Go.Sort Go.Big Go.Flo
set_option maxHeartbeats 8000000 in
set_option maxRecDepth 1000000 in
theorem nearest_s (va vb : Value) (A B : Nat) (w : World) (hA : Digs w va (dig A)) (hB : Digs w vb (dig B)) (hA9 : A < 1000000000 ^ 100) (hB9 : B < 1000000000 ^ 100) (hB0 : 0 < B) :
    Calls Tryz.prog 64 #[.agg #[va, vb]] w fun en w' => en = .returned (.int .u32 (nearV A B)) ∧ Below w.heap.size w w' := by
  have mixed := mixed
  have t24 := Tryz.underlying24
  have t3 := Tryz.underlying3
  have t54 := Tryz.underlying114
  have u54 := run_underlying t54
  have e40 : ∀ args w, (callFunc 63 args).run Tryz.prog w = .ok (.enter 63 args) w := enters_of Tryz.func63 (by kernel_rfl) rfl
  have e52 : ∀ args w, (callFunc 117 args).run Tryz.prog w = .ok (.enter 117 args) w := enters_of Tryz.func117 (by kernel_rfl) rfl
  obtain ⟨aa, ca, rfl, hla, hda⟩ := hA
  obtain ⟨ab, cb, rfl, hlb, hdb⟩ := hB
  have DA : Aside (Digs w (.slice aa (dig A).length ca) (dig A)) := ⟨aa, ca, rfl, hla, hda⟩
  have DB : Aside (Digs w (.slice ab (dig B).length cb) (dig B)) := ⟨ab, cb, rfl, hlb, hdb⟩
  clear hda hdb hla hlb
  obtain ⟨n1, hn1⟩ : ∃ q, q = (dig A).length := ⟨_, rfl⟩
  obtain ⟨n2, hn2⟩ : ∃ q, q = (dig B).length := ⟨_, rfl⟩
  rw [← hn1] at DA ⊢
  rw [← hn2] at DB ⊢
  clear hn1 hn2
  obtain ⟨w0, hw0⟩ : ∃ x, Aside (x = w.alloc (.cells #[.slice aa n1 ca, .slice ab n2 cb] 114)) := ⟨_, rfl⟩
  obtain ⟨bw, hbw⟩ : ∃ q, Aside (q = w.heap.size) := ⟨_, rfl⟩
  have HS : Aside (w0.heap.size = bw + 1) := by rw [hw0.out, hbw.out]; show _ = _; simp
  have BW0 : Aside (Below w.heap.size w w0) := by rw [hw0.out]; exact (Below.refl _ _).alloc (Nat.le_refl _) _
  have k0 : Aside (w0.cell? ⟨bw, 0, none⟩ = some (.slice aa n1 ca)) := by show _ = _; rw [hbw.out, hw0.out]; simp
  have k1 : Aside (w0.cell? ⟨bw, 1, none⟩ = some (.slice ab n2 cb)) := by show _ = _; rw [hbw.out, hw0.out]; simp
  have AG : Aside (∀ (m : Nat) (e : Int) (x : World), Below w0.heap.size w0 x → m < 18446744073709551616 → e ≤ 2000 → -2000 ≤ e → Calls Tryz.prog 117 #[.agg #[.slice aa n1 ca, .slice ab n2 cb], .int .u64 m, .int .i64 e] x fun en x' => en = .returned (.int .i64 (agI A B m e)) ∧ Below w0.heap.size w0 x') := (show ∀ (m : Nat) (e : Int) (x : World), Below w0.heap.size w0 x → m < 18446744073709551616 → e ≤ 2000 → -2000 ≤ e → Calls Tryz.prog 117 #[.agg #[.slice aa n1 ca, .slice ab n2 cb], .int .u64 m, .int .i64 e] x fun en x' => en = .returned (.int .i64 (agI A B m e)) ∧ Below w0.heap.size w0 x' from fun m e x hx g1 g2 g3 => by
    have hx2 : Below w.heap.size w x := BW0.out.trans (hx.mono BW0.out.size)
    exact (against_s _ _ A B m e x (DA.out.below (Nat.le_refl _) hx2) (DB.out.below (Nat.le_refl _) hx2) hA9 hB9 g1 g2 g3).mono fun en x' ⟨h1, h2⟩ => ⟨h1, hx.trans (h2.mono hx.size)⟩)
  have HB0 : Aside (0 < B) := hB0
  clear hA9 hB9 DA DB hB0
  go_enter Tryz.func64, Tryz.ntmps64
  go_wp2_with fail
  rw [← hw0.out, ← hbw.out]
  go_loopg [3, 4] 2139095041 (fun g1 vl vh wr => ∃ (low high : Nat), vl = .int .u32 low ∧ vh = .int .u32 high ∧ low < high ∧ high ≤ 2139095041 ∧ high - low ≤ g1 ∧ Aside (Span A B low high) ∧ Aside (Below w0.heap.size w0 wr))
  case atStart => exact ⟨0, 2139095041, by go_num, by go_num, by omega, by omega, by omega, Span.start A B, Below.refl _ _⟩
  case round =>
    obtain ⟨low, high, rfl, rfl, hlh, hh, hg1, HP, BX⟩ := hrel
    have r1 : IntKind.u32.wrap ((high : Int) - (low : Int)) = (high : Int) - (low : Int) := by rw [IntKind.wrap_u32]; omega
    by_cases hgt : 1 < high - low
    · have hz : (1 : Int) < (high : Int) - (low : Int) := by omega
      obtain ⟨mid, hmid⟩ : ∃ q, Aside (q = low + (high - low) / 2) := ⟨_, rfl⟩
      have hm1 : low < mid := by rw [hmid.out]; omega
      have hm2 : mid < high := by rw [hmid.out]; omega
      have hmi : (low : Int) + ((high : Int) - (low : Int)) / 2 = (mid : Int) := by rw [hmid.out]; omega
      have r2 : IntKind.u32.wrap ((low : Int) + ((high : Int) - (low : Int)) / 2) = (mid : Int) := by rw [IntKind.wrap_u32]; omega
      have c40 := at_s mid (by omega) wr
      have hb0 : wr.cell? ⟨bw, 0, none⟩ = some (.slice aa n1 ca) := by rw [BX.out.cell (by show bw < _; rw [HS.out]; omega)]; exact k0.out
      have hb1 : wr.cell? ⟨bw, 1, none⟩ = some (.slice ab n2 cb) := by rw [BX.out.cell (by show bw < _; rw [HS.out]; omega)]; exact k1.out
      have hsg := sg_lt mid
      have hup : up mid ≤ 300 := by unfold up; split <;> omega
      have c52 := AG.out (sg mid) (atE mid) wr BX.out (by omega) (by unfold atE; omega) (by unfold atE; omega)
      rw [ag_val] at c52
      clear hmi
      go_wp2_with fail
      refine c40.mono ?_
      rintro en w3 ⟨rfl, rfl⟩
      clear c40
      obtain ⟨c, hc⟩ : ∃ c, Aside (c = cmpI (A * 2 ^ 149) (B * Flo.val 23 mid)) := ⟨cmpI (A * 2 ^ 149) (B * Flo.val 23 mid), rfl⟩
      rw [← hc.out] at c52
      go_wp2_with fail
      refine c52.mono ?_
      rintro en w4 ⟨rfl, hb4⟩
      have BX4 : Aside (Below w0.heap.size w0 w4) := hb4
      clear c52 hb4 hb0 hb1 BX
      by_cases hcz : c < 0
      · have hz2 : ¬ (0 : Int) ≤ c := by omega
        have HP2 : Aside (Span A B low mid) := HP.out.down hm1 hm2 (by rw [← hc.out]; exact hcz)
        go_wp2_with fail
        go_roundg (mid - low)
        case measure => omega
        case rel => exact ⟨low, mid, rfl, rfl, hm1, by omega, by omega, HP2, BX4⟩
      · have hz2 : (0 : Int) ≤ c := by omega
        have HP2 : Aside (Span A B mid high) := HP.out.up hm2 (by rw [← hc.out]; exact hcz)
        go_wp2_with fail
        go_roundg (high - mid)
        case measure => omega
        case rel => exact ⟨mid, high, rfl, rfl, hm2, by omega, by omega, HP2, BX4⟩
    · have hz : ¬ (1 : Int) < (high : Int) - (low : Int) := by omega
      have hh1 : high = low + 1 := by omega
      subst hh1
      have BE : Aside (∀ x, Below w0.heap.size w0 x → Below w.heap.size w x) := (show ∀ x, Below w0.heap.size w0 x → Below w.heap.size w x from fun x hx => BW0.out.trans (hx.mono BW0.out.size))
      by_cases htop : low = 2139095040
      · have hq : ((low : Int) == 2139095040) = true := by rw [htop]; rfl
        have hr : Aside (nearV A B = low) := HP.out.top HB0.out htop
        have HT : Aside (low = 2139095040) := htop
        clear htop HP
        go_wp2_with fail
        go_ret
        exact ⟨by rw [hr.out]; rfl, BE.out _ BX.out⟩
      · have hq : ((low : Int) == 2139095040) = false := by simp; omega
        have hr : Aside _ := HP.out.round HB0.out htop
        have hsg := sg_lt low
        have hup : up low ≤ 300 := by unfold up; split <;> omega
        have c40 := at_s low (by omega) wr
        have hb0 : wr.cell? ⟨bw, 0, none⟩ = some (.slice aa n1 ca) := by rw [BX.out.cell (by show bw < _; rw [HS.out]; omega)]; exact k0.out
        have hb1 : wr.cell? ⟨bw, 1, none⟩ = some (.slice ab n2 cb) := by rw [BX.out.cell (by show bw < _; rw [HS.out]; omega)]; exact k1.out
        have c52 := AG.out (2 * sg low + 1) (atE low - 1) wr BX.out (by omega) (by unfold atE; omega) (by unfold atE; omega)
        have hae : -149 ≤ atE low ∧ atE low ≤ 300 := by unfold atE; omega
        obtain ⟨ae, hae2⟩ : ∃ q, Aside (q = atE low) := ⟨_, rfl⟩
        obtain ⟨sm, hsm⟩ : ∃ q, Aside (q = sg low) := ⟨_, rfl⟩
        obtain ⟨c, hc⟩ : ∃ c, Aside (c = agI A B (2 * sg low + 1) (atE low - 1)) := ⟨_, rfl⟩
        rw [← hc.out] at c52 hr
        rw [← hae2.out] at c52 c40 hae
        rw [← hsm.out] at c52 c40 hsg
        have r3 : IntKind.u64.wrap (2 * (sm : Int)) = 2 * (sm : Int) := by rw [IntKind.wrap_u64]; omega
        have r4 : IntKind.u64.wrap (2 * (sm : Int) + 1) = ((2 * sm + 1 : Nat) : Int) := by rw [IntKind.wrap_u64]; omega
        have r5 : IntKind.i64.wrap (ae - 1) = ae - 1 := by rw [IntKind.wrap_i64]; omega
        have r6 : IntKind.u32.wrap ((low : Int) + 1) = ((low + 1 : Nat) : Int) := by rw [IntKind.wrap_u32]; omega
        clear HP htop
        go_wp2_with fail
        refine c40.mono ?_
        rintro en w3 ⟨rfl, rfl⟩
        clear c40
        go_wp2_with fail
        refine c52.mono ?_
        rintro en w4 ⟨rfl, hb4⟩
        have BX4 : Aside (Below w0.heap.size w0 w4) := hb4
        clear c52 hb4 hb0 hb1 BX
        by_cases hc1 : 0 < c
        · have hr2 : Aside (nearV A B = low + 1) := by show _ = _; rw [hr.out, if_pos (.inl hc1)]
          clear hr
          go_wp2_with fail
          go_ret
          exact ⟨by rw [hr2.out]; rfl, BE.out _ BX4.out⟩
        · by_cases hc0 : c = 0
          · subst hc0
            by_cases hodd : low % 2 = 1
            · have hr2 : Aside (nearV A B = low + 1) := by show _ = _; rw [hr.out, if_pos (.inr ⟨rfl, hodd⟩)]
              have ho : ((low : Int) % 2 == 1) = true := by simp; omega
              clear hr
              go_wp2_with fail
              go_ret
              exact ⟨by rw [hr2.out]; rfl, BE.out _ BX4.out⟩
            · have hr2 : Aside (nearV A B = low) := by show _ = _; rw [hr.out, if_neg (by omega)]
              have ho : ((low : Int) % 2 == 1) = false := by simp; omega
              clear hr
              go_wp2_with fail
              go_ret
              exact ⟨by rw [hr2.out]; rfl, BE.out _ BX4.out⟩
          · have hr2 : Aside (nearV A B = low) := by show _ = _; rw [hr.out, if_neg (by omega)]
            have hq0 : (c == 0) = false := by simp; omega
            clear hr
            go_wp2_with fail
            go_ret
            exact ⟨by rw [hr2.out]; rfl, BE.out _ BX4.out⟩
end Go.Proofs.YtadngfgbefgocaaGreatDoor
