/- latchkeyref03.Do at plus and over, and what they call, walked. The conditions stand in each statement. -/
import Derived.Test.YtadngfgbefgocaaGreatDoorPxE
import Derived.Deep.RegionHeld3

namespace Go.Proofs.YtadngfgbefgocaaGreatDoor
open Go.Shelf Go.RowKit Go.Lib Go.Sort Go.Big Go.Flo
theorem d_mul (x y z : Nat) (w : World) (h : Ieee.double.mul x y = some z) : (binOp .mul 106 (.float .f64 x) (.float .f64 y)).run Tryz.prog w = .ok (.float .f64 z) w := by
  have : (binOp .mul 106 (.float .f64 x) (.float .f64 y)).run Tryz.prog w = (Op.floatArith .mul .f64 x y).run Tryz.prog w := by kernel_rfl
  rw [this]
  unfold Op.floatArith
  show (Sem.run _ (do let result ← pure (Ieee.double.mul x y); _) _) = _
  rw [h]
  rfl
theorem d_quo (x y z : Nat) (w : World) (h : Ieee.double.div x y = some z) : (binOp .quo 106 (.float .f64 x) (.float .f64 y)).run Tryz.prog w = .ok (.float .f64 z) w := by
  have : (binOp .quo 106 (.float .f64 x) (.float .f64 y)).run Tryz.prog w = (Op.floatArith .quo .f64 x y).run Tryz.prog w := by kernel_rfl
  rw [this]
  unfold Op.floatArith
  show (Sem.run _ (do let result ← pure (Ieee.double.div x y); _) _) = _
  rw [h]
  rfl
theorem c_of (m k : Nat) (hm : m < 16777216) (hk : k = 1074) (w : World) : (convert 109 106 (.int .u64 m)).run Tryz.prog w = .ok (.float .f64 (dw m k)) w := by
  have : (convert 109 106 (.int .u64 m)).run Tryz.prog w = (Conv.intToFloat .f64 m).run Tryz.prog w := by kernel_rfl
  rw [this, ← dbl_of hm hk]
  rfl
theorem c_run (x : Nat) (w : World) : (convert 106 32 (.float .f64 x)).run Tryz.prog w = (Conv.floatToFloat .f64 x .f32).run Tryz.prog w := by
  have t46 := Tryz.underlying106
  have t32 := Tryz.underlying32
  unfold convert
  simp only [run_underlying t46, run_underlying t32, Sem.run_bind]
  rfl
theorem not_inf (n : Nat) (hn : n < 2139095040) : (Ieee.single.read n).isInfinity = false := by
  obtain ⟨k, i, e1, _, _⟩ := read_eq Ieee.single (w := n) (by rw [inf_eq']; exact hn) sign_le
  rw [e1]
  rfl
theorem read_dw (n c : Nat) (hn : n < 2139095040) (hc : c = 925) : ∃ k p, Ieee.double.read (dw (sg n) (up n + c)) = .number false k p := by
  have hm := sg_lt n
  have hu : up n ≤ 300 := by unfold up; split <;> omega
  obtain ⟨k, i, e1, _, _⟩ := read_eq Ieee.double (w := dw (sg n) (up n + c)) (by rw [dinf]; exact dw_lt hm (by omega)) dsign
  exact ⟨k, _, e1⟩
theorem c_num (x n k : Nat) (p : Int) (e1 : Ieee.double.read x = .number false k p) (h : Ieee.single.write (.number false k p) = n) (hi : (Ieee.single.read n).isInfinity = false) (w : World) : (Conv.floatToFloat .f64 x .f32).run Tryz.prog w = .ok (.float .f32 n) w := by
  have hne : ¬ FloatKind.f64 = FloatKind.f32 := fun h => by cases h
  unfold Conv.floatToFloat
  rw [if_neg hne]
  have e2 : FloatKind.decode .f64 x = .number false k p := e1
  rw [e2]
  have e3 : FloatKind.encode .f32 (.number false k p) = n := h
  have e4 : (FloatKind.decode .f32 n).isInfinity = false := hi
  simp only [e3, e4]
  rfl
theorem c_to (n c : Nat) (hn : n < 2139095040) (hc : c = 925) (w : World) : (convert 106 32 (.float .f64 (dw (sg n) (up n + c)))).run Tryz.prog w = .ok (.float .f32 n) w := by
  have h := dbl_to hn hc
  obtain ⟨k, p, e1⟩ := read_dw n c hn hc
  generalize dw (sg n) (up n + c) = x at h e1 ⊢
  rw [c_run]
  rw [e1] at h
  exact c_num x n k p e1 h (not_inf n hn) w
set_option maxHeartbeats 4000000 in
set_option maxRecDepth 1000000 in
theorem float_s (n : Nat) (hn : n ≤ 2139095040) (w : World) :
    Calls Tryz.prog 62 #[.bool false, .int .u32 n] w fun en w' => en = .returned (.float .f32 n) ∧ w' = w := by
  have mixed := mixed
  have t49 := Tryz.underlying109
  have t46 := Tryz.underlying106
  have t32 := Tryz.underlying32
  have e40 : ∀ args w, (callFunc 63 args).run Tryz.prog w = .ok (.enter 63 args) w := enters_of Tryz.func63 (by kernel_rfl) rfl
  by_cases htop : n = 2139095040
  · subst htop
    have hq := fun w => f_quo 1065353216 0 2139095040 w (by decide +kernel)
    go_enter Tryz.func62, Tryz.ntmps62
    go_wp2_with fail
    go_ret
    exact ⟨rfl, rfl⟩
  · have hz : ¬ (2139095040 : Int) ≤ (n : Int) := by omega
    have c40 := at_s n (by omega) w
    have hup : up n ≤ 254 := by unfold up; split <;> omega
    have hae : Aside (atE n = (up n : Int) - 149) := rfl
    have hsg := sg_lt n
    obtain ⟨K, hK⟩ : ∃ K : Nat, Aside (K = 1074) := ⟨1074, rfl⟩
    have hof := c_of (sg n) K hsg hK.out
    have hto : Aside (∀ c, c = 925 → ∀ w, (convert 106 32 (.float .f64 (dw (sg n) (up n + c)))).run Tryz.prog w = .ok (.float .f32 n) w) := fun c hc w => c_to n c (by omega) hc w
    obtain ⟨ae, hae2⟩ : ∃ q, Aside (q = atE n) := ⟨_, rfl⟩
    have hae3 : ae = (up n : Int) - 149 := by rw [hae2.out]; exact hae.out
    rw [← hae2.out] at c40
    obtain ⟨u, hu⟩ : ∃ u, Aside (u = up n) := ⟨_, rfl⟩
    rw [← hu.out] at hae3 hto hup
    have hb1 : -149 ≤ ae := by omega
    have hb2 : ae ≤ 105 := by omega
    have hto3 : Aside (∀ K j x : Nat, K = 1074 → (j : Int) = K + ae → x = dw (sg n) j → ∀ w, (convert 106 32 (.float .f64 x)).run Tryz.prog w = .ok (.float .f32 n) w) := (show ∀ K j x : Nat, K = 1074 → (j : Int) = K + ae → x = dw (sg n) j → ∀ w, (convert 106 32 (.float .f64 x)).run Tryz.prog w = .ok (.float .f32 n) w from fun K j x h1 h2 h3 w => by rw [h3, show j = u + (j - u) by omega]; exact hto.out (j - u) (by omega) w)
    clear hae hae2 hu hae3 hto
    have hsg2 : Aside (sg n < 16777216) := hsg
    clear hsg
    obtain ⟨x0, hx0⟩ : ∃ x, Aside (x = dw (sg n) K) := ⟨_, rfl⟩
    rw [← hx0.out] at hof
    go_enter Tryz.func62, Tryz.ntmps62
    go_wp2_with fail
    refine c40.mono ?_
    rintro en w3 ⟨rfl, rfl⟩
    clear c40
    go_wp2_with fail
    go_loopg [9, 10] (ae.toNat) (fun g1 v9 v10 wr => ∃ (i : Nat) (j x : Nat), v10 = .int .i64 i ∧ v9 = .float .f64 x ∧ Aside (x = dw (sg n) j) ∧ j = K + i ∧ i ≤ ae.toNat ∧ ae.toNat - i ≤ g1 ∧ wr = w3)
    case atStart => exact ⟨0, K, x0, by go_num, rfl, hx0, by omega, by omega, by omega, rfl⟩
    case round =>
      obtain ⟨i, j, x, rfl, rfl, hx, hj0, hi, hg1, rfl⟩ := hrel
      have hj : Aside (j = K + i) := hj0
      clear hj0
      by_cases hlt : i < ae.toNat
      · have hltz : (i : Int) < ae := by omega
        have ra : IntKind.i64.wrap ((i : Int) + 1) = ((i + 1 : Nat) : Int) := by rw [IntKind.wrap_i64]; omega
        obtain ⟨y, hy⟩ : ∃ y, Aside (y = dw (sg n) (j + 1)) := ⟨_, rfl⟩
        have hK2 : K = 1074 := hK.out
        have hm : ∀ w, _ := fun w => d_mul x 4611686018427387904 y w (by rw [hx.out, hy.out]; exact dbl_up hsg2.out (by have := hj.out; omega))
        clear hK2
        go_wp2_with fail
        go_roundg (ae.toNat - (i + 1))
        case measure => omega
        case rel => exact ⟨i + 1, j + 1, y, by go_num, rfl, hy, by have := hj.out; omega, by omega, by omega, rfl⟩
      · have hltz : ¬ (i : Int) < ae := by omega
        go_wp2_with fail
        go_loopg [9, 11] (-ae).toNat (fun g1 v9 v10 wr2 => ∃ (i : Int) (j x : Nat), v10 = .int .i64 i ∧ v9 = .float .f64 x ∧ Aside (x = dw (sg n) j) ∧ (j : Int) = K + ae - min i 0 ∧ -149 ≤ i ∧ i ≤ 200 ∧ (i ≤ 0 ∨ i = ae) ∧ (-i).toNat ≤ g1 ∧ wr2 = wr)
        case atStart => exact ⟨ae, j, x, by go_num, rfl, hx, by have := hj.out; omega, by omega, by omega, by omega, by omega, rfl⟩
        case round =>
          clear hx hj hltz hi
          obtain ⟨i, j, x, rfl, rfl, hx, hj0, hi1, hi2, hi3, hg1, rfl⟩ := hrel
          have hj : Aside ((j : Int) = K + ae - min i 0) := hj0
          clear hj0
          by_cases hlt : i < 0
          · have ra : IntKind.i64.wrap (i + 1) = i + 1 := by rw [IntKind.wrap_i64]; omega
            have hK2 : K = 1074 := hK.out
            obtain ⟨k, hk⟩ : ∃ k, j = k + 1 := ⟨j - 1, by have := hj.out; omega⟩
            have hj2 : Aside ((k : Int) = K + ae - min (i + 1) 0) := (show (k : Int) = K + ae - min (i + 1) 0 by have := hj.out; omega)
            obtain ⟨y, hy⟩ : ∃ y, Aside (y = dw (sg n) k) := ⟨_, rfl⟩
            have hm : ∀ w, _ := fun w => d_quo x 4611686018427387904 y w (by rw [hx.out, hy.out, hk]; exact dbl_down hsg2.out (by have := hj.out; omega))
            clear hK2 hk
            go_wp2_with fail
            go_roundg (-(i + 1)).toNat
            case measure => omega
            case rel => exact ⟨i + 1, k, y, by go_num, rfl, hy, hj2.out, by omega, by omega, by omega, by omega, rfl⟩
          · have hto2 := hto3.out K j x hK.out (by have := hj.out; omega) hx.out
            clear hto3
            go_wp2_with fail
            go_ret
            exact ⟨rfl, rfl⟩
end Go.Proofs.YtadngfgbefgocaaGreatDoor

namespace Go.Proofs.YtadngfgbefgocaaGreatDoor
open Go.Shelf Go.RowKit Go.Lib Go.Sort Go.Big Go.Flo
theorem f_lss (x y : Nat) (w : World) : (binOp .lss 32 (.float .f32 x) (.float .f32 y)).run Tryz.prog w = .ok (.bool (Ieee.single.order x y == some .lt)) w := by kernel_rfl
theorem f_neg (x : Nat) (w : World) : (Op.unary .neg (.float .f32 x)).run Tryz.prog w = .ok (.float .f32 (x ^^^ 2 ^ 31)) w := by kernel_rfl
set_option maxHeartbeats 4000000 in
set_option maxRecDepth 1000000 in
theorem isnan_s (x : Nat) (w : World) : Calls Tryz.prog 32 #[.float .f32 x] w fun en w' => en = .returned (.bool (!decide (x % 2147483648 ≤ 2139095040))) ∧ w' = w := by
  have h1 := f_neq x x
  have h2 := Flo.eq_self (x := x)
  rw [show (Ieee.single.order x x != some .eq) = !(Ieee.single.order x x == some .eq) from rfl, h2] at h1
  clear h2
  generalize decide (x % 2147483648 ≤ 2139095040) = b at h1 ⊢
  go_enter Tryz.func32, Tryz.ntmps32
  go_wp2_with fail
  go_ret
  exact ⟨rfl, rfl⟩
set_option maxHeartbeats 4000000 in
set_option maxRecDepth 1000000 in
theorem below_s (x : Nat) (hx : x < 4294967296) (hn : x % 2147483648 ≤ 2139095040) (w : World) : Calls Tryz.prog 60 #[.float .f32 x] w fun en w' => en = .returned (.bool (decide (2147483648 ≤ x))) ∧ w' = w := by
  have h1 := f_lss x 0
  rw [lt_zero hx] at h1
  have h2 := f_eql x 0
  rw [eq_zero hx] at h2
  by_cases c1 : 2147483648 < x
  · rw [decide_eq_true (⟨c1, by omega⟩ : 2147483648 < x ∧ x ≤ 4286578688)] at h1
    rw [decide_eq_true (by omega : 2147483648 ≤ x)]
    clear h2 hn hx
    go_enter Tryz.func60, Tryz.ntmps60
    go_wp2_with fail
    go_ret
    exact ⟨rfl, rfl⟩
  · rw [decide_eq_false (by omega)] at h1
    by_cases c2 : x = 0
    · subst c2
      rw [decide_eq_true (by omega)] at h2
      have hq := fun w => f_quo 1065353216 0 2139095040 w (by decide +kernel)
      have h3 := f_lss 2139095040 0
      rw [show (Ieee.single.order 2139095040 0 == some .lt) = false by decide +kernel] at h3
      rw [decide_eq_false (by omega)]
      clear hn hx
      go_enter Tryz.func60, Tryz.ntmps60
      go_wp2_with fail
      go_ret
      exact ⟨rfl, rfl⟩
    · by_cases c3 : x = 2147483648
      · subst c3
        rw [decide_eq_true (by omega)] at h2
        have hq := fun w => f_quo 1065353216 2147483648 4286578688 w (by decide +kernel)
        have h3 := f_lss 4286578688 0
        rw [show (Ieee.single.order 4286578688 0 == some .lt) = true by decide +kernel] at h3
        rw [decide_eq_true (by omega)]
        clear hn hx
        go_enter Tryz.func60, Tryz.ntmps60
        go_wp2_with fail
        go_ret
        exact ⟨rfl, rfl⟩
      · rw [decide_eq_false (by omega)] at h2
        rw [decide_eq_false (by omega)]
        clear hn hx
        go_enter Tryz.func60, Tryz.ntmps60
        go_wp2_with fail
        go_ret
        exact ⟨rfl, rfl⟩
set_option maxHeartbeats 8000000 in
set_option maxRecDepth 1000000 in
theorem number_f (x : Nat) (hx : x < 4294967296) (hn : x % 2147483648 ≤ 2139095040) (w : World) : Calls Tryz.prog 61 #[.float .f32 x] w fun en w' => en = .returned (.int .u32 (x % 2147483648 : Nat)) ∧ w' = w := by
  have mixed := mixed
  have e39 : ∀ args w, (callFunc 62 args).run Tryz.prog w = .ok (.enter 62 args) w := enters_of Tryz.func62 (by kernel_rfl) rfl
  have h1 := f_lss x 0
  rw [lt_zero hx] at h1
  have h2 := f_neg x
  obtain ⟨z, hz⟩ : ∃ z, Aside (z = x % 2147483648) := ⟨_, rfl⟩
  rw [← hz.out] at hn ⊢
  have loop : Aside (∀ y, y = z ∨ (y = 2147483648 ∧ z = 0) → ∀ k : Nat, k ≤ 2139095040 → ∀ w, (binOp .leq 32 (.float .f32 k) (.float .f32 y)).run Tryz.prog w = .ok (.bool (decide (k ≤ z))) w) := (show ∀ y, y = z ∨ (y = 2147483648 ∧ z = 0) → ∀ k : Nat, k ≤ 2139095040 → ∀ w, (binOp .leq 32 (.float .f32 k) (.float .f32 y)).run Tryz.prog w = .ok (.bool (decide (k ≤ z))) w from fun y hy k hk w => by
    rw [f_leq, leq_num hk (by omega), show y % 2147483648 = z by omega])
  by_cases c1 : 2147483648 < x
  · have hb : 2147483648 < x ∧ x ≤ 4286578688 := ⟨c1, by have := hz.out; omega⟩
    rw [decide_eq_true hb] at h1
    rw [flip (by omega) hx, show x - 2147483648 = z by have := hz.out; omega] at h2
    have LP := (show Aside (∀ k : Nat, k ≤ 2139095040 → ∀ w, (binOp .leq 32 (.float .f32 k) (.float .f32 z)).run Tryz.prog w = .ok (.bool (decide (k ≤ z))) w) from loop.out z (.inl rfl))
    clear loop hb
    go_enter Tryz.func61, Tryz.ntmps61
    go_wp2_with fail
    go_loopg [3, 4] 2139095041 (fun g1 vl vh wr => ∃ (low high : Nat), vl = .int .u32 low ∧ vh = .int .u32 high ∧ low < high ∧ high ≤ 2139095041 ∧ high - low ≤ g1 ∧ low ≤ z ∧ z < high ∧ wr = w)
    case atStart => exact ⟨0, 2139095041, by go_num, by go_num, by omega, by omega, by omega, by omega, by omega, rfl⟩
    case round =>
      obtain ⟨low, high, rfl, rfl, hlh, hh, hg1, hz1, hz2, rfl⟩ := hrel
      have r1 : IntKind.u32.wrap ((high : Int) - (low : Int)) = (high : Int) - (low : Int) := by rw [IntKind.wrap_u32]; omega
      by_cases hgt : 1 < high - low
      · have hzz : (1 : Int) < (high : Int) - (low : Int) := by omega
        obtain ⟨mid, hmid⟩ : ∃ q, Aside (q = low + (high - low) / 2) := ⟨_, rfl⟩
        have hm1 : low < mid := by rw [hmid.out]; omega
        have hm2 : mid < high := by rw [hmid.out]; omega
        have r2 : IntKind.u32.wrap ((low : Int) + ((high : Int) - (low : Int)) / 2) = (mid : Int) := by rw [IntKind.wrap_u32]; rw [hmid.out]; omega
        have c39 := float_s mid (by omega) wr
        have hle := LP.out mid (by omega)
        by_cases hm : mid ≤ z
        · rw [decide_eq_true hm] at hle
          go_wp2_with fail
          refine c39.mono ?_
          rintro en w3 ⟨rfl, rfl⟩
          clear c39
          go_wp2_with fail
          go_roundg (high - mid)
          case measure => omega
          case rel => exact ⟨mid, high, rfl, rfl, hm2, by omega, by omega, by omega, by omega, rfl⟩
        · rw [decide_eq_false hm] at hle
          go_wp2_with fail
          refine c39.mono ?_
          rintro en w3 ⟨rfl, rfl⟩
          clear c39
          go_wp2_with fail
          go_roundg (mid - low)
          case measure => omega
          case rel => exact ⟨low, mid, rfl, rfl, hm1, by omega, by omega, by omega, by omega, rfl⟩
      · have hzz : ¬ (1 : Int) < (high : Int) - (low : Int) := by omega
        have hh1 : low = z := by omega
        subst hh1
        go_wp2_with fail
        go_ret
        exact ⟨rfl, rfl⟩
  · have hb : ¬ (2147483648 < x ∧ x ≤ 4286578688) := fun h => c1 h.1
    rw [decide_eq_false hb] at h1
    have LP := (show Aside (∀ k : Nat, k ≤ 2139095040 → ∀ w, (binOp .leq 32 (.float .f32 k) (.float .f32 x)).run Tryz.prog w = .ok (.bool (decide (k ≤ z))) w) from loop.out x (by have := hz.out; omega))
    clear loop hb h2
    go_enter Tryz.func61, Tryz.ntmps61
    go_wp2_with fail
    go_loopg [3, 4] 2139095041 (fun g1 vl vh wr => ∃ (low high : Nat), vl = .int .u32 low ∧ vh = .int .u32 high ∧ low < high ∧ high ≤ 2139095041 ∧ high - low ≤ g1 ∧ low ≤ z ∧ z < high ∧ wr = w)
    case atStart => exact ⟨0, 2139095041, by go_num, by go_num, by omega, by omega, by omega, by omega, by omega, rfl⟩
    case round =>
      obtain ⟨low, high, rfl, rfl, hlh, hh, hg1, hz1, hz2, rfl⟩ := hrel
      have r1 : IntKind.u32.wrap ((high : Int) - (low : Int)) = (high : Int) - (low : Int) := by rw [IntKind.wrap_u32]; omega
      by_cases hgt : 1 < high - low
      · have hzz : (1 : Int) < (high : Int) - (low : Int) := by omega
        obtain ⟨mid, hmid⟩ : ∃ q, Aside (q = low + (high - low) / 2) := ⟨_, rfl⟩
        have hm1 : low < mid := by rw [hmid.out]; omega
        have hm2 : mid < high := by rw [hmid.out]; omega
        have r2 : IntKind.u32.wrap ((low : Int) + ((high : Int) - (low : Int)) / 2) = (mid : Int) := by rw [IntKind.wrap_u32]; rw [hmid.out]; omega
        have c39 := float_s mid (by omega) wr
        have hle := LP.out mid (by omega)
        by_cases hm : mid ≤ z
        · rw [decide_eq_true hm] at hle
          go_wp2_with fail
          refine c39.mono ?_
          rintro en w3 ⟨rfl, rfl⟩
          clear c39
          go_wp2_with fail
          go_roundg (high - mid)
          case measure => omega
          case rel => exact ⟨mid, high, rfl, rfl, hm2, by omega, by omega, by omega, by omega, rfl⟩
        · rw [decide_eq_false hm] at hle
          go_wp2_with fail
          refine c39.mono ?_
          rintro en w3 ⟨rfl, rfl⟩
          clear c39
          go_wp2_with fail
          go_roundg (mid - low)
          case measure => omega
          case rel => exact ⟨low, mid, rfl, rfl, hm1, by omega, by omega, by omega, by omega, rfl⟩
      · have hzz : ¬ (1 : Int) < (high : Int) - (low : Int) := by omega
        have hh1 : low = z := by omega
        subst hh1
        go_wp2_with fail
        go_ret
        exact ⟨rfl, rfl⟩
end Go.Proofs.YtadngfgbefgocaaGreatDoor

namespace Go.Proofs.YtadngfgbefgocaaGreatDoor
open Go.Shelf Go.RowKit Go.Lib Go.Sort Go.Big Go.Flo
set_option maxHeartbeats 4000000 in
set_option maxRecDepth 1000000 in
theorem key_r (x : Nat) (hx : x < 4294967296) (w : World) :
    Calls Tryz.prog 40 #[.float .f32 x] w fun e w' => e = .returned (.int .u32 (keyN x)) ∧ w' = w := by
  have e27 : ∀ args w, (callFunc 32 args).run Tryz.prog w = .ok (.enter 32 args) w := enters_of Tryz.func32 (by kernel_rfl) rfl
  have e37 : ∀ args w, (callFunc 60 args).run Tryz.prog w = .ok (.enter 60 args) w := enters_of Tryz.func60 (by kernel_rfl) rfl
  have e38 : ∀ args w, (callFunc 61 args).run Tryz.prog w = .ok (.enter 61 args) w := enters_of Tryz.func61 (by kernel_rfl) rfl
  have hk : Aside (keyN x = if (!(Ieee.single.order x x == some .eq)) = true then 4290772992 else if x < 2147483648 then x + 2147483648 else 4294967295 - x) := rfl
  rw [Flo.eq_self] at hk
  have c27 := isnan_s x w
  by_cases hn : x % 2147483648 ≤ 2139095040
  · rw [decide_eq_true hn] at c27 hk
    have c38 := number_f x hx hn w
    have c37 := below_s x hx hn w
    by_cases hs : 2147483648 ≤ x
    · rw [decide_eq_true hs] at c37
      have hk2 : Aside (keyN x = 4294967295 - x) := by show _ = _; rw [hk.out, if_neg (by decide), if_neg (by omega)]
      obtain ⟨z, hz⟩ : ∃ z, z = x % 2147483648 := ⟨_, rfl⟩
      have ra : IntKind.u32.wrap (2147483647 - (z : Int)) = ((4294967295 - x : Nat) : Int) := by rw [IntKind.wrap_u32]; omega
      rw [← hz] at c38
      clear hk hz hn hs
      go_enter Tryz.func40, Tryz.ntmps40
      go_wp2_with fail
      refine c27.mono ?_
      rintro en w1 ⟨rfl, rfl⟩
      clear c27
      go_wp2_with fail
      refine c38.mono ?_
      rintro en w1 ⟨rfl, rfl⟩
      clear c38
      go_wp2_with fail
      refine c37.mono ?_
      rintro en w1 ⟨rfl, rfl⟩
      clear c37
      go_wp2_with fail
      go_ret
      exact ⟨by rw [hk2.out]; rfl, rfl⟩
    · rw [decide_eq_false hs] at c37
      have hk2 : Aside (keyN x = x + 2147483648) := by show _ = _; rw [hk.out, if_neg (by decide), if_pos (by omega)]
      obtain ⟨z, hz⟩ : ∃ z, z = x % 2147483648 := ⟨_, rfl⟩
      have ra : IntKind.u32.wrap (2147483648 + (z : Int)) = ((x + 2147483648 : Nat) : Int) := by rw [IntKind.wrap_u32]; omega
      rw [← hz] at c38
      clear hk hz hn hs
      go_enter Tryz.func40, Tryz.ntmps40
      go_wp2_with fail
      refine c27.mono ?_
      rintro en w1 ⟨rfl, rfl⟩
      clear c27
      go_wp2_with fail
      refine c38.mono ?_
      rintro en w1 ⟨rfl, rfl⟩
      clear c38
      go_wp2_with fail
      refine c37.mono ?_
      rintro en w1 ⟨rfl, rfl⟩
      clear c37
      go_wp2_with fail
      go_ret
      exact ⟨by rw [hk2.out]; rfl, rfl⟩
  · rw [decide_eq_false hn] at c27 hk
    have hk2 : Aside (keyN x = 4290772992) := by show _ = _; rw [hk.out, if_pos (by decide)]
    clear hk
    go_enter Tryz.func40, Tryz.ntmps40
    go_wp2_with fail
    refine c27.mono ?_
    rintro en w1 ⟨rfl, rfl⟩
    clear c27
    go_wp2_with fail
    go_ret
    exact ⟨by rw [hk2.out]; rfl, rfl⟩
theorem keyN_lt (x : Nat) (hx : x < 4294967296) : keyN x < 4294967296 := by
  unfold keyN
  split
  · omega
  · split <;> omega
set_option maxHeartbeats 4000000 in
set_option maxRecDepth 1000000 in
theorem compare_r (x y : Nat) (hx : x < 4294967296) (hy : y < 4294967296) (w : World) :
    Calls Tryz.prog 25 #[.float .f32 x, .float .f32 y] w fun e w' => e = .returned (.int .i64 (cmpN x y)) ∧ w' = w := by
  have e35 : ∀ args w, (callFunc 40 args).run Tryz.prog w = .ok (.enter 40 args) w := enters_of Tryz.func40 (by kernel_rfl) rfl
  have ck : ∀ (v : Nat) (hv : v < 4294967296) (w : World), Calls Tryz.prog 40 #[.float .f32 v] w fun e w' => e = .returned (.int .u32 (keyN v)) ∧ w' = w := key_r
  have hk : Aside (cmpN x y = if keyN x < keyN y then -1 else if keyN y < keyN x then 1 else 0) := rfl
  obtain ⟨a, ha⟩ : ∃ a, a = keyN x := ⟨_, rfl⟩
  obtain ⟨b, hb⟩ : ∃ a, a = keyN y := ⟨_, rfl⟩
  have c1 := ck x hx w
  have c2 := ck y hy w
  rw [← ha] at c1 hk
  rw [← hb] at c2 hk
  clear ck ha hb
  go_enter Tryz.func25, Tryz.ntmps25
  go_wp2_with fail
  refine c1.mono ?_
  rintro e w1 ⟨rfl, rfl⟩
  go_wp2_with fail
  refine c2.mono ?_
  rintro e w2 ⟨rfl, rfl⟩
  clear c1 c2
  by_cases q1 : a < b
  · have z1 : (a : Int) < (b : Int) := by omega
    go_wp2_with fail
    go_ret
    exact ⟨by rw [hk.out, if_pos q1]; rfl, rfl⟩
  · have z1 : ¬ (a : Int) < (b : Int) := by omega
    by_cases q2 : b < a
    · have z2 : (b : Int) < (a : Int) := by omega
      go_wp2_with fail
      go_ret
      exact ⟨by rw [hk.out, if_neg q1, if_pos q2]; rfl, rfl⟩
    · have z2 : ¬ (b : Int) < (a : Int) := by omega
      go_wp2_with fail
      go_ret
      exact ⟨by rw [hk.out, if_neg q1, if_neg q2]; rfl, rfl⟩

set_option maxHeartbeats 4000000 in
set_option maxRecDepth 1000000 in
theorem finite_s (x : Nat) (hx : x < 4294967296) (w : World) : Calls Tryz.prog 31 #[.float .f32 x] w fun en w' => en = .returned (.bool (decide (x % 2147483648 < 2139095040))) ∧ ∃ q, w' = w.drewN q := by
  by_cases h2 : x % 2147483648 < 2139095040
  · rw [decide_eq_true h2]
    have hs := fun w => f_sub x x 0 w (sub_self_fin hx h2)
    have hz := f_eql 0 0
    rw [show (Ieee.single.order 0 0 == some .eq) = true by decide +kernel] at hz
    clear h2
    go_enter Tryz.func31, Tryz.ntmps31
    go_wp2_with fail
    go_ret
    exact ⟨rfl, 0, rfl⟩
  · rw [decide_eq_false h2]
    obtain ⟨b, hb, hs⟩ := f_sub_nan x x w (sub_self_not h2)
    have hz := f_eql b 0
    rw [show (Ieee.single.order b 0 == some .eq) = false by rw [order_nan hb]; rfl] at hz
    clear h2 hb
    go_enter Tryz.func31, Tryz.ntmps31
    go_wp2_with fail
    go_ret
    exact ⟨rfl, 1, rfl⟩
set_option maxHeartbeats 4000000 in
set_option maxRecDepth 1000000 in
theorem worth_r (x : Nat) (hx : x < 4294967296) (w : World) :
    Calls Tryz.prog 19 #[.float .f32 x] w fun e w' => e = .returned (.float .f32 (worthN x)) ∧ ∃ q, w' = w.drewN q := by
  have e26 : ∀ args w, (callFunc 31 args).run Tryz.prog w = .ok (.enter 31 args) w := enters_of Tryz.func31 (by kernel_rfl) rfl
  have hg := f_gtr x 0
  rw [gt_zero hx] at hg
  have he : Aside (worthN x = if 0 < x ∧ x < 2139095040 then x else 0) := rfl
  have c26 := finite_s x hx w
  by_cases h1 : x % 2147483648 < 2139095040
  · rw [decide_eq_true h1] at c26
    by_cases h2 : 0 < x ∧ x ≤ 2139095040
    · rw [decide_eq_true h2] at hg
      have he2 : Aside (worthN x = x) := by show _ = _; rw [he.out, if_pos (by omega)]
      clear he h2 h1
      go_enter Tryz.func19, Tryz.ntmps19
      go_wp2_with fail
      refine c26.mono ?_
      rintro en w1 ⟨rfl, q, rfl⟩
      clear c26
      go_wp2_with fail
      go_ret
      exact ⟨by rw [he2.out]; rfl, q, rfl⟩
    · rw [decide_eq_false h2] at hg
      have he2 : Aside (worthN x = 0) := by show _ = _; rw [he.out, if_neg (by omega)]
      clear he h2 h1
      go_enter Tryz.func19, Tryz.ntmps19
      go_wp2_with fail
      refine c26.mono ?_
      rintro en w1 ⟨rfl, q, rfl⟩
      clear c26
      go_wp2_with fail
      go_ret
      exact ⟨by rw [he2.out]; rfl, q, rfl⟩
  · rw [decide_eq_false h1] at c26
    have he2 : Aside (worthN x = 0) := by show _ = _; rw [he.out, if_neg (by omega)]
    clear he h1 hg
    go_enter Tryz.func19, Tryz.ntmps19
    go_wp2_with fail
    refine c26.mono ?_
    rintro en w1 ⟨rfl, q, rfl⟩
    clear c26
    go_wp2_with fail
    go_ret
    exact ⟨by rw [he2.out]; rfl, q, rfl⟩
end Go.Proofs.YtadngfgbefgocaaGreatDoor

namespace Go.Proofs.YtadngfgbefgocaaGreatDoor
open Go.Shelf Go.RowKit Go.Lib Go.Sort Go.Big Go.Flo
set_option maxHeartbeats 8000000 in
set_option maxRecDepth 1000000 in
theorem plus_top (b : Nat) (hb : b < 2139095040) (w : World) :
    Calls Tryz.prog 36 #[.float .f32 2139095040, .float .f32 b] w fun en w' => en = .returned (.float .f32 2139095040) ∧ Below w.heap.size w w' := by
  have mixed := mixed
  have e26 : ∀ args w, (callFunc 31 args).run Tryz.prog w = .ok (.enter 31 args) w := enters_of Tryz.func31 (by kernel_rfl) rfl
  have cA : ∀ w, Calls Tryz.prog 31 #[.float .f32 2139095040] w fun en w' => en = .returned (.bool false) ∧ ∃ q, w' = w.drewN q := fun w => finite_s 2139095040 (by omega) w
  have cB : ∀ w, Calls Tryz.prog 31 #[.float .f32 b] w fun en w' => en = .returned (.bool true) ∧ ∃ q, w' = w.drewN q := fun w => by
    have := finite_s b (by omega) w
    rw [decide_eq_true (by omega)] at this
    exact this
  go_enter Tryz.func36, Tryz.ntmps36
  go_wp2_with fail
  refine (cA _).mono ?_
  rintro en w1 ⟨rfl, q1, rfl⟩
  have B1 : Aside (Below w.heap.size w (w.drewN q1)) := (show Below w.heap.size w (w.drewN q1) from ⟨rfl, rfl, rfl, Nat.le_refl _, fun _ _ => rfl⟩)
  generalize w.drewN q1 = w2 at B1 ⊢
  go_wp2_with fail
  refine (cA _).mono ?_
  rintro en w1 ⟨rfl, q1, rfl⟩
  have B2 : Aside (Below w.heap.size w (w2.drewN q1)) := B1.out.trans ⟨rfl, rfl, rfl, Nat.le_refl _, fun _ _ => rfl⟩
  generalize w2.drewN q1 = w3 at B2 ⊢
  go_wp2_with fail
  refine (cB _).mono ?_
  rintro en w1 ⟨rfl, q1, rfl⟩
  have B3 : Aside (Below w.heap.size w (w3.drewN q1)) := B2.out.trans ⟨rfl, rfl, rfl, Nat.le_refl _, fun _ _ => rfl⟩
  generalize w3.drewN q1 = w4 at B3 ⊢
  go_wp2_with fail
  refine (cA _).mono ?_
  rintro en w1 ⟨rfl, q1, rfl⟩
  have B4 : Aside (Below w.heap.size w (w4.drewN q1)) := B3.out.trans ⟨rfl, rfl, rfl, Nat.le_refl _, fun _ _ => rfl⟩
  generalize w4.drewN q1 = w5 at B4 ⊢
  go_wp2_with fail
  go_ret
  exact ⟨rfl, B4.out⟩
set_option maxHeartbeats 16000000 in
set_option maxRecDepth 1000000 in
theorem plus_fin (a b : Nat) (ha : a < 2139095040) (hb : b < 2139095040) (w : World) :
    Calls Tryz.prog 36 #[.float .f32 a, .float .f32 b] w fun en w' => en = .returned (.float .f32 (plusN a b)) ∧ Below w.heap.size w w' := by
  have mixed := mixed
  have t24 := Tryz.underlying24
  have t3 := Tryz.underlying3
  have t54 := Tryz.underlying114
  have e26 : ∀ args w, (callFunc 31 args).run Tryz.prog w = .ok (.enter 31 args) w := enters_of Tryz.func31 (by kernel_rfl) rfl
  have e37 : ∀ args w, (callFunc 60 args).run Tryz.prog w = .ok (.enter 60 args) w := enters_of Tryz.func60 (by kernel_rfl) rfl
  have e38 : ∀ args w, (callFunc 61 args).run Tryz.prog w = .ok (.enter 61 args) w := enters_of Tryz.func61 (by kernel_rfl) rfl
  have e39 : ∀ args w, (callFunc 62 args).run Tryz.prog w = .ok (.enter 62 args) w := enters_of Tryz.func62 (by kernel_rfl) rfl
  have e40 : ∀ args w, (callFunc 63 args).run Tryz.prog w = .ok (.enter 63 args) w := enters_of Tryz.func63 (by kernel_rfl) rfl
  have e41 : ∀ args w, (callFunc 64 args).run Tryz.prog w = .ok (.enter 64 args) w := enters_of Tryz.func64 (by kernel_rfl) rfl
  have e44 : ∀ args w, (callFunc 67 args).run Tryz.prog w = .ok (.enter 67 args) w := enters_of Tryz.func67 (by kernel_rfl) rfl
  have e45 : ∀ args w, (callFunc 68 args).run Tryz.prog w = .ok (.enter 68 args) w := enters_of Tryz.func68 (by kernel_rfl) rfl
  have e46 : ∀ args w, (callFunc 69 args).run Tryz.prog w = .ok (.enter 69 args) w := enters_of Tryz.func69 (by kernel_rfl) rfl
  have C26 : Aside (∀ x, x < 2139095040 → ∀ w, Calls Tryz.prog 31 #[.float .f32 x] w fun en w' => en = .returned (.bool true) ∧ ∃ q, w' = w.drewN q) := (show ∀ x, x < 2139095040 → ∀ w, Calls Tryz.prog 31 #[.float .f32 x] w fun en w' => en = .returned (.bool true) ∧ ∃ q, w' = w.drewN q from fun x hx w => by
    have := finite_s x (by omega) w
    rw [decide_eq_true (by omega)] at this
    exact this)
  have C37 : Aside (∀ x, x < 2139095040 → ∀ w, Calls Tryz.prog 60 #[.float .f32 x] w fun en w' => en = .returned (.bool false) ∧ w' = w) := (show ∀ x, x < 2139095040 → ∀ w, Calls Tryz.prog 60 #[.float .f32 x] w fun en w' => en = .returned (.bool false) ∧ w' = w from fun x hx w => by
    have := below_s x (by omega) (by omega) w
    rw [decide_eq_false (by omega)] at this
    exact this)
  have C38 : Aside (∀ x : Nat, x < 2139095040 → ∀ w, Calls Tryz.prog 61 #[.float .f32 x] w fun en w' => en = .returned (.int .u32 x) ∧ w' = w) := (show ∀ x : Nat, x < 2139095040 → ∀ w, Calls Tryz.prog 61 #[.float .f32 x] w fun en w' => en = .returned (.int .u32 x) ∧ w' = w from fun x hx w => by
    have := number_f x (by omega) (by omega) w
    rw [Nat.mod_eq_of_lt (by omega)] at this
    exact this)
  have C40 : Aside (∀ x : Nat, x < 2139095040 → ∀ w, Calls Tryz.prog 63 #[.int .u32 x] w fun en w' => en = .returned (.tuple #[.int .u64 (sg x), .int .i64 (atE x)]) ∧ w' = w) := (show ∀ x : Nat, x < 2139095040 → ∀ w, Calls Tryz.prog 63 #[.int .u32 x] w fun en w' => en = .returned (.tuple #[.int .u64 (sg x), .int .i64 (atE x)]) ∧ w' = w from fun x hx w => at_s x (by omega) w)
  have c26a := C26.out a ha
  have c26b := C26.out b hb
  have c37a := C37.out a ha
  have c37b := C37.out b hb
  have c38a := C38.out a ha
  have c38b := C38.out b hb
  have c40a := C40.out a ha
  have c40b := C40.out b hb
  clear C26 C37 C38 C40
  obtain ⟨ea, hea⟩ : ∃ q, Aside (q = atE a) := ⟨_, rfl⟩
  obtain ⟨eb, heb⟩ : ∃ q, Aside (q = atE b) := ⟨_, rfl⟩
  obtain ⟨ma, hma⟩ : ∃ q, Aside (q = sg a) := ⟨_, rfl⟩
  obtain ⟨mb, hmb⟩ : ∃ q, Aside (q = sg b) := ⟨_, rfl⟩
  rw [← hea.out, ← hma.out] at c40a
  rw [← heb.out, ← hmb.out] at c40b
  have hua : up a ≤ 254 := by unfold up; split <;> omega
  have hub : up b ≤ 254 := by unfold up; split <;> omega
  have sa : ma < 16777216 := by rw [hma.out]; exact sg_lt a
  have sb : mb < 16777216 := by rw [hmb.out]; exact sg_lt b
  have ra : IntKind.i64.wrap (ea + 149) = ((up a : Nat) : Int) := by rw [IntKind.wrap_i64]; have := hea.out; unfold atE at this; omega
  have rb : IntKind.i64.wrap (eb + 149) = ((up b : Nat) : Int) := by rw [IntKind.wrap_i64]; have := heb.out; unfold atE at this; omega
  obtain ⟨ua, hua2⟩ : ∃ q, Aside (q = up a) := ⟨_, rfl⟩
  obtain ⟨ub, hub2⟩ : ∃ q, Aside (q = up b) := ⟨_, rfl⟩
  rw [← hua2.out] at ra hua
  rw [← hub2.out] at rb hub
  have va : Aside (ma * 2 ^ ua = Flo.val 23 a) := by show _ = _; rw [hma.out, hua2.out, val_sg]
  have vb : Aside (mb * 2 ^ ub = Flo.val 23 b) := by show _ = _; rw [hmb.out, hub2.out, val_sg]
  have PW : Aside (∀ (v : Value) (m u : Nat) (w : World), Digs w v (dig m) → m < 16777216 → u ≤ 254 → Calls Tryz.prog 68 #[v, .int .i64 2, .int .i64 u] w fun e w' => ∃ v', e = .returned v' ∧ Digs w' v' (dig (m * 2 ^ u)) ∧ Below w.heap.size w w') := (show ∀ (v : Value) (m u : Nat) (w : World), Digs w v (dig m) → m < 16777216 → u ≤ 254 → Calls Tryz.prog 68 #[v, .int .i64 2, .int .i64 u] w fun e w' => ∃ v', e = .returned v' ∧ Digs w' v' (dig (m * 2 ^ u)) ∧ Below w.heap.size w w' from fun v m u w h1 h2 h3 =>
    powers_s v m u w h1 (Nat.lt_of_lt_of_le h2 (by decide +kernel)) (by omega) (by omega))
  go_enter Tryz.func36, Tryz.ntmps36
  go_wp2_with fail
  refine (c26a _).mono ?_
  rintro en w1 ⟨rfl, q1, rfl⟩
  have B1 : Aside (Below w.heap.size w (w.drewN q1)) := (show Below w.heap.size w (w.drewN q1) from ⟨rfl, rfl, rfl, Nat.le_refl _, fun _ _ => rfl⟩)
  generalize w.drewN q1 = w2 at B1 ⊢
  go_wp2_with fail
  refine (c26b _).mono ?_
  rintro en w1 ⟨rfl, q1, rfl⟩
  have B2 : Aside (Below w.heap.size w (w2.drewN q1)) := B1.out.trans ⟨rfl, rfl, rfl, Nat.le_refl _, fun _ _ => rfl⟩
  generalize w2.drewN q1 = w3 at B2 ⊢
  clear c26a c26b B1
  go_wp2_with fail
  refine (c38a _).mono ?_
  rintro en w5 ⟨rfl, rfl⟩
  go_wp2_with fail
  refine (c40a _).mono ?_
  rintro en w6 ⟨rfl, rfl⟩
  clear c38a c40a
  go_wp2_with fail
  refine (c38b _).mono ?_
  rintro en w7 ⟨rfl, rfl⟩
  go_wp2_with fail
  refine (c40b _).mono ?_
  rintro en w8 ⟨rfl, rfl⟩
  clear c38b c40b
  have c44a := number_s ma (by omega) w8
  go_wp2_with fail
  refine c44a.mono ?_
  rintro en w9 ⟨v1, rfl, hD1, hb1⟩
  clear c44a
  have B3 : Aside (Below w.heap.size w w9) := B2.out.trans (hb1.mono B2.out.size)
  have c45a := PW.out v1 ma ua w9 hD1 sa hua
  clear hD1 hb1 B2
  go_wp2_with fail
  refine c45a.mono ?_
  rintro en w10 ⟨v2, rfl, hD2, hb2⟩
  clear c45a
  have B4 : Aside (Below w.heap.size w w10) := B3.out.trans (hb2.mono B3.out.size)
  have D2 : Aside (Digs w10 v2 (dig (Flo.val 23 a))) := by rw [va.out] at hD2; exact hD2
  clear hD2 hb2 B3
  have c44b := number_s mb (by omega) w10
  go_wp2_with fail
  refine c44b.mono ?_
  rintro en w11 ⟨v3, rfl, hD3, hb3⟩
  clear c44b
  have B5 : Aside (Below w.heap.size w w11) := B4.out.trans (hb3.mono B4.out.size)
  have D3 : Aside (Digs w11 v2 (dig (Flo.val 23 a))) := D2.out.below (Nat.le_refl _) hb3
  have c45b := PW.out v3 mb ub w11 hD3 sb hub
  clear hD3 hb3 B4 D2
  go_wp2_with fail
  refine c45b.mono ?_
  rintro en w12 ⟨v4, rfl, hD4, hb4⟩
  clear c45b
  have B6 : Aside (Below w.heap.size w w12) := B5.out.trans (hb4.mono B5.out.size)
  have D4 : Aside (Digs w12 v2 (dig (Flo.val 23 a))) := D3.out.below (Nat.le_refl _) hb4
  have D5 : Aside (Digs w12 v4 (dig (Flo.val 23 b))) := by rw [vb.out] at hD4; exact hD4
  clear hD4 hb4 B5 D3
  have l1 := val_lt9 ha
  have l2 := val_lt9 hb
  have c46 := sum_s v2 v4 _ _ w12 D4.out D5.out (Nat.le_trans (dig_len l1) (by decide)) (Nat.le_trans (dig_len l2) (by decide))
  have l3 : Aside (Flo.val 23 a + Flo.val 23 b < 1000000000 ^ 100) := two_le9 _ _ l1 l2
  have PE : Aside (nearV (Flo.val 23 a + Flo.val 23 b) (2 ^ 149) = plusN a b) := plus_eq ha hb
  have PZ : Aside (Flo.val 23 a + Flo.val 23 b = 0 → plusN a b = 0) := (show Flo.val 23 a + Flo.val 23 b = 0 → plusN a b = 0 from fun h => by
    rw [val_eq_zero (x := a) (by omega), val_eq_zero (x := b) (by omega), plusN_zero])
  obtain ⟨S, hS⟩ : ∃ q, Aside (q = Flo.val 23 a + Flo.val 23 b) := ⟨_, rfl⟩
  obtain ⟨T, hT⟩ : ∃ q, Aside (q = plusN a b) := ⟨_, rfl⟩
  rw [← hS.out] at c46 l3 PE PZ
  rw [← hT.out] at PE PZ
  have hTl : T ≤ 2139095040 := by rw [← PE.out]; exact Nat.min_le_right _ _
  clear l1 l2 hS va vb ra rb hua hub sa sb D4 D5
  go_wp2_with fail
  refine (c37a _).mono ?_
  rintro en w13 ⟨rfl, rfl⟩
  go_wp2_with fail
  refine (c37a _).mono ?_
  rintro en w14 ⟨rfl, rfl⟩
  go_wp2_with fail
  refine (c37b _).mono ?_
  rintro en w15 ⟨rfl, rfl⟩
  go_wp2_with fail
  refine c46.mono ?_
  rintro en w16 ⟨v5, rfl, hD6, hb6⟩
  clear c46
  have B7 : Aside (Below w.heap.size w w16) := B6.out.trans (hb6.mono B6.out.size)
  clear hb6 B6
  obtain ⟨az, cz, rfl, hlz, hdz⟩ := hD6
  have D6 : Aside (Digs w16 (.slice az (dig S).length cz) (dig S)) := ⟨az, cz, rfl, hlz, hdz⟩
  clear hlz hdz
  by_cases hz : S = 0
  · have hlen : (dig S).length = 0 := by rw [hz, dig_zero]; rfl
    rw [hlen] at D6 ⊢
    have hT0 : Aside (plusN a b = 0) := (show plusN a b = 0 by rw [← hT.out]; exact PZ.out hz)
    have c39 := float_s 0 (by omega)
    clear hlen hz PE PZ l3 D6
    go_wp2_with fail
    refine (c37a _).mono ?_
    rintro en w17 ⟨rfl, rfl⟩
    go_wp2_with fail
    refine (c39 _).mono ?_
    rintro en w18 ⟨rfl, rfl⟩
    go_wp2_with fail
    go_ret
    exact ⟨by rw [hT0.out]; rfl, B7.out⟩
  · have hpos : 0 < (dig S).length := by rw [dig_pos hz]; simp
    obtain ⟨nz, hnz⟩ : ∃ q, q = (dig S).length := ⟨_, rfl⟩
    rw [← hnz] at D6 hpos ⊢
    have hnz0 : ¬ nz = 0 := by omega
    have hnzi : ((nz : Int) == 0) = false := by simp; omega
    have c45 := powers_s (.slice (some ⟨w16.heap.size, 0, none⟩) 1 1) 1 149 (w16.alloc (.cells #[.int .i64 1] 3)) (digs_one w16) (by decide +kernel) (by omega) (by omega)
    rw [Nat.one_mul, show (149 : Int).toNat = 149 from rfl] at c45
    clear hz hnz hpos PZ c37a c37b
    go_wp2_with fail
    refine c45.mono ?_
    rintro en w17 ⟨v6, rfl, hD7, hb7⟩
    clear c45
    have hb8 : Below w16.heap.size w16 w17 := ((Below.refl w16.heap.size w16).alloc (Nat.le_refl _) _).trans (hb7.mono (by simp))
    have B8 : Aside (Below w.heap.size w w17) := B7.out.trans (hb8.mono B7.out.size)
    have D7 : Aside (Digs w17 (.slice az nz cz) (dig S)) := D6.out.below (Nat.le_refl _) hb8
    have c41 := nearest_s _ v6 S (2 ^ 149) w17 D7.out hD7 l3.out (by decide +kernel) (by decide +kernel)
    rw [PE.out] at c41
    have c39 := float_s T hTl
    obtain ⟨a7, c7, rfl, _, _⟩ := hD7
    generalize (dig (2 ^ 149)).length = n7 at c41 ⊢
    clear hb7 hb8 B7 D6 D7 PE l3
    go_wp2_with fail
    refine c41.mono ?_
    rintro en w18 ⟨rfl, hb9⟩
    clear c41
    have B9 : Aside (Below w.heap.size w w18) := B8.out.trans (hb9.mono B8.out.size)
    clear hb9 B8
    go_wp2_with fail
    refine (c39 _).mono ?_
    rintro en w19 ⟨rfl, rfl⟩
    go_wp2_with fail
    go_ret
    exact ⟨by rw [← hT.out]; rfl, B9.out⟩
end Go.Proofs.YtadngfgbefgocaaGreatDoor

namespace Go.Proofs.YtadngfgbefgocaaGreatDoor
open Go.Shelf Go.RowKit Go.Lib Go.Sort Go.Big Go.Flo
theorem c37up : Aside (∀ x, x ≤ 2139095040 → ∀ w, Calls Tryz.prog 60 #[.float .f32 x] w fun en w' => en = .returned (.bool false) ∧ w' = w) := (show ∀ x, x ≤ 2139095040 → ∀ w, Calls Tryz.prog 60 #[.float .f32 x] w fun en w' => en = .returned (.bool false) ∧ w' = w from fun x hx w => by
  have := below_s x (by omega) (by omega) w
  rw [decide_eq_false (by omega)] at this
  exact this)
theorem c38up : Aside (∀ x : Nat, x ≤ 2139095040 → ∀ w, Calls Tryz.prog 61 #[.float .f32 x] w fun en w' => en = .returned (.int .u32 x) ∧ w' = w) := (show ∀ x : Nat, x ≤ 2139095040 → ∀ w, Calls Tryz.prog 61 #[.float .f32 x] w fun en w' => en = .returned (.int .u32 x) ∧ w' = w from fun x hx w => by
  have := number_f x (by omega) (by omega) w
  rw [Nat.mod_eq_of_lt (by omega)] at this
  exact this)
set_option maxHeartbeats 8000000 in
set_option maxRecDepth 1000000 in
theorem over_top (x : Nat) (hx : x < 2139095040) (w : World) :
    Calls Tryz.prog 35 #[.float .f32 x, .float .f32 2139095040] w fun en w' => en = .returned (.float .f32 0) ∧ Below w.heap.size w w' := by
  have mixed := mixed
  have e37 : ∀ args w, (callFunc 60 args).run Tryz.prog w = .ok (.enter 60 args) w := enters_of Tryz.func60 (by kernel_rfl) rfl
  have e38 : ∀ args w, (callFunc 61 args).run Tryz.prog w = .ok (.enter 61 args) w := enters_of Tryz.func61 (by kernel_rfl) rfl
  have e39 : ∀ args w, (callFunc 62 args).run Tryz.prog w = .ok (.enter 62 args) w := enters_of Tryz.func62 (by kernel_rfl) rfl
  have c37a := c37up.out x (by omega)
  have c37b := c37up.out 2139095040 (by omega)
  have c38a := c38up.out x (by omega)
  have c38b := c38up.out 2139095040 (by omega)
  have c39 := float_s 0 (by omega)
  have hx1 : ((x : Int) == 2139095040) = false := by simp; omega
  go_enter Tryz.func35, Tryz.ntmps35
  go_wp2_with fail
  refine (c37a _).mono ?_
  rintro en w1 ⟨rfl, rfl⟩
  go_wp2_with fail
  refine (c37b _).mono ?_
  rintro en w2 ⟨rfl, rfl⟩
  go_wp2_with fail
  refine (c38a _).mono ?_
  rintro en w3 ⟨rfl, rfl⟩
  go_wp2_with fail
  refine (c38b _).mono ?_
  rintro en w4 ⟨rfl, rfl⟩
  by_cases h0 : x = 0
  · subst h0
    go_wp2_with fail
    refine (c39 _).mono ?_
    rintro en w5 ⟨rfl, rfl⟩
    go_wp2_with fail
    go_ret
    exact ⟨rfl, Below.refl _ _⟩
  · have hx0 : ((x : Int) == 0) = false := by simp; omega
    go_wp2_with fail
    refine (c39 _).mono ?_
    rintro en w5 ⟨rfl, rfl⟩
    go_wp2_with fail
    go_ret
    exact ⟨rfl, Below.refl _ _⟩
set_option maxHeartbeats 16000000 in
set_option maxRecDepth 1000000 in
theorem over_fin (x s : Nat) (hx : x ≤ s) (hs : s < 2139095040) (h0 : s ≠ 0) (w : World) :
    Calls Tryz.prog 35 #[.float .f32 x, .float .f32 s] w fun en w' => en = .returned (.float .f32 (shareN s x)) ∧ Below w.heap.size w w' := by
  have mixed := mixed
  have t24 := Tryz.underlying24
  have t3 := Tryz.underlying3
  have t54 := Tryz.underlying114
  have u54 := run_underlying t54
  have e37 : ∀ args w, (callFunc 60 args).run Tryz.prog w = .ok (.enter 60 args) w := enters_of Tryz.func60 (by kernel_rfl) rfl
  have e38 : ∀ args w, (callFunc 61 args).run Tryz.prog w = .ok (.enter 61 args) w := enters_of Tryz.func61 (by kernel_rfl) rfl
  have e39 : ∀ args w, (callFunc 62 args).run Tryz.prog w = .ok (.enter 62 args) w := enters_of Tryz.func62 (by kernel_rfl) rfl
  have e40 : ∀ args w, (callFunc 63 args).run Tryz.prog w = .ok (.enter 63 args) w := enters_of Tryz.func63 (by kernel_rfl) rfl
  have e41 : ∀ args w, (callFunc 64 args).run Tryz.prog w = .ok (.enter 64 args) w := enters_of Tryz.func64 (by kernel_rfl) rfl
  have e42 : ∀ args w, (callFunc 65 args).run Tryz.prog w = .ok (.enter 65 args) w := enters_of Tryz.func65 (by kernel_rfl) rfl
  have e43 : ∀ args w, (callFunc 66 args).run Tryz.prog w = .ok (.enter 66 args) w := enters_of Tryz.func66 (by kernel_rfl) rfl
  have e44 : ∀ args w, (callFunc 67 args).run Tryz.prog w = .ok (.enter 67 args) w := enters_of Tryz.func67 (by kernel_rfl) rfl
  have c37a := c37up.out x (by omega)
  have c37b := c37up.out s (by omega)
  have c38a := c38up.out x (by omega)
  have c38b := c38up.out s (by omega)
  have c40a := at_s x (by omega)
  have c40b := at_s s (by omega)
  have hx1 : ((x : Int) == 2139095040) = false := by simp; omega
  have hs1 : ((s : Int) == 2139095040) = false := by simp; omega
  have hs0 : ((s : Int) == 0) = false := by simp; omega
  obtain ⟨b0, hb0⟩ : ∃ b, ((x : Int) == 0) = b := ⟨_, rfl⟩
  have hS := ov_lt (x := x) (s := s) (by omega) hs
  have HE : Aside (nearV (ovA x s) (ovB x s * sg s) = shareN s x) := over_eq hx hs h0
  have HP : Aside (0 < ovB x s * sg s) := ovB_pos h0
  have HL : Aside (ovA x s < 1000000000 ^ 100 ∧ ovB x s < 1000000000 ^ 50 ∧ ovB x s * sg s < 1000000000 ^ 100) := hS
  have HA : Aside (ovA x s = sg x * 2 ^ (atE x - atE s).toNat) := rfl
  have HB : Aside (ovB x s = 2 ^ (-(atE x - atE s)).toNat) := rfl
  have sx := sg_lt x
  have ss := sg_lt s
  have ux : up x ≤ 254 := by unfold up; split <;> omega
  have us : up s ≤ 254 := by unfold up; split <;> omega
  have ax : -149 ≤ atE x ∧ atE x ≤ 105 := by unfold atE; omega
  have az : -149 ≤ atE s ∧ atE s ≤ 105 := by unfold atE; omega
  obtain ⟨A, hA⟩ : ∃ q, Aside (q = ovA x s) := ⟨_, rfl⟩
  obtain ⟨B, hB⟩ : ∃ q, Aside (q = ovB x s) := ⟨_, rfl⟩
  rw [← hA.out] at HE HL HA
  rw [← hB.out] at HE HP HL HB
  obtain ⟨ea, hea⟩ : ∃ q, Aside (q = atE x) := ⟨_, rfl⟩
  obtain ⟨eb, heb⟩ : ∃ q, Aside (q = atE s) := ⟨_, rfl⟩
  obtain ⟨ma, hma⟩ : ∃ q, Aside (q = sg x) := ⟨_, rfl⟩
  obtain ⟨mb, hmb⟩ : ∃ q, Aside (q = sg s) := ⟨_, rfl⟩
  rw [← hea.out, ← hma.out] at c40a
  rw [← heb.out, ← hmb.out] at c40b
  rw [← hea.out, ← heb.out] at HA HB
  rw [← hma.out] at HA sx
  rw [← hmb.out] at HE HP HL ss
  rw [← hea.out] at ax
  rw [← heb.out] at az
  have rd : IntKind.i64.wrap (ea - eb) = ea - eb := by rw [IntKind.wrap_i64]; omega
  have c42 := fun w => worthB_s ma (ea - eb) w (by omega) (by omega) (by omega)
  rw [← HA.out, ← HB.out] at c42
  obtain ⟨T, hT⟩ : ∃ q, Aside (q = shareN s x) := ⟨_, rfl⟩
  rw [← hT.out] at HE
  have hTl : T ≤ 2139095040 := by rw [← HE.out]; exact Nat.min_le_right _ _
  clear hS h0 hx ux us ax az
  go_enter Tryz.func35, Tryz.ntmps35
  go_wp2_with fail
  refine (c37a _).mono ?_
  rintro en w1 ⟨rfl, rfl⟩
  go_wp2_with fail
  refine (c37b _).mono ?_
  rintro en w2 ⟨rfl, rfl⟩
  go_wp2_with fail
  refine (c38a _).mono ?_
  rintro en w3 ⟨rfl, rfl⟩
  go_wp2_with fail
  refine (c38b _).mono ?_
  rintro en w4 ⟨rfl, rfl⟩
  clear c37a c37b c38a c38b
  cases b0
  all_goals
    go_wp2_with fail
    refine (c40a _).mono ?_
    rintro en w5 ⟨rfl, rfl⟩
    go_wp2_with fail
    refine (c40b _).mono ?_
    rintro en w6 ⟨rfl, rfl⟩
    clear c40a c40b
    go_wp2_with fail
    refine (c42 _).mono ?_
    rintro en w7 ⟨va, vb, rfl, hD1, hD2, hb1⟩
    clear c42
    obtain ⟨aa, ca, rfl, hla, hda⟩ := hD1
    obtain ⟨ab, cb, rfl, hlb, hdb⟩ := hD2
    have DA : Aside (Digs w7 (.slice aa (dig A).length ca) (dig A)) := ⟨aa, ca, rfl, hla, hda⟩
    have DB : Aside (Digs w7 (.slice ab (dig B).length cb) (dig B)) := ⟨ab, cb, rfl, hlb, hdb⟩
    clear hda hdb hla hlb
    obtain ⟨n1, hn1⟩ : ∃ q, q = (dig A).length := ⟨_, rfl⟩
    obtain ⟨n2, hn2⟩ : ∃ q, q = (dig B).length := ⟨_, rfl⟩
    rw [← hn1] at DA ⊢
    rw [← hn2] at DB ⊢
    have LB : Aside ((dig B).length ≤ 400000) := (show (dig B).length ≤ 400000 from Nat.le_trans (dig_len HL.out.2.1) (by decide))
    have LM : Aside ((dig mb).length ≤ 400000) := (show (dig mb).length ≤ 400000 from Nat.le_trans (dig_len (k := 3) (Nat.lt_of_lt_of_le ss (by decide))) (by decide))
    clear hn1 hn2
    have HB1 : Aside (Below w6.heap.size w6 w7) := hb1
    clear hb1
    go_wp2_with fail
    obtain ⟨w8, hw8⟩ : ∃ x, Aside (x = w7.alloc (.cells #[.slice aa n1 ca, .slice ab n2 cb] 114)) := ⟨_, rfl⟩
    obtain ⟨bw, hbw⟩ : ∃ q, Aside (q = w7.heap.size) := ⟨_, rfl⟩
    have B78 : Below w7.heap.size w7 w8 := by rw [hw8.out]; exact (Below.refl _ _).alloc (Nat.le_refl _) _
    have BW : Aside (Below w6.heap.size w6 w8) := HB1.out.trans (B78.mono HB1.out.size)
    have k0 : Aside (w8.cell? ⟨bw, 0, none⟩ = some (.slice aa n1 ca)) := by show _ = _; rw [hbw.out, hw8.out]; simp
    have k1 : Aside (w8.cell? ⟨bw, 1, none⟩ = some (.slice ab n2 cb)) := by show _ = _; rw [hbw.out, hw8.out]; simp
    have sb : Aside (bw < w8.heap.size) := by rw [hbw.out, hw8.out]; show _ < _; simp
    have DA2 : Aside (Digs w8 (.slice aa n1 ca) (dig A)) := DA.out.below (Nat.le_refl _) B78
    have DB2 : Aside (Digs w8 (.slice ab n2 cb) (dig B)) := DB.out.below (Nat.le_refl _) B78
    have keep : Aside (∀ x x' : World, Below w8.heap.size w8 x → Below x.heap.size x x' → x'.cell? ⟨bw, 0, none⟩ = some (.slice aa n1 ca) ∧ x'.cell? ⟨bw, 1, none⟩ = some (.slice ab n2 cb) ∧ Below w8.heap.size w8 x') := (show ∀ x x' : World, Below w8.heap.size w8 x → Below x.heap.size x x' → x'.cell? ⟨bw, 0, none⟩ = some (.slice aa n1 ca) ∧ x'.cell? ⟨bw, 1, none⟩ = some (.slice ab n2 cb) ∧ Below w8.heap.size w8 x' from fun x x' h h' => by
      have hh : Below w8.heap.size w8 x' := h.trans (h'.mono h.size)
      exact ⟨by rw [hh.cell (by exact sb.out)]; exact k0.out, by rw [hh.cell (by exact sb.out)]; exact k1.out, hh⟩)
    have P44 : ∀ (x : World), Below w8.heap.size w8 x → Calls Tryz.prog 67 #[.int .u64 mb] x fun en x' => ∃ v, en = .returned v ∧ Aside (Digs x' v (dig mb)) ∧ (x'.cell? ⟨bw, 0, none⟩ = some (.slice aa n1 ca) ∧ x'.cell? ⟨bw, 1, none⟩ = some (.slice ab n2 cb) ∧ Below w8.heap.size w8 x') := fun x hx =>
      (number_s mb (by omega) x).mono fun en x' ⟨v, e1, hD, hb⟩ => ⟨v, e1, hD, keep.out x x' hx hb⟩
    have P43 : ∀ (x : World) (v : Value), Aside (Digs x v (dig mb)) → Below w8.heap.size w8 x → Calls Tryz.prog 66 #[.slice ab n2 cb, v] x fun en x' => ∃ a c n, en = .returned (.slice a n c) ∧ Aside (Digs x' (.slice a n c) (dig (B * mb))) ∧ (x'.cell? ⟨bw, 0, none⟩ = some (.slice aa n1 ca) ∧ x'.cell? ⟨bw, 1, none⟩ = some (.slice ab n2 cb) ∧ Below w8.heap.size w8 x') := fun x v hv hx =>
      (product_s _ _ B mb x (DB2.out.below (Nat.le_refl _) hx) hv.out LB.out LM.out).mono fun en x' ⟨v, e1, hD, hb⟩ => by
        obtain ⟨a, c, rfl, h1, h2⟩ := hD
        exact ⟨a, c, _, e1, ⟨a, c, rfl, h1, h2⟩, keep.out x x' hx hb⟩
    have P41 : ∀ (x : World) (v : Value), Aside (Digs x v (dig (B * mb))) → Below w8.heap.size w8 x → Calls Tryz.prog 64 #[.agg #[.slice aa n1 ca, v]] x fun en x' => en = .returned (.int .u32 T) ∧ (x'.cell? ⟨bw, 0, none⟩ = some (.slice aa n1 ca) ∧ x'.cell? ⟨bw, 1, none⟩ = some (.slice ab n2 cb) ∧ Below w8.heap.size w8 x') := fun x v hv hx =>
      (nearest_s _ v A (B * mb) x (DA2.out.below (Nat.le_refl _) hx) hv.out HL.out.1 HL.out.2.2 HP.out).mono fun en x' ⟨e1, hb⟩ => ⟨by rw [← HE.out]; exact e1, keep.out x x' hx hb⟩
    have P39 : ∀ (x : World), Below w8.heap.size w8 x → Calls Tryz.prog 62 #[.bool false, .int .u32 T] x fun en x' => en = .returned (.float .f32 T) ∧ (x'.cell? ⟨bw, 0, none⟩ = some (.slice aa n1 ca) ∧ x'.cell? ⟨bw, 1, none⟩ = some (.slice ab n2 cb) ∧ Below w8.heap.size w8 x') := fun x hx =>
      (float_s T hTl x).mono fun en x' ⟨e1, hb⟩ => ⟨e1, by rw [hb]; exact keep.out x x hx (Below.refl _ _)⟩
    rw [← hw8.out, ← hbw.out]
    have q0 := k0.out
    have q1 := k1.out
    have q2 : Below w8.heap.size w8 w8 := Below.refl _ _
    clear DA DB DA2 DB2 keep LB LM HL HP HE HB1 B78 sb k0 k1 HA HB
    go_region_held3 (fun x => x.cell? ⟨bw, 0, none⟩ = some (.slice aa n1 ca) ∧ x.cell? ⟨bw, 1, none⟩ = some (.slice ab n2 cb) ∧ Below w8.heap.size w8 x) (first | exact ⟨q0, q1, q2.drew⟩ | (refine ⟨?_, ?_, ?_⟩ <;> assumption)) (first | (go_at_call 67; refine (P44 _ (by first | assumption | exact q2.drew)).mono ?_; rintro en x1 ⟨v1, rfl, D1, hk0, hk1, hk2⟩) | (go_at_call 66; refine (P43 _ _ (by assumption) (by assumption)).mono ?_; rintro en x3 ⟨za, zc, zn, rfl, Z3, hk0, hk1, hk2⟩) | (go_at_call 64; refine (P41 _ _ (by assumption) (by assumption)).mono ?_; rintro en x3 ⟨rfl, hk0, hk1, hk2⟩) | (go_at_call 62; refine (P39 _ (by assumption)).mono ?_; rintro en x3 ⟨rfl, hk0, hk1, hk2⟩))
    all_goals (go_wp2_with fail; go_ret; exact ⟨by rw [← hT.out]; rfl, BW.out.trans ((by assumption : Below w8.heap.size w8 _).mono BW.out.size)⟩)
end Go.Proofs.YtadngfgbefgocaaGreatDoor

namespace Go.Proofs.YtadngfgbefgocaaGreatDoor
open Go.Shelf Go.RowKit Go.Lib Go.Sort Go.Big Go.Flo
theorem c27up (x : Nat) (hx : x ≤ 2139095040) (w : World) : Calls Tryz.prog 32 #[.float .f32 x] w fun en w' => en = .returned (.bool false) ∧ w' = w := by
  have := isnan_s x w
  rw [decide_eq_true (by omega)] at this
  exact this
theorem plus_r (s x : Nat) (hs : s ≤ 2139095040) (hx : x < 2139095040) (w : World) :
    Calls Tryz.prog 36 #[.float .f32 s, .float .f32 x] w fun en w' => en = .returned (.float .f32 (plusN s x)) ∧ Below w.heap.size w w' := by
  by_cases h : s = 2139095040
  · subst h
    have : plusN 2139095040 x = 2139095040 := by unfold plusN; rw [add_inf hx]; rfl
    rw [this]
    exact plus_top x hx w
  · exact plus_fin s x (by omega) hx w
theorem over_r (s x : Nat) (hs : s ≤ 2139095040) (h0 : s ≠ 0) (hxs : x ≤ s) (hx : x < 2139095040) (w : World) :
    Calls Tryz.prog 35 #[.float .f32 x, .float .f32 s] w fun en w' => en = .returned (.float .f32 (shareN s x)) ∧ Below w.heap.size w w' := by
  by_cases h : s = 2139095040
  · subst h
    have : shareN 2139095040 x = 0 := by unfold shareN; rw [div_inf hx]; rfl
    rw [this]
    exact over_top x hx w
  · exact over_fin x s hxs (by omega) h0 w
set_option maxHeartbeats 8000000 in
set_option maxRecDepth 1000000 in
theorem do_plus_r (s x : Nat) (hs : s ≤ 2139095040) (hx : x < 2139095040) (w : World) :
    Calls Tryz.prog 20 #[.int .i64 7, .float .f32 s, .float .f32 x] w fun en w' => en = .returned (.float .f32 (plusN s x)) ∧ Below w.heap.size w w' := by
  have e27 : ∀ args w, (callFunc 32 args).run Tryz.prog w = .ok (.enter 32 args) w := enters_of Tryz.func32 (by kernel_rfl) rfl
  have e31 : ∀ args w, (callFunc 36 args).run Tryz.prog w = .ok (.enter 36 args) w := enters_of Tryz.func36 (by kernel_rfl) rfl
  have c1 := c27up s hs
  have c2 := c27up x (by omega)
  have c3 := plus_r s x hs hx w
  go_enter Tryz.func20, Tryz.ntmps20
  go_wp2_with fail
  refine (c1 _).mono ?_
  rintro en w1 ⟨rfl, rfl⟩
  go_wp2_with fail
  refine (c2 _).mono ?_
  rintro en w2 ⟨rfl, rfl⟩
  go_wp2_with fail
  refine c3.mono ?_
  rintro en w3 ⟨rfl, hb⟩
  have B : Aside _ := hb
  clear c1 c2 c3 hb
  go_wp2_with fail
  go_ret
  exact ⟨rfl, B.out⟩
set_option maxHeartbeats 8000000 in
set_option maxRecDepth 1000000 in
theorem do_over_r (s x : Nat) (hs : s ≤ 2139095040) (h0 : s ≠ 0) (hxs : x ≤ s) (hx : x < 2139095040) (w : World) :
    Calls Tryz.prog 20 #[.int .i64 6, .float .f32 x, .float .f32 s] w fun en w' => en = .returned (.float .f32 (shareN s x)) ∧ Below w.heap.size w w' := by
  have e27 : ∀ args w, (callFunc 32 args).run Tryz.prog w = .ok (.enter 32 args) w := enters_of Tryz.func32 (by kernel_rfl) rfl
  have e30 : ∀ args w, (callFunc 35 args).run Tryz.prog w = .ok (.enter 35 args) w := enters_of Tryz.func35 (by kernel_rfl) rfl
  have c1 := c27up x (by omega)
  have c2 := c27up s hs
  have c3 := over_r s x hs h0 hxs hx w
  clear h0
  go_enter Tryz.func20, Tryz.ntmps20
  go_wp2_with fail
  refine (c1 _).mono ?_
  rintro en w1 ⟨rfl, rfl⟩
  go_wp2_with fail
  refine (c2 _).mono ?_
  rintro en w2 ⟨rfl, rfl⟩
  go_wp2_with fail
  refine c3.mono ?_
  rintro en w3 ⟨rfl, hb⟩
  have B : Aside _ := hb
  clear c1 c2 c3 hb
  go_wp2_with fail
  go_ret
  exact ⟨rfl, B.out⟩
set_option maxHeartbeats 8000000 in
set_option maxRecDepth 1000000 in
theorem plus24_r (s x : Nat) (hs : s ≤ 2139095040) (hx : x < 2139095040) (w : World) :
    Calls Tryz.prog 18 #[.float .f32 s, .float .f32 x] w fun en w' => en = .returned (.float .f32 (plusN s x)) ∧ Below w.heap.size w w' := by
  have e19 : ∀ args w, (callFunc 20 args).run Tryz.prog w = .ok (.enter 20 args) w := enters_of Tryz.func20 (by kernel_rfl) rfl
  have c3 := do_plus_r s x hs hx w
  go_enter Tryz.func18, Tryz.ntmps18
  go_wp2_with fail
  refine c3.mono ?_
  rintro en w3 ⟨rfl, hb⟩
  have B : Aside _ := hb
  clear c3 hb
  go_wp2_with fail
  go_ret
  exact ⟨rfl, B.out⟩
end Go.Proofs.YtadngfgbefgocaaGreatDoor
