/- ApartInts, walked. The conditions stand in each statement. -/
import Derived.Test.YtadngfgbefgocaaGreatDoorPxG

namespace Go.Proofs.YtadngfgbefgocaaGreatDoor
open Go.Shelf Go.RowKit Go.Lib Go.Sort Go.Big Go.Flo
theorem info24 : (Tryz.prog.info? 24).map (fun i => (i.zero, i.size, i.bytes)) = some (some (.slice none 0 0), 1, 24) := by kernel_rfl
def imv (m : Nat) : Value := .int .i64 (m : Int)
theorem imv_ne (m : Nat) (a : Option Addr) (l c : Nat) : imv m ≠ .slice a l c := by
  unfold imv
  simp
set_option maxHeartbeats 8000000 in
set_option maxRecDepth 1000000 in
theorem apartI_s (L n : Nat) (Bk : Nat → Nat) (w : World) (hn : n ≤ 16777216) (G : ApG L n Bk) (hA : ApA imv L n Bk w 0 0 w) :
    Calls Tryz.prog 12 #[.slice (some ⟨L, 0, none⟩) 2 2] w fun e w' => e = .returned (.bool true) ∧ ApO Bk w w' := by
  have mixed := mixed
  have t24 := Tryz.underlying24
  have t31 := Tryz.underlying31
  have t3 := Tryz.underlying3
  have u24 := run_underlying t24
  have u31 := run_underlying t31
  have e13 : ∀ args w, (callFunc 14 args).run Tryz.prog w = .ok (.enter 14 args) w := enters_of Tryz.func14 (by kernel_rfl) rfl
  obtain ⟨i0, hi, hz0, hz1, hz2⟩ := info_parts info3
  have HI : Aside ((Tryz.prog.info? 3 = some i0) ∧ i0.zero = some (.int .i64 0) ∧ i0.size = 1 ∧ i0.bytes = 8) := ⟨hi, hz0, hz1, hz2⟩
  clear hi hz0 hz1 hz2
  obtain ⟨i1, hi, hz0, hz1, hz2⟩ := info_parts info24
  have HJ : Aside ((Tryz.prog.info? 24 = some i1) ∧ i1.zero = some (.slice none 0 0) ∧ i1.size = 1 ∧ i1.bytes = 24) := ⟨hi, hz0, hz1, hz2⟩
  clear hi hz0 hz1 hz2
  have HG : Aside _ := G
  have HA : Aside _ := hA
  clear G hA
  go_enter Tryz.func12, Tryz.ntmps12
  go_wp2_with fail
  go_loopg [3, 4] 2 (fun g1 vk vi wr => ∃ (k : Nat), vk = .int .i64 k ∧ k ≤ 2 ∧ 2 - k ≤ g1 ∧ Aside (ApA imv L n Bk w k 0 wr))
  case atStart => exact ⟨0, by go_num, by omega, by omega, HA⟩
  case round =>
    obtain ⟨k, rfl, hk2, hg1, A⟩ := hrel
    by_cases hlt : k < 2
    · have hltz : (k : Int) < 2 := by omega
      have rk : IntKind.i64.wrap ((k : Int) + 1) = ((k + 1 : Nat) : Int) := by rw [IntKind.wrap_i64]; omega
      obtain ⟨b, hb⟩ : ∃ q, Aside (q = Bk k) := ⟨_, rfl⟩
      go_wp2_with fail
      go_loopg [4] n (fun g1 vi wr => ∃ (i : Nat), vi = .int .i64 i ∧ i ≤ n ∧ n - i ≤ g1 ∧ Aside (ApA imv L n Bk w k i wr))
      case atStart => exact ⟨0, by go_num, by omega, by omega, A⟩
      case round =>
        clear A
        obtain ⟨i, rfl, hin, hg1, A⟩ := hrel
        have hr : wr.cell? ⟨L, k, none⟩ = some (.slice (some ⟨b, 0, none⟩) n n) := by rw [hb.out]; exact A.out.row k hlt
        by_cases hli : i < n
        · have hliz : (i : Int) < (n : Int) := by omega
          have ra : IntKind.i64.wrap ((i : Int) + 1) = ((i + 1 : Nat) : Int) := by rw [IntKind.wrap_i64]; omega
          have hf : wr.frozen? ⟨b, i, none⟩ = false := by rw [hb.out]; exact A.out.fr k i hlt hli
          obtain ⟨v, hv⟩ : ∃ v, wr.cell? ⟨b, i, none⟩ = some v := by rw [hb.out]; exact A.out.is k i hlt hli
          have A2 := (A.out.put HG.out hlt hli).drewN 1
          have c13 := mark_s k i (by omega) (by omega)
          obtain ⟨m, hm⟩ : ∃ q, Aside (q = markN k i) := ⟨_, rfl⟩
          rw [← hm.out] at c13 A2
          rw [← hb.out] at A2
          have A3 : Aside (ApA imv L n Bk w k (i + 1) (wr.setCell ⟨b, i, none⟩ (.int .i64 (m : Int))).drew) := by
            show ApA _ _ _ _ _ _ _ _
            exact A2
          clear A2 A
          have hne := HG.out.far k hlt
          rw [← hb.out] at hne
          have hne2 : ¬ b = L := fun e => hne e.symm
          clear hne
          go_wp2_with fail
          go_region_held3 (fun x => x.cell? ⟨L, k, none⟩ = some (.slice (some ⟨b, 0, none⟩) n n)) (first | exact hr | go_keep) (first | (go_at_call 14; refine (c13 _).mono ?_; rintro en x1 ⟨rfl, rfl⟩))
          go_wp2_with fail
          go_roundg (n - (i + 1))
          case measure => omega
          case rel => exact ⟨i + 1, by go_num, by omega, by omega, A3⟩
        · have hliz : ¬ (i : Int) < (n : Int) := by omega
          have hi : i = n := by omega
          subst hi
          have A3 : Aside _ := A.out.next
          clear A
          go_wp2_with fail
          go_roundg (2 - (k + 1))
          case measure => omega
          case rel => exact ⟨k + 1, by go_num, by omega, by omega, A3⟩
    · have hltz : ¬ (k : Int) < 2 := by omega
      have hk : k = 2 := by omega
      subst hk
      have B1 : Aside (ApB imv L n Bk w wr) := A.out.all
      clear A
      generalize wr = w1 at B1 ⊢
      obtain ⟨h1, hh1⟩ : ∃ q, Aside (q = w1.heap.size) := ⟨_, rfl⟩
      go_wp2_with fail
      go_loopg [5, 6, 7, 8] 2 (fun g1 vg vk v7 v8 wr => ∃ (k : Nat), vk = .int .i64 k ∧ k ≤ 2 ∧ 2 - k ≤ g1 ∧ Aside (Below h1 w1 wr) ∧ Aside (ApR imv h1 24 n k vg wr))
      case atStart => exact ⟨0, by go_num, by omega, by omega, Below.refl _ _, ApR.nil _ _ _ _ _⟩
      case round =>
        obtain ⟨k, rfl, hk2, hg1, B2, R⟩ := hrel
        have rk : IntKind.i64.wrap ((k : Int) + 1) = ((k + 1 : Nat) : Int) := by rw [IntKind.wrap_i64]; omega
        by_cases hlt : k < 2
        · have hltz : (k : Int) < 2 := by omega
          obtain ⟨b, hb⟩ : ∃ q, Aside (q = Bk k) := ⟨_, rfl⟩
          have B3 : Aside (ApB imv L n Bk w wr) := B1.out.more (Nat.le_of_eq hh1.out.symm) B2.out
          have hr : wr.cell? ⟨L, k, none⟩ = some (.slice (some ⟨b, 0, none⟩) n n) := by rw [hb.out]; exact B3.out.row k hlt
          obtain ⟨vg, hvg⟩ : ∃ q, q = u5 := ⟨_, rfl⟩
          rw [← hvg] at R ⊢
          clear hvg
          go_wp2_with fail
          clear hr
          generalize wr = wa at B2 B3 R ⊢
          obtain ⟨h2, hh2⟩ : ∃ q, Aside (q = wa.heap.size) := ⟨_, rfl⟩
          go_loopg [7, 8] 64 (fun g1 v7 vi wr => ∃ (i : Nat), vi = .int .i64 i ∧ i ≤ 64 ∧ 64 - i ≤ g1 ∧ Aside (Below h2 wa wr) ∧ Aside ((i = 0 ∧ v7 = .slice (some ⟨b, 0, none⟩) n n) ∨ (0 < i ∧ wr.ownsRow h2 3 1 v7 (n + i) (marksL imv k (n + i)))))
          case atStart => exact ⟨0, by go_num, by omega, by omega, Below.refl _ _, .inl ⟨rfl, rfl⟩⟩
          case round =>
            obtain ⟨i, rfl, hi64, hg1, B4, D⟩ := hrel
            have B5 : Aside (ApB imv L n Bk w wr) := B3.out.more (Nat.le_of_eq hh2.out.symm) B4.out
            have hr : wr.cell? ⟨L, k, none⟩ = some (.slice (some ⟨b, 0, none⟩) n n) := by rw [hb.out]; exact B5.out.row k hlt
            by_cases hli : i < 64
            · have hliz : (i : Int) < 64 := by omega
              have ra : IntKind.i64.wrap ((i : Int) + 1) = ((i + 1 : Nat) : Int) := by rw [IntKind.wrap_i64]; omega
              have rb : IntKind.i64.wrap ((n : Int) + (i : Int)) = ((n + i : Nat) : Int) := by rw [IntKind.wrap_i64]; omega
              obtain ⟨p, hp⟩ : ∃ q, Aside (q = n + i) := ⟨_, rfl⟩
              rw [← hp.out] at rb
              have c13 := mark_s k p (by omega) (by have := hp.out; omega)
              obtain ⟨m, hm⟩ : ∃ q, Aside (q = markN k p) := ⟨_, rfl⟩
              rw [← hm.out] at c13
              have hws : Aside (h2 ≤ wr.heap.size) := by have := B4.out.size; rw [← hh2.out] at this; exact this
              rcases D.out with ⟨h0, hv⟩ | ⟨h0, ho⟩
              · have hpn : Aside (p = n) := by have := hp.out; show p = n; omega
                have HO : Aside (∀ (o : Obj) (j : Nat) (u : Value), (marksL imv k n)[j]? = some u → (wr.alloc o).cell? ((⟨b, 0, none⟩ : Addr).add j) = some u) := fun o j u hu => by
                  have hj : j < n := by
                    have := (List.getElem?_eq_some_iff.1 hu).1
                    rw [marksL_len] at this
                    exact this
                  rw [marksL_get _ _ _ _ hj] at hu
                  have hc := B5.out.mks k j hlt hj
                  rw [← hb.out] at hc
                  have ea : (⟨b, 0, none⟩ : Addr).add j = ⟨b, j, none⟩ := by cases j with | zero => rfl | succ j => simp [Addr.add]
                  rw [ea, ((Below.refl wr.heap.size wr).alloc (Nat.le_refl _) o).cell (by exact blk_lt hc), hc]
                  exact hu
                subst hv
                have h0' : Aside (i = 0) := h0
                clear D h0
                go_wp2_with fail
                refine (c13 _).mono ?_
                rintro en w5 ⟨rfl, rfl⟩
                clear c13
                go_wp2_with (at_builtin; refine wpList_append_grows _ rfl _ _ 24 rfl 3 i0 (.int .i64 0) 1 8 Tryz.underlying24 HI.out.1 HI.out.2.1 HI.out.2.2.1 HI.out.2.2.2 rfl (by decide) (some ⟨b, 0, none⟩) n n (marksL imv k n) rfl (by intro q; simp at q) (by rw [marksL_len, Nat.mul_one]) (by intro b' e j u hu; injection e with e; subst e; exact HO.out _ j u hu) ⟨w5.heap.size, 0, none⟩ 1 1 [.int .i64 (m : Int)] rfl rfl (cell_one_new _ _ _) (by intro u hu; simp at hu; subst hu; rfl) (by omega) (by unfold maxLen; omega) (by omega) ?_; intro v' w2 hown' hgrow2)
                have O2 : Aside (w2.ownsRow h2 3 1 v' (n + (i + 1)) (marksL imv k (n + (i + 1)))) := by
                  show World.ownsRow _ _ _ _ _ _ _
                  have e1 : n + (i + 1) = n + 1 := by have := h0'.out; omega
                  have e2 : marksL imv k (n + 1) = marksL imv k n ++ [.int .i64 (m : Int)] := by rw [marksL_succ, hm.out, hpn.out]; rfl
                  rw [e1, e2]
                  exact ownsRow_mono hown' (by have := hws.out; simp; omega)
                have B6 : Aside (Below h2 wa w2) := ((B4.out.alloc hws.out _).grown hgrow2 (by have := hws.out; simp; omega) (by intro q e; simp at e))
                clear HO B4 B5 hown' hgrow2 hr
                go_wp2_with fail
                go_roundg (64 - (i + 1))
                case measure => omega
                case rel => exact ⟨i + 1, by go_num, by omega, by omega, B6, .inr ⟨by omega, O2.out⟩⟩
              · have O : Aside (wr.ownsRow h2 3 1 u7 p (marksL imv k p)) := by show World.ownsRow _ _ _ _ _ _ _; rw [hp.out]; exact ho
                clear D ho h0
                go_wp2_with fail
                refine (c13 _).mono ?_
                rintro en w5 ⟨rfl, rfl⟩
                clear c13
                go_wp2_with (at_builtin; refine wpList_append_own _ rfl _ _ 24 rfl h2 3 i0 (.int .i64 0) 1 8 Tryz.underlying24 HI.out.1 HI.out.2.1 HI.out.2.2.1 HI.out.2.2.2 rfl (by decide) _ _ _ rfl (O.out.alloc _) ⟨w5.heap.size, 0, none⟩ 1 1 [.int .i64 (m : Int)] rfl rfl (cell_one_new _ _ _) (by intro u hu; simp at hu; subst hu; rfl) (by have := hp.out; unfold maxLen; omega) (by have := hp.out; omega) (by have := hws.out; simp; omega) ?_; intro v' w2 hown' hgrow2 hnil2)
                have O2 : Aside (w2.ownsRow h2 3 1 v' (n + (i + 1)) (marksL imv k (n + (i + 1)))) := by
                  show World.ownsRow _ _ _ _ _ _ _
                  have e1 : n + (i + 1) = p + 1 := by have := hp.out; omega
                  have e2 : marksL imv k (p + 1) = marksL imv k p ++ [.int .i64 (m : Int)] := by rw [marksL_succ, hm.out]; rfl
                  rw [e1, e2]
                  exact hown'
                have B6 : Aside (Below h2 wa w2) := ((B4.out.alloc hws.out _).grown hgrow2 (by have := hws.out; simp; omega) (fun q e => (O.out.lt q e).1))
                clear O B4 B5 hown' hgrow2 hnil2 hr
                go_wp2_with fail
                go_roundg (64 - (i + 1))
                case measure => omega
                case rel => exact ⟨i + 1, by go_num, by omega, by omega, B6, .inr ⟨by omega, O2.out⟩⟩
            · have hliz : ¬ (i : Int) < 64 := by omega
              have hi : i = 64 := by omega
              subst hi
              have O : Aside (wr.ownsRow h2 3 1 u7 (n + 64) (marksL imv k (n + 64))) := by
                show World.ownsRow _ _ _ _ _ _ _
                rcases D.out with ⟨h0, _⟩ | ⟨_, ho⟩
                · omega
                · exact ho
              have R2 := R.out.below (hh2.out ▸ B4.out)
              obtain ⟨gl, hro, hr0, hrm⟩ := R2
              have HO : Aside (wr.ownsRow h1 24 1 vg k gl) := hro
              have HR0 : Aside _ := hr0
              have HRM : Aside _ := hrm
              have hMu : Aside (ApM imv n k wr u7) := ApM.of_own O.out
              clear hro hr0 hrm D O B5 hr R B3
              have B6 : Aside (Below h1 w1 wr) := B2.out.trans (B4.out.mono (by rw [hh2.out]; have := B2.out.size; rw [← hh1.out] at this; exact this))
              have hws : Aside (h1 ≤ wr.heap.size) := by have := B6.out.size; rw [← hh1.out] at this; exact this
              clear B4 B2
              obtain ⟨gb, gc, hu7⟩ : ∃ gb gc, u7 = .slice (some ⟨gb, 0, none⟩) (n + 64) gc := by
                obtain ⟨bb, cc, e, _⟩ := hMu.out
                exact ⟨bb, cc, e⟩
              subst hu7
              go_wp2_with (at_builtin; go_loud (refine wpList_append_own _ rfl _ _ 31 rfl h1 24 i1 (.slice none 0 0) 1 24 Tryz.underlying31 HJ.out.1 HJ.out.2.1 HJ.out.2.2.1 HJ.out.2.2.2 rfl (by decide) _ _ _ rfl (HO.out.alloc _) ⟨wr.heap.size, 0, none⟩ 1 1 [.slice (some ⟨gb, 0, none⟩) (n + 64) gc] rfl rfl (cell_one_new _ _ _) (by intro u hu; simp at hu; subst hu; rfl) (by unfold maxLen; omega) (by omega) (by have := hws.out; simp; omega) ?_); intro v' w2 hown' hgrow2 hnil2)
              have R2 : Aside (ApR imv h1 24 n (k + 1) v' w2) := by
                have hal : Below wr.heap.size wr (wr.alloc (.cells #[.slice (some ⟨gb, 0, none⟩) (n + 64) gc] 24)) := (Below.refl _ _).alloc (Nat.le_refl _) _
                exact ApR.push imv_ne (HO.out.alloc _) HR0.out (fun m hm => by
                  obtain ⟨x, hx, hM⟩ := HRM.out m hm
                  exact ⟨x, hx, hM.below hal⟩) (hMu.out.below hal) hown' hgrow2
              have B7 : Aside (Below h1 w1 w2) := ((B6.out.alloc hws.out _).grown hgrow2 (by have := hws.out; simp; omega) (fun q e => (HO.out.lt q e).1))
              clear HO HR0 HRM hMu B6 hown' hgrow2 hnil2
              go_wp2_with fail
              go_roundg (2 - (k + 1))
              case measure => omega
              case rel => exact ⟨k + 1, by go_num, by omega, by omega, B7, R2⟩
        · have hltz : ¬ (k : Int) < 2 := by omega
          have hk : k = 2 := by omega
          subst hk
          obtain ⟨GS, gcap, rfl, hgs, hS⟩ := R.out.whole imv_ne
          have S0 : Aside (ApS imv n (n + 64) GS wr) := hS
          have B3 : Aside (ApB imv L n Bk w wr) := B1.out.more (Nat.le_of_eq hh1.out.symm) B2.out
          have HGS : Aside (w.heap.size ≤ GS ∧ L < GS ∧ ∀ k i, k < 2 → i < n → Bk k < GS) := by
            have e0 := B1.out.hH
            have e := hh1.out
            have e1 := blk_lt (B1.out.row 0 (by omega))
            exact ⟨by omega, by omega, fun k i hk hi => by have := blk_lt (B1.out.mks k i hk hi); omega⟩
          clear hS R B2 B1 hgs hh1
          generalize wr = w3 at B3 S0 ⊢
          go_wp2_with fail
          go_loopg [9, 10] 2 (fun g1 vk vi wr => ∃ (k : Nat), vk = .int .i64 k ∧ k ≤ 2 ∧ 2 - k ≤ g1 ∧ Aside (Below w3.heap.size w3 wr))
          case atStart => exact ⟨0, by go_num, by omega, by omega, Below.refl _ _⟩
          case round =>
            obtain ⟨k, rfl, hk2, hg1, B2⟩ := hrel
            have rk : IntKind.i64.wrap ((k : Int) + 1) = ((k + 1 : Nat) : Int) := by rw [IntKind.wrap_i64]; omega
            by_cases hlt : k < 2
            · have hltz : (k : Int) < 2 := by omega
              obtain ⟨b, hb⟩ : ∃ q, Aside (q = Bk k) := ⟨_, rfl⟩
              obtain ⟨v, hgv, g, gc, rfl, hgl, hgne, hgc⟩ := S0.out.el k hlt
              have HGV : Aside (w3.cell? ⟨GS, k, none⟩ = some (.slice (some ⟨g, 0, none⟩) (n + 64) gc)) := hgv
              have HGC : Aside (∀ i, i < n + 64 → w3.cell? ⟨g, i, none⟩ = some (imv (markN k i))) := hgc
              clear hgv hgl hgne hgc
              go_wp2_with fail
              obtain ⟨N, hN⟩ : ∃ q, Aside (q = n + 64) := ⟨_, rfl⟩
              go_loopg [10] (n + 64) (fun g1 vi wr => ∃ (i : Nat), vi = .int .i64 i ∧ i ≤ n + 64 ∧ n + 64 - i ≤ g1 ∧ Aside (Below w3.heap.size w3 wr))
              case atStart => exact ⟨0, by go_num, by omega, by omega, B2⟩
              case round =>
                clear B2
                obtain ⟨i, rfl, hin, hg1, B4⟩ := hrel
                have ra : IntKind.i64.wrap ((i : Int) + 1) = ((i + 1 : Nat) : Int) := by rw [IntKind.wrap_i64]; omega
                have k1 : wr.cell? ⟨GS, k, none⟩ = some (.slice (some ⟨g, 0, none⟩) (n + 64) gc) := by rw [B4.out.cell (by exact blk_lt HGV.out)]; exact HGV.out
                by_cases hli : i < n + 64
                · have hliz : (i : Int) < ((n + 64 : Nat) : Int) := by omega
                  have c13 := mark_s k i (by omega) (by omega)
                  obtain ⟨m, hm⟩ : ∃ q, Aside (q = markN k i) := ⟨_, rfl⟩
                  rw [← hm.out] at c13
                  have B5 : Aside (ApB imv L n Bk w wr) := B3.out.more (Nat.le_refl _) B4.out
                  have k2 : wr.cell? ⟨L, k, none⟩ = some (.slice (some ⟨b, 0, none⟩) n n) := by rw [hb.out]; exact B5.out.row k hlt
                  have k3 : wr.cell? ⟨g, i, none⟩ = some (.int .i64 (m : Int)) := by
                    have := HGC.out i hli
                    rw [B4.out.cell (by exact blk_lt this), this, hm.out]
                    rfl
                  by_cases hi : i < n
                  · have hiz : (i : Int) < (n : Int) := by omega
                    have k4 : wr.cell? ⟨b, i, none⟩ = some (.int .i64 (m : Int)) := by rw [hb.out, B5.out.mks k i hlt hi, hm.out]; rfl
                    go_wp2_with fail
                    go_region_held3 (fun x => x.cell? ⟨GS, k, none⟩ = some (.slice (some ⟨g, 0, none⟩) (n + 64) gc) ∧ x.cell? ⟨L, k, none⟩ = some (.slice (some ⟨b, 0, none⟩) n n) ∧ x.cell? ⟨g, i, none⟩ = some (.int .i64 (m : Int)) ∧ x.cell? ⟨b, i, none⟩ = some (.int .i64 (m : Int))) (first | exact ⟨k1, k2, k3, k4⟩ | go_keep) (first | (go_at_call 14; refine (c13 _).mono ?_; rintro en x1 ⟨rfl, rfl⟩))
                    have B6 : Aside (Below w3.heap.size w3 wr.drew) := B4.out.drew
                    go_wp2_with fail
                    go_roundg (n + 64 - (i + 1))
                    case measure => omega
                    case rel => exact ⟨i + 1, by go_num, by omega, by omega, B6⟩
                  · have hiz : ¬ (i : Int) < (n : Int) := by omega
                    have hd1 : decide (i < n) = false := decide_eq_false hi
                    have hd2 : decide ((i : Int) < (n : Int)) = false := decide_eq_false hiz
                    go_wp2_with fail
                    have key : ∀ (b o : Nat) (v : Value), wr.cell? ⟨b, o, none⟩ = some v → ∀ (q : Nat) (os : Array Obj), (grow (wr.drewN q) os).cell? ⟨b, o, none⟩ = some v := fun b o v hb q os => by rw [(Lib.below_grow wr.heap.size wr (Nat.le_refl _) q os).cell (by exact blk_lt hb)]; exact hb
                    have g1 := key _ _ _ k1
                    have g2 := key _ _ _ k2
                    have g3 := key _ _ _ k3
                    have hc : ∀ (m2 : Nat) (os : Array Obj), Calls Tryz.prog 14 #[.int .i64 k, .int .i64 i] (grow (wr.drewN m2) os) fun e w' => e = .returned (.int .i64 m) ∧ ∃ q os', w' = grow ((grow (wr.drewN m2) os).drewN q) os' := fun m2 os => (c13 _).mono fun e w' ⟨h1, h2⟩ => ⟨h1, 0, #[], by rw [h2, grow_empty]; rfl⟩
                    clear key k1 k2 k3 c13
                    refine wp_region_quiet_grown (by assumption) (by kernel_rfl) ?_
                    iterate 21 (quiet_step (first | (go_at_call 14; refine Calls.grown_of (hc _ _))))
                    iterate 14 (generalize hA9 : Act.mk _ _ = A9; refine wpQuiet_step (fun K hK => ?_); subst hA9; go_simp; refine hK _ ?_; clear hK K)
                    refine wpQuiet_nil ?_
                    intro _ hw'
                    obtain ⟨⟨nq, osq⟩, hw''⟩ := hw'
                    subst hw''
                    have B6 : Aside (Below w3.heap.size w3 (grow (wr.drewN nq) osq)) := B4.out.trans (Lib.below_grow w3.heap.size wr B4.out.size nq osq)
                    go_wp2_with fail
                    go_roundg (n + 64 - (i + 1))
                    case measure => omega
                    case rel => exact ⟨i + 1, by go_num, by omega, by omega, B6⟩
                · have hliz : ¬ (i : Int) < ((n + 64 : Nat) : Int) := by omega
                  go_wp2_with fail
                  go_roundg (2 - (k + 1))
                  case measure => omega
                  case rel => exact ⟨k + 1, by go_num, by omega, by omega, B4⟩
            · have hltz : ¬ (k : Int) < 2 := by omega
              have hk : k = 2 := by omega
              subst hk
              have B5 : Aside (ApB imv L n Bk w wr) := B3.out.more (Nat.le_refl _) B2.out
              have S1 : Aside (ApS imv n n GS wr) := (S0.out.below B2.out).less (by omega)
              clear B2 B3 S0
              go_wp2_with fail
              go_loopg [11, 12, 13] 2 (fun g1 vk v12 v13 wr => ∃ (k : Nat), vk = .int .i64 k ∧ k ≤ 2 ∧ 2 - k ≤ g1 ∧ Aside (ApB imv L n Bk w wr) ∧ Aside (ApS imv n n GS wr))
              case atStart => exact ⟨0, by go_num, by omega, by omega, B5, S1⟩
              case round =>
                clear B5 S1
                obtain ⟨k, rfl, hk2, hg1, B5, S1⟩ := hrel
                have rk : IntKind.i64.wrap ((k : Int) + 1) = ((k + 1 : Nat) : Int) := by rw [IntKind.wrap_i64]; omega
                by_cases hlt : k < 2
                · have hltz : (k : Int) < 2 := by omega
                  obtain ⟨b, hb⟩ : ∃ q, Aside (q = Bk k) := ⟨_, rfl⟩
                  go_wp2_with fail
                  generalize wr = w4 at B5 S1 ⊢
                  obtain ⟨h4, hh4⟩ : ∃ q, Aside (q = w4.heap.size) := ⟨_, rfl⟩
                  go_loopg [12, 13] 64 (fun g1 v12 vi wr => ∃ (i : Nat), vi = .int .i64 i ∧ i ≤ 64 ∧ 64 - i ≤ g1 ∧ Aside (Below h4 w4 wr) ∧ Aside (wr.ownsRow h4 3 1 v12 i (marksL imv (k + 2) i)))
                  case atStart => exact ⟨0, by go_num, by omega, by omega, Below.refl _ _, World.ownsRow_nil _ _ _ _⟩
                  case round =>
                    obtain ⟨i, rfl, hi64, hg1, B6, O⟩ := hrel
                    have hws : Aside (h4 ≤ wr.heap.size) := by have := B6.out.size; rw [← hh4.out] at this; exact this
                    by_cases hli : i < 64
                    · have hliz : (i : Int) < 64 := by omega
                      have ra : IntKind.i64.wrap ((i : Int) + 1) = ((i + 1 : Nat) : Int) := by rw [IntKind.wrap_i64]; omega
                      have rb : IntKind.i64.wrap ((k : Int) + 2) = ((k + 2 : Nat) : Int) := by rw [IntKind.wrap_i64]; omega
                      have c13 := mark_s (k + 2) i (by omega) (by omega)
                      obtain ⟨m, hm⟩ : ∃ q, Aside (q = markN (k + 2) i) := ⟨_, rfl⟩
                      rw [← hm.out] at c13
                      go_wp2_with fail
                      refine (c13 _).mono ?_
                      rintro en w5 ⟨rfl, rfl⟩
                      clear c13
                      go_wp2_with (at_builtin; go_loud (refine wpList_append_own _ rfl _ _ 24 rfl h4 3 i0 (.int .i64 0) 1 8 Tryz.underlying24 HI.out.1 HI.out.2.1 HI.out.2.2.1 HI.out.2.2.2 rfl (by decide) _ _ _ rfl (O.out.alloc _) ⟨w5.heap.size, 0, none⟩ 1 1 [.int .i64 (m : Int)] rfl rfl (cell_one_new _ _ _) (by intro u hu; simp at hu; subst hu; rfl) (by unfold maxLen; omega) (by omega) (by have := hws.out; simp; omega) ?_); intro v' w2 hown' hgrow2 hnil2)
                      have O2 : Aside (w2.ownsRow h4 3 1 v' (i + 1) (marksL imv (k + 2) (i + 1))) := by
                        show World.ownsRow _ _ _ _ _ _ _
                        have e2 : marksL imv (k + 2) (i + 1) = marksL imv (k + 2) i ++ [.int .i64 (m : Int)] := by rw [marksL_succ, hm.out]; rfl
                        rw [e2]
                        exact hown'
                      have B7 : Aside (Below h4 w4 w2) := ((B6.out.alloc hws.out _).grown hgrow2 (by have := hws.out; simp; omega) (fun q e => (O.out.lt q e).1))
                      clear O B6 hown' hgrow2 hnil2
                      go_wp2_with fail
                      go_roundg (64 - (i + 1))
                      case measure => omega
                      case rel => exact ⟨i + 1, by go_num, by omega, by omega, B7, O2⟩
                    · have hliz : ¬ (i : Int) < 64 := by omega
                      have hi : i = 64 := by omega
                      subst hi
                      have B8 : Aside (ApB imv L n Bk w wr) := B5.out.more (Nat.le_of_eq hh4.out.symm) B6.out
                      have S2 : Aside (ApS imv n n GS wr) := S1.out.below (hh4.out ▸ B6.out)
                      have hr : wr.cell? ⟨L, k, none⟩ = some (.slice (some ⟨b, 0, none⟩) n n) := by rw [hb.out]; exact B8.out.row k hlt
                      obtain ⟨g2, c2, hu12⟩ : ∃ g2 c2, u12 = .slice (some ⟨g2, 0, none⟩) 64 c2 := by
                        rcases O.out.2 with ⟨_, h0⟩ | ⟨g, cap, cur, e, _⟩
                        · omega
                        · exact ⟨g, cap, e⟩
                      subst hu12
                      have ea : ∀ (b j : Nat), (⟨b, 0, none⟩ : Addr).add j = ⟨b, j, none⟩ := fun b j => by cases j with | zero => rfl | succ j => simp [Addr.add]
                      have HO : Aside (∀ (j : Nat) (u : Value), (marksL imv k n)[j]? = some u → wr.cell? ((⟨b, 0, none⟩ : Addr).add j) = some u) := fun j u hu => by
                        have hj : j < n := by
                          have := (List.getElem?_eq_some_iff.1 hu).1
                          rw [marksL_len] at this
                          exact this
                        rw [marksL_get _ _ _ _ hj] at hu
                        rw [ea, hb.out, B8.out.mks k j hlt hj]
                        exact hu
                      have HN : Aside (∀ (j : Nat) (u : Value), (marksL imv (k + 2) 64)[j]? = some u → wr.cell? ((⟨g2, 0, none⟩ : Addr).add j) = some u) := fun j u hu => by
                        have hj : j < 64 := by
                          have := (List.getElem?_eq_some_iff.1 hu).1
                          rw [marksL_len] at this
                          exact this
                        rw [ea, World.ownsRow.cellAt O.out j (by omega)]
                        exact hu
                      clear ea O B6 B5 S1
                      have hst := fun a m w v c => run_store Tryz.prog w a (.slice (some ⟨v, 0, none⟩) (n + 64) c) m rfl
                      go_wp2_with (at_builtin; go_loud (refine wpList_append_grows _ rfl _ _ 24 rfl 3 i0 (.int .i64 0) 1 8 Tryz.underlying24 HI.out.1 HI.out.2.1 HI.out.2.2.1 HI.out.2.2.2 rfl (by decide) (some ⟨b, 0, none⟩) n n (marksL imv k n) rfl (by intro q; simp at q) (by rw [marksL_len, Nat.mul_one]) (by intro b' e j u hu; injection e with e; subst e; exact HO.out j u hu) ⟨g2, 0, none⟩ 64 c2 (marksL imv (k + 2) 64) rfl (by rw [marksL_len]) (by exact HN.out) (marks_mem (fun _ => rfl) _ _) (by omega) (by unfold maxLen; omega) (by omega) ?_); intro v' w2 hown' hgrow2; obtain ⟨g3, c3, rfl, hL3⟩ := ApL.of_own (GS := GS) hown' S2.out.lt; have bw2 : Below wr.heap.size wr w2 := (Below.refl _ _).grown hgrow2 (Nat.le_refl _) (by intro q e; simp at e); have S3 : Aside (ApS imv n n GS w2) := S2.out.below bw2; have B9 : Aside (ApB imv L n Bk w w2) := B8.out.more (Nat.le_refl _) bw2; have hL4 : Aside (ApL imv n n k GS w2 (.slice (some ⟨g3, 0, none⟩) (n + 64) c3)) := hL3; have hf := S3.out.fr k hlt; have hex := S3.out.el k hlt; obtain ⟨v0, hv0, hvv⟩ := hex; clear hown' hgrow2 hL3 bw2 hvv)
                      have S4 : Aside (ApS imv n n GS (w2.setCell ⟨GS, k, none⟩ (.slice (some ⟨g3, 0, none⟩) (n + 64) c3))) := S3.out.put hlt hL4.out
                      have B10 : Aside (ApB imv L n Bk w (w2.setCell ⟨GS, k, none⟩ (.slice (some ⟨g3, 0, none⟩) (n + 64) c3))) := B9.out.put HGS.out
                      clear S2 S3 B8 B9 hL4 hv0 hf HO HN
                      go_wp2_with fail
                      go_roundg (2 - (k + 1))
                      case measure => omega
                      case rel => exact ⟨k + 1, by go_num, by omega, by omega, B10, S4⟩
                · have hltz : ¬ (k : Int) < 2 := by omega
                  have hk : k = 2 := by omega
                  subst hk
                  clear HGS HI HJ
                  go_wp2_with fail
                  generalize wr = w5 at B5 S1 ⊢
                  go_loopg [14, 15] 2 (fun g1 vk vi wr => ∃ (k : Nat), vk = .int .i64 k ∧ k ≤ 2 ∧ 2 - k ≤ g1 ∧ Aside (Below w5.heap.size w5 wr))
                  case atStart => exact ⟨0, by go_num, by omega, by omega, Below.refl _ _⟩
                  case round =>
                    obtain ⟨k, rfl, hk2, hg1, B2⟩ := hrel
                    have rk : IntKind.i64.wrap ((k : Int) + 1) = ((k + 1 : Nat) : Int) := by rw [IntKind.wrap_i64]; omega
                    by_cases hlt : k < 2
                    · have hltz : (k : Int) < 2 := by omega
                      obtain ⟨b, hb⟩ : ∃ q, Aside (q = Bk k) := ⟨_, rfl⟩
                      obtain ⟨v, hgv, g, gc, rfl, hgl, hgne, hgc⟩ := S1.out.el k hlt
                      have HGV : Aside (w5.cell? ⟨GS, k, none⟩ = some (.slice (some ⟨g, 0, none⟩) (n + 64) gc)) := hgv
                      have HGC : Aside (∀ i, i < n → w5.cell? ⟨g, i, none⟩ = some (imv (markN k i))) := hgc
                      clear hgv hgl hgne hgc
                      go_wp2_with fail
                      go_loopg [15] n (fun g1 vi wr => ∃ (i : Nat), vi = .int .i64 i ∧ i ≤ n ∧ n - i ≤ g1 ∧ Aside (Below w5.heap.size w5 wr))
                      case atStart => exact ⟨0, by go_num, by omega, by omega, B2⟩
                      case round =>
                        clear B2
                        obtain ⟨i, rfl, hin, hg1, B4⟩ := hrel
                        have ra : IntKind.i64.wrap ((i : Int) + 1) = ((i + 1 : Nat) : Int) := by rw [IntKind.wrap_i64]; omega
                        have B6 : Aside (ApB imv L n Bk w wr) := B5.out.more (Nat.le_refl _) B4.out
                        have k2 : wr.cell? ⟨L, k, none⟩ = some (.slice (some ⟨b, 0, none⟩) n n) := by rw [hb.out]; exact B6.out.row k hlt
                        by_cases hli : i < n
                        · have hliz : (i : Int) < (n : Int) := by omega
                          have hlin : i < n + 64 := by omega
                          have hlin2 : (i : Int) < (n : Int) + 64 := by omega
                          have k1 : wr.cell? ⟨GS, k, none⟩ = some (.slice (some ⟨g, 0, none⟩) (n + 64) gc) := by rw [B4.out.cell (by exact blk_lt HGV.out)]; exact HGV.out
                          have c13 := mark_s k i (by omega) (by omega)
                          obtain ⟨m, hm⟩ : ∃ q, Aside (q = markN k i) := ⟨_, rfl⟩
                          rw [← hm.out] at c13
                          have k3 : wr.cell? ⟨g, i, none⟩ = some (.int .i64 (m : Int)) := by
                            have := HGC.out i hli
                            rw [B4.out.cell (by exact blk_lt this), this, hm.out]
                            rfl
                          have k4 : wr.cell? ⟨b, i, none⟩ = some (.int .i64 (m : Int)) := by rw [hb.out, B6.out.mks k i hlt hli, hm.out]; rfl
                          go_wp2_with fail
                          go_region_held3 (fun x => x.cell? ⟨GS, k, none⟩ = some (.slice (some ⟨g, 0, none⟩) (n + 64) gc) ∧ x.cell? ⟨L, k, none⟩ = some (.slice (some ⟨b, 0, none⟩) n n) ∧ x.cell? ⟨g, i, none⟩ = some (.int .i64 (m : Int)) ∧ x.cell? ⟨b, i, none⟩ = some (.int .i64 (m : Int))) (first | exact ⟨k1, k2, k3, k4⟩ | go_keep) (first | (go_at_call 14; refine (c13 _).mono ?_; rintro en x1 ⟨rfl, rfl⟩))
                          have B7 : Aside (Below w5.heap.size w5 wr.drew) := B4.out.drew
                          go_wp2_with fail
                          go_roundg (n - (i + 1))
                          case measure => omega
                          case rel => exact ⟨i + 1, by go_num, by omega, by omega, B7⟩
                        · have hliz : ¬ (i : Int) < (n : Int) := by omega
                          go_wp2_with fail
                          go_roundg (2 - (k + 1))
                          case measure => omega
                          case rel => exact ⟨k + 1, by go_num, by omega, by omega, B4⟩
                    · have hltz : ¬ (k : Int) < 2 := by omega
                      have hk : k = 2 := by omega
                      subst hk
                      have B6 : Aside (ApB imv L n Bk w wr) := B5.out.more (Nat.le_refl _) B2.out
                      go_wp2_with fail
                      go_ret
                      exact ⟨rfl, B6.out.bel⟩
end Go.Proofs.YtadngfgbefgocaaGreatDoor
