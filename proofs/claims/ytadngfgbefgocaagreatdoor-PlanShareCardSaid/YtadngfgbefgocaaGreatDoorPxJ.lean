/- latchkeylaw24.PlanShare, walked: it returns true, where its closed question answers true. The conditions stand in each statement. -/
import Derived.Test.YtadngfgbefgocaaGreatDoorPxH
import Derived.Test.YtadngfgbefgocaaGreatDoorPxI

namespace Go.Proofs.YtadngfgbefgocaaGreatDoor
open Go.Shelf Go.RowKit Go.Lib Go.Sort Go.Big Go.Flo
/-- a row that may be written -/
def Free (w : World) (b n : Nat) : Prop := b < w.heap.size ∧ ∀ i, i < n → w.frozen? ⟨b, i, none⟩ = false ∧ ∃ v, w.cell? ⟨b, i, none⟩ = some v
theorem Free.below {w w' : World} {b n : Nat} (h : Free w b n) (hb : Below w.heap.size w w') : Free w' b n :=
  ⟨Nat.lt_of_lt_of_le h.1 hb.size, fun i hi => by rw [hb.frozen (by exact h.1), hb.cell (by exact h.1)]; exact h.2 i hi⟩
def bk2 (b0 b1 k : Nat) : Nat := if k = 0 then b0 else b1
theorem Free.off {w w' : World} {b b0 b1 n : Nat} (h : Free w b n) (ho : ApO (bk2 b0 b1) w w') (h0 : b ≠ b0) (h1 : b ≠ b1) : Free w' b n :=
  ⟨Nat.lt_of_lt_of_le h.1 ho.size, fun i hi => by
    have e := ho.block b h.1 h0 h1
    rw [World.frozen?_of_block (a := ⟨b, i, none⟩) e, World.cell?_of_block (a := ⟨b, i, none⟩) e]
    exact h.2 i hi⟩
theorem Free.told {B : Nat} {w1 w : World} {b n : Nat} {F : Nat → Nat} (h : Told B w1 w b n n F) : Free w b n :=
  ⟨h.lt, fun j hj => ⟨h.fr j hj, by obtain ⟨v, hv, _⟩ := h.cell j hj; exact ⟨_, hv⟩⟩⟩
def apW (w : World) (T b0 b1 n : Nat) : World := w.alloc (.cells #[.slice (some ⟨b0, 0, none⟩) n n, .slice (some ⟨b1, 0, none⟩) n n] T)
theorem apW_below (w : World) (T b0 b1 n : Nat) : Below w.heap.size w (apW w T b0 b1 n) := (Below.refl _ _).alloc (Nat.le_refl _) _
theorem ApA.start {cv : Nat → Value} {w : World} {T b0 b1 n : Nat} (h0 : Free w b0 n) (h1 : Free w b1 n) (hne : b0 ≠ b1) :
    ApG w.heap.size n (bk2 b0 b1) ∧ ApA cv w.heap.size n (bk2 b0 b1) (apW w T b0 b1 n) 0 0 (apW w T b0 b1 n) := by
  have f0 := h0.below (apW_below w T b0 b1 n)
  have f1 := h1.below (apW_below w T b0 b1 n)
  have l0 := h0.1
  have l1 := h1.1
  refine ⟨⟨hne, fun k hk => ?_⟩, ApO.refl _ _, rfl, fun k hk => ?_, fun k i hk hi => ?_, fun k i hk hi => ?_, fun k i hk hi hd => by omega⟩
  · unfold bk2; split <;> omega
  · by_cases q : k = 0
    · subst q
      simp [apW, bk2]
    · have : k = 1 := by omega
      subst this
      simp [apW, bk2]
  · unfold bk2
    split
    · exact (f0.2 i hi).1
    · exact (f1.2 i hi).1
  · unfold bk2
    split
    · exact (f0.2 i hi).2
    · exact (f1.2 i hi).2
theorem ApO.from {Bk : Nat → Nat} {w w1 w2 : World} (hb : Below w.heap.size w w1) (h : ApO Bk w1 w2) : ApO Bk w w2 :=
  ⟨h.os.trans hb.os, h.tape.trans hb.tape, h.output.trans hb.output, Nat.le_trans hb.size h.size, fun k hk h0 h1 => (h.block k (Nat.lt_of_lt_of_le hk hb.size) h0 h1).trans (hb.block k hk)⟩
theorem apart_w {w : World} {b0 b1 n : Nat} (hn : n ≤ 16777216) (h0 : Free w b0 n) (h1 : Free w b1 n) (hne : b0 ≠ b1) :
    Calls Tryz.prog 11 #[.slice (some ⟨w.heap.size, 0, none⟩) 2 2] (apW w 22 b0 b1 n) fun e w' => e = .returned (.bool true) ∧ ApO (bk2 b0 b1) w w' := by
  obtain ⟨g, a⟩ := ApA.start (cv := fmv) (T := 22) h0 h1 hne
  exact (apart_s _ n _ _ hn g a).mono fun e w' ⟨h, k⟩ => ⟨h, ApO.from (apW_below w 22 b0 b1 n) k⟩
theorem apartI_w {w : World} {b0 b1 n : Nat} (hn : n ≤ 16777216) (h0 : Free w b0 n) (h1 : Free w b1 n) (hne : b0 ≠ b1) :
    Calls Tryz.prog 12 #[.slice (some ⟨w.heap.size, 0, none⟩) 2 2] (apW w 24 b0 b1 n) fun e w' => e = .returned (.bool true) ∧ ApO (bk2 b0 b1) w w' := by
  obtain ⟨g, a⟩ := ApA.start (cv := imv) (T := 24) h0 h1 hne
  exact (apartI_s _ n _ _ hn g a).mono fun e w' ⟨h, k⟩ => ⟨h, ApO.from (apW_below w 24 b0 b1 n) k⟩
theorem Lent.words {w : World} {g cap n : Nat} {F : Nat → Nat} {ls : Array Nat} (h : Lent w g cap n F) (hs : ls.size = n) (hF : ∀ j, j < n → F j = ls[j]!) (hsm : ∀ j, j < n → ls[j]! < 4294967296) : WordsAt w (some ⟨g, 0, none⟩) n ls :=
  ⟨hs, fun _ => ⟨g, 0, rfl, h.lt, hs, hsm, fun i hi => by rw [Nat.zero_add, h.cell i hi, hF i hi]⟩⟩
theorem ord_at {w : World} {b n : Nat} {ls : Array Nat} (hl : b < w.heap.size) (h : Holds (encR n) w b 0 (Stab.stable (ltOf (cfOf n ls)) (Array.range n))) : OrdAt w b n ls ∧ Free w b n := by
  have h' : ∀ j, j < n → w.cell? ⟨b, j, none⟩ = some (.int .i64 (ordN n ls)[j]!) ∧ w.frozen? ⟨b, j, none⟩ = false := fun j hj => by
    have h := h j (by rw [stable_size]; exact hj)
    rw [Nat.zero_add] at h
    refine ⟨?_, h.2⟩
    rw [h.1]
    show some (Value.int .i64 (((ordN n ls)[j]! % n : Nat) : Int)) = _
    rw [Nat.mod_eq_of_lt (ord_lt ls hj)]
  exact ⟨⟨hl, fun j hj => (h' j hj).1⟩, hl, fun j hj => ⟨(h' j hj).2, _, (h' j hj).1⟩⟩
/-- what is there -/
structure Env (g cap n : Nat) (ls : Array Nat) (w0 : World) (ss os fs : List Nat) (w : World) : Prop where
  bel : Below w0.heap.size w0 w
  gl : w0.heap.size ≤ g
  x : Lent w g cap n (fun j => ls[j]!)
  s : ∀ b, b ∈ ss → FltAt w b n (outN ls n)
  o : ∀ b, b ∈ os → OrdAt w b n ls
  f : ∀ b, b ∈ fs → Free w b n
theorem Env.step {g cap n : Nat} {ls : Array Nat} {w0 w w' : World} {ss os fs : List Nat} (h : Env g cap n ls w0 ss os fs w) (hb : Below w.heap.size w w') : Env g cap n ls w0 ss os fs w' :=
  ⟨h.bel.trans (hb.mono h.bel.size), h.gl, h.x.below h.x.lt hb, fun b q => (h.s b q).below (Nat.le_refl _) hb, fun b q => (h.o b q).below (Nat.le_refl _) hb, fun b q => (h.f b q).below hb⟩
theorem Env.addS {g cap n : Nat} {ls : Array Nat} {w0 w w' : World} {ss os fs : List Nat} {b : Nat} (h : Env g cap n ls w0 ss os fs w) (ht : Told w.heap.size w w' b n n (outN ls n)) : Env g cap n ls w0 (b :: ss) os (b :: fs) w' := by
  have h' := h.step ht.bel
  refine ⟨h'.bel, h'.gl, h'.x, fun c q => ?_, h'.o, fun c q => ?_⟩
  · rcases List.mem_cons.1 q with rfl | q
    · exact FltAt.of ht
    · exact h'.s c q
  · rcases List.mem_cons.1 q with rfl | q
    · exact Free.told ht
    · exact h'.f c q
theorem Env.addO {g cap n : Nat} {ls : Array Nat} {w0 w w' : World} {ss os fs : List Nat} {b : Nat} (h : Env g cap n ls w0 ss os fs w) (hb : Below w.heap.size w w') (ht : OrdAt w' b n ls ∧ Free w' b n) : Env g cap n ls w0 ss (b :: os) (b :: fs) w' := by
  have h' := h.step hb
  refine ⟨h'.bel, h'.gl, h'.x, h'.s, fun c q => ?_, fun c q => ?_⟩
  · rcases List.mem_cons.1 q with rfl | q
    · exact ht.1
    · exact h'.o c q
  · rcases List.mem_cons.1 q with rfl | q
    · exact ht.2
    · exact h'.f c q
theorem Env.off {g cap n : Nat} {ls : Array Nat} {w0 w w' : World} {ss os fs fs' : List Nat} {b0 b1 : Nat} (h : Env g cap n ls w0 ss os fs w) (ho : ApO (bk2 b0 b1) w w') (h0 : g < b0) (h1 : g < b1) (hf : ∀ b, b ∈ fs' → b ∈ fs ∧ b ≠ b0 ∧ b ≠ b1) : Env g cap n ls w0 [] [] fs' w' := by
  have hb : Below (g + 1) w w' := ho.below h0 h1 h.x.lt
  have hg := h.gl
  exact ⟨h.bel.trans (hb.mono (by omega)), h.gl, h.x.below (Nat.lt_succ_self g) hb, fun b q => absurd q (by simp), fun b q => absurd q (by simp), fun b q => by
    obtain ⟨q1, q2, q3⟩ := hf b q
    exact (h.f b q1).off ho q2 q3⟩
/-- the words one place on, as far as they go -/
def onN (n : Nat) (ls : Array Nat) : Array Nat := (Array.range n).map fun j => if j + 1 < n then ls[j + 1]! else ls[j]!
theorem onN_size (n : Nat) (ls : Array Nat) : (onN n ls).size = n := by unfold onN; simp
theorem onN_get {n j : Nat} (ls : Array Nat) (h : j < n) : (onN n ls)[j]! = if j + 1 < n then ls[j + 1]! else ls[j]! := by
  rw [getElem!_pos _ j (by rw [onN_size]; exact h)]
  unfold onN
  simp
/-- while x is moved up -/
structure Moved (w0 : World) (g cap n : Nat) (ls : Array Nat) (i : Nat) (w : World) : Prop where
  bel : Below w0.heap.size w0 w
  gl : w0.heap.size ≤ g
  lt : g < w.heap.size
  cell : ∀ j, j < n → w.cell? ⟨g, j, none⟩ = some (.float .f32 (if j < i then ls[j + 1]! else ls[j]!))
  fr : ∀ j, j < n → w.frozen? ⟨g, j, none⟩ = false
theorem Env.moved {g cap n : Nat} {ls : Array Nat} {w0 w : World} {ss os fs : List Nat} (h : Env g cap n ls w0 ss os fs w) : Moved w0 g cap n ls 0 w :=
  ⟨h.bel, h.gl, h.x.lt, fun j hj => by rw [if_neg (by omega)]; exact h.x.cell j hj, h.x.fr⟩
theorem Moved.put {w0 w : World} {g cap n i : Nat} {ls : Array Nat} (h : Moved w0 g cap n ls i w) (hi : i + 1 < n) : Moved w0 g cap n ls (i + 1) (w.setCell ⟨g, i, none⟩ (.float .f32 ls[i + 1]!)) where
  bel := h.bel.setCell (by exact h.gl) _
  gl := h.gl
  lt := by simpa [World.setCell] using h.lt
  cell := fun j hj => by
    by_cases e : j = i
    · subst e
      rw [if_pos (Nat.lt_succ_self j)]
      exact World.cell?_setCell_same _ _ _ (h.cell j hj)
    · rw [World.cell?_setCell_other _ _ _ _ (by intro q; simp only [Addr.mk.injEq] at q; omega), h.cell j hj]
      by_cases q : j < i
      · rw [if_pos q, if_pos (by omega)]
      · rw [if_neg q, if_neg (by omega)]
  fr := fun j hj => by rw [World.frozen?_setCell]; exact h.fr j hj
theorem Moved.words {w0 w : World} {g cap n i : Nat} {ls : Array Nat} (h : Moved w0 g cap n ls i w) (hi : ¬ i + 1 < n) (hin : i + 1 ≤ n ∨ i = 0) (hsm : ∀ j, j < n → ls[j]! < 4294967296) : WordsAt w (some ⟨g, 0, none⟩) n (onN n ls) :=
  ⟨onN_size n ls, fun _ => ⟨g, 0, rfl, h.lt, onN_size n ls, fun j hj => by
    rw [onN_get ls hj]
    split
    · exact hsm _ (by assumption)
    · exact hsm _ hj, fun j hj => by
    rw [Nat.zero_add, h.cell j hj, onN_get ls hj]
    by_cases q : j + 1 < n
    · rw [if_pos q, if_pos (by omega)]
    · rw [if_neg q, if_neg (by omega)]⟩⟩
end Go.Proofs.YtadngfgbefgocaaGreatDoor

namespace Go.Proofs.YtadngfgbefgocaaGreatDoor
open Go.Shelf Go.RowKit Go.Lib Go.Sort Go.Big Go.Flo
set_option maxHeartbeats 8000000 in
set_option maxRecDepth 1000000 in
theorem law_s (a0 : Option Addr) (n lc : Nat) (ls : Array Nat) (w : World) (hl : n ≤ 16777216 → WordsAt w a0 n ls) (hsm : ∀ i, i < n → ls[i]! < 4294967296)
    (haw : ∀ w2, Below w.heap.size w w2 → Calls Tryz.prog 13 #[] w2 fun e w' => e = .returned (.bool true) ∧ Below w2.heap.size w2 w') :
    Calls Tryz.prog 3 #[.slice a0 n lc] w fun e w' => e = .returned (.bool true) ∧ Below w.heap.size w w' := by
  have mixed := mixed
  have t3 := Tryz.underlying3
  have t4 := Tryz.underlying4
  have t22 := Tryz.underlying22
  have t24 := Tryz.underlying24
  have t29 := Tryz.underlying29
  have t31 := Tryz.underlying31
  have u22 := run_underlying t22
  have u24 := run_underlying t24
  have e4 : ∀ args w, (callFunc 4 args).run Tryz.prog w = .ok (.enter 4 args) w := enters_of Tryz.func4 (by kernel_rfl) rfl
  have e5 : ∀ args w, (callFunc 5 args).run Tryz.prog w = .ok (.enter 5 args) w := enters_of Tryz.func5 (by kernel_rfl) rfl
  have e6 : ∀ args w, (callFunc 6 args).run Tryz.prog w = .ok (.enter 6 args) w := enters_of Tryz.func6 (by kernel_rfl) rfl
  have e7 : ∀ args w, (callFunc 7 args).run Tryz.prog w = .ok (.enter 7 args) w := enters_of Tryz.func7 (by kernel_rfl) rfl
  have e8 : ∀ args w, (callFunc 8 args).run Tryz.prog w = .ok (.enter 8 args) w := enters_of Tryz.func8 (by kernel_rfl) rfl
  have e9 : ∀ args w, (callFunc 9 args).run Tryz.prog w = .ok (.enter 9 args) w := enters_of Tryz.func9 (by kernel_rfl) rfl
  have e10 : ∀ args w, (callFunc 10 args).run Tryz.prog w = .ok (.enter 10 args) w := enters_of Tryz.func10 (by kernel_rfl) rfl
  have e11 : ∀ args w, (callFunc 11 args).run Tryz.prog w = .ok (.enter 11 args) w := enters_of Tryz.func11 (by kernel_rfl) rfl
  have e12 : ∀ args w, (callFunc 12 args).run Tryz.prog w = .ok (.enter 12 args) w := enters_of Tryz.func12 (by kernel_rfl) rfl
  have eaw : ∀ args w, (callFunc 13 args).run Tryz.prog w = .ok (.enter 13 args) w := enters_of Tryz.func13 (by kernel_rfl) rfl
  have HAW : Aside _ := haw
  clear haw
  by_cases hn : n ≤ 16777216
  · have hnz : (n : Int) ≤ 16777216 := by omega
    have HL : Aside (WordsAt w a0 n ls) := hl hn
    have HS : Aside _ := hsm
    clear hl hsm
    have hc4 := lent_s a0 n lc ls w hn HL.out
    go_enter Tryz.func3, Tryz.ntmps3
    go_wp2_with fail
    refine hc4.mono ?_
    rintro e w1 ⟨g, cap, rfl, hg, hX, hb1⟩
    clear hc4
    have E1 : Aside (Env g cap n ls w [] [] [] w1) := ⟨hb1, hg, hX, fun b q => absurd q (by simp), fun b q => absurd q (by simp), fun b q => absurd q (by simp)⟩
    clear hb1 hg hX
    have hc5 := share_s (some ⟨g, 0, none⟩) n cap ls w1 hn (E1.out.x.words HL.out.1 (fun _ _ => rfl) HS.out)
    go_wp2_with fail
    refine hc5.mono ?_
    rintro e w2 ⟨sa, rfl, hsa, hT⟩
    clear hc5
    have ga : Aside (g < sa) := (show g < sa from Nat.lt_of_lt_of_le E1.out.x.lt hsa)
    have E2 : Aside (Env g cap n ls w [sa] [] [sa] w2) := E1.out.addS hT
    clear hT hsa E1
    have hc5 := share_s (some ⟨g, 0, none⟩) n cap ls w2 hn (E2.out.x.words HL.out.1 (fun _ _ => rfl) HS.out)
    go_wp2_with fail
    refine hc5.mono ?_
    rintro e w3 ⟨sb, rfl, hsb, hT⟩
    clear hc5
    have gb : Aside (sa < sb) := (show sa < sb from Nat.lt_of_lt_of_le (E2.out.f sa (by simp)).1 hsb)
    have E3 : Aside (Env g cap n ls w [sb, sa] [] [sb, sa] w3) := E2.out.addS hT
    clear hT hsb E2
    have hc6 := share_r a0 n lc ls w3 hn (HL.out.below (Nat.le_refl _) E3.out.bel)
    go_wp2_with fail
    refine hc6.mono ?_
    rintro e w4 ⟨rb, rfl, hrb, hT⟩
    clear hc6
    have E4 : Aside (Env g cap n ls w [rb, sb, sa] [] [rb, sb, sa] w4) := E3.out.addS hT
    clear hT hrb E3
    have hc7 := order_s (some ⟨g, 0, none⟩) n cap ls w4 hn (E4.out.x.words HL.out.1 (fun _ _ => rfl) HS.out)
    go_wp2_with fail
    refine hc7.mono ?_
    rintro e w5 ⟨oa, rfl, hoa, hol, hb, hH⟩
    clear hc7
    have gc : Aside (sb < oa) := (show sb < oa from Nat.lt_of_lt_of_le (E4.out.f sb (by simp)).1 hoa)
    have E5 : Aside (Env g cap n ls w [rb, sb, sa] [oa] [oa, rb, sb, sa] w5) := E4.out.addO hb (ord_at hol hH)
    clear hoa hol hb hH E4
    have hc7 := order_s (some ⟨g, 0, none⟩) n cap ls w5 hn (E5.out.x.words HL.out.1 (fun _ _ => rfl) HS.out)
    go_wp2_with fail
    refine hc7.mono ?_
    rintro e w6 ⟨ob, rfl, hoa, hol, hb, hH⟩
    clear hc7
    have gd : Aside (oa < ob) := (show oa < ob from Nat.lt_of_lt_of_le (E5.out.f oa (by simp)).1 hoa)
    have E6 : Aside (Env g cap n ls w [rb, sb, sa] [ob, oa] [ob, oa, rb, sb, sa] w6) := E5.out.addO hb (ord_at hol hH)
    clear hoa hol hb hH E5
    have hc8 := samereals_s sa rb n n n (outN ls n) w6 hn (E6.out.s sa (by simp)) (E6.out.s rb (by simp))
    go_wp2_with fail
    refine hc8.mono ?_
    rintro e w7 ⟨rfl, hb⟩
    clear hc8
    have E7 : Aside (Env g cap n ls w [rb, sb, sa] [ob, oa] [ob, oa, rb, sb, sa] w7) := E6.out.step hb
    clear hb E6
    have hc8 := samereals_s sb rb n n n (outN ls n) w7 hn (E7.out.s sb (by simp)) (E7.out.s rb (by simp))
    go_wp2_with fail
    refine hc8.mono ?_
    rintro e w8 ⟨rfl, hb⟩
    clear hc8
    have E8 : Aside (Env g cap n ls w [rb, sb, sa] [ob, oa] [ob, oa, rb, sb, sa] w8) := E7.out.step hb
    clear hb E7
    have hc9 := order_r a0 n lc oa n ls w8 hn (HL.out.below (Nat.le_refl _) E8.out.bel) (E8.out.o oa (by simp))
    go_wp2_with fail
    refine hc9.mono ?_
    rintro e w9 ⟨rfl, hb⟩
    clear hc9
    have E9 : Aside (Env g cap n ls w [rb, sb, sa] [ob, oa] [ob, oa, rb, sb, sa] w9) := E8.out.step hb
    clear hb E8
    have hc9 := order_r a0 n lc ob n ls w9 hn (HL.out.below (Nat.le_refl _) E9.out.bel) (E9.out.o ob (by simp))
    go_wp2_with fail
    refine hc9.mono ?_
    rintro e w10 ⟨rfl, hb⟩
    clear hc9
    have E10 : Aside (Env g cap n ls w [rb, sb, sa] [ob, oa] [ob, oa, rb, sb, sa] w10) := E9.out.step hb
    clear hb E9
    have hc10 := kept_s g cap a0 n lc ls w10 hn (HL.out.below (Nat.le_refl _) E10.out.bel) E10.out.x
    go_wp2_with fail
    refine hc10.mono ?_
    rintro e w11 ⟨rfl, hb⟩
    clear hc10
    have E11 : Aside (Env g cap n ls w [rb, sb, sa] [ob, oa] [ob, oa, rb, sb, sa] w11) := E10.out.step hb
    clear hb E10
    have hc11 := apart_w hn (E11.out.f sa (by simp)) (E11.out.f sb (by simp)) (Nat.ne_of_lt gb.out)
    go_wp2_with fail
    refine hc11.mono ?_
    rintro e w12 ⟨rfl, ho⟩
    clear hc11
    have E12 : Aside (Env g cap n ls w [] [] [ob, oa] w12) := E11.out.off ho ga.out (Nat.lt_trans ga.out gb.out) (fun b q => by
      have q1 := ga.out
      have q2 := gb.out
      have q3 := gc.out
      have q4 := gd.out
      simp only [List.mem_cons, List.not_mem_nil, or_false] at q
      rcases q with rfl | rfl
      · exact ⟨by simp, by omega, by omega⟩
      · exact ⟨by simp, by omega, by omega⟩)
    clear ho E11
    have hc12 := apartI_w hn (E12.out.f oa (by simp)) (E12.out.f ob (by simp)) (Nat.ne_of_lt gd.out)
    go_wp2_with fail
    refine hc12.mono ?_
    rintro e w13 ⟨rfl, ho⟩
    clear hc12
    have E13 : Aside (Env g cap n ls w [] [] [] w13) := E12.out.off ho (by have q1 := ga.out; have q2 := gb.out; have q3 := gc.out; omega) (by have q1 := ga.out; have q2 := gb.out; have q3 := gc.out; have q4 := gd.out; omega) (fun b q => absurd q (by simp))
    clear ho E12
    have hc10 := kept_s g cap a0 n lc ls w13 hn (HL.out.below (Nat.le_refl _) E13.out.bel) E13.out.x
    go_wp2_with fail
    refine hc10.mono ?_
    rintro e w14 ⟨rfl, hb⟩
    clear hc10
    have M0 : Aside (Moved w g cap n ls 0 w14) := (E13.out.step hb).moved
    clear hb E13 ga gb gc gd
    go_wp2_with fail
    go_loopg [9] n (fun g1 vi wr => ∃ (i : Nat), vi = .int .i64 i ∧ (i + 1 ≤ n ∨ i = 0) ∧ n - i ≤ g1 ∧ Aside (Moved w g cap n ls i wr))
    case atStart => exact ⟨0, by go_num, by omega, by omega, M0⟩
    case round =>
      clear M0
      obtain ⟨i, rfl, hin, hg1, M⟩ := hrel
      obtain ⟨i1, hi1⟩ : ∃ q, Aside (q = i + 1) := ⟨_, rfl⟩
      have ra : IntKind.i64.wrap ((i : Int) + 1) = (i1 : Int) := by have := hi1.out; rw [IntKind.wrap_i64]; omega
      by_cases hlt : i1 < n
      · have hltz : (i1 : Int) < (n : Int) := by omega
        have hlti : i < n := by have := hi1.out; omega
        have hltiz : (i : Int) < (n : Int) := by omega
        obtain ⟨lb, lo, rfl, hlb, hw⟩ := HL.out.2 (by omega)
        obtain ⟨x, hx⟩ : ∃ x, Aside (x = ls[i + 1]!) := ⟨_, rfl⟩
        have hc : wr.cell? ⟨lb, lo + i1, none⟩ = some (.float .f32 x) := by rw [M.out.bel.cell (by exact hlb), hx.out, ← hi1.out]; exact hw.cell i1 hlt
        have hcx := M.out.cell i hlti
        rw [if_neg (Nat.lt_irrefl i)] at hcx
        have hf := M.out.fr i hlti
        have M2 : Aside (Moved w g cap n ls i1 (wr.setCell ⟨g, i, none⟩ (.float .f32 x))) := by
          rw [hx.out, hi1.out]
          exact M.out.put (by have := hi1.out; omega)
        have hst := fun a m w => run_store Tryz.prog w a (.float .f32 x) m rfl
        clear M hw
        go_wp2_with fail
        go_roundg (n - i1)
        case measure => have := hi1.out; omega
        case rel => exact ⟨i1, by go_num, by omega, by omega, M2⟩
      · have hltz : ¬ (i1 : Int) < (n : Int) := by omega
        obtain ⟨ms, hms⟩ : ∃ q, Aside (q = onN n ls) := ⟨_, rfl⟩
        have W0 : Aside (WordsAt wr (some ⟨g, 0, none⟩) n ms) := by
          rw [hms.out]
          exact M.out.words (by have := hi1.out; omega) (by omega) HS.out
        have B0 : Aside (Below w.heap.size w wr) := M.out.bel
        have hc5 := share_s (some ⟨g, 0, none⟩) n cap ms wr hn W0.out
        clear M hms hi1
        go_wp2_with fail
        refine hc5.mono ?_
        rintro e w2 ⟨sc, rfl, hsc, hT⟩
        clear hc5
        have W2 : Aside (WordsAt w2 (some ⟨g, 0, none⟩) n ms) := W0.out.below (Nat.le_refl _) hT.bel
        have B2 : Aside (Below w.heap.size w w2) := B0.out.trans (hT.bel.mono B0.out.size)
        have S2 : Aside (FltAt w2 sc n (outN ms n)) := FltAt.of hT
        clear hT hsc W0 B0
        have hc7 := order_s (some ⟨g, 0, none⟩) n cap ms w2 hn W2.out
        go_wp2_with fail
        refine hc7.mono ?_
        rintro e w3 ⟨oc, rfl, hoa, hol, hb, hH⟩
        clear hc7
        have W3 : Aside (WordsAt w3 (some ⟨g, 0, none⟩) n ms) := W2.out.below (Nat.le_refl _) hb
        have B3 : Aside (Below w.heap.size w w3) := B2.out.trans (hb.mono B2.out.size)
        have S3 : Aside (FltAt w3 sc n (outN ms n)) := S2.out.below (Nat.le_refl _) hb
        have O3 : Aside (OrdAt w3 oc n ms) := (ord_at hol hH).1
        clear hoa hol hb hH W2 B2 S2
        have hc6 := share_r (some ⟨g, 0, none⟩) n cap ms w3 hn W3.out
        go_wp2_with fail
        refine hc6.mono ?_
        rintro e w4 ⟨rc, rfl, hrb, hT⟩
        clear hc6
        have W4 : Aside (WordsAt w4 (some ⟨g, 0, none⟩) n ms) := W3.out.below (Nat.le_refl _) hT.bel
        have B4 : Aside (Below w.heap.size w w4) := B3.out.trans (hT.bel.mono B3.out.size)
        have S4 : Aside (FltAt w4 sc n (outN ms n)) := S3.out.below (Nat.le_refl _) hT.bel
        have R4 : Aside (FltAt w4 rc n (outN ms n)) := FltAt.of hT
        have O4 : Aside (OrdAt w4 oc n ms) := O3.out.below (Nat.le_refl _) hT.bel
        clear hT hrb W3 B3 S3 O3
        have hc8 := samereals_s sc rc n n n (outN ms n) w4 hn S4.out R4.out
        go_wp2_with fail
        refine hc8.mono ?_
        rintro e w5 ⟨rfl, hb⟩
        clear hc8
        have W5 : Aside (WordsAt w5 (some ⟨g, 0, none⟩) n ms) := W4.out.below (Nat.le_refl _) hb
        have B5 : Aside (Below w.heap.size w w5) := B4.out.trans (hb.mono B4.out.size)
        have O5 : Aside (OrdAt w5 oc n ms) := O4.out.below (Nat.le_refl _) hb
        clear hb W4 B4 S4 R4 O4
        have hc9 := order_r (some ⟨g, 0, none⟩) n cap oc n ms w5 hn W5.out O5.out
        go_wp2_with fail
        refine hc9.mono ?_
        rintro e w6 ⟨rfl, hb⟩
        clear hc9
        have B6 : Aside (Below w.heap.size w w6) := B5.out.trans (hb.mono B5.out.size)
        clear hb
        have hca := HAW.out w6 B6.out
        go_wp2_with fail
        refine hca.mono ?_
        rintro e w7 ⟨rfl, hb⟩
        clear hca
        have B7 : Aside (Below w.heap.size w w7) := B6.out.trans (hb.mono B6.out.size)
        clear hb
        go_wp2_with fail
        go_ret
        exact ⟨rfl, B7.out⟩
  · have hnz : ¬ (n : Int) ≤ 16777216 := by omega
    go_enter Tryz.func3, Tryz.ntmps3
    go_wp2_with fail
    go_ret
    exact ⟨rfl, Below.refl _ _⟩
end Go.Proofs.YtadngfgbefgocaaGreatDoor
