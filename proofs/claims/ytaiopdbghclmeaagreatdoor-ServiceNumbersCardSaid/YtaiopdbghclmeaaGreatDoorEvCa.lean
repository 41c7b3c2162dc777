/- The closure of a function's calls, reckoned over a list of lists; a range in pieces. No condition. -/
import Derived.Test.YtaiopdbghclmeaaGreatDoorRows
import Derived.KernelRfl
namespace Go.Proofs.YtaiopdbghclmeaaGreatDoor
open Go
def clm (adj : Nat → List Nat) : Nat → List Nat → List Nat → Nat → List Nat
  | 0, _, seen, _ => seen.reverse
  | _ + 1, [], seen, _ => seen.reverse
  | n + 1, f :: todo, seen, mask => if mask.testBit f = true then clm adj n todo seen mask else clm adj n (adj f ++ todo) (f :: seen) (mask ||| 1 <<< f)
theorem closureVia_adj (P : Program) (adj : Nat → List Nat) (h : ∀ g : Nat, (P.funcs[g]?).elim [] P.leadsTo = adj g) :
    ∀ (n : Nat) (todo seen : List Nat) (mask : Nat), (∀ x, mask.testBit x = seen.contains x) → P.closureVia n todo seen = clm adj n todo seen mask
  | 0, _, _, _, _ => rfl
  | _ + 1, [], _, _, _ => rfl
  | n + 1, f :: todo, seen, mask, hm => by
    unfold Program.closureVia clm
    rw [hm f]
    split
    · exact closureVia_adj P adj h n todo seen mask hm
    · rw [h f]
      refine closureVia_adj P adj h n _ _ _ fun x => ?_
      rw [Nat.testBit_or, hm x, Nat.one_shiftLeft, Nat.testBit_two_pow, List.contains_cons]
      by_cases e : x = f
      · subst e
        simp
      · have e1 : (x == f) = false := by simpa using e
        have e2 : decide (f = x) = false := decide_eq_false fun q => e q.symm
        rw [e1, e2, Bool.or_false, Bool.false_or]
theorem pieces {α β : Type} (f : α → β) : ∀ (T : List (List β)) (a : Nat) (l : List α), (∀ c, c < T.length → ((l.drop (a + 32 * c)).take 32).map f = T.getD c []) → l.length ≤ a + 32 * T.length → (l.drop a).map f = T.flatten
  | [], a, l, _, hs => by
    rw [List.drop_of_length_le (by simpa using hs)]
    rfl
  | t :: T, a, l, h, hs => by
    have h0 := h 0 (by simp)
    have ih := pieces f T (a + 32) l (fun c hc => by
      have := h (c + 1) (by simpa using hc)
      rw [show a + 32 * (c + 1) = a + 32 + 32 * c by omega] at this
      exact this) (by simp only [List.length_cons] at hs; omega)
    rw [Nat.mul_zero, Nat.add_zero] at h0
    rw [List.flatten_cons, ← ih, show t = (t :: T).getD 0 [] from rfl, ← h0, ← List.map_append, ← List.drop_drop, List.take_append_drop]
theorem adj_of (P : Program) (T : List (List (List Nat))) (h : ∀ c, c < T.length → ((P.funcs.toList.drop (0 + 32 * c)).take 32).map P.leadsTo = T.getD c []) (hs : P.funcs.toList.length ≤ 0 + 32 * T.length) (g : Nat) :
    (P.funcs[g]?).elim [] P.leadsTo = (T.getD (g / 32) []).getD (g % 32) [] := by
  by_cases hc : g / 32 < T.length
  · rw [← h _ hc, List.getD_eq_getElem?_getD, List.getElem?_map, List.getElem?_take_of_lt (Nat.mod_lt _ (by decide)), List.getElem?_drop, show 0 + 32 * (g / 32) + g % 32 = g by omega, Array.getElem?_toList]
    cases P.funcs[g]? <;> rfl
  · have e : P.funcs[g]? = none := by
      rw [← Array.getElem?_toList]
      exact List.getElem?_eq_none (by omega)
    rw [e, show T.getD (g / 32) [] = [] by rw [List.getD_eq_getElem?_getD, List.getElem?_eq_none (by omega)]; rfl]
    rfl
theorem closure_of (P : Program) (T : List (List (List Nat))) (f : Nat) (h : ∀ c, c < T.length → ((P.funcs.toList.drop (0 + 32 * c)).take 32).map P.leadsTo = T.getD c []) (hs : P.funcs.toList.length ≤ 0 + 32 * T.length) :
    P.closure f = clm (fun g => (T.getD (g / 32) []).getD (g % 32) []) (1 + (T.flatten.map fun x => x.length + 1).sum) [f] [] 0 := by
  unfold Program.closure
  have hp := pieces P.leadsTo T 0 P.funcs.toList h hs
  rw [List.drop_zero] at hp
  rw [closureVia_adj P _ (adj_of P T h hs) _ _ _ 0 (fun x => by simp), ← hp, List.map_map]
  rfl
theorem range_all (q : Nat → Bool) (k m n : Nat) (hn : n ≤ k * m) (h : ∀ c, c < m → ((List.range' (k * c) k).all fun t => q t || decide (n ≤ t)) = true) (hk : 0 < k) : (List.range n).all q = true := by
  refine List.all_eq_true.2 fun j hj => ?_
  have hj' : j < n := List.mem_range.1 hj
  have hc : j / k < m := Nat.div_lt_of_lt_mul (by omega)
  have := List.all_eq_true.1 (h _ hc) j (List.mem_range'_1.2 ⟨Nat.mul_div_le j k, by have := Nat.div_add_mod j k; have := Nat.mod_lt j hk; omega⟩)
  simpa [show ¬ n ≤ j by omega] using this
end Go.Proofs.YtaiopdbghclmeaaGreatDoor
