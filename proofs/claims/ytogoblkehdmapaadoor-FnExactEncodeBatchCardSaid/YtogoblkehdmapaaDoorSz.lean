/- Some of this seat's texts, joined by prune.py. -/
import Derived.Test.YtogoblkehdmapaaDoorLoops
import Derived.Test.YtogoblkehdmapaaDoorXNum
import Derived.Test.YtogoblkehdmapaaDoorF20
/- A list's weight, counted down from what is left: plain. -/
namespace Go.Proofs.YtogoblkehdmapaaDoor.Loops
open Go.RowKit Go.Proofs.YtogoblkehdmapaaDoorW.PrintWords
theorem sz_list {α : Type} (L : Nat → List α → Int → Int → Option Int) (g : Nat → α → Int → Option Int) (d : α) (wt : α → Nat)
    (hL : ∀ k x a i, L (k + 1) x a i = if i < (x.length : Int) then (if 0 ≤ i then ((g k (x.getD i.toNat d) a).bind fun t => if t < 0 then some (-1) else L k x t (wrap64 (i + 1))) else none) else some a)
    (x : List α) (hn : x.length ≤ 9223372036854775807)
    (hg : ∀ e ∈ x, ∀ a : Int, 0 ≤ a → a ≤ 1048576 → ∃ t, Ev (fun k => g k e a) t ∧ (0 ≤ t → t = a - wt e)) (a : Int) (h0 : 0 ≤ a) (h1 : a ≤ 1048576) :
    ∃ t, Ev (fun k => if wrap64 (a - (x.length : Int)) < 0 then some (-1) else L k x (wrap64 (a - (x.length : Int))) 0) t ∧ (0 ≤ t → t = a - ((x.length : Int) + (total wt x : Nat))) := by
  have e1 : wrap64 (a - (x.length : Int)) = a - (x.length : Int) := by unfold wrap64; omega
  rw [e1]
  by_cases hneg : a - (x.length : Int) < 0
  · simp only [if_pos hneg]
    exact ⟨-1, Ev.now _, fun h => by omega⟩
  · simp only [if_neg hneg]
    obtain ⟨t, ht, hw⟩ := sz_loop L g d wt hL x (by omega) hg x.length 0 (a - (x.length : Int)) (by omega) (by omega) (by omega)
    refine ⟨t, ht, fun h => ?_⟩
    rw [hw h, List.drop_zero]
    omega
/-- What stands where a callee's count is handed on. -/
theorem sz_hand {f : Nat → Option Int} {t : Int} (h : Ev f t) : ∃ u, Ev (fun k => (f k).bind fun t => if t < 0 then some (-1) else some t) u ∧ (0 ≤ u → u = t) := by
  by_cases hneg : t < 0
  · exact ⟨-1, Ev.bind h (by simp only [if_pos hneg]; exact Ev.now _), fun h => by omega⟩
  · exact ⟨t, Ev.bind h (by simp only [if_neg hneg]; exact Ev.now _), fun _ => rfl⟩
theorem sz_two (n m : Nat) (hn : n ≤ 9223372036854775807) (hm : m ≤ 9223372036854775807) (a : Int) (h0 : 0 ≤ a) (h1 : a ≤ 1048576) :
    ∃ t, (if wrap64 (a - (n : Int)) < 0 then some (-1) else if wrap64 (wrap64 (a - (n : Int)) - (m : Int)) < 0 then some (-1) else some (wrap64 (wrap64 (a - (n : Int)) - (m : Int)))) = some t ∧ (0 ≤ t → t = a - ((n + m : Nat) : Int)) := by
  have e1 : wrap64 (a - (n : Int)) = a - (n : Int) := by unfold wrap64; omega
  rw [e1]
  by_cases hneg : a - (n : Int) < 0
  · rw [if_pos hneg]; exact ⟨-1, rfl, fun h => by omega⟩
  · rw [if_neg hneg]
    have e2 : wrap64 (a - (n : Int) - (m : Int)) = a - (n : Int) - (m : Int) := by unfold wrap64; omega
    rw [e2]
    by_cases hneg2 : a - (n : Int) - (m : Int) < 0
    · rw [if_pos hneg2]; exact ⟨-1, rfl, fun h => by omega⟩
    · rw [if_neg hneg2]; exact ⟨_, rfl, fun _ => by omega⟩
end Go.Proofs.YtogoblkehdmapaaDoor.Loops
/- The reference's l2Num gives the lowest bytes of a number, as the program's num does. -/
namespace Go.Proofs.YtogoblkehdmapaaDoor.NumPlain
open Go.Proofs.YtogoblkehdmapaaDoor.M Go.Proofs.YtogoblkehdmapaaDoor.M.Num Go.Proofs.YtogoblkehdmapaaDoorW.PrintWords Go.Proofs.YtogoblkehdmapaaDoorW.PrintLast Go.RowKit

/-- The division's loop. -/
theorem l1_loop (v : Int) (xs : List Int) (i : Nat) (hi : i < 8) (r : ByteArray) (d : Nat) : ∀ j, j + d = i →
    (∃ k, spec_l2Num.l1 k v xs i (v / 256 ^ i) i = some r) → ∃ k, spec_l2Num.l1 k v xs i (v / 256 ^ j) j = some r := by
  induction d with
  | zero =>
    intro j hj h
    obtain rfl : j = i := by omega
    exact h
  | succ d ih =>
    intro j hj h
    obtain ⟨k, hk⟩ := ih (j + 1) (by omega) h
    refine ⟨k + 1, ?_⟩
    simp only [spec_l2Num.l1]
    have e2 : wrap64 ((j : Int) + 1) = ((j + 1 : Nat) : Int) := by unfold wrap64; omega
    rw [if_pos (by omega), arr8_div, e2]
    exact hk
/-- The first bytes of m. -/
def first (m : Nat) (v : Int) (n : Nat) : List Int := (List.range n).map fun p => byte8 v (8 - m + p)
theorem l0_loop (v : Int) (m : Nat) (hm : m ≤ 8) (d : Nat) : ∀ n, n + d = m →
    ∃ k, spec_l2Num.l0 k v (first m v n) ((m : Int) - 1 - n) = some (Num.bytes m v) := by
  induction d with
  | zero =>
    intro n hn
    obtain rfl : n = m := by omega
    refine ⟨1, ?_⟩
    simp only [spec_l2Num.l0]
    rw [if_neg (by omega)]
    rfl
  | succ d ih =>
    intro n hn
    obtain ⟨k, hk⟩ := ih (n + 1) (by omega)
    obtain ⟨k2, hk2⟩ := l1_loop v (first m v n) (m - 1 - n) (by omega) (Num.bytes m v) (m - 1 - n) 0 (by omega) ⟨k + 1, by
      simp only [spec_l2Num.l1]
      have e1 : wrap64 (((m - 1 - n : Nat) : Int) - 1) = (m : Int) - 1 - ((n + 1 : Nat) : Int) := by unfold wrap64; omega
      have e2 : first m v n ++ [v / 256 ^ (m - 1 - n) % 256] = first m v (n + 1) := by
        unfold first
        rw [List.range_succ, List.map_append]
        simp only [List.map_cons, List.map_nil, byte8]
        rw [show 7 - (8 - m + n) = m - 1 - n by omega]
      rw [if_neg (by omega), if_pos (by unfold first; rw [List.length_map, List.length_range]; omega), e1, e2]
      exact hk⟩
    refine ⟨k2 + 1, ?_⟩
    simp only [spec_l2Num.l0]
    rw [if_pos (by omega)]
    rw [show (m : Int) - 1 - (n : Int) = ((m - 1 - n : Nat) : Int) by omega]
    simpa using hk2
theorem spec_num (v : Int) (m : Nat) (hm : m ≤ 8) : Ev (fun k => spec_l2Num.f k m v) (Num.bytes m v) := by
  obtain ⟨k, hk⟩ := l0_loop v m hm m 0 (by omega)
  refine Ev.of (spec_l2Num.mono _ _) (k := k) ?_
  unfold spec_l2Num.f
  have e : wrap64 ((m : Int) - 1) = (m : Int) - 1 - ((0 : Nat) : Int) := by unfold wrap64; omega
  rw [e]
  exact hk
end Go.Proofs.YtogoblkehdmapaaDoor.NumPlain
