/- A list's weight, counted down from what is left: plain. -/
import Derived.Test.YtdfgfhnbcifheaaDoorLoops
namespace Go.Proofs.YtdfgfhnbcifheaaDoor.Loops
open Go.RowKit Go.Proofs.YtdfgfhnbcifheaaDoorW.PrintWords
theorem sz_list {α : Type} (L : Nat → List α → Int → Int → Option Int) (g : Nat → α → Int → Option Int) (d : α) (wt : α → Nat)
    (hL : ∀ k x a i, L (k + 1) x a i = if i < (x.length : Int) then (if 0 ≤ i then ((g k (x.getD i.toNat d) a).bind fun t => if t < 0 then some (-1) else L k x t (wrap64 (i + 1))) else none) else some a)
    (x : List α) (hn : x.length ≤ 9223372036854775807)
    (hg : ∀ e ∈ x, ∀ a : Int, 0 ≤ a → a ≤ 1048576 → ∃ t, Ev (fun k => g k e a) t ∧ (0 ≤ t → t = a - wt e)) (a : Int) (h0 : 0 ≤ a) (h1 : a ≤ 1048576) :
    ∃ t, Ev (fun k => if wrap64 (a - (x.length : Int)) < 0 then some (-1) else L k x (wrap64 (a - (x.length : Int))) 0) t ∧ (0 ≤ t → t = a - ((x.length : Int) + (total wt x : Nat))) := by
  have e1 : wrap64 (a - (x.length : Int)) = a - (x.length : Int) := by unfold wrap64; omega
  rw [e1]
  by_cases hneg : a - (x.length : Int) < 0
  · simp only [if_pos hneg]
    exact ⟨-1, Ev.now _, fun h => by omega⟩
  · simp only [if_neg hneg]
    obtain ⟨t, ht, hw⟩ := sz_loop L g d wt hL x (by omega) hg x.length 0 (a - (x.length : Int)) (by omega) (by omega) (by omega)
    refine ⟨t, ht, fun h => ?_⟩
    rw [hw h, List.drop_zero]
    omega
theorem sz_two (n m : Nat) (hn : n ≤ 9223372036854775807) (hm : m ≤ 9223372036854775807) (a : Int) (h0 : 0 ≤ a) (h1 : a ≤ 1048576) :
    ∃ t, (if wrap64 (a - (n : Int)) < 0 then some (-1) else if wrap64 (wrap64 (a - (n : Int)) - (m : Int)) < 0 then some (-1) else some (wrap64 (wrap64 (a - (n : Int)) - (m : Int)))) = some t ∧ (0 ≤ t → t = a - ((n + m : Nat) : Int)) := by
  have e1 : wrap64 (a - (n : Int)) = a - (n : Int) := by unfold wrap64; omega
  rw [e1]
  by_cases hneg : a - (n : Int) < 0
  · rw [if_pos hneg]; exact ⟨-1, rfl, fun h => by omega⟩
  · rw [if_neg hneg]
    have e2 : wrap64 (a - (n : Int) - (m : Int)) = a - (n : Int) - (m : Int) := by unfold wrap64; omega
    rw [e2]
    by_cases hneg2 : a - (n : Int) - (m : Int) < 0
    · rw [if_pos hneg2]; exact ⟨-1, rfl, fun h => by omega⟩
    · rw [if_neg hneg2]; exact ⟨_, rfl, fun _ => by omega⟩
end Go.Proofs.YtdfgfhnbcifheaaDoor.Loops
