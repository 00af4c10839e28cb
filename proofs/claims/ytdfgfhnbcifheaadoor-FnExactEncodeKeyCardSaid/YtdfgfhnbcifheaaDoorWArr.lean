/- Some of this seat's texts, joined by prune.py. -/
import Derived.Test.YtdfgfhnbcifheaaDoorWWords
import Derived.Test.YtdfgfhnbcifheaaDoorWTab
import Derived.Test.YtdfgfhnbcifheaaDoorLoops
/- Some of this seat's texts, joined by prune.py. -/
-- PRINTED BY print.sh 35421559b90ae4d0a3588c463048766b98c2df88dd9212a6774a882060cdf62d: not written by this session
/-! ### 41. Arrays '[n]T' as_ values: a kind (a field, an element of a row), an element read, an element set -/
namespace Go.Proofs.YtdfgfhnbcifheaaDoorW.PrintWords
open Go.RowKit
namespace Kd
section
variable {α : Type} {n : Nat} {d : Kd α} {hs : 0 < d.sz} {w : World} {base : Nat} {ok : Nat → Prop} {xs : List α} {cs : List Value}
end
section
variable {α : Type} {n : Nat} {enc : α → Value} {h1 : ∀ x, (enc x).oneCell' = true} {hs : 0 < (scalar enc h1).sz} {w : World} {base : Nat} {ok : Nat → Prop} {xs : List α} {cs : List Value}
end
end Kd
end Go.Proofs.YtdfgfhnbcifheaaDoorW.PrintWords
-- PRINTED BY print.sh 35421559b90ae4d0a3588c463048766b98c2df88dd9212a6774a882060cdf62d: not written by this session
/-! ### 57. A region of open order by ONE relation over what is listed so far: each operation is shown once, whatever came up before it -/
namespace Go.Proofs.YtdfgfhnbcifheaaDoorW.PrintLast
/-- Number i is listed too. -/
def up (b : Nat → Bool) (i : Nat) : Nat → Bool := fun j => if j = i then true else b j
section
variable {P : Program} {ops : Array Oper} {Q : Exit → Act → World → Prop} {md : Region.Mode} {T : Bool × List (List Nat × List Nat)} {B : List Nat} {O : List Nat} {b : Nat → Bool} {i j n : Nat}
/-! The frame: what is listed has its destination filled. -/
end
end Go.Proofs.YtdfgfhnbcifheaaDoorW.PrintLast
/- A list's weight, counted down from what is left: plain. -/
namespace Go.Proofs.YtdfgfhnbcifheaaDoor.Loops
open Go.RowKit Go.Proofs.YtdfgfhnbcifheaaDoorW.PrintWords
theorem sz_list {α : Type} (L : Nat → List α → Int → Int → Option Int) (g : Nat → α → Int → Option Int) (d : α) (wt : α → Nat)
    (hL : ∀ k x a i, L (k + 1) x a i = if i < (x.length : Int) then (if 0 ≤ i then ((g k (x.getD i.toNat d) a).bind fun t => if t < 0 then some (-1) else L k x t (wrap64 (i + 1))) else none) else some a)
    (x : List α) (hn : x.length ≤ 9223372036854775807)
    (hg : ∀ e ∈ x, ∀ a : Int, 0 ≤ a → a ≤ 1048576 → ∃ t, Ev (fun k => g k e a) t ∧ (0 ≤ t → t = a - wt e)) (a : Int) (h0 : 0 ≤ a) (h1 : a ≤ 1048576) :
    ∃ t, Ev (fun k => if wrap64 (a - (x.length : Int)) < 0 then some (-1) else L k x (wrap64 (a - (x.length : Int))) 0) t ∧ (0 ≤ t → t = a - ((x.length : Int) + (total wt x : Nat))) := by
  have e1 : wrap64 (a - (x.length : Int)) = a - (x.length : Int) := by unfold wrap64; omega
  rw [e1]
  by_cases hneg : a - (x.length : Int) < 0
  · simp only [if_pos hneg]
    exact ⟨-1, Ev.now _, fun h => by omega⟩
  · simp only [if_neg hneg]
    obtain ⟨t, ht, hw⟩ := sz_loop L g d wt hL x (by omega) hg x.length 0 (a - (x.length : Int)) (by omega) (by omega) (by omega)
    refine ⟨t, ht, fun h => ?_⟩
    rw [hw h, List.drop_zero]
    omega
theorem sz_two (n m : Nat) (hn : n ≤ 9223372036854775807) (hm : m ≤ 9223372036854775807) (a : Int) (h0 : 0 ≤ a) (h1 : a ≤ 1048576) :
    ∃ t, (if wrap64 (a - (n : Int)) < 0 then some (-1) else if wrap64 (wrap64 (a - (n : Int)) - (m : Int)) < 0 then some (-1) else some (wrap64 (wrap64 (a - (n : Int)) - (m : Int)))) = some t ∧ (0 ≤ t → t = a - ((n + m : Nat) : Int)) := by
  have e1 : wrap64 (a - (n : Int)) = a - (n : Int) := by unfold wrap64; omega
  rw [e1]
  by_cases hneg : a - (n : Int) < 0
  · rw [if_pos hneg]; exact ⟨-1, rfl, fun h => by omega⟩
  · rw [if_neg hneg]
    have e2 : wrap64 (a - (n : Int) - (m : Int)) = a - (n : Int) - (m : Int) := by unfold wrap64; omega
    rw [e2]
    by_cases hneg2 : a - (n : Int) - (m : Int) < 0
    · rw [if_pos hneg2]; exact ⟨-1, rfl, fun h => by omega⟩
    · rw [if_neg hneg2]; exact ⟨_, rfl, fun _ => by omega⟩
end Go.Proofs.YtdfgfhnbcifheaaDoor.Loops
