/- Plain laws of loops, as the printed functions have them: what fills a list, what compares two, what counts sizes down. No program. -/
import Derived.Test.YtbhjbbanhmjgnaaWWords
namespace Go.Proofs.Ytbhjbbanhmjgnaa.Loops
open Go.RowKit Go.Proofs.YtbhjbbanhmjgnaaW.PrintWords

theorem w_succ (j : Nat) (h : j < 9223372036854775807) : wrap64 ((j : Int) + 1) = ((j + 1 : Nat) : Int) := by unfold wrap64; omega
theorem w_id (x : Int) (h0 : -9223372036854775808 ≤ x) (h1 : x ≤ 9223372036854775807) : wrap64 x = x := by unfold wrap64; omega
theorem Ev.eq {α : Type} {g : Nat → Option α} {a b : α} (h1 : Ev g a) (e : a = b) : Ev g b := e ▸ h1
theorem Ev.ite_pos {α : Type} {c : Prop} [Decidable c] {f g : Nat → Option α} {r : α} (hc : c) (h : Ev f r) : Ev (fun k => if c then f k else g k) r := by
  simp only [if_pos hc]; exact h
theorem Ev.ite_neg {α : Type} {c : Prop} [Decidable c] {f g : Nat → Option α} {r : α} (hc : ¬ c) (h : Ev g r) : Ev (fun k => if c then f k else g k) r := by
  simp only [if_neg hc]; exact h
/-! ### a list is filled from another -/
section
variable {α β γ : Type}
end
/-! ### two lists are compared -/
section
variable {α : Type}
theorem all_loop (L : Nat → List α → List α → Int → Option Bool) (cmp : Nat → α → α → Option Bool) (d : α)
    (hL : ∀ k x y i, L (k + 1) x y i = if i < (x.length : Int) then (if 0 ≤ i then (if i < (y.length : Int) then ((cmp k (x.getD i.toNat d) (y.getD i.toNat d)).bind fun t => if t = true then L k x y (wrap64 (i + 1)) else some false) else none) else none) else some true)
    (x : List α) (hn : x.length < 9223372036854775807) (hc : ∀ a ∈ x, Ev (fun k => cmp k a a) true) :
    ∀ (m j : Nat), j + m = x.length → Ev (fun k => L k x x (j : Int)) true := by
  intro m
  induction m with
  | zero =>
    intro j hj
    exact Ev.step (f := fun _ => some true) (fun k => by rw [hL, if_neg (by omega)]) (Ev.now _)
  | succ m ih =>
    intro j hj
    have hjl : j < x.length := by omega
    have hget : x.getD j d = x[j] := by rw [List.getD_eq_getElem?_getD, List.getElem?_eq_getElem hjl]; rfl
    refine Ev.step (f := fun k => (cmp k x[j] x[j]).bind fun t => if t = true then L k x x ((j + 1 : Nat) : Int) else some false) (fun k => by
      rw [hL, if_pos (by omega), if_pos (by omega), if_pos (by omega), Int.toNat_natCast, hget, w_succ j (by omega)]) ?_
    refine Ev.bind (hc x[j] (List.getElem_mem hjl)) ?_
    simp only [if_true]
    exact ih (j + 1) (by omega)
end
/-! ### sizes are counted down -/
section
variable {α : Type}
/-- The sizes of a list's elements. -/
def total (wt : α → Nat) (x : List α) : Nat := (x.map wt).foldr (· + ·) 0
end
end Go.Proofs.Ytbhjbbanhmjgnaa.Loops
