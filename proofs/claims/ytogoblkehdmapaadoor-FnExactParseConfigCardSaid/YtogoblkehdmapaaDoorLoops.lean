/- Plain laws of loops, as the printed functions have them: what fills a list, what compares two, what counts sizes down. No program. -/
import Derived.Test.YtogoblkehdmapaaDoorWWords
namespace Go.Proofs.YtogoblkehdmapaaDoor.Loops
open Go.RowKit Go.Proofs.YtogoblkehdmapaaDoorW.PrintWords

theorem w_succ (j : Nat) (h : j < 9223372036854775807) : wrap64 ((j : Int) + 1) = ((j + 1 : Nat) : Int) := by unfold wrap64; omega
theorem w_id (x : Int) (h0 : -9223372036854775808 ≤ x) (h1 : x ≤ 9223372036854775807) : wrap64 x = x := by unfold wrap64; omega
theorem Ev.eq {α : Type} {g : Nat → Option α} {a b : α} (h1 : Ev g a) (e : a = b) : Ev g b := e ▸ h1
/-! ### a list is filled from another -/
section
variable {α β γ : Type}
end
/-! ### two lists are compared -/
section
variable {α : Type}
end
/-! ### sizes are counted down -/
section
variable {α : Type}
/-- The sizes of a list's elements. -/
def total (wt : α → Nat) (x : List α) : Nat := (x.map wt).foldr (· + ·) 0
end
end Go.Proofs.YtogoblkehdmapaaDoor.Loops
