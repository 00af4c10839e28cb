/- A block of six numbers: what stands behind six stores into it. -/
import Derived.Lib.SliceRun
import Derived.Test.YtogoblkehdmapaaDoorM0
namespace Go.Proofs.YtogoblkehdmapaaDoor.M
open Go.RowKit Go.Proofs.YtogoblkehdmapaaDoorW.PrintWords Go.Proofs.YtogoblkehdmapaaDoorW.PrintLast Go.Proofs.YtogoblkehdmapaaDoorW.PrintMore
set_option linter.unusedVariables false
namespace Prs
abbrev six (a b c d e f : Int) : Array Value := #[.int .i64 a, .int .i64 b, .int .i64 c, .int .i64 d, .int .i64 e, .int .i64 f]
theorem put {W : World} {g : Nat} {a b c d e f : Int} (h : W.heap[g]? = some (.cells (six a b c d e f) 38 (0, 0))) (a' b' c' d' e' f' : Int) :
    ((((((W.setCell ⟨g, 0, none⟩ (.int .i64 a')).setCell ⟨g, 1, none⟩ (.int .i64 b')).setCell ⟨g, 2, none⟩ (.int .i64 c')).setCell ⟨g, 3, none⟩ (.int .i64 d')).setCell ⟨g, 4, none⟩ (.int .i64 e')).setCell ⟨g, 5, none⟩ (.int .i64 f')).heap[g]? = some (.cells (six a' b' c' d' e' f') 38 (0, 0)) := by
  refine blk_put (cs := six a' b' c' d' e' f) ?_ 5 _ rfl
  refine blk_put (cs := six a' b' c' d' e f) ?_ 4 _ rfl
  refine blk_put (cs := six a' b' c' d e f) ?_ 3 _ rfl
  refine blk_put (cs := six a' b' c d e f) ?_ 2 _ rfl
  refine blk_put (cs := six a' b c d e f) ?_ 1 _ rfl
  exact blk_put (cs := six a b c d e f) h 0 _ rfl
theorem belowP {w W : World} {a b c d e f : Value} (h : Below w.heap.size w W) :
    Below w.heap.size w ((((((W.setCell ⟨w.heap.size, 0, none⟩ a).setCell ⟨w.heap.size, 1, none⟩ b).setCell ⟨w.heap.size, 2, none⟩ c).setCell ⟨w.heap.size, 3, none⟩ d).setCell ⟨w.heap.size, 4, none⟩ e).setCell ⟨w.heap.size, 5, none⟩ f) :=
  below_set (below_set (below_set (below_set (below_set (below_set h (Nat.le_refl _)) (Nat.le_refl _)) (Nat.le_refl _)) (Nat.le_refl _)) (Nat.le_refl _)) (Nat.le_refl _)
theorem farC {W : World} {q g n : Nat} {x : Value} (h : W.cell? ⟨g, n, none⟩ = some x) (ne : g ≠ q) (a b c d e f : Value) : ((((((W.setCell ⟨q, 0, none⟩ a).setCell ⟨q, 1, none⟩ b).setCell ⟨q, 2, none⟩ c).setCell ⟨q, 3, none⟩ d).setCell ⟨q, 4, none⟩ e).setCell ⟨q, 5, none⟩ f).cell? ⟨g, n, none⟩ = some x := by
  have k : ((((((W.setCell ⟨q, 0, none⟩ a).setCell ⟨q, 1, none⟩ b).setCell ⟨q, 2, none⟩ c).setCell ⟨q, 3, none⟩ d).setCell ⟨q, 4, none⟩ e).setCell ⟨q, 5, none⟩ f).heap[g]? = W.heap[g]? := by
    rw [Below.heap_setCell _ _ _ g ne, Below.heap_setCell _ _ _ g ne, Below.heap_setCell _ _ _ g ne, Below.heap_setCell _ _ _ g ne, Below.heap_setCell _ _ _ g ne, Below.heap_setCell _ _ _ g ne]
  unfold World.cell? at h ⊢
  simp only [k]
  exact h
theorem farS {W : World} {q p g : Nat} {b0 b1 b2 b3 b4 b5 b6 : Int} (hq : p ≠ q) (hg : g ≠ q) (a b c d e f : Value) (h : W.cell? ⟨p, 0, none⟩ = some (.int .i64 b0) ∧ W.cell? ⟨p, 1, none⟩ = some (.int .i64 b1) ∧ W.cell? ⟨p, 2, none⟩ = some (.int .i64 b2) ∧ W.cell? ⟨p, 3, none⟩ = some (.int .i64 b3) ∧ W.cell? ⟨p, 4, none⟩ = some (.int .i64 b4) ∧ W.cell? ⟨p, 5, none⟩ = some (.int .i64 b5) ∧ W.cell? ⟨g, 6, none⟩ = some (.int .i64 b6)) : ((((((W.setCell ⟨q, 0, none⟩ a).setCell ⟨q, 1, none⟩ b).setCell ⟨q, 2, none⟩ c).setCell ⟨q, 3, none⟩ d).setCell ⟨q, 4, none⟩ e).setCell ⟨q, 5, none⟩ f).cell? ⟨p, 0, none⟩ = some (.int .i64 b0) ∧ ((((((W.setCell ⟨q, 0, none⟩ a).setCell ⟨q, 1, none⟩ b).setCell ⟨q, 2, none⟩ c).setCell ⟨q, 3, none⟩ d).setCell ⟨q, 4, none⟩ e).setCell ⟨q, 5, none⟩ f).cell? ⟨p, 1, none⟩ = some (.int .i64 b1) ∧ ((((((W.setCell ⟨q, 0, none⟩ a).setCell ⟨q, 1, none⟩ b).setCell ⟨q, 2, none⟩ c).setCell ⟨q, 3, none⟩ d).setCell ⟨q, 4, none⟩ e).setCell ⟨q, 5, none⟩ f).cell? ⟨p, 2, none⟩ = some (.int .i64 b2) ∧ ((((((W.setCell ⟨q, 0, none⟩ a).setCell ⟨q, 1, none⟩ b).setCell ⟨q, 2, none⟩ c).setCell ⟨q, 3, none⟩ d).setCell ⟨q, 4, none⟩ e).setCell ⟨q, 5, none⟩ f).cell? ⟨p, 3, none⟩ = some (.int .i64 b3) ∧ ((((((W.setCell ⟨q, 0, none⟩ a).setCell ⟨q, 1, none⟩ b).setCell ⟨q, 2, none⟩ c).setCell ⟨q, 3, none⟩ d).setCell ⟨q, 4, none⟩ e).setCell ⟨q, 5, none⟩ f).cell? ⟨p, 4, none⟩ = some (.int .i64 b4) ∧ ((((((W.setCell ⟨q, 0, none⟩ a).setCell ⟨q, 1, none⟩ b).setCell ⟨q, 2, none⟩ c).setCell ⟨q, 3, none⟩ d).setCell ⟨q, 4, none⟩ e).setCell ⟨q, 5, none⟩ f).cell? ⟨p, 5, none⟩ = some (.int .i64 b5) ∧ ((((((W.setCell ⟨q, 0, none⟩ a).setCell ⟨q, 1, none⟩ b).setCell ⟨q, 2, none⟩ c).setCell ⟨q, 3, none⟩ d).setCell ⟨q, 4, none⟩ e).setCell ⟨q, 5, none⟩ f).cell? ⟨g, 6, none⟩ = some (.int .i64 b6) :=
  ⟨farC h.1 hq a b c d e f, farC h.2.1 hq a b c d e f, farC h.2.2.1 hq a b c d e f, farC h.2.2.2.1 hq a b c d e f, farC h.2.2.2.2.1 hq a b c d e f, farC h.2.2.2.2.2.1 hq a b c d e f, farC h.2.2.2.2.2.2 hg a b c d e f⟩
theorem drewS {W : World} {p g : Nat} {b0 b1 b2 b3 b4 b5 b6 : Int} (h : W.cell? ⟨p, 0, none⟩ = some (.int .i64 b0) ∧ W.cell? ⟨p, 1, none⟩ = some (.int .i64 b1) ∧ W.cell? ⟨p, 2, none⟩ = some (.int .i64 b2) ∧ W.cell? ⟨p, 3, none⟩ = some (.int .i64 b3) ∧ W.cell? ⟨p, 4, none⟩ = some (.int .i64 b4) ∧ W.cell? ⟨p, 5, none⟩ = some (.int .i64 b5) ∧ W.cell? ⟨g, 6, none⟩ = some (.int .i64 b6)) : W.drew.cell? ⟨p, 0, none⟩ = some (.int .i64 b0) ∧ W.drew.cell? ⟨p, 1, none⟩ = some (.int .i64 b1) ∧ W.drew.cell? ⟨p, 2, none⟩ = some (.int .i64 b2) ∧ W.drew.cell? ⟨p, 3, none⟩ = some (.int .i64 b3) ∧ W.drew.cell? ⟨p, 4, none⟩ = some (.int .i64 b4) ∧ W.drew.cell? ⟨p, 5, none⟩ = some (.int .i64 b5) ∧ W.drew.cell? ⟨g, 6, none⟩ = some (.int .i64 b6) := h
theorem hideX {R G : World → Prop} {w : World} (h : R w) (k : ∀ w', R w' → G w') : G w := k w h
theorem belowG {q : Nat} {w W : World} {a b c d e f : Value} (hq : w.heap.size ≤ q) (h : Below w.heap.size w W) :
    Below w.heap.size w ((((((W.setCell ⟨q, 0, none⟩ a).setCell ⟨q, 1, none⟩ b).setCell ⟨q, 2, none⟩ c).setCell ⟨q, 3, none⟩ d).setCell ⟨q, 4, none⟩ e).setCell ⟨q, 5, none⟩ f) :=
  below_set (below_set (below_set (below_set (below_set (below_set h hq) hq) hq) hq) hq) hq
end Prs
end Go.Proofs.YtogoblkehdmapaaDoor.M
