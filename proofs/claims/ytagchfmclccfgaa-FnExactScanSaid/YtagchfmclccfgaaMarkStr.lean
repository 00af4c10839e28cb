/- Lists of strings: alike to themselves; marked; the marks read again. Plain. -/
import Derived.Test.YtagchfmclccfgaaMarkText
import Derived.Test.YtagchfmclccfgaaF31
import Derived.Test.YtagchfmclccfgaaF32
import Derived.Test.YtagchfmclccfgaaF33
namespace Go.Proofs.Ytagchfmclccfgaa.Mark
open Go.Proofs.Ytagchfmclccfgaa.M Go.Proofs.Ytagchfmclccfgaa.Loops Go.Proofs.YtagchfmclccfgaaW.PrintWords Go.Proofs.YtagchfmclccfgaaW.PrintLast Go.RowKit

theorem eq_strs (x : List ByteArray) (hx : x.length ≤ 1048576) : Ev (fun k => laws_eqStringS.f k x x) true := by
  have key : ∀ m j, j + m = x.length → Ev (fun k => laws_eqStringS.l0 k x x (j : Int)) true := by
    intro m
    induction m with
    | zero =>
      intro j hj
      exact Ev.step (f := fun _ => some true) (fun k => by simp only [laws_eqStringS.l0]; rw [if_neg (by omega)]) (Ev.now _)
    | succ m ih =>
      intro j hj
      refine Ev.step (fun k => ?_) (ih (j + 1) (by omega))
      simp only [laws_eqStringS.l0, if_true]
      rw [if_pos (by omega), if_pos (by omega), if_pos (by omega), w_succ j (by omega)]
  unfold laws_eqStringS.f
  simp only [if_true]
  exact key x.length 0 (by omega)
/-- The marks from a on. -/
noncomputable def marks (a n : Nat) : List ByteArray := (List.range n).map fun j => T (a + j)
theorem marks_length (a n : Nat) : (marks a n).length = n := by simp [marks]
theorem mark_strs (l : List ByteArray) (a : Nat) (hl : l.length ≤ 1048576) (ha : a ≤ 1048576) : Ev (fun k => laws_markStringS.f k l a) ((((a + l.length : Nat)) : Int), marks a l.length) := by
  have key : ∀ m j (y : List ByteArray), j + m = l.length → y.length = l.length → y.take j = marks a j → Ev (fun k => laws_markStringS.l0 k y ((a + j : Nat) : Int) (j : Int)) (((a + l.length : Nat) : Int), marks a l.length) := by
    intro m
    induction m with
    | zero =>
      intro j y hj hy ht
      refine Ev.step (f := fun _ => some (((a + j : Nat) : Int), y)) (fun k => by simp only [laws_markStringS.l0]; rw [if_neg (by omega)]) (Ev.eq (Ev.now _) ?_)
      obtain rfl : j = l.length := by omega
      rw [← ht, List.take_of_length_le (by omega)]
    | succ m ih =>
      intro j y hj hy ht
      have hT := text (a + j) (by omega)
      refine Ev.step (f := fun k => (laws_markText.f k ((a + j : Nat) : Int)).bind fun t => laws_markStringS.l0 k (y.set j t) ((a + (j + 1) : Nat) : Int) ((j + 1 : Nat) : Int)) (fun k => ?_) (Ev.bind hT (ih (j + 1) _ (by omega) (by simpa using hy) ?_))
      · simp only [laws_markStringS.l0]
        have e1 : wrap64 (((a + j : Nat) : Int) + 1) = ((a + (j + 1) : Nat) : Int) := by rw [w_id _ (by omega) (by omega)]; omega
        rw [if_pos (by omega), e1, w_succ j (by omega), Int.toNat_natCast]
        congr 1 <;> (funext t; rw [if_pos (by omega)])
      · rw [List.take_set, List.take_add_one, List.getElem?_eq_getElem (by omega)]
        simp only [Option.toList_some]
        rw [List.set_append_right _ _ (by rw [List.length_take]; omega), List.length_take, Nat.min_eq_left (by omega), Nat.sub_self, ht]
        simp [marks, List.range_succ]
  unfold laws_markStringS.f
  exact key l.length 0 l (by omega) rfl (by simp [marks])
theorem held_strs (a n : Nat) (hn : n ≤ 1048576) (ha : a ≤ 1048576) : Ev (fun k => laws_heldStringS.f k (marks a n) a) ((a + n : Nat) : Int) := by
  have key : ∀ m j, j + m = n → Ev (fun k => laws_heldStringS.l0 k (marks a n) ((a + j : Nat) : Int) (j : Int)) ((a + n : Nat) : Int) := by
    intro m
    induction m with
    | zero =>
      intro j hj
      refine Ev.step (f := fun _ => some ((a + j : Nat) : Int)) (fun k => by simp only [laws_heldStringS.l0]; rw [if_neg (by rw [marks_length]; omega)]) (Ev.eq (Ev.now _) ?_)
      obtain rfl : j = n := by omega
      rfl
    | succ m ih =>
      intro j hj
      have hT := text (a + j) (by omega)
      refine Ev.step (f := fun k => (laws_markText.f k ((a + j : Nat) : Int)).bind fun t => if (T (a + j)).toList = t.toList then laws_heldStringS.l0 k (marks a n) ((a + (j + 1) : Nat) : Int) ((j + 1 : Nat) : Int) else some (-1)) (fun k => ?_) (Ev.bind hT (Ev.ite_pos rfl (ih (j + 1) (by omega))))
      simp only [laws_heldStringS.l0]
      have e1 : wrap64 (((a + j : Nat) : Int) + 1) = ((a + (j + 1) : Nat) : Int) := by rw [w_id _ (by omega) (by omega)]; omega
      have e2 : rdOf ByteArray.empty (marks a n) (j : Int) = T (a + j) := by
        unfold rdOf marks
        rw [Int.toNat_natCast, List.getD_eq_getElem?_getD, List.getElem?_map, List.getElem?_range (by omega)]
        rfl
      rw [if_pos (by rw [marks_length]; omega), if_pos (by omega), e1, w_succ j (by omega), e2]
  unfold laws_heldStringS.f
  exact key n 0 (by omega)
end Go.Proofs.Ytagchfmclccfgaa.Mark
