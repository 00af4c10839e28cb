/- Lists of files and of whole numbers: copied, compared, marked, the marks read again. Plain. -/
import Derived.Test.YtagchfmclccfgaaMarkText
import Derived.Test.YtagchfmclccfgaaFA
namespace Go.Proofs.Ytagchfmclccfgaa.Mark
open Go.Proofs.Ytagchfmclccfgaa.M Go.Proofs.Ytagchfmclccfgaa.Loops Go.Proofs.YtagchfmclccfgaaW.PrintWords Go.Proofs.YtagchfmclccfgaaW.PrintLast Go.RowKit

theorem eq_ints (x : List Int) (hx : x.length ≤ 1048576) : Ev (fun k => laws_eqIntS.f k x x) true := by
  have key : ∀ m j, j + m = x.length → Ev (fun k => laws_eqIntS.l0 k x x (j : Int)) true := by
    intro m
    induction m with
    | zero =>
      intro j hj
      exact Ev.step (f := fun _ => some true) (fun k => by simp only [laws_eqIntS.l0]; rw [if_neg (by omega)]) (Ev.now _)
    | succ m ih =>
      intro j hj
      refine Ev.step (fun k => ?_) (ih (j + 1) (by omega))
      simp only [laws_eqIntS.l0, if_true]
      rw [if_pos (by omega), if_pos (by omega), if_pos (by omega), w_succ j (by omega)]
  unfold laws_eqIntS.f
  simp only [if_true]
  exact key x.length 0 (by omega)
theorem to_ints (x : List Int) (hx : x.length ≤ 1048576) : Ev (fun k => laws_toIntS.f k x) x := by
  have := fill_all (fun k x y i => laws_toIntS.l0 k x y i) (fun _ a => some a) (fun a : Int => a) 0 0 (fun k x y i => by
    simp only [laws_toIntS.l0, Option.bind_some]; rfl) (fun a => a) x (by omega) (fun a _ => Ev.now _)
  unfold laws_toIntS.f
  refine Ev.ite_pos (by omega) (Ev.ite_pos (by rw [Int.toNat_natCast]; omega) ?_)
  rw [Int.toNat_natCast]
  simpa using this
theorem mark_ints (l : List Int) (a : Nat) (hl : l.length ≤ 1048576) (ha : a ≤ 4194304) : ∃ y, Ev (fun k => laws_markIntS.f k l a) (((a + l.length : Nat) : Int), y) := by
  have key : ∀ m j (y : List Int), j + m = l.length → y.length = l.length → ∃ y', Ev (fun k => laws_markIntS.l0 k y ((a + j : Nat) : Int) (j : Int)) (((a + l.length : Nat) : Int), y') := by
    intro m
    induction m with
    | zero =>
      intro j y hj hy
      obtain rfl : j = l.length := by omega
      exact ⟨y, Ev.step (f := fun _ => some (((a + l.length : Nat) : Int), y)) (fun k => by simp only [laws_markIntS.l0]; rw [if_neg (by omega)]) (Ev.now _)⟩
    | succ m ih =>
      intro j y hj hy
      obtain ⟨y', h⟩ := ih (j + 1) (y.set j ((a + j : Nat) : Int)) (by omega) (by simpa using hy)
      refine ⟨y', Ev.step (fun k => ?_) h⟩
      simp only [laws_markIntS.l0]
      have e1 : wrap64 (((a + j : Nat) : Int) + 1) = ((a + (j + 1) : Nat) : Int) := by rw [w_id _ (by omega) (by omega)]; omega
      rw [if_pos (by omega), if_pos (by omega), e1, w_succ j (by omega), Int.toNat_natCast]
  unfold laws_markIntS.f
  exact key l.length 0 l (by omega) rfl
/-- The marks of n files from a on. -/
noncomputable def marksF (a n : Nat) : List S71 := (List.range n).map fun j => ⟨T (a + 3 * j), T (a + 3 * j + 1), ((a + 3 * j + 2 : Nat) : Int)⟩
theorem marksF_length (a n : Nat) : (marksF a n).length = n := by simp [marksF]
theorem mark_files (l : List S71) (a : Nat) (hl : l.length ≤ 1048576) (ha : a ≤ 1048576) : Ev (fun k => laws_markFileS.f k l a) (((a + 3 * l.length : Nat) : Int), marksF a l.length) := by
  have key : ∀ m j (y : List S71), j + m = l.length → y.length = l.length → y.take j = marksF a j → Ev (fun k => laws_markFileS.l0 k y ((a + 3 * j : Nat) : Int) (j : Int)) (((a + 3 * l.length : Nat) : Int), marksF a l.length) := by
    intro m
    induction m with
    | zero =>
      intro j y hj hy ht
      obtain rfl : j = l.length := by omega
      refine Ev.step (f := fun _ => some (((a + 3 * l.length : Nat) : Int), y)) (fun k => by simp only [laws_markFileS.l0]; rw [if_neg (by omega)]) (Ev.eq (Ev.now _) ?_)
      rw [← ht, List.take_of_length_le (by omega)]
    | succ m ih =>
      intro j y hj hy ht
      have hT := text (a + 3 * j) (by omega)
      have hT2 := text (a + 3 * j + 1) (by omega)
      have e1 : wrap64 (((a + 3 * j : Nat) : Int) + 1) = ((a + 3 * j + 1 : Nat) : Int) := by rw [w_id _ (by omega) (by omega)]; omega
      have e2 : wrap64 (((a + 3 * j + 1 : Nat) : Int) + 1) = ((a + 3 * j + 2 : Nat) : Int) := by rw [w_id _ (by omega) (by omega)]; omega
      have e3 : wrap64 (((a + 3 * j + 2 : Nat) : Int) + 1) = ((a + 3 * (j + 1) : Nat) : Int) := by rw [w_id _ (by omega) (by omega)]; omega
      have rs : ∀ (y : List S71) (x : S71), j < y.length → rd_T71 (y.set j x) (j : Int) = x := by
        intro y x h
        unfold rd_T71
        rw [Int.toNat_natCast, List.getD_eq_getElem?_getD, List.getElem?_set, if_pos rfl, if_pos h]; rfl
      refine Ev.step (f := fun k => (laws_markText.f k ((a + 3 * j : Nat) : Int)).bind fun t => (laws_markText.f k ((a + 3 * j + 1 : Nat) : Int)).bind fun t2 => laws_markFileS.l0 k (y.set j ⟨t, t2, ((a + 3 * j + 2 : Nat) : Int)⟩) ((a + 3 * (j + 1) : Nat) : Int) ((j + 1 : Nat) : Int)) (fun k => ?_) (Ev.bind hT (Ev.bind hT2 (ih (j + 1) _ (by omega) (by simpa using hy) ?_)))
      · rw [laws_markFileS.l0, if_pos (by omega), e1, e2, e3, w_succ j (by omega), Int.toNat_natCast]
        refine congrArg _ (funext fun t => ?_)
        rw [if_pos (by omega), Option.bind_some]
        refine congrArg _ (funext fun t2 => ?_)
        rw [Option.bind_some, rs y _ (by omega), rs (y.set j _) _ (by rw [List.length_set]; omega), List.set_set, List.set_set]
      · rw [List.take_set, List.take_add_one, List.getElem?_eq_getElem (by omega)]
        simp only [Option.toList_some]
        rw [List.set_append_right _ _ (by rw [List.length_take]; omega), List.length_take, Nat.min_eq_left (by omega), Nat.sub_self, ht]
        simp [marksF, List.range_succ]
  unfold laws_markFileS.f
  exact key l.length 0 l (by omega) rfl (by simp [marksF])
theorem held_files (a n : Nat) (hn : n ≤ 1048576) (ha : a ≤ 1048576) : Ev (fun k => laws_heldFileS.f k (marksF a n) a) ((a + 3 * n : Nat) : Int) := by
  have key : ∀ m j, j + m = n → Ev (fun k => laws_heldFileS.l0 k (marksF a n) ((a + 3 * j : Nat) : Int) (j : Int)) ((a + 3 * n : Nat) : Int) := by
    intro m
    induction m with
    | zero =>
      intro j hj
      obtain rfl : j = n := by omega
      exact Ev.step (f := fun _ => some ((a + 3 * j : Nat) : Int)) (fun k => by simp only [laws_heldFileS.l0]; rw [if_neg (by rw [marksF_length]; omega)]) (Ev.now _)
    | succ m ih =>
      intro j hj
      have hT := text (a + 3 * j) (by omega)
      have hT2 := text (a + 3 * j + 1) (by omega)
      have e1 : wrap64 (((a + 3 * j : Nat) : Int) + 1) = ((a + 3 * j + 1 : Nat) : Int) := by rw [w_id _ (by omega) (by omega)]; omega
      have e2 : wrap64 (((a + 3 * j + 1 : Nat) : Int) + 1) = ((a + 3 * j + 2 : Nat) : Int) := by rw [w_id _ (by omega) (by omega)]; omega
      have e3 : wrap64 (((a + 3 * j + 2 : Nat) : Int) + 1) = ((a + 3 * (j + 1) : Nat) : Int) := by rw [w_id _ (by omega) (by omega)]; omega
      have er : rd_T71 (marksF a n) (j : Int) = ⟨T (a + 3 * j), T (a + 3 * j + 1), ((a + 3 * j + 2 : Nat) : Int)⟩ := by
        unfold rd_T71 marksF
        rw [Int.toNat_natCast, List.getD_eq_getElem?_getD, List.getElem?_map, List.getElem?_range (by omega)]
        rfl
      refine Ev.step (f := fun k => (laws_markText.f k ((a + 3 * j : Nat) : Int)).bind fun t => if (T (a + 3 * j)).toList = t.toList then (laws_markText.f k ((a + 3 * j + 1 : Nat) : Int)).bind (fun t2 => if (T (a + 3 * j + 1)).toList = t2.toList then laws_heldFileS.l0 k (marksF a n) ((a + 3 * (j + 1) : Nat) : Int) ((j + 1 : Nat) : Int) else some (-1)) else some (-1)) (fun k => ?_) (Ev.bind hT (Ev.ite_pos rfl (Ev.bind hT2 (Ev.ite_pos rfl (ih (j + 1) (by omega))))))
      simp only [laws_heldFileS.l0]
      rw [if_pos (by rw [marksF_length]; omega), if_pos (by omega), e1, e2, e3, w_succ j (by omega), er]
      simp only [if_true]
  unfold laws_heldFileS.f
  exact key n 0 (by omega)
end Go.Proofs.Ytagchfmclccfgaa.Mark
