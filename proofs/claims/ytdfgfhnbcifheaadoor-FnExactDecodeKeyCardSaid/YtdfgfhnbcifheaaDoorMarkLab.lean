/- Some of this seat's texts, joined by prune.py. -/
import Derived.Test.YtdfgfhnbcifheaaDoorMarkText
import Derived.Test.YtdfgfhnbcifheaaDoorF13
import Derived.Test.YtdfgfhnbcifheaaDoorF14
import Derived.Test.YtdfgfhnbcifheaaDoorO0
import Derived.Test.YtdfgfhnbcifheaaDoorKeyDec
/- Lists of labels: marked, the marks read again. Plain. -/
namespace Go.Proofs.YtdfgfhnbcifheaaDoor.Mark
open Go.Proofs.YtdfgfhnbcifheaaDoor.M Go.Proofs.YtdfgfhnbcifheaaDoor.Loops Go.Proofs.YtdfgfhnbcifheaaDoorW.PrintWords Go.Proofs.YtdfgfhnbcifheaaDoorW.PrintLast Go.RowKit
/-- The marks of n labels from a on. -/
noncomputable def marksL (a n : Nat) : List S38 := (List.range n).map fun j => ⟨T (a + 2 * j), T (a + 2 * j + 1)⟩
theorem marksL_length (a n : Nat) : (marksL a n).length = n := by simp [marksL]
theorem mark_labels (l : List S38) (a : Nat) (hl : l.length ≤ 1048576) (ha : a ≤ 100000000) : Ev (fun k => laws_markLabelS.f k l a) (((a + 2 * l.length : Nat) : Int), marksL a l.length) := by
  have key : ∀ m j (y : List S38), j + m = l.length → y.length = l.length → y.take j = marksL a j → Ev (fun k => laws_markLabelS.l0 k y ((a + 2 * j : Nat) : Int) (j : Int)) (((a + 2 * l.length : Nat) : Int), marksL a l.length) := by
    intro m
    induction m with
    | zero =>
      intro j y hj hy ht
      obtain rfl : j = l.length := by omega
      refine Ev.step (f := fun _ => some (((a + 2 * l.length : Nat) : Int), y)) (fun k => by simp only [laws_markLabelS.l0]; rw [if_neg (by omega)]) (Ev.eq (Ev.now _) ?_)
      rw [← ht, List.take_of_length_le (by omega)]
    | succ m ih =>
      intro j y hj hy ht
      have hT := text (a + 2 * j) (by omega)
      have hT2 := text (a + 2 * j + 1) (by omega)
      have e1 : wrap64 (((a + 2 * j : Nat) : Int) + 1) = ((a + 2 * j + 1 : Nat) : Int) := by rw [w_id _ (by omega) (by omega)]; omega
      have e3 : wrap64 (((a + 2 * j + 1 : Nat) : Int) + 1) = ((a + 2 * (j + 1) : Nat) : Int) := by rw [w_id _ (by omega) (by omega)]; omega
      have rs : ∀ (y : List S38) (x : S38), j < y.length → rd_T38 (y.set j x) (j : Int) = x := by
        intro y x h
        unfold rd_T38
        rw [Int.toNat_natCast, List.getD_eq_getElem?_getD, List.getElem?_set, if_pos rfl, if_pos h]; rfl
      refine Ev.step (f := fun k => (laws_markText.f k ((a + 2 * j : Nat) : Int)).bind fun t => (laws_markText.f k ((a + 2 * j + 1 : Nat) : Int)).bind fun t2 => laws_markLabelS.l0 k (y.set j ⟨t, t2⟩) ((a + 2 * (j + 1) : Nat) : Int) ((j + 1 : Nat) : Int)) (fun k => ?_) (Ev.bind hT (Ev.bind hT2 (ih (j + 1) _ (by omega) (by simpa using hy) ?_)))
      · rw [laws_markLabelS.l0, if_pos (by omega), e1, e3, w_succ j (by omega), Int.toNat_natCast]
        refine congrArg _ (funext fun t => ?_)
        rw [if_pos (by omega), Option.bind_some]
        refine congrArg _ (funext fun t2 => ?_)
        rw [rs y _ (by omega), List.set_set]
      · rw [List.take_set, List.take_add_one, List.getElem?_eq_getElem (by omega)]
        simp only [Option.toList_some]
        rw [List.set_append_right _ _ (by rw [List.length_take]; omega), List.length_take, Nat.min_eq_left (by omega), Nat.sub_self, ht]
        simp [marksL, List.range_succ]
  unfold laws_markLabelS.f
  exact key l.length 0 l (by omega) rfl (by simp [marksL])
theorem held_labels (a n : Nat) (hn : n ≤ 1048576) (ha : a ≤ 100000000) : Ev (fun k => laws_heldLabelS.f k (marksL a n) a) ((a + 2 * n : Nat) : Int) := by
  have key : ∀ m j, j + m = n → Ev (fun k => laws_heldLabelS.l0 k (marksL a n) ((a + 2 * j : Nat) : Int) (j : Int)) ((a + 2 * n : Nat) : Int) := by
    intro m
    induction m with
    | zero =>
      intro j hj
      obtain rfl : j = n := by omega
      exact Ev.step (f := fun _ => some ((a + 2 * j : Nat) : Int)) (fun k => by simp only [laws_heldLabelS.l0]; rw [if_neg (by rw [marksL_length]; omega)]) (Ev.now _)
    | succ m ih =>
      intro j hj
      have hT := text (a + 2 * j) (by omega)
      have hT2 := text (a + 2 * j + 1) (by omega)
      have e1 : wrap64 (((a + 2 * j : Nat) : Int) + 1) = ((a + 2 * j + 1 : Nat) : Int) := by rw [w_id _ (by omega) (by omega)]; omega
      have e3 : wrap64 (((a + 2 * j + 1 : Nat) : Int) + 1) = ((a + 2 * (j + 1) : Nat) : Int) := by rw [w_id _ (by omega) (by omega)]; omega
      have er : rd_T38 (marksL a n) (j : Int) = ⟨T (a + 2 * j), T (a + 2 * j + 1)⟩ := by
        unfold rd_T38 marksL
        rw [Int.toNat_natCast, List.getD_eq_getElem?_getD, List.getElem?_map, List.getElem?_range (by omega)]
        rfl
      refine Ev.step (f := fun k => (laws_markText.f k ((a + 2 * j : Nat) : Int)).bind fun t => if (T (a + 2 * j)).toList = t.toList then (laws_markText.f k ((a + 2 * j + 1 : Nat) : Int)).bind (fun t2 => if (T (a + 2 * j + 1)).toList = t2.toList then laws_heldLabelS.l0 k (marksL a n) ((a + 2 * (j + 1) : Nat) : Int) ((j + 1 : Nat) : Int) else some (-1)) else some (-1)) (fun k => ?_) (Ev.bind hT (Ev.ite_pos rfl (Ev.bind hT2 (Ev.ite_pos rfl (ih (j + 1) (by omega))))))
      simp only [laws_heldLabelS.l0]
      rw [if_pos (by rw [marksL_length]; omega), if_pos (by omega), e1, e3, w_succ j (by omega), er]
  unfold laws_heldLabelS.f
  exact key n 0 (by omega)
end Go.Proofs.YtdfgfhnbcifheaaDoor.Mark
/- FnExactDecodeKey: what is left, plain. -/
namespace Go.Proofs.YtdfgfhnbcifheaaDoor.Pure
open Go.Proofs.YtdfgfhnbcifheaaDoor.M Go.Proofs.YtdfgfhnbcifheaaDoor.Loops Go.Proofs.YtdfgfhnbcifheaaDoor.LabLaws Go.Proofs.YtdfgfhnbcifheaaDoor.Mark Go.Proofs.YtdfgfhnbcifheaaDoorW.PrintWords Go.Proofs.YtdfgfhnbcifheaaDoorW.PrintLast Go.RowKit
theorem FnExactDecodeKey : FnExactDecodeKeyPure := by
  rintro s hsz
  refine Ev.rounds ?_
  unfold laws_FnExactDecodeKey.f
  by_cases hbig : (s.size : Int) > 1048576
  · exact Ev.ite_pos hbig (Ev.now _)
  · obtain ⟨l, him, hsp⟩ := KeyDec.same_dec s (by omega)
    have hlen := KeyDec.fin_len s l
    obtain ⟨r, hr⟩ : ∃ r, r = KeyDec.fin s l := ⟨_, rfl⟩
    rw [← hr] at him hsp hlen
    have heq := eq_labels r.1 (by omega)
    have hmk := mark_labels r.1 1 (by omega) (by omega)
    have hhd := held_labels 1 r.1.length (by omega) (by omega)
    have npos : ¬ (((1 + 2 * r.1.length : Nat) : Int) < 0) := by omega
    refine Ev.ite_neg hbig (Ev.bind hsp (Ev.bind him (Ev.bind heq (Ev.ite_pos rfl ?_))))
    simp only [bne_self_eq_false]
    refine Ev.step (f := fun k => (laws_markLabelS.f k r.1 1).bind fun bt503 => ((laws_heldLabelS.f k bt503.2 1).bind fun t505 => (if t505 < 0 then (some false) else (if t505 = bt503.1 then ((impl_DecodeKey.f k s).bind fun bt506 => ((laws_eqLabelS.f k bt506.1 r.1).bind fun t510 => (if t510 = true then (laws_FnExactDecodeKey.j1 k bt503.2 bt503.1 (bt506.2 != r.2)) else (laws_FnExactDecodeKey.j1 k bt503.2 bt503.1 true)))) else (some false))))) (fun k => by
      simp only [laws_FnExactDecodeKey.j0, Bool.false_eq_true, if_false]) ?_
    refine Ev.bind hmk (Ev.bind hhd (Ev.ite_neg npos (Ev.ite_pos rfl (Ev.bind him (Ev.bind heq (Ev.ite_pos rfl ?_))))))
    simp only [bne_self_eq_false]
    refine Ev.step (f := fun k => (laws_heldLabelS.f k (marksL 1 r.1.length) 1).bind fun t511 => (if t511 < 0 then (some false) else (if t511 = ((1 + 2 * r.1.length : Nat) : Int) then (some true) else (some false)))) (fun k => by
      simp only [laws_FnExactDecodeKey.j1, Bool.false_eq_true, if_false]) ?_
    exact Ev.bind hhd (Ev.ite_neg npos (Ev.ite_pos rfl (Ev.now _)))
end Go.Proofs.YtdfgfhnbcifheaaDoor.Pure
