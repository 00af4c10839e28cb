/- Some of this seat's texts, joined by prune.py. -/
import Derived.Test.YtogoblkehdmapaaDoorF4
import Derived.Test.YtogoblkehdmapaaDoorO0
import Derived.Test.YtogoblkehdmapaaDoorF19
import Derived.Test.YtogoblkehdmapaaDoorF6
import Derived.Test.YtogoblkehdmapaaDoorF8
import Derived.Test.YtogoblkehdmapaaDoorF10
import Derived.Test.YtogoblkehdmapaaDoorF20
import Derived.Test.YtogoblkehdmapaaDoorWWords
import Derived.Test.YtogoblkehdmapaaDoorXBld
import Derived.Test.YtogoblkehdmapaaDoorF32
import Derived.Test.YtogoblkehdmapaaDoorF33
import Derived.Test.YtogoblkehdmapaaDoorBatDec
/- Some of this seat's texts, joined by prune.py. -/
/- Some of this seat's texts, joined by prune.py. -/
-- By pp.py, a program of this repo, with the kit's printer: Lean checks it.
namespace Go.Proofs.YtogoblkehdmapaaDoor.M
open Go.RowKit Go.Proofs.YtogoblkehdmapaaDoorW.PrintWords Go.Proofs.YtogoblkehdmapaaDoorW.PrintLast Go.Proofs.YtogoblkehdmapaaDoorW.PrintMore
attribute [local go_sem] max2_int min2_int max_two min_two max_three min_three max_four min_four
set_option linter.unusedVariables false
set_option linter.unusedSimpArgs false

end Go.Proofs.YtogoblkehdmapaaDoor.M
namespace Go.Proofs.YtogoblkehdmapaaDoor.Pure
open Go.Proofs.YtogoblkehdmapaaDoor.M Go.RowKit
/-- What is left to prove of laws_FnExactDecodeBatch. -/
def FnExactDecodeBatchPure : Prop := ∀ (a0 : ByteArray), a0.size ≤ maxLen → ∃ k, laws_FnExactDecodeBatch.f k a0 = some true
end Go.Proofs.YtogoblkehdmapaaDoor.Pure
namespace Go.Proofs.YtogoblkehdmapaaDoor.M
end Go.Proofs.YtogoblkehdmapaaDoor.M
/- Batches, as the laws copy, compare and weigh them: plain. -/
namespace Go.Proofs.YtogoblkehdmapaaDoor.BatLaws
open Go.Proofs.YtogoblkehdmapaaDoor.M Go.Proofs.YtogoblkehdmapaaDoor.Loops Go.Proofs.YtogoblkehdmapaaDoorW.PrintWords Go.Proofs.YtogoblkehdmapaaDoorW.PrintLast Go.RowKit
abbrev RO := S47
theorem eq_recs (l : List RO) (h : l.length < 9223372036854775807) : Ev (fun k => laws_eqRecS.f k l l) true := by
  unfold laws_eqRecS.f
  refine Ev.ite_pos rfl ?_
  exact all_loop laws_eqRecS.l0 (fun _ x y => laws_eqRec.f x.f0 x.f1 x.f2 x.f3 y.f0 y.f1 y.f2 y.f3) z47 (fun k x y i => by simp only [laws_eqRecS.l0]; rfl) l h (fun a _ => by
    unfold laws_eqRec.f; simp only [if_true]; exact Ev.now _) l.length 0 (by omega)
theorem eq_batch (n : Int) (l : List RO) (h : l.length < 9223372036854775807) : Ev (fun k => laws_eqBatch.f k n l n l) true := by
  unfold laws_eqBatch.f
  simp only [if_true]
  exact Ev.bind (eq_recs l h) (Ev.ite_pos rfl (Ev.now _))
end Go.Proofs.YtogoblkehdmapaaDoor.BatLaws
/-! ### sizes -/
namespace Go.Proofs.YtogoblkehdmapaaDoor.BatLaws
open Go.Proofs.YtogoblkehdmapaaDoor.M Go.Proofs.YtogoblkehdmapaaDoor.Loops Go.Proofs.YtogoblkehdmapaaDoorW.PrintWords Go.Proofs.YtogoblkehdmapaaDoorW.PrintLast Go.RowKit
end Go.Proofs.YtogoblkehdmapaaDoor.BatLaws
/- markText has an answer for every number in reach; marking a list of strings and reading the marks again. Plain. -/
namespace Go.Proofs.YtogoblkehdmapaaDoor.Mark
open Go.Proofs.YtogoblkehdmapaaDoor.M Go.Proofs.YtogoblkehdmapaaDoor.Loops Go.Proofs.YtogoblkehdmapaaDoorW.PrintWords Go.Proofs.YtogoblkehdmapaaDoorW.PrintLast Go.RowKit

theorem text_loop : ∀ (n : Nat) (x : Nat) (t : ByteArray), x < 10 ^ n → n ≤ 18 → t.size + n ≤ 1000 → ∃ r, Ev (fun k => laws_markText.l0 k x t) r := by
  intro n
  induction n with
  | zero =>
    intro x t hx _ ht
    obtain rfl : x = 0 := by simpa using hx
    exact ⟨_, Ev.step (f := fun _ => some _) (fun k => by simp only [laws_markText.l0]; rw [if_neg (by omega), if_pos (by omega)]) (Ev.now _)⟩
  | succ n ih =>
    intro x t hx hn ht
    by_cases h0 : x = 0
    · subst h0
      exact ⟨_, Ev.step (f := fun _ => some _) (fun k => by simp only [laws_markText.l0]; rw [if_neg (by omega), if_pos (by omega)]) (Ev.now _)⟩
    · have hp : (10 : Nat) ^ (n + 1) ≤ 10 ^ 18 := Nat.pow_le_pow_right (by decide) (by omega)
      have hp' : (10 : Nat) ^ 18 = 1000000000000000000 := by decide
      have hdv : x / 10 < 10 ^ n := by
        rw [Nat.pow_succ] at hx
        omega
      obtain ⟨r, hr⟩ := ih (x / 10) (strOfNums [(wrap64 (48 + (Int.tmod (x : Int) 10))) % 256] ++ t) hdv (by omega) (by rw [ByteArray.size_append, strOfNums_size]; simp; omega)
      refine ⟨r, Ev.step (fun k => ?_) hr⟩
      simp only [laws_markText.l0]
      have e : wrap64 (Int.tdiv (x : Int) 10) = ((x / 10 : Nat) : Int) := by
        rw [Int.tdiv_eq_ediv_of_nonneg (by omega), w_id _ (by omega) (by omega)]
        omega
      rw [if_pos (by omega), Option.bind_some, if_pos (by rw [strOfNums_size]; simp; omega), e]
theorem text_ex (n : Nat) (h : n < 10 ^ 18) : ∃ r, Ev (fun k => laws_markText.f k n) r := by
  unfold laws_markText.f
  by_cases h0 : (n : Int) ≤ 0
  · exact ⟨_, Ev.ite_pos h0 (Ev.now _)⟩
  · obtain ⟨r, hr⟩ := text_loop 18 n ⟨#[]⟩ h (by omega) (by show 0 + 18 ≤ 1000; omega)
    exact ⟨r, Ev.ite_neg h0 hr⟩
open Classical in
/-- The mark of n. -/
noncomputable def T (n : Nat) : ByteArray := if h : ∃ r, Ev (fun k => laws_markText.f k n) r then Classical.choose h else ByteArray.empty
theorem text (n : Nat) (h : n < 10 ^ 18) : Ev (fun k => laws_markText.f k n) (T n) := by
  have hx := text_ex n h
  unfold T
  rw [dif_pos hx]
  exact Classical.choose_spec hx
end Go.Proofs.YtogoblkehdmapaaDoor.Mark
/- Some of this seat's texts, joined by prune.py. -/
/- Lists of records: marked, the marks read again. Plain. -/
namespace Go.Proofs.YtogoblkehdmapaaDoor.Mark
open Go.Proofs.YtogoblkehdmapaaDoor.M Go.Proofs.YtogoblkehdmapaaDoor.Loops Go.Proofs.YtogoblkehdmapaaDoorW.PrintWords Go.Proofs.YtogoblkehdmapaaDoorW.PrintLast Go.RowKit
/-- The marks of a record. -/
noncomputable def markR (a : Nat) : S47 := ⟨(a : Int), T (a + 1), T (a + 2), ((a + 3 : Nat) : Int)⟩
/-- The marks of n records from a on. -/
noncomputable def marksR (a n : Nat) : List S47 := (List.range n).map fun j => markR (a + 4 * j)
theorem marksR_length (a n : Nat) : (marksR a n).length = n := by simp [marksR]
theorem w_add (x : Nat) (h : x ≤ 1000000000) : wrap64 ((x : Int) + 1) = ((x + 1 : Nat) : Int) := by rw [w_id _ (by omega) (by omega)]; omega
theorem mark_recs (l : List S47) (a : Nat) (hl : l.length ≤ 1048576) (ha : a ≤ 100000000) : Ev (fun k => laws_markRecS.f k l a) (((a + 4 * l.length : Nat) : Int), marksR a l.length) := by
  have key : ∀ m j (y : List S47), j + m = l.length → y.length = l.length → y.take j = marksR a j → Ev (fun k => laws_markRecS.l0 k y ((a + 4 * j : Nat) : Int) (j : Int)) (((a + 4 * l.length : Nat) : Int), marksR a l.length) := by
    intro m
    induction m with
    | zero =>
      intro j y hj hy ht
      obtain rfl : j = l.length := by omega
      refine Ev.step (f := fun _ => some (((a + 4 * l.length : Nat) : Int), y)) (fun k => by simp only [laws_markRecS.l0]; rw [if_neg (by omega)]) (Ev.eq (Ev.now _) ?_)
      rw [← ht, List.take_of_length_le (by omega)]
    | succ m ih =>
      intro j y hj hy ht
      have hT := text (a + 4 * j + 1) (by omega)
      have hT2 := text (a + 4 * j + 2) (by omega)
      have e1 := w_add (a + 4 * j) (by omega)
      have e2 := w_add (a + 4 * j + 1) (by omega)
      have e3 := w_add (a + 4 * j + 2) (by omega)
      have e4 : wrap64 (((a + 4 * j + 3 : Nat) : Int) + 1) = ((a + 4 * (j + 1) : Nat) : Int) := by rw [w_add (a + 4 * j + 3) (by omega)]; omega
      have rs : ∀ (y : List S47) (x : S47), j < y.length → rd_T47 (y.set j x) (j : Int) = x := by
        intro y x h
        unfold rd_T47
        rw [Int.toNat_natCast, List.getD_eq_getElem?_getD, List.getElem?_set, if_pos rfl, if_pos h]; rfl
      refine Ev.step (f := fun k => (laws_markText.f k ((a + 4 * j + 1 : Nat) : Int)).bind fun t => (laws_markText.f k ((a + 4 * j + 2 : Nat) : Int)).bind fun t2 => laws_markRecS.l0 k (y.set j ⟨((a + 4 * j : Nat) : Int), t, t2, ((a + 4 * j + 3 : Nat) : Int)⟩) ((a + 4 * (j + 1) : Nat) : Int) ((j + 1 : Nat) : Int)) (fun k => ?_) (Ev.bind hT (Ev.bind hT2 (ih (j + 1) _ (by omega) (by simpa using hy) ?_)))
      · rw [laws_markRecS.l0, if_pos (by omega), if_pos (by omega), e1, e2, e3, e4, w_succ j (by omega), Int.toNat_natCast, Option.bind_some]
        refine congrArg _ (funext fun t => ?_)
        rw [Option.bind_some]
        refine congrArg _ (funext fun t2 => ?_)
        rw [Option.bind_some]
        simp only [rs y _ (show j < y.length by omega), List.set_set]
      · rw [List.take_set, List.take_add_one, List.getElem?_eq_getElem (by omega)]
        simp only [Option.toList_some]
        rw [List.set_append_right _ _ (by rw [List.length_take]; omega), List.length_take, Nat.min_eq_left (by omega), Nat.sub_self, ht]
        simp [marksR, markR, List.range_succ]
  unfold laws_markRecS.f
  exact key l.length 0 l (by omega) rfl (by simp [marksR])
theorem held_recs (a n : Nat) (hn : n ≤ 1048576) (ha : a ≤ 100000000) : Ev (fun k => laws_heldRecS.f k (marksR a n) a) ((a + 4 * n : Nat) : Int) := by
  have key : ∀ m j, j + m = n → Ev (fun k => laws_heldRecS.l0 k (marksR a n) ((a + 4 * j : Nat) : Int) (j : Int)) ((a + 4 * n : Nat) : Int) := by
    intro m
    induction m with
    | zero =>
      intro j hj
      obtain rfl : j = n := by omega
      exact Ev.step (f := fun _ => some ((a + 4 * j : Nat) : Int)) (fun k => by simp only [laws_heldRecS.l0]; rw [if_neg (by rw [marksR_length]; omega)]) (Ev.now _)
    | succ m ih =>
      intro j hj
      have hT := text (a + 4 * j + 1) (by omega)
      have hT2 := text (a + 4 * j + 2) (by omega)
      have e1 := w_add (a + 4 * j) (by omega)
      have e2 := w_add (a + 4 * j + 1) (by omega)
      have e3 := w_add (a + 4 * j + 2) (by omega)
      have e4 : wrap64 (((a + 4 * j + 3 : Nat) : Int) + 1) = ((a + 4 * (j + 1) : Nat) : Int) := by rw [w_add (a + 4 * j + 3) (by omega)]; omega
      have er : rd_T47 (marksR a n) (j : Int) = markR (a + 4 * j) := by
        unfold rd_T47 marksR
        rw [Int.toNat_natCast, List.getD_eq_getElem?_getD, List.getElem?_map, List.getElem?_range (by omega)]
        rfl
      refine Ev.step (f := fun k => (laws_markText.f k ((a + 4 * j + 1 : Nat) : Int)).bind fun t => if (T (a + 4 * j + 1)).toList = t.toList then (laws_markText.f k ((a + 4 * j + 2 : Nat) : Int)).bind (fun t2 => if (T (a + 4 * j + 2)).toList = t2.toList then laws_heldRecS.l0 k (marksR a n) ((a + 4 * (j + 1) : Nat) : Int) ((j + 1 : Nat) : Int) else some (-1)) else some (-1)) (fun k => ?_) (Ev.bind hT (Ev.ite_pos rfl (Ev.bind hT2 (Ev.ite_pos rfl (ih (j + 1) (by omega))))))
      simp only [laws_heldRecS.l0]
      rw [if_pos (by rw [marksR_length]; omega), if_pos (by omega), e1, e2, e3, e4, w_succ j (by omega), er]
      simp only [markR, if_true]
  unfold laws_heldRecS.f
  exact key n 0 (by omega)
end Go.Proofs.YtogoblkehdmapaaDoor.Mark
/- FnExactDecodeBatch: what is left, plain. -/
namespace Go.Proofs.YtogoblkehdmapaaDoor.Pure
open Go.Proofs.YtogoblkehdmapaaDoor.M Go.Proofs.YtogoblkehdmapaaDoor.Loops Go.Proofs.YtogoblkehdmapaaDoor.BatLaws Go.Proofs.YtogoblkehdmapaaDoor.Mark Go.Proofs.YtogoblkehdmapaaDoorW.PrintWords Go.Proofs.YtogoblkehdmapaaDoorW.PrintLast Go.RowKit
theorem mark_batch (n : Int) (l : List S47) (hl : l.length ≤ 1048576) : Ev (fun k => laws_markBatch.f k n l 1) (((1 + 4 * l.length : Nat) : Int), marksR 1 l.length) := by
  unfold laws_markBatch.f
  exact Ev.bind (mark_recs l 1 hl (by omega)) (Ev.now _)
theorem held_batch (n : Int) (c : Nat) (hc : c ≤ 1048576) : Ev (fun k => laws_heldBatch.f k n (marksR 1 c) 1) ((1 + 4 * c : Nat) : Int) := by
  unfold laws_heldBatch.f
  exact Ev.bind (held_recs 1 c hc (by omega)) (Ev.ite_neg (by omega) (Ev.now _))
theorem FnExactDecodeBatch : FnExactDecodeBatchPure := by
  rintro s hsz
  refine Ev.rounds ?_
  unfold laws_FnExactDecodeBatch.f
  by_cases hbig : (s.size : Int) > 1048576
  · exact Ev.ite_pos hbig (Ev.now _)
  · obtain ⟨n, l, him, hsp⟩ := BatDec.same_dec s (by omega)
    have hlen := BatDec.fin_len s n l
    obtain ⟨r, hr⟩ : ∃ r, r = BatDec.fin s n l := ⟨_, rfl⟩
    rw [← hr] at him hsp hlen
    have heq := eq_batch r.1 r.2.1 (by omega)
    have hmk := mark_batch r.1 r.2.1 (by omega)
    have hhd := held_batch r.1 r.2.1.length (by omega)
    have npos : ¬ (((1 + 4 * r.2.1.length : Nat) : Int) < 0) := by omega
    refine Ev.ite_neg hbig (Ev.bind hsp (Ev.bind him (Ev.bind heq (Ev.ite_pos rfl ?_))))
    simp only [bne_self_eq_false]
    refine Ev.step (f := fun k => (laws_markBatch.f k r.1 r.2.1 1).bind fun bt247 => ((laws_heldBatch.f k r.1 bt247.2 1).bind fun t249 => (if t249 < 0 then (some false) else (if t249 = bt247.1 then ((impl_DecodeBatch.f k s).bind fun bt250 => ((laws_eqBatch.f k bt250.1 bt250.2.1 r.1 r.2.1).bind fun t256 => (if t256 = true then (laws_FnExactDecodeBatch.j1 k bt247.1 (bt250.2.2 != r.2.2) r.1 bt247.2) else (laws_FnExactDecodeBatch.j1 k bt247.1 true r.1 bt247.2)))) else (some false))))) (fun k => by
      simp only [laws_FnExactDecodeBatch.j0, Bool.false_eq_true, if_false]) ?_
    refine Ev.bind hmk (Ev.bind hhd (Ev.ite_neg npos (Ev.ite_pos rfl (Ev.bind him (Ev.bind heq (Ev.ite_pos rfl ?_))))))
    simp only [bne_self_eq_false]
    refine Ev.step (f := fun k => (laws_heldBatch.f k r.1 (marksR 1 r.2.1.length) 1).bind fun t257 => (if t257 < 0 then (some false) else (if t257 = ((1 + 4 * r.2.1.length : Nat) : Int) then (some true) else (some false)))) (fun k => by
      simp only [laws_FnExactDecodeBatch.j1, Bool.false_eq_true, if_false]) ?_
    exact Ev.bind hhd (Ev.ite_neg npos (Ev.ite_pos rfl (Ev.now _)))
end Go.Proofs.YtogoblkehdmapaaDoor.Pure
