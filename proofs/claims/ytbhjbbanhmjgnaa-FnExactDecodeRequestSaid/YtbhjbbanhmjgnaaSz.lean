/- Some of this seat's texts, joined by prune.py. -/
import Derived.Test.YtbhjbbanhmjgnaaLoops
import Derived.Test.YtbhjbbanhmjgnaaF6
import Derived.Test.YtbhjbbanhmjgnaaF31
import Derived.Test.YtbhjbbanhmjgnaaO0
import Derived.Test.YtbhjbbanhmjgnaaWWords
import Derived.Test.YtbhjbbanhmjgnaaF73
import Derived.Test.YtbhjbbanhmjgnaaF61
import Derived.Test.YtbhjbbanhmjgnaaM0
import Derived.Test.YtbhjbbanhmjgnaaF58
import Derived.Test.YtbhjbbanhmjgnaaEncReq
import Derived.Test.YtbhjbbanhmjgnaaXSrcNum
/- Some of this seat's texts, joined by prune.py. -/
/- Some of this seat's texts, joined by prune.py. -/
/- Some of this seat's texts, joined by prune.py. -/
/- Some of this seat's texts, joined by prune.py. -/
/- Some of this seat's texts, joined by prune.py. -/
/- A list's weight, counted down from what is left: plain. -/
namespace Go.Proofs.Ytbhjbbanhmjgnaa.Loops
open Go.RowKit Go.Proofs.YtbhjbbanhmjgnaaW.PrintWords
end Go.Proofs.Ytbhjbbanhmjgnaa.Loops
/- Requests, as the laws copy, compare and weigh them: plain. -/
namespace Go.Proofs.Ytbhjbbanhmjgnaa.ReqLaws
open Go.Proofs.Ytbhjbbanhmjgnaa.M Go.Proofs.Ytbhjbbanhmjgnaa.Loops Go.Proofs.YtbhjbbanhmjgnaaW.PrintWords Go.Proofs.YtbhjbbanhmjgnaaW.PrintLast Go.RowKit
abbrev LO := S67
abbrev SO := S65
theorem eq_labels (l : List LO) (h : l.length < 9223372036854775807) : Ev (fun k => laws_eqLabelS.f k l l) true := by
  unfold laws_eqLabelS.f
  refine Ev.ite_pos rfl ?_
  exact all_loop laws_eqLabelS.l0 (fun _ x y => laws_eqLabel.f x.f0 x.f1 y.f0 y.f1) z67 (fun k x y i => by simp only [laws_eqLabelS.l0]; rfl) l h (fun a _ => by
    unfold laws_eqLabel.f; simp only [if_true]; exact Ev.now _) l.length 0 (by omega)
theorem eq_samples (l : List SO) (h : l.length < 9223372036854775807) (hi : ∀ x ∈ l, x.f0.length < 9223372036854775807) : Ev (fun k => laws_eqSampleS.f k l l) true := by
  unfold laws_eqSampleS.f
  refine Ev.ite_pos rfl ?_
  exact all_loop laws_eqSampleS.l0 (fun k x y => laws_eqSample.f k x.f0 x.f1 y.f0 y.f1) z65 (fun k x y i => by simp only [laws_eqSampleS.l0]; rfl) l h (fun a ha => by
    unfold laws_eqSample.f
    exact Ev.bind (eq_labels a.f0 (hi a ha)) (Ev.ite_pos rfl (Ev.ite_pos rfl (Ev.now _)))) l.length 0 (by omega)
theorem eq_request (a : Int) (b c : ByteArray) (d : Int) (l : List SO) (h : l.length < 9223372036854775807) (hi : ∀ x ∈ l, x.f0.length < 9223372036854775807) : Ev (fun k => laws_eqRequest.f k a b c d l a b c d l) true := by
  unfold laws_eqRequest.f
  simp only [if_true]
  exact Ev.bind (eq_samples l h hi) (Ev.ite_pos rfl (Ev.now _))
end Go.Proofs.Ytbhjbbanhmjgnaa.ReqLaws
/- markText has an answer for every number in reach; marking a list of strings and reading the marks again. Plain. -/
namespace Go.Proofs.Ytbhjbbanhmjgnaa.Mark
open Go.Proofs.Ytbhjbbanhmjgnaa.M Go.Proofs.Ytbhjbbanhmjgnaa.Loops Go.Proofs.YtbhjbbanhmjgnaaW.PrintWords Go.Proofs.YtbhjbbanhmjgnaaW.PrintLast Go.RowKit

theorem text_loop : ∀ (n : Nat) (x : Nat) (t : ByteArray), x < 10 ^ n → n ≤ 18 → t.size + n ≤ 1000 → ∃ r, Ev (fun k => laws_markText.l0 k x t) r := by
  intro n
  induction n with
  | zero =>
    intro x t hx _ ht
    obtain rfl : x = 0 := by simpa using hx
    exact ⟨_, Ev.step (f := fun _ => some _) (fun k => by simp only [laws_markText.l0]; rw [if_neg (by omega), if_pos (by omega)]) (Ev.now _)⟩
  | succ n ih =>
    intro x t hx hn ht
    by_cases h0 : x = 0
    · subst h0
      exact ⟨_, Ev.step (f := fun _ => some _) (fun k => by simp only [laws_markText.l0]; rw [if_neg (by omega), if_pos (by omega)]) (Ev.now _)⟩
    · have hp : (10 : Nat) ^ (n + 1) ≤ 10 ^ 18 := Nat.pow_le_pow_right (by decide) (by omega)
      have hp' : (10 : Nat) ^ 18 = 1000000000000000000 := by decide
      have hdv : x / 10 < 10 ^ n := by
        rw [Nat.pow_succ] at hx
        omega
      obtain ⟨r, hr⟩ := ih (x / 10) (strOfNums [(wrap64 (48 + (Int.tmod (x : Int) 10))) % 256] ++ t) hdv (by omega) (by rw [ByteArray.size_append, strOfNums_size]; simp; omega)
      refine ⟨r, Ev.step (fun k => ?_) hr⟩
      simp only [laws_markText.l0]
      have e : wrap64 (Int.tdiv (x : Int) 10) = ((x / 10 : Nat) : Int) := by
        rw [Int.tdiv_eq_ediv_of_nonneg (by omega), w_id _ (by omega) (by omega)]
        omega
      rw [if_pos (by omega), Option.bind_some, if_pos (by rw [strOfNums_size]; simp; omega), e]
theorem text_ex (n : Nat) (h : n < 10 ^ 18) : ∃ r, Ev (fun k => laws_markText.f k n) r := by
  unfold laws_markText.f
  by_cases h0 : (n : Int) ≤ 0
  · exact ⟨_, Ev.ite_pos h0 (Ev.now _)⟩
  · obtain ⟨r, hr⟩ := text_loop 18 n ⟨#[]⟩ h (by omega) (by show 0 + 18 ≤ 1000; omega)
    exact ⟨r, Ev.ite_neg h0 hr⟩
open Classical in
/-- The mark of n. -/
noncomputable def T (n : Nat) : ByteArray := if h : ∃ r, Ev (fun k => laws_markText.f k n) r then Classical.choose h else ByteArray.empty
theorem text (n : Nat) (h : n < 10 ^ 18) : Ev (fun k => laws_markText.f k n) (T n) := by
  have hx := text_ex n h
  unfold T
  rw [dif_pos hx]
  exact Classical.choose_spec hx
end Go.Proofs.Ytbhjbbanhmjgnaa.Mark
/- Lists of labels: marked, the marks read again. Plain. -/
namespace Go.Proofs.Ytbhjbbanhmjgnaa.Mark
open Go.Proofs.Ytbhjbbanhmjgnaa.M Go.Proofs.Ytbhjbbanhmjgnaa.Loops Go.Proofs.YtbhjbbanhmjgnaaW.PrintWords Go.Proofs.YtbhjbbanhmjgnaaW.PrintLast Go.RowKit
/-- The marks of n labels from a on. -/
noncomputable def marksL (a n : Nat) : List S67 := (List.range n).map fun j => ⟨T (a + 2 * j), T (a + 2 * j + 1)⟩
theorem marksL_length (a n : Nat) : (marksL a n).length = n := by simp [marksL]
theorem mark_labels (l : List S67) (a : Nat) (hl : l.length ≤ 1048576) (ha : a ≤ 100000000) : Ev (fun k => laws_markLabelS.f k l a) (((a + 2 * l.length : Nat) : Int), marksL a l.length) := by
  have key : ∀ m j (y : List S67), j + m = l.length → y.length = l.length → y.take j = marksL a j → Ev (fun k => laws_markLabelS.l0 k y ((a + 2 * j : Nat) : Int) (j : Int)) (((a + 2 * l.length : Nat) : Int), marksL a l.length) := by
    intro m
    induction m with
    | zero =>
      intro j y hj hy ht
      obtain rfl : j = l.length := by omega
      refine Ev.step (f := fun _ => some (((a + 2 * l.length : Nat) : Int), y)) (fun k => by simp only [laws_markLabelS.l0]; rw [if_neg (by omega)]) (Ev.eq (Ev.now _) ?_)
      rw [← ht, List.take_of_length_le (by omega)]
    | succ m ih =>
      intro j y hj hy ht
      have hT := text (a + 2 * j) (by omega)
      have hT2 := text (a + 2 * j + 1) (by omega)
      have e1 : wrap64 (((a + 2 * j : Nat) : Int) + 1) = ((a + 2 * j + 1 : Nat) : Int) := by rw [w_id _ (by omega) (by omega)]; omega
      have e3 : wrap64 (((a + 2 * j + 1 : Nat) : Int) + 1) = ((a + 2 * (j + 1) : Nat) : Int) := by rw [w_id _ (by omega) (by omega)]; omega
      have rs : ∀ (y : List S67) (x : S67), j < y.length → rd_T67 (y.set j x) (j : Int) = x := by
        intro y x h
        unfold rd_T67
        rw [Int.toNat_natCast, List.getD_eq_getElem?_getD, List.getElem?_set, if_pos rfl, if_pos h]; rfl
      refine Ev.step (f := fun k => (laws_markText.f k ((a + 2 * j : Nat) : Int)).bind fun t => (laws_markText.f k ((a + 2 * j + 1 : Nat) : Int)).bind fun t2 => laws_markLabelS.l0 k (y.set j ⟨t, t2⟩) ((a + 2 * (j + 1) : Nat) : Int) ((j + 1 : Nat) : Int)) (fun k => ?_) (Ev.bind hT (Ev.bind hT2 (ih (j + 1) _ (by omega) (by simpa using hy) ?_)))
      · rw [laws_markLabelS.l0, if_pos (by omega), e1, e3, w_succ j (by omega), Int.toNat_natCast]
        refine congrArg _ (funext fun t => ?_)
        rw [if_pos (by omega), Option.bind_some]
        refine congrArg _ (funext fun t2 => ?_)
        rw [rs y _ (by omega), List.set_set]
      · rw [List.take_set, List.take_add_one, List.getElem?_eq_getElem (by omega)]
        simp only [Option.toList_some]
        rw [List.set_append_right _ _ (by rw [List.length_take]; omega), List.length_take, Nat.min_eq_left (by omega), Nat.sub_self, ht]
        simp [marksL, List.range_succ]
  unfold laws_markLabelS.f
  exact key l.length 0 l (by omega) rfl (by simp [marksL])
theorem held_labels (a n : Nat) (hn : n ≤ 1048576) (ha : a ≤ 100000000) : Ev (fun k => laws_heldLabelS.f k (marksL a n) a) ((a + 2 * n : Nat) : Int) := by
  have key : ∀ m j, j + m = n → Ev (fun k => laws_heldLabelS.l0 k (marksL a n) ((a + 2 * j : Nat) : Int) (j : Int)) ((a + 2 * n : Nat) : Int) := by
    intro m
    induction m with
    | zero =>
      intro j hj
      obtain rfl : j = n := by omega
      exact Ev.step (f := fun _ => some ((a + 2 * j : Nat) : Int)) (fun k => by simp only [laws_heldLabelS.l0]; rw [if_neg (by rw [marksL_length]; omega)]) (Ev.now _)
    | succ m ih =>
      intro j hj
      have hT := text (a + 2 * j) (by omega)
      have hT2 := text (a + 2 * j + 1) (by omega)
      have e1 : wrap64 (((a + 2 * j : Nat) : Int) + 1) = ((a + 2 * j + 1 : Nat) : Int) := by rw [w_id _ (by omega) (by omega)]; omega
      have e3 : wrap64 (((a + 2 * j + 1 : Nat) : Int) + 1) = ((a + 2 * (j + 1) : Nat) : Int) := by rw [w_id _ (by omega) (by omega)]; omega
      have er : rd_T67 (marksL a n) (j : Int) = ⟨T (a + 2 * j), T (a + 2 * j + 1)⟩ := by
        unfold rd_T67 marksL
        rw [Int.toNat_natCast, List.getD_eq_getElem?_getD, List.getElem?_map, List.getElem?_range (by omega)]
        rfl
      refine Ev.step (f := fun k => (laws_markText.f k ((a + 2 * j : Nat) : Int)).bind fun t => if (T (a + 2 * j)).toList = t.toList then (laws_markText.f k ((a + 2 * j + 1 : Nat) : Int)).bind (fun t2 => if (T (a + 2 * j + 1)).toList = t2.toList then laws_heldLabelS.l0 k (marksL a n) ((a + 2 * (j + 1) : Nat) : Int) ((j + 1 : Nat) : Int) else some (-1)) else some (-1)) (fun k => ?_) (Ev.bind hT (Ev.ite_pos rfl (Ev.bind hT2 (Ev.ite_pos rfl (ih (j + 1) (by omega))))))
      simp only [laws_heldLabelS.l0]
      rw [if_pos (by rw [marksL_length]; omega), if_pos (by omega), e1, e3, w_succ j (by omega), er]
  unfold laws_heldLabelS.f
  exact key n 0 (by omega)
end Go.Proofs.Ytbhjbbanhmjgnaa.Mark
-- By pp.py, a program of this repo, with the kit's printer: Lean checks it.
namespace Go.Proofs.Ytbhjbbanhmjgnaa.M
open Go.RowKit Go.Proofs.YtbhjbbanhmjgnaaW.PrintWords Go.Proofs.YtbhjbbanhmjgnaaW.PrintLast Go.Proofs.YtbhjbbanhmjgnaaW.PrintMore
attribute [local go_sem] max2_int min2_int max_two min_two max_three min_three max_four min_four
set_option linter.unusedVariables false
set_option linter.unusedSimpArgs false

/-! ### laws_heldRequest: function 19 -/
def laws_heldRequest.f (k : Nat) (a0_0 : Int) (a0_1 : ByteArray) (a0_2 : ByteArray) (a0_3 : Int) (l0_4 : List (S65)) (a1 : Int) : Option (Int) := (laws_heldSampleS.f k l0_4 a1).bind fun t386 => (if t386 < 0 then (some (-1)) else (some t386))
theorem laws_heldRequest.mono : ∀ a0 a1 a2 a3 a4 a5 k, LeO (laws_heldRequest.f k a0 a1 a2 a3 a4 a5) (laws_heldRequest.f (k + 1) a0 a1 a2 a3 a4 a5) := by
  intro a0 a1 a2 a3 a4 a5 k
  unfold laws_heldRequest.f
  repeat' first
      | (with_reducible exact laws_heldSampleS.mono _ _ _)
      | (with_reducible exact LeO.refl _)
      | (with_reducible exact LeO.none _)
      | (with_reducible refine LeO.ite ?_ ?_)
      | (with_reducible refine LeO.bind ?_ (fun _ => ?_))
      | exact laws_heldSampleS.mono _ _ _
      | exact LeO.none _
      | refine LeO.ite ?_ ?_
      | refine LeO.bind ?_ (fun _ => ?_)
set_option maxHeartbeats 8000000 in
set_option maxRecDepth 100000 in
theorem laws_heldRequest.calls (k : Nat) (a0_0 : Int) (a0_1 : ByteArray) (a0_2 : ByteArray) (a0_3 : Int) (A0_4 : Option Addr) (c0_4 : Nat) (l0_4 : List (S65)) (a1 : Int) (r : Int) (w : World) (hr0_4 : Kd.C k65 w A0_4 l0_4.length l0_4) (hc0_4 : l0_4.length ≤ c0_4) (h : laws_heldRequest.f k a0_0 a0_1 a0_2 a0_3 l0_4 a1 = some r) :
    Calls Try.prog 19 #[.agg #[.int .i64 a0_0, .string a0_1, .string a0_2, .int .i64 a0_3, .slice A0_4 l0_4.length c0_4], .int .i64 a1] w fun e w' => e = .returned (.int .i64 r) ∧ Below w.heap.size w w' := by
  have hu29 := Try.underlying29
  have HR0_4 := Aside0.mk hr0_4
  have HC0_4 := Aside0.mk hc0_4
  clear hr0_4 hc0_4
  have HB := Aside0.mk (Below.refl w.heap.size w)
  have H : ((laws_heldSampleS.f k l0_4 a1).bind fun t386 => (if t386 < 0 then (some (-1)) else (some t386))) = some r := h
  clear h
  replace H := Option.bind_eq_some_iff.mp H
  obtain ⟨t386, A30, H⟩ := H
  replace H : (if t386 < 0 then (some (-1)) else (some t386)) = some r := H
  have A3 := Aside0.mk A30
  clear A30
  by_cases c4 : t386 < 0
  · rw [if_pos c4] at H
    have c4b0 : decide (t386 < 0) = true := decide_eq_true c4
    clear c4
    obtain rfl := Option.some.inj H
    go_enter Try.func19, Try.ntmps19
    go_wp2_with (first | ((with_reducible refine gate_dst (N := 2) rfl ?_); refine box_event ?hg (N := 2) ?hd (cs := #[.int .i64 a0_0, .string a0_1, .string a0_2, .int .i64 a0_3, .slice A0_4 l0_4.length c0_4]) (t := 29) ?hr ?_; (case hd => rfl); (case hg => rfl); (case hr => first | (go_simp; done) | (go_simp; rfl)); intro gb385 hg w5 hbox hb; have n0_ := Aside0.mk (below_step (by repeat (first | (with_reducible first | exact HB.out | apply below_alloc | apply pw_below_drewN | apply below_drew1) | exact HB.out)) hb); have n1_ := Aside0.mk (hbox); have n2_ := Aside0.mk ((by rw [hg]; exact (below_size (by repeat (first | (with_reducible first | exact HB.out | apply below_alloc | apply pw_below_drewN | apply below_drew1) | exact HB.out))) : w.heap.size ≤ gb385)); have n3_ := Aside0.mk ((by rw [hg]; exact (below_size (by repeat (first | (with_reducible first | exact HB.out | apply below_alloc | apply pw_below_drewN | apply below_drew1) | exact HB.out))) : w.heap.size ≤ gb385)); clear HB; have HB := n0_; have BK385 := n1_; have GW385 := n2_; have GE385 := n3_; clear n0_ n1_ n2_ n3_; clear hb hbox hg; have hcz6_0 : w5.cell? ⟨gb385, 0, none⟩ = some (.int .i64 a0_0) := (blk_cell BK385.out 0).trans rfl; have hcz6_1 : w5.cell? ⟨gb385, 1, none⟩ = some (.string a0_1) := (blk_cell BK385.out 1).trans rfl; have hcz6_2 : w5.cell? ⟨gb385, 2, none⟩ = some (.string a0_2) := (blk_cell BK385.out 2).trans rfl; have hcz6_3 : w5.cell? ⟨gb385, 3, none⟩ = some (.int .i64 a0_3) := (blk_cell BK385.out 3).trans rfl; have hcz6_4 : w5.cell? ⟨gb385, 4, none⟩ = some (.slice A0_4 l0_4.length c0_4) := (blk_cell BK385.out 4).trans rfl; have hfz6_0 := blk_frozen BK385.out 0; have hfz6_1 := blk_frozen BK385.out 1; have hfz6_2 := blk_frozen BK385.out 2; have hfz6_3 := blk_frozen BK385.out 3; have hfz6_4 := blk_frozen BK385.out 4) | ((with_reducible refine gate_callee (f := 48) rfl ?_); refine goesL_ (some 8) rfl rfl Try.func48 (by kernel_rfl) rfl #[.slice A0_4 l0_4.length c0_4, .int .i64 a1] rfl (by (try simp only [List.map_toArray, List.map_cons, List.map_nil]); first | done | rfl | (simp only [List.length_drop, List.length_take]; rfl)) ?_; (with_reducible refine (laws_heldSampleS.calls k _ _ l0_4 a1 t386 _ ?side1 ?side2 A3.out).mono ?_); (case side1 => repeat (first | exact (Kd.C_below HR0_4.out HB.out) | (with_reducible refine Kd.C_alloc ?_ _) | (with_reducible refine Kd.C_drewN ?_ _) | (with_reducible refine Kd.C_drew ?_))); (case side2 => exact HC0_4.out); rintro e w7 ⟨rfl, hb⟩; refine ⟨_, rfl, ?_⟩; have n0_ := Aside0.mk (blk_below (g := gb385) (o := .cells #[.int .i64 a0_0, .string a0_1, .string a0_2, .int .i64 a0_3, .slice A0_4 l0_4.length c0_4] 29 (0, 0)) (by (with_reducible repeat (first | refine blk_drewN ?_ _ | refine blk_drew ?_ | refine blk_alloc ?_ _)); exact BK385.out) hb); have n1_ := Aside0.mk (below_step (by repeat (first | (with_reducible first | exact HB.out | apply below_alloc | apply pw_below_drewN | apply below_drew1 | refine below_set ?_ GE385.out) | exact HB.out)) hb); clear BK385; clear HB; have BK385 := n0_; have HB := n1_; clear n0_ n1_; (try clear hb); (try clear hb2); (try clear hk); (try clear hi)))
    go_ret
    exact ⟨by first | rfl | (simp [errW_none, errW_some] <;> rfl) | (simp [*, errW_none, errW_some] <;> rfl), by repeat (first | (with_reducible first | exact HB.out | apply below_alloc | apply pw_below_drewN | apply below_drew1 | refine below_set ?_ GE385.out) | exact HB.out)⟩
  · rw [if_neg c4] at H
    have c4b0 : decide (t386 < 0) = false := decide_eq_false c4
    clear c4
    obtain rfl := Option.some.inj H
    go_enter Try.func19, Try.ntmps19
    go_wp2_with (first | ((with_reducible refine gate_dst (N := 2) rfl ?_); refine box_event ?hg (N := 2) ?hd (cs := #[.int .i64 a0_0, .string a0_1, .string a0_2, .int .i64 a0_3, .slice A0_4 l0_4.length c0_4]) (t := 29) ?hr ?_; (case hd => rfl); (case hg => rfl); (case hr => first | (go_simp; done) | (go_simp; rfl)); intro gb385 hg w8 hbox hb; have n0_ := Aside0.mk (below_step (by repeat (first | (with_reducible first | exact HB.out | apply below_alloc | apply pw_below_drewN | apply below_drew1) | exact HB.out)) hb); have n1_ := Aside0.mk (hbox); have n2_ := Aside0.mk ((by rw [hg]; exact (below_size (by repeat (first | (with_reducible first | exact HB.out | apply below_alloc | apply pw_below_drewN | apply below_drew1) | exact HB.out))) : w.heap.size ≤ gb385)); have n3_ := Aside0.mk ((by rw [hg]; exact (below_size (by repeat (first | (with_reducible first | exact HB.out | apply below_alloc | apply pw_below_drewN | apply below_drew1) | exact HB.out))) : w.heap.size ≤ gb385)); clear HB; have HB := n0_; have BK385 := n1_; have GW385 := n2_; have GE385 := n3_; clear n0_ n1_ n2_ n3_; clear hb hbox hg; have hcz9_0 : w8.cell? ⟨gb385, 0, none⟩ = some (.int .i64 a0_0) := (blk_cell BK385.out 0).trans rfl; have hcz9_1 : w8.cell? ⟨gb385, 1, none⟩ = some (.string a0_1) := (blk_cell BK385.out 1).trans rfl; have hcz9_2 : w8.cell? ⟨gb385, 2, none⟩ = some (.string a0_2) := (blk_cell BK385.out 2).trans rfl; have hcz9_3 : w8.cell? ⟨gb385, 3, none⟩ = some (.int .i64 a0_3) := (blk_cell BK385.out 3).trans rfl; have hcz9_4 : w8.cell? ⟨gb385, 4, none⟩ = some (.slice A0_4 l0_4.length c0_4) := (blk_cell BK385.out 4).trans rfl; have hfz9_0 := blk_frozen BK385.out 0; have hfz9_1 := blk_frozen BK385.out 1; have hfz9_2 := blk_frozen BK385.out 2; have hfz9_3 := blk_frozen BK385.out 3; have hfz9_4 := blk_frozen BK385.out 4) | ((with_reducible refine gate_callee (f := 48) rfl ?_); refine goesL_ (some 8) rfl rfl Try.func48 (by kernel_rfl) rfl #[.slice A0_4 l0_4.length c0_4, .int .i64 a1] rfl (by (try simp only [List.map_toArray, List.map_cons, List.map_nil]); first | done | rfl | (simp only [List.length_drop, List.length_take]; rfl)) ?_; (with_reducible refine (laws_heldSampleS.calls k _ _ l0_4 a1 t386 _ ?side1 ?side2 A3.out).mono ?_); (case side1 => repeat (first | exact (Kd.C_below HR0_4.out HB.out) | (with_reducible refine Kd.C_alloc ?_ _) | (with_reducible refine Kd.C_drewN ?_ _) | (with_reducible refine Kd.C_drew ?_))); (case side2 => exact HC0_4.out); rintro e w10 ⟨rfl, hb⟩; refine ⟨_, rfl, ?_⟩; have n0_ := Aside0.mk (blk_below (g := gb385) (o := .cells #[.int .i64 a0_0, .string a0_1, .string a0_2, .int .i64 a0_3, .slice A0_4 l0_4.length c0_4] 29 (0, 0)) (by (with_reducible repeat (first | refine blk_drewN ?_ _ | refine blk_drew ?_ | refine blk_alloc ?_ _)); exact BK385.out) hb); have n1_ := Aside0.mk (below_step (by repeat (first | (with_reducible first | exact HB.out | apply below_alloc | apply pw_below_drewN | apply below_drew1 | refine below_set ?_ GE385.out) | exact HB.out)) hb); clear BK385; clear HB; have BK385 := n0_; have HB := n1_; clear n0_ n1_; (try clear hb); (try clear hb2); (try clear hk); (try clear hi)))
    go_ret
    exact ⟨by first | rfl | (simp [errW_none, errW_some] <;> rfl) | (simp [*, errW_none, errW_some] <;> rfl), by repeat (first | (with_reducible first | exact HB.out | apply below_alloc | apply pw_below_drewN | apply below_drew1 | refine below_set ?_ GE385.out) | exact HB.out)⟩

end Go.Proofs.Ytbhjbbanhmjgnaa.M
/- Some of this seat's texts, joined by prune.py. -/
/- laws.markSampleS, markRequest: a row of rows is written. -/
namespace Go.Proofs.Ytbhjbbanhmjgnaa.M
open Go.RowKit Go.Proofs.YtbhjbbanhmjgnaaW.PrintWords Go.Proofs.YtbhjbbanhmjgnaaW.PrintLast Go.Proofs.YtbhjbbanhmjgnaaW.PrintMore
set_option linter.unusedVariables false
set_option linter.unusedSimpArgs false
namespace MkS
abbrev Sp := S65
/-- The samples, marked, and the number behind them. -/
def mk (k : Nat) : List Sp → Int → Option (Int × List Sp)
  | [], a => some (a, [])
  | x :: l, a => (laws_markLabelS.f k x.f0 a).bind fun t => (mk k l (wrap64 (t.1 + 1))).bind fun u => some (u.1, (⟨t.2, t.1⟩ : Sp) :: u.2)
theorem mk_cons {k : Nat} {x : Sp} {l : List Sp} {a r1 : Int} {r2 : List Sp} (h : mk k (x :: l) a = some (r1, r2)) :
    ∃ t1 t2 u2, laws_markLabelS.f k x.f0 a = some (t1, t2) ∧ mk k l (wrap64 (t1 + 1)) = some (r1, u2) ∧ r2 = (⟨t2, t1⟩ : Sp) :: u2 := by
  unfold mk at h
  obtain ⟨⟨t1, t2⟩, h1, h⟩ := Option.bind_eq_some_iff.1 h
  obtain ⟨⟨u1, u2⟩, h2, h⟩ := Option.bind_eq_some_iff.1 h
  obtain ⟨rfl, rfl⟩ := Prod.mk.inj (Option.some.inj h)
  exact ⟨t1, t2, u2, h1, h2, rfl⟩
theorem set_mid (D : List Sp) (x y : Sp) (R : List Sp) : (D ++ x :: R).set D.length y = D ++ y :: R := by simp
theorem getD_mid (D : List Sp) (x z : Sp) (R : List Sp) : (D ++ x :: R).getD D.length z = x := by simp [List.getD]
set_option maxHeartbeats 4000000 in
set_option maxRecDepth 100000 in
theorem markS (k : Nat) (P0 : Nat → Prop) (v : Value) (l : List Sp) (a r1 : Int) (r2 : List Sp) (w0 w : World) (hB : Below w0.heap.size w0 w) (hS : Kd.S k65 65 w w0.heap.size P0 v l) (hl : l.length ≤ 1048576) (h : mk k l a = some (r1, r2)) :
    Calls Try.prog 47 #[v, .int .i64 a] w fun e w' => e = .returned (.int .i64 r1) ∧ Kd.S k65 65 w' w0.heap.size (fun k => P0 k ∨ w.heap.size ≤ k) v r2 ∧ Below w0.heap.size w0 w' ∧ Kept w w' P0 := by
  obtain ⟨A, c, rfl⟩ := Kd.S_slice hS
  have HS := Aside0.mk (Kd.S_mono (ok' := fun k => P0 k ∨ w.heap.size ≤ k) hS (fun _ hk => .inl hk))
  have HM := Aside0.mk h
  have HB := Aside0.mk hB
  clear hS h hB
  go_enter Try.func47, Try.ntmps47
  go_wp2
  go_loopw [1, 5] (fun v1 v5 wr => ∃ (D R R' : List Sp) (x1 : Int), v1 = .int .i64 x1 ∧ v5 = .int .i64 (D.length : Nat) ∧ Aside0 (D.length + R.length = l.length) ∧ Aside0 (mk k R x1 = some (r1, R')) ∧ Aside0 (r2 = D ++ R') ∧
    Aside0 (Kd.S k65 65 wr w0.heap.size (fun k => P0 k ∨ w.heap.size ≤ k) (.slice A l.length c) (D ++ R)) ∧ Aside0 (Below w0.heap.size w0 wr) ∧ Aside0 (Kept w wr P0)) (fun _ v5 _ => l.length - (intOf v5).toNat)
  case atStart => exact ⟨[], l, r2, a, rfl, rfl, ⟨by simp⟩, HM, ⟨rfl⟩, HS, HB, ⟨Kept.refl w P0⟩⟩
  case round =>
    obtain ⟨D, R, R', x1, rfl, rfl, HL, HR, HE, HSr, HBr, HKr⟩ := hrel
    cases R with
    | nil =>
      have hn : D.length = l.length := by simpa using HL.out
      have h1 := HR.out
      obtain ⟨rfl, rfl⟩ := Prod.mk.inj (Option.some.inj h1)
      go_wp2
      go_ret
      refine ⟨rfl, ?_, HBr.out, HKr.out⟩
      rw [HE.out]
      exact HSr.out
    | cons x R =>
      have hn : D.length < l.length := by have := HL.out; simp only [List.length_cons] at this; omega
      obtain ⟨g, cap, e, hgb, hglt, _⟩ := Kd.S_form HSr.out (by rw [List.length_append, List.length_cons]; omega)
      injection e with eA e1 e2
      subst eA
      clear e1 e2
      obtain ⟨oki, cs, hcl, hM, hcc, hfr, hoki, hH⟩ := Kd.S_elem HSr.out z65 (D.length : Nat) (by omega) (by omega)
      rw [Int.toNat_natCast] at hcc hM
      rw [getD_mid] at hM
      obtain ⟨v0, rfl, hR0⟩ := k65_openM hM
      obtain ⟨A0, c0, rfl⟩ := Kd.R_slice hR0
      obtain ⟨t1, t2, u2, ht, hu, hr2⟩ := mk_cons HR.out
      have y0 : wr.cell? ⟨g, D.length * 2 + 0, none⟩ = some (.slice A0 x.f0.length c0) := hcc 0 _ rfl
      have y1 : wr.cell? ⟨g, D.length * 2 + 1, none⟩ = some (.int .i64 x.f1) := hcc 1 _ rfl
      rw [Nat.add_zero] at y0
      have f1 : wr.frozen? ⟨g, D.length * 2 + 1, none⟩ = false := by have := hfr 1; rw [Int.toNat_natCast] at this; exact this
      have HR0 := Aside0.mk hR0
      have HH := Aside0.mk (Kd.H_widen hH)
      have HT := Aside0.mk ht
      have HU := Aside0.mk hu
      have HR2 := Aside0.mk hr2
      have HO := Aside0.mk hoki
      have HG := Aside0.mk hgb
      have HOg := Aside0.mk ((Kd.S_R HSr.out).1 g rfl)
      clear hcc hfr hM hR0 hH ht hu hr2 hoki hcl hgb hglt f1
      go_wp2_with fail
      refine (laws_markLabelS.calls k oki _ x.f0 x1 t1 t2 w0 wr HBr.out HR0.out HT.out).mono ?_
      rintro e w2 ⟨rfl, hR2, hB2, hK2⟩
      have y1' : w2.cell? ⟨g, D.length * 2 + 1, none⟩ = some (.int .i64 x.f1) := cell_kept y1 hK2 (fun hk => (HO.out g hk).2 rfl)
      have HH2 := Aside0.mk (Kd.H_kept HH.out hK2 (fun k _ hn hs => hn (.inl hs)))
      have f1' : w2.frozen? ⟨g, D.length * 2 + 1, none⟩ = false := by
        have := (Kd.H_at HH2.out (by omega) (by omega)).2 1
        rw [Int.toNat_natCast] at this
        exact this
      have HRn := Aside0.mk hR2
      have HBn := Aside0.mk hB2
      have HKn := Aside0.mk (Kept.then_ HKr.out hK2 (fun k hk => (HO.out k hk).1))
      have hsz : wr.heap.size ≤ w2.heap.size := hK2.1
      have HZ := Aside0.mk hsz
      clear hR2 hB2 hK2 y0 y1 hsz
      go_wp2_with fail
      go_round
      case rel =>
        refine ⟨D ++ [(⟨t2, t1⟩ : Sp)], R, u2, wrap64 (t1 + 1), rfl, by simp, ⟨by have := HL.out; simp only [List.length_cons, List.length_append, List.length_nil] at this ⊢; omega⟩, HU, ⟨by rw [HE.out, HR2.out]; simp⟩, ⟨?_⟩, ⟨below_set HBn.out HG.out⟩, ⟨Kept.setCell HKn.out HOg.out _⟩⟩
        have hs := (Kd.S_seg0 HH2.out (by omega) (by omega) (seg := [.int .i64 t1]) (j := 1) (x' := (⟨t2, t1⟩ : Sp)) (okp := fun k => oki k ∨ wr.heap.size ≤ k) (Nat.le_refl _)
          (k65_mkM w2 w0.heap.size _ (⟨t2, t1⟩ : Sp) HRn.out) (fun k hk => hk.imp_right (fun h => ⟨.inr (Nat.le_trans HKr.out.1 h), h⟩))).1
        rw [Int.toNat_natCast, set_mid] at hs
        rw [List.append_assoc]
        exact hs
      case measure => simp [intOf]; omega
set_option maxHeartbeats 4000000 in
set_option maxRecDepth 100000 in
theorem markReq (k : Nat) (P0 : Nat → Prop) (kd : Int) (t m : ByteArray) (nm : Int) (v : Value) (l : List Sp) (a r1 : Int) (r2 : List Sp) (w0 w : World) (hB : Below w0.heap.size w0 w) (hS : Kd.S k65 65 w w0.heap.size P0 v l) (hl : l.length ≤ 1048576) (h : mk k l a = some (r1, r2)) :
    Calls Try.prog 18 #[.agg #[.int .i64 kd, .string t, .string m, .int .i64 nm, v], .int .i64 a] w fun e w' => e = .returned (.int .i64 r1) ∧ Kd.S k65 65 w' w0.heap.size (fun k => P0 k ∨ w.heap.size ≤ k) v r2 ∧ Below w0.heap.size w0 w' ∧ Kept w w' P0 := by
  obtain ⟨A, c, rfl⟩ := Kd.S_slice hS
  have HS := Aside0.mk (Kd.S_alloc hS (.cells #[.int .i64 kd, .string t, .string m, .int .i64 nm, .slice A l.length c] 29))
  have HM := Aside0.mk h
  have HB := Aside0.mk (below_alloc hB (.cells #[.int .i64 kd, .string t, .string m, .int .i64 nm, .slice A l.length c] 29))
  have HK := Aside0.mk ((Kept.refl w P0).alloc (.cells #[.int .i64 kd, .string t, .string m, .int .i64 nm, .slice A l.length c] 29))
  obtain ⟨W1, hW1⟩ : ∃ W, w.alloc (.cells #[.int .i64 kd, .string t, .string m, .int .i64 nm, .slice A l.length c] 29) = W := ⟨_, rfl⟩
  rw [hW1] at HS HB HK
  have y0 : W1.cell? ⟨w.heap.size, 4, none⟩ = some (.slice A l.length c) := by rw [← hW1]; exact (blk_cell (blk_new w _) 4).trans rfl
  have hsz : w.heap.size ≤ W1.heap.size := HK.out.1
  have HZ := Aside0.mk hsz
  clear hS h hB hsz
  go_enter Try.func18, Try.ntmps18
  go_wp2_with fail
  clear hW1
  refine (markS k P0 _ l a r1 r2 w0 W1 HB.out HS.out hl HM.out).mono ?_
  rintro e w2 ⟨rfl, hS2, hB2, hK2⟩
  have HS2 := Aside0.mk hS2
  have HB2 := Aside0.mk hB2
  have HK2 := Aside0.mk (Kept.then_ HK.out hK2 (fun _ h => .inl h))
  clear hS2 hB2 hK2
  go_wp2_with fail
  go_ret
  exact ⟨rfl, Kd.S_mono HS2.out (fun k hk => hk.imp_right (fun h => Nat.le_trans HZ.out h)), HB2.out, HK2.out⟩
end MkS
end Go.Proofs.Ytbhjbbanhmjgnaa.M
/- Some of this seat's texts, joined by prune.py. -/
/- Lists of samples: marked, the marks read again. Plain. -/
namespace Go.Proofs.Ytbhjbbanhmjgnaa.Mark
open Go.Proofs.Ytbhjbbanhmjgnaa.M Go.Proofs.Ytbhjbbanhmjgnaa.M.MkS Go.Proofs.Ytbhjbbanhmjgnaa.Loops Go.Proofs.YtbhjbbanhmjgnaaW.PrintWords Go.Proofs.YtbhjbbanhmjgnaaW.PrintLast Go.RowKit
noncomputable def wS : List Sp → Nat → List Sp
  | [], _ => []
  | x :: l, a => (⟨marksL a x.f0.length, ((a + 2 * x.f0.length : Nat) : Int)⟩ : Sp) :: wS l (a + 2 * x.f0.length + 1)
def eS : List Sp → Nat → Nat
  | [], a => a
  | x :: l, a => eS l (a + 2 * x.f0.length + 1)
theorem wS_length : ∀ (l : List Sp) (a : Nat), (wS l a).length = l.length
  | [], _ => rfl
  | x :: l, a => by simp [wS, wS_length l]
theorem mk_ev : ∀ (l : List Sp) (a : Nat), (∀ x ∈ l, x.f0.length ≤ 255) → a + l.length * 600 ≤ 1000000 → Ev (fun k => mk k l a) ((eS l a : Nat), wS l a)
  | [], a, _, _ => Ev.now _
  | x :: l, a, h, hb => by
    have hx := h x (List.mem_cons_self ..)
    simp only [List.length_cons] at hb
    have h1 := mark_labels x.f0 a (by omega) (by omega)
    have h2 := mk_ev l (a + 2 * x.f0.length + 1) (fun y hy => h y (List.mem_cons_of_mem _ hy)) (by omega)
    unfold mk
    refine Ev.bind h1 ?_
    rw [show wrap64 (((a + 2 * x.f0.length : Nat) : Int) + 1) = ((a + 2 * x.f0.length + 1 : Nat) : Int) from w_succ _ (by omega)]
    exact Ev.bind h2 (Ev.now _)
theorem held_samples : ∀ (l D : List Sp) (a : Nat), (∀ x ∈ l, x.f0.length ≤ 255) → a + l.length * 600 ≤ 1000000 → D.length + l.length ≤ 1000 → Ev (fun k => laws_heldSampleS.l0 k (D ++ wS l a) a D.length) (eS l a : Nat)
  | [], D, a, _, _, _ => by
    refine Ev.step (f := fun _ => some _) (fun k => by simp only [laws_heldSampleS.l0]; rw [if_neg (by simp [wS])]; rfl) (Ev.now _)
  | x :: l, D, a, h, hb, hd => by
    have hx := h x (List.mem_cons_self ..)
    simp only [List.length_cons] at hb hd
    have h1 := held_labels a x.f0.length (by omega) (by omega)
    have h2 := held_samples l (D ++ [(⟨marksL a x.f0.length, ((a + 2 * x.f0.length : Nat) : Int)⟩ : Sp)]) (a + 2 * x.f0.length + 1) (fun y hy => h y (List.mem_cons_of_mem _ hy)) (by omega) (by simp; omega)
    have er : rd_T65 (D ++ wS (x :: l) a) (D.length : Int) = (⟨marksL a x.f0.length, ((a + 2 * x.f0.length : Nat) : Int)⟩ : Sp) := by
      unfold rd_T65
      rw [Int.toNat_natCast, wS, getD_mid]
    have e2 : D ++ [(⟨marksL a x.f0.length, ((a + 2 * x.f0.length : Nat) : Int)⟩ : Sp)] ++ wS l (a + 2 * x.f0.length + 1) = D ++ wS (x :: l) a := by rw [wS]; simp
    have e3 : (D ++ [(⟨marksL a x.f0.length, ((a + 2 * x.f0.length : Nat) : Int)⟩ : Sp)]).length = D.length + 1 := by simp
    rw [e2, e3] at h2
    refine Ev.step (f := fun k => (laws_heldLabelS.f k (marksL a x.f0.length) a).bind fun t383 => (if t383 < 0 then (some (-1)) else (if ((a + 2 * x.f0.length : Nat) : Int) = t383 then (laws_heldSampleS.l0 k (D ++ wS (x :: l) a) (wrap64 (t383 + 1)) ((D.length + 1 : Nat) : Int)) else (some (-1))))) (fun k => ?_) (Ev.bind h1 (Ev.ite_neg (by omega) (Ev.ite_pos rfl ?_)))
    · simp only [laws_heldSampleS.l0]
      rw [if_pos (by rw [List.length_append, wS_length, List.length_cons]; omega), if_pos (by omega), er, w_succ _ (by omega)]
    · rw [show wrap64 (((a + 2 * x.f0.length : Nat) : Int) + 1) = ((a + 2 * x.f0.length + 1 : Nat) : Int) from w_succ _ (by omega)]
      exact h2
theorem held_request (l : List Sp) (k0 : Int) (t m : ByteArray) (nm : Int) (h : ∀ x ∈ l, x.f0.length ≤ 255) (hl : l.length ≤ 500) : Ev (fun k => laws_heldRequest.f k k0 t m nm (wS l 1) 1) (eS l 1 : Nat) := by
  have h1 := held_samples l [] 1 h (by omega) (by simp; omega)
  unfold laws_heldRequest.f laws_heldSampleS.f
  exact Ev.bind h1 (Ev.ite_neg (by omega) (Ev.now _))
end Go.Proofs.Ytbhjbbanhmjgnaa.Mark
-- By pp.py, a program of this repo, with the kit's printer: Lean checks it.
namespace Go.Proofs.Ytbhjbbanhmjgnaa.M
open Go.RowKit Go.Proofs.YtbhjbbanhmjgnaaW.PrintWords Go.Proofs.YtbhjbbanhmjgnaaW.PrintLast Go.Proofs.YtbhjbbanhmjgnaaW.PrintMore
attribute [local go_sem] max2_int min2_int max_two min_two max_three min_three max_four min_four
set_option linter.unusedVariables false
set_option linter.unusedSimpArgs false

/-! ### spec_l5Num: function 41 -/
def spec_l5Num.f (k : Nat) (a0 : ByteArray) (a1 : Int) (a2 : Int) : Option (Int × Int) := if a1 < 0 then (some (0, (-1))) else (if (wrap64 (a1 + a2)) > (a0.size : Int) then (some (0, (-1))) else ((spec_l2Get.f k a0 a1 a2).bind fun t296 => (some (t296, wrap64 (a1 + a2)))))
theorem spec_l5Num.mono : ∀ a0 a1 a2 k, LeO (spec_l5Num.f k a0 a1 a2) (spec_l5Num.f (k + 1) a0 a1 a2) := by
  intro a0 a1 a2 k
  unfold spec_l5Num.f
  repeat' first
      | (with_reducible exact spec_l2Get.mono _ _ _ _)
      | (with_reducible exact LeO.refl _)
      | (with_reducible exact LeO.none _)
      | (with_reducible refine LeO.ite ?_ ?_)
      | (with_reducible refine LeO.bind ?_ (fun _ => ?_))
      | exact spec_l2Get.mono _ _ _ _
      | exact LeO.none _
      | refine LeO.ite ?_ ?_
      | refine LeO.bind ?_ (fun _ => ?_)
set_option maxHeartbeats 8000000 in
set_option maxRecDepth 100000 in
theorem spec_l5Num.calls (k : Nat) (a0 : ByteArray) (a1 : Int) (a2 : Int) (r1 : Int) (r2 : Int) (w : World) (h : spec_l5Num.f k a0 a1 a2 = some (r1, r2)) :
    Calls Try.prog 41 #[.string a0, .int .i64 a1, .int .i64 a2] w fun e w' => e = .returned (.tuple #[.int .i64 r1, .int .i64 r2]) ∧ Drawn0 w w' := by
  have H : (if a1 < 0 then (some (0, (-1))) else (if (wrap64 (a1 + a2)) > (a0.size : Int) then (some (0, (-1))) else ((spec_l2Get.f k a0 a1 a2).bind fun t296 => (some (t296, wrap64 (a1 + a2)))))) = some (r1, r2) := h
  clear h
  by_cases c4 : a1 < 0
  · rw [if_pos c4] at H
    have c4b0 : decide (a1 < 0) = true := decide_eq_true c4
    clear c4
    simp only [Option.some.injEq, Prod.mk.injEq] at H
    obtain ⟨rfl, rfl⟩ := H
    go_enter Try.func41, Try.ntmps41
    go_wp2
    go_ret2
    exact ⟨by first | rfl | (simp; done) | (simp [*]; done), by repeat (first | exact Drawn0.refl _ | apply Drawn0.step)⟩
  · rw [if_neg c4] at H
    have c4b0 : decide (a1 < 0) = false := decide_eq_false c4
    clear c4
    by_cases c5 : (wrap64 (a1 + a2)) > (a0.size : Int)
    · rw [if_pos c5] at H
      have c5b0 : decide ((a0.size : Int) < (wrap64 (a1 + a2))) = true := decide_eq_true c5
      clear c5
      simp only [Option.some.injEq, Prod.mk.injEq] at H
      obtain ⟨rfl, rfl⟩ := H
      go_enter Try.func41, Try.ntmps41
      go_wp2
      go_ret2
      exact ⟨by first | rfl | (simp; done) | (simp [*]; done), by repeat (first | exact Drawn0.refl _ | apply Drawn0.step)⟩
    · rw [if_neg c5] at H
      have c5b0 : decide ((a0.size : Int) < (wrap64 (a1 + a2))) = false := decide_eq_false c5
      clear c5
      replace H := Option.bind_eq_some_iff.mp H
      obtain ⟨t296, A60, H⟩ := H
      replace H : (some (t296, wrap64 (a1 + a2))) = some (r1, r2) := H
      have A6 := Aside0.mk A60
      clear A60
      simp only [Option.some.injEq, Prod.mk.injEq] at H
      obtain ⟨rfl, rfl⟩ := H
      go_enter Try.func41, Try.ntmps41
      go_wp2_with (first | ((with_reducible refine gate_callee (f := 58) rfl ?_); refine goesL_ (some 21) rfl rfl Try.func58 (by kernel_rfl) rfl #[.string a0, .int .i64 a1, .int .i64 a2] rfl (by (try simp only [List.map_toArray, List.map_cons, List.map_nil]); first | done | rfl | (simp only [List.length_drop, List.length_take]; rfl)) ?_; (with_reducible refine (spec_l2Get.calls k a0 a1 a2 t296 _ A6.out).mono ?_); rintro e w' ⟨rfl, ⟨nd, rfl⟩⟩; refine ⟨_, rfl, ?_⟩))
      go_ret2
      exact ⟨by first | rfl | (simp; done) | (simp [*]; done), by repeat (first | exact Drawn0.refl _ | apply Drawn0.step)⟩

end Go.Proofs.Ytbhjbbanhmjgnaa.M
/- Numbers and texts as the two decoders read them: plain. -/
namespace Go.Proofs.Ytbhjbbanhmjgnaa.DecLib
open Go.Proofs.Ytbhjbbanhmjgnaa.M Go.Proofs.Ytbhjbbanhmjgnaa.Loops Go.Proofs.Ytbhjbbanhmjgnaa.M.Enc Go.Proofs.YtbhjbbanhmjgnaaW.PrintWords Go.Proofs.YtbhjbbanhmjgnaaW.PrintLast Go.Proofs.YtbhjbbanhmjgnaaW.PrintMore Go.RowKit

theorem or64 (v : Int) (b : Int) (h0 : 0 ≤ b) (h1 : b ≤ 255) : Go.bits .or .i64 (wrap64 (v * 256)) b = wrap64 (v * 256 + b) := by
  obtain ⟨n, rfl⟩ := Int.eq_ofNat_of_zero_le h0
  obtain ⟨x, hx⟩ : ∃ x, x = wrap64 (v * 256) % 18446744073709551616 := ⟨_, rfl⟩
  have hx2 : x % 256 = 0 := by rw [hx]; unfold wrap64; omega
  have hx3 : 0 ≤ x := by rw [hx]; exact Int.emod_nonneg _ (by decide)
  have hx4 : x < 18446744073709551616 := by rw [hx]; exact Int.emod_lt_of_pos _ (by decide)
  obtain ⟨A, hA'⟩ : ∃ A : Nat, x = (A : Int) := Int.eq_ofNat_of_zero_le hx3
  have hA : A = (wrap64 (v * 256) % 18446744073709551616).toNat := by rw [← hx, hA']; rfl
  have hm : A % 256 = 0 := by omega
  have hlt : A < 18446744073709551616 := by omega
  have h2 : n % 2 ^ 64 = n := Nat.mod_eq_of_lt (Nat.lt_of_le_of_lt (show n ≤ 255 by omega) (by decide))
  have h3 : A ||| n = A + n := by
    have := Nat.shiftLeft_add_eq_or_of_lt (i := 8) (b := n) (by omega) (A / 256)
    rw [Nat.shiftLeft_eq, show A / 256 * 2 ^ 8 = A from Nat.div_mul_cancel (Nat.dvd_of_mod_eq_zero hm)] at this
    exact this.symm
  have h4 : ((wrap64 (v * 256)) % ((2 ^ 64 : Nat) : Int)).toNat = A := by rw [hA]; rfl
  simp only [Go.bits, BitVec.ofInt_natCast, BitVec.toNat_or, BitVec.toNat_ofNat, BitVec.toNat_ofInt, show IntKind.i64.bits = 64 from rfl, h2, h4, h3]
  have h5 : (A : Int) = wrap64 (v * 256) % 18446744073709551616 := by rw [hA]; omega
  clear h4 hA h3
  unfold IntKind.wrap
  simp [IntKind.bits, IntKind.signed]
  unfold wrap64 at *
  omega
/-- The number of the k bytes from the place i on, high byte first. -/
def nv (s : ByteArray) (i : Nat) : Nat → Int
  | 0 => 0
  | k + 1 => nv s i k * 256 + bt s ((i + k : Nat) : Int)
theorem nv_pos (s : ByteArray) (i k : Nat) : 0 ≤ nv s i k := by
  induction k with
  | zero => simp [nv]
  | succ k ih => have := bt_range s ((i + k : Nat) : Int); simp only [nv]; omega
theorem nv_lt1 (s : ByteArray) (i : Nat) : nv s i 1 ≤ 255 := by have := bt_range s ((i + 0 : Nat) : Int); simp only [nv]; omega
theorem nv_lt2 (s : ByteArray) (i : Nat) : nv s i 2 ≤ 65535 := by
  have h0 := bt_range s ((i + 0 : Nat) : Int)
  have h1 := bt_range s ((i + 1 : Nat) : Int)
  simp only [nv]; omega
theorem nv_le (s : ByteArray) (i k n : Nat) (hk : k ≤ n) (hn : n = 1 ∨ n = 2) : nv s i k ≤ 65535 := by
  have h0 : nv s i 0 = 0 := rfl
  have h1 := nv_lt1 s i
  have h2 := nv_lt2 s i
  rcases hn with rfl | rfl
  · rcases (show k = 0 ∨ k = 1 by omega) with rfl | rfl <;> omega
  · rcases (show k = 0 ∨ k = 1 ∨ k = 2 by omega) with rfl | rfl | rfl <;> omega
theorem nv_eq (s t : ByteArray) (i j : Nat) : ∀ k, (∀ q, q < k → bt s ((i + q : Nat) : Int) = bt t ((j + q : Nat) : Int)) → nv s i k = nv t j k
  | 0, _ => rfl
  | k + 1, h => by
    have h1 := nv_eq s t i j k (fun q hq => h q (by omega))
    simp only [nv]
    rw [h1, h k (by omega)]
theorem wrap0 : wrap64 0 = 0 := w_id 0 (by decide) (by decide)
theorem upto_nv (t : ByteArray) : ∀ k, SrcNum.upto t k = wrap64 (nv t 0 k)
  | 0 => wrap0.symm
  | k + 1 => by
    have hb := bt_range t (k : Int)
    rw [SrcNum.upto, upto_nv t k, show wrap64 (bt t (k : Int)) = bt t (k : Int) from w_id _ (by omega) (by omega), or64 _ _ hb.1 hb.2]
    simp only [nv, Nat.zero_add]
    generalize nv t 0 k = x
    generalize bt t (k : Int) = b at hb ⊢
    unfold wrap64; omega
theorem bt_extract (s : ByteArray) (i j k : Nat) (h : i + k < j) (hj : j ≤ s.size) : bt (s.extract i j) k = bt s ((i + k : Nat) : Int) := by
  unfold bt
  rw [dif_pos (by rw [ByteArray.size_extract, Int.toNat_natCast]; omega), dif_pos (by rw [Int.toNat_natCast]; omega)]
  simp only [Int.toNat_natCast, ByteArray.getElem_extract]
/-! ### the program's reader -/
theorem text_f (r : ByteArray) (n : Int) (h : 0 ≤ n) : impl_source_text.f r n = some (r.extract 0 (min n.toNat r.size), r.extract (min n.toNat r.size) r.size) := by
  have hm : mn n (r.size : Int) = ((min n.toNat r.size : Nat) : Int) := by unfold mn; split <;> omega
  unfold impl_source_text.f
  rw [hm, if_pos (by omega), if_pos (by omega), Int.toNat_natCast]
theorem num_f (r : ByteArray) (n : Nat) (hr : r.size ≤ 9223372036854775807) : impl_source_num.f r n = some (wrap64 (nv r 0 (min n r.size)), r.extract (min n r.size) r.size) := by
  unfold impl_source_num.f
  rw [text_f r n (by omega), Int.toNat_natCast, Option.bind_some]
  have hsz : (r.extract 0 (min n r.size)).size = min n r.size := by rw [ByteArray.size_extract]; omega
  rw [hsz, if_pos (by omega), upto_nv, nv_eq (r.extract 0 (min n r.size)) r 0 0 _ (fun q hq => by
    rw [Nat.zero_add]
    exact (bt_extract r 0 (min n r.size) q (by omega) (by omega)).trans (by rw [Nat.zero_add]))]
theorem num_small (r : ByteArray) (n : Nat) (hn : n = 1 ∨ n = 2) (hr : r.size ≤ 9223372036854775807) : ∃ v : Nat, v ≤ 65535 ∧ impl_source_num.f r n = some ((v : Int), r.extract (min n r.size) r.size) := by
  have h0 := nv_pos r 0 (min n r.size)
  have h1 := nv_le r 0 (min n r.size) n (by omega) hn
  refine ⟨(nv r 0 (min n r.size)).toNat, by omega, ?_⟩
  rw [num_f r n hr, w_id _ (by omega) (by omega), Int.toNat_of_nonneg h0]
theorem s8_any (r : ByteArray) (hr : r.size ≤ 9223372036854775807) : ∃ t r' : ByteArray, t.size ≤ r.size ∧ r'.size ≤ r.size ∧ impl_source_s8.f r = some (t, r') := by
  obtain ⟨v, hv, h⟩ := num_small r 1 (.inl rfl) hr
  refine ⟨_, _, ?_, ?_, by unfold impl_source_s8.f; rw [show (1 : Int) = ((1 : Nat) : Int) from rfl, h, Option.bind_some, text_f _ _ (by omega)]; rfl⟩ <;>
  (simp only [ByteArray.size_extract]; omega)
theorem s16_any (r : ByteArray) (hr : r.size ≤ 9223372036854775807) : ∃ t r' : ByteArray, t.size ≤ r.size ∧ r'.size ≤ r.size ∧ impl_source_s16.f r = some (t, r') := by
  obtain ⟨v, hv, h⟩ := num_small r 2 (.inr rfl) hr
  refine ⟨_, _, ?_, ?_, by unfold impl_source_s16.f; rw [show (2 : Int) = ((2 : Nat) : Int) from rfl, h, Option.bind_some, text_f _ _ (by omega)]; rfl⟩ <;>
  (simp only [ByteArray.size_extract]; omega)
/-! ### the reference's reader -/
theorem get_nv (s : ByteArray) (i n : Nat) (h : i + n ≤ s.size) (hs : s.size ≤ 9223372036854775000) : ∀ m k, k + m = n → Ev (fun q => spec_l2Get.l0 q s i n (wrap64 (nv s i k)) k) (wrap64 (nv s i n)) := by
  intro m
  induction m with
  | zero =>
    intro k hk
    obtain rfl : k = n := by omega
    exact Ev.step (f := fun _ => some _) (fun q => by simp only [spec_l2Get.l0]; rw [if_neg (by omega)]) (Ev.now _)
  | succ m ih =>
    intro k hk
    refine Ev.step (fun q => ?_) (ih (k + 1) (by omega))
    have hb := bt_range s ((i + k : Nat) : Int)
    have e : wrap64 ((i : Int) + (k : Int)) = ((i + k : Nat) : Int) := by rw [w_id _ (by omega) (by omega)]; omega
    simp only [spec_l2Get.l0]
    rw [e, if_pos (by omega), if_pos (by omega), if_pos (by omega), w_succ k (by omega), show wrap64 (bt s ((i + k : Nat) : Int)) = bt s ((i + k : Nat) : Int) from w_id _ (by omega) (by omega)]
    congr 1
    simp only [nv]
    generalize nv s i k = x
    generalize bt s ((i + k : Nat) : Int) = b at hb ⊢
    unfold wrap64; omega
theorem get_f (s : ByteArray) (i n : Nat) (h : i + n ≤ s.size) (hs : s.size ≤ 9223372036854775000) : Ev (fun q => spec_l2Get.f q s i n) (wrap64 (nv s i n)) := by
  have h2 := get_nv s i n h hs n 0 (by omega)
  rw [show nv s i 0 = 0 from rfl, wrap0] at h2
  exact h2
/-- A number at a place, and the place behind it. -/
theorem l5_at (s : ByteArray) (i n : Nat) (h : i + n ≤ s.size) (hs : s.size ≤ 9223372036854775000) : Ev (fun q => spec_l5Num.f q s i n) (wrap64 (nv s i n), ((i + n : Nat) : Int)) := by
  have e : wrap64 ((i : Int) + (n : Int)) = ((i + n : Nat) : Int) := by rw [w_id _ (by omega) (by omega)]; omega
  unfold spec_l5Num.f
  rw [e]
  exact Ev.ite_neg (by omega) (Ev.ite_neg (by omega) (Ev.bind (get_f s i n h hs) (Ev.now _)))
/-- Where a reader may stand: a place, or nowhere. -/
def At (s : ByteArray) (p : Int) : Prop := p = -1 ∨ ∃ i : Nat, p = (i : Int) ∧ i ≤ s.size
theorem l5_small (s : ByteArray) (p : Int) (n : Nat) (hn : n = 1 ∨ n = 2) (hp : At s p) (hs : s.size ≤ 9223372036854775000) : ∃ (v : Nat) (p' : Int), v ≤ 65535 ∧ Ev (fun q => spec_l5Num.f q s p n) ((v : Int), p') ∧ At s p' := by
  rcases hp with rfl | ⟨i, rfl, hi⟩
  · refine ⟨0, -1, by omega, ?_, .inl rfl⟩
    unfold spec_l5Num.f
    exact Ev.ite_pos (by omega) (Ev.now _)
  · by_cases h : i + n ≤ s.size
    · have h0 := nv_pos s i n
      have h1 := nv_le s i n n (by omega) hn
      refine ⟨(nv s i n).toNat, _, by omega, Ev.eq (l5_at s i n h hs) ?_, .inr ⟨i + n, rfl, h⟩⟩
      rw [w_id _ (by omega) (by omega), Int.toNat_of_nonneg h0]
    · refine ⟨0, -1, by omega, ?_, .inl rfl⟩
      have e : wrap64 ((i : Int) + (n : Int)) = ((i + n : Nat) : Int) := by rw [w_id _ (by omega) (by omega)]; omega
      unfold spec_l5Num.f
      rw [e]
      exact Ev.ite_neg (by omega) (Ev.ite_pos (by omega) (Ev.now _))
/-- A text at a place: its length in n bytes, and then its bytes. -/
theorem l3_at (s : ByteArray) (i n v : Nat) (hn : n = 1 ∨ n = 2) (hv : nv s i n = (v : Int)) (h : i + n ≤ s.size) (hs : s.size ≤ 9223372036854700000) :
    Ev (fun q => spec_l3Part.f q s i n) (if s.size < i + n + v then ((⟨#[]⟩ : ByteArray), -1) else (s.extract (i + n) (i + n + v), ((i + n + v : Nat) : Int))) := by
  have h1 := nv_le s i n n (by omega) hn
  have e : wrap64 ((i : Int) + (n : Int)) = ((i + n : Nat) : Int) := by rw [w_id _ (by omega) (by omega)]; omega
  have e2 : wrap64 (((i + n : Nat) : Int) + (v : Int)) = ((i + n + v : Nat) : Int) := by rw [w_id _ (by omega) (by omega)]; omega
  have hg := get_f s i n h (by omega)
  rw [hv, w_id (v : Int) (by omega) (by omega)] at hg
  unfold spec_l3Part.f
  rw [e]
  refine Ev.ite_neg (by omega) (Ev.step (f := fun k => (spec_l2Get.f k s i n).bind fun t297 => (if (wrap64 ((wrap64 ((i : Int) + (n : Int))) + t297)) > (s.size : Int) then (some ((⟨#[]⟩ : ByteArray), (-1))) else (if 0 ≤ (wrap64 ((i : Int) + (n : Int))) then (if (wrap64 ((i : Int) + (n : Int))) ≤ (wrap64 ((wrap64 ((i : Int) + (n : Int))) + t297)) then (if (wrap64 ((wrap64 ((i : Int) + (n : Int))) + t297)) ≤ (s.size : Int) then (some (s.extract ((wrap64 ((i : Int) + (n : Int))) : Int).toNat ((wrap64 ((wrap64 ((i : Int) + (n : Int))) + t297)) : Int).toNat, wrap64 ((wrap64 ((i : Int) + (n : Int))) + t297))) else (none)) else (none)) else (none)))) (fun k => by
    simp only [spec_l3Part.j0]
    rw [if_neg (by simp only [decide_eq_true_eq]; omega)]) (Ev.bind hg ?_))
  rw [e, e2]
  by_cases hbig : s.size < i + n + v
  · rw [if_pos hbig]
    exact Ev.ite_pos (by omega) (Ev.now _)
  · rw [if_neg hbig]
    refine Ev.ite_neg (by omega) (Ev.ite_pos (by omega) (Ev.ite_pos (by omega) (Ev.ite_pos (by omega) ?_)))
    rw [Int.toNat_natCast, Int.toNat_natCast]
    exact Ev.now _
theorem l3_any (s : ByteArray) (p : Int) (n : Nat) (hn : n = 1 ∨ n = 2) (hp : At s p) (hs : s.size ≤ 9223372036854700000) : ∃ t p', Ev (fun q => spec_l3Part.f q s p n) (t, p') ∧ At s p' ∧ t.size ≤ s.size := by
  have stop : ∀ (c : Bool), c = true → Ev (fun k => spec_l3Part.j0 k s p n c) ((⟨#[]⟩ : ByteArray), (-1 : Int)) := by
    rintro c rfl
    exact Ev.step (f := fun _ => some _) (fun k => by simp only [spec_l3Part.j0, if_true]) (Ev.now _)
  rcases hp with rfl | ⟨i, rfl, hi⟩
  · refine ⟨(⟨#[]⟩ : ByteArray), -1, ?_, .inl rfl, Nat.zero_le _⟩
    unfold spec_l3Part.f
    exact Ev.ite_pos (by omega) (stop true rfl)
  · by_cases h : i + n ≤ s.size
    · have h0 := nv_pos s i n
      have hv : nv s i n = ((nv s i n).toNat : Int) := (Int.toNat_of_nonneg h0).symm
      have h3 := l3_at s i n _ hn hv h hs
      split at h3
      · exact ⟨_, _, h3, .inl rfl, Nat.zero_le _⟩
      · exact ⟨_, _, h3, .inr ⟨_, rfl, by omega⟩, by rw [ByteArray.size_extract]; omega⟩
    · refine ⟨(⟨#[]⟩ : ByteArray), -1, ?_, .inl rfl, Nat.zero_le _⟩
      have e : wrap64 ((i : Int) + (n : Int)) = ((i + n : Nat) : Int) := by rw [w_id _ (by omega) (by omega)]; omega
      unfold spec_l3Part.f
      rw [e]
      exact Ev.ite_neg (by omega) (stop _ (by simp only [decide_eq_true_eq]; omega))
/-! ### what was written is read -/
def B (L : List UInt8) : ByteArray := ⟨L.toArray⟩
theorem B_size (L : List UInt8) : (B L).size = L.length := rfl
theorem B_list (s : ByteArray) : B s.data.toList = s := by cases s; rfl
theorem B_extract (L : List UInt8) (i j : Nat) : (B L).extract i j = B ((L.drop i).take (j - i)) := by
  apply ByteArray.ext
  apply Array.ext'
  simp [B]
theorem B_mid (P X L : List UInt8) (i j : Nat) (hi : i = P.length) (hj : j = P.length + X.length) : (B (P ++ X ++ L)).extract i j = B X := by
  rw [B_extract, hi, hj, List.append_assoc, List.drop_left, Nat.add_sub_cancel_left, List.take_left]
theorem B_bt (L : List UInt8) (i : Nat) (h : i < L.length) : bt (B L) (i : Int) = (L[i].toNat : Int) := by
  unfold bt
  rw [dif_pos (by rw [Int.toNat_natCast, B_size]; exact h)]
  rfl
def lv (X : List UInt8) : Int := X.foldl (fun a c => a * 256 + (c.toNat : Int)) 0
theorem lv_snoc (X : List UInt8) (c : UInt8) : lv (X ++ [c]) = lv X * 256 + (c.toNat : Int) := by unfold lv; rw [List.foldl_append]; rfl
theorem nv_lv (P X L : List UInt8) : nv (B (P ++ X ++ L)) P.length X.length = lv X := by
  have h : ∀ k, k ≤ X.length → nv (B (P ++ X ++ L)) P.length k = lv (X.take k) := by
    intro k
    induction k with
    | zero => intro _; rfl
    | succ k ih =>
      intro hk
      have e : (P ++ X ++ L)[P.length + k]'(by simp; omega) = X[k] := by
        rw [List.getElem_append_left (by simp; omega), List.getElem_append_right (by omega)]
        simp
      simp only [nv]
      rw [ih (by omega), B_bt _ _ (by simp; omega), e, List.take_add_one, List.getElem?_eq_getElem (by omega), Option.toList_some, lv_snoc]
  rw [h _ (Nat.le_refl _), List.take_length]
theorem lv1 (v : Int) (h0 : 0 ≤ v) (h1 : v ≤ 255) : lv (nL 1 v) = v := by
  have key : nL 1 v = [UInt8.ofNat (v / 1 % 256).toNat] := rfl
  rw [key]
  simp only [lv, List.foldl_cons, List.foldl_nil, UInt8.toNat_ofNat']
  omega
theorem lv2 (v : Int) (h0 : 0 ≤ v) (h1 : v ≤ 65535) : lv (nL 2 v) = v := by
  have key : nL 2 v = [UInt8.ofNat (v / 256 % 256).toNat, UInt8.ofNat (v / 1 % 256).toNat] := rfl
  rw [key]
  simp only [lv, List.foldl_cons, List.foldl_nil, UInt8.toNat_ofNat']
  omega
theorem by8 (q : Int) : ((UInt8.ofNat (q % 256).toNat).toNat : Int) = q % 256 := by
  rw [UInt8.toNat_ofNat']
  omega
theorem lv8 (v : Int) (h0 : -9223372036854775808 ≤ v) (h1 : v ≤ 9223372036854775807) : wrap64 (lv (nL 8 v)) = v := by
  have key : nL 8 v = [UInt8.ofNat (v / 72057594037927936 % 256).toNat, UInt8.ofNat (v / 281474976710656 % 256).toNat, UInt8.ofNat (v / 1099511627776 % 256).toNat, UInt8.ofNat (v / 4294967296 % 256).toNat, UInt8.ofNat (v / 16777216 % 256).toNat, UInt8.ofNat (v / 65536 % 256).toNat, UInt8.ofNat (v / 256 % 256).toNat, UInt8.ofNat (v / 1 % 256).toNat] := rfl
  obtain ⟨q1, hq1⟩ : ∃ q, q = v / 256 := ⟨_, rfl⟩
  have d2 : v / 65536 = q1 / 256 := by rw [hq1, Int.ediv_ediv_of_nonneg (by decide)]; rfl
  obtain ⟨q2, hq2⟩ : ∃ q, q = q1 / 256 := ⟨_, rfl⟩
  rw [← hq2] at d2
  have d3 : v / 16777216 = q2 / 256 := by rw [← d2, Int.ediv_ediv_of_nonneg (by decide)]; rfl
  obtain ⟨q3, hq3⟩ : ∃ q, q = q2 / 256 := ⟨_, rfl⟩
  rw [← hq3] at d3
  have d4 : v / 4294967296 = q3 / 256 := by rw [← d3, Int.ediv_ediv_of_nonneg (by decide)]; rfl
  obtain ⟨q4, hq4⟩ : ∃ q, q = q3 / 256 := ⟨_, rfl⟩
  rw [← hq4] at d4
  have d5 : v / 1099511627776 = q4 / 256 := by rw [← d4, Int.ediv_ediv_of_nonneg (by decide)]; rfl
  obtain ⟨q5, hq5⟩ : ∃ q, q = q4 / 256 := ⟨_, rfl⟩
  rw [← hq5] at d5
  have d6 : v / 281474976710656 = q5 / 256 := by rw [← d5, Int.ediv_ediv_of_nonneg (by decide)]; rfl
  obtain ⟨q6, hq6⟩ : ∃ q, q = q5 / 256 := ⟨_, rfl⟩
  rw [← hq6] at d6
  have d7 : v / 72057594037927936 = q6 / 256 := by rw [← d6, Int.ediv_ediv_of_nonneg (by decide)]; rfl
  obtain ⟨q7, hq7⟩ : ∃ q, q = q6 / 256 := ⟨_, rfl⟩
  rw [← hq7] at d7
  rw [key, d7, d6, d5, d4, d3, d2, ← hq1, Int.ediv_one]
  simp only [lv, List.foldl_cons, List.foldl_nil, by8]
  clear d2 d3 d4 d5 d6 d7 key
  have e0 := Int.emod_add_mul_ediv v 256
  have e1 := Int.emod_add_mul_ediv q1 256
  have e2 := Int.emod_add_mul_ediv q2 256
  have e3 := Int.emod_add_mul_ediv q3 256
  have e4 := Int.emod_add_mul_ediv q4 256
  have e5 := Int.emod_add_mul_ediv q5 256
  have e6 := Int.emod_add_mul_ediv q6 256
  rw [← hq1] at e0
  rw [← hq2] at e1
  rw [← hq3] at e2
  rw [← hq4] at e3
  rw [← hq5] at e4
  rw [← hq6] at e5
  rw [← hq7] at e6
  clear hq1 hq2 hq3 hq4 hq5 hq6 hq7
  generalize v % 256 = r0 at *
  generalize q1 % 256 = r1 at *
  generalize q2 % 256 = r2 at *
  generalize q3 % 256 = r3 at *
  generalize q4 % 256 = r4 at *
  generalize q5 % 256 = r5 at *
  generalize q6 % 256 = r6 at *
  have hv : v = r0 + 256 * (r1 + 256 * (r2 + 256 * (r3 + 256 * (r4 + 256 * (r5 + 256 * (r6 + 256 * q7)))))) := by omega
  obtain ⟨m, hm⟩ : ∃ m, m = q7 % 256 := ⟨_, rfl⟩
  have e7 := Int.emod_add_mul_ediv q7 256
  rw [← hm] at e7 ⊢
  unfold wrap64
  omega
/-- The program reads a number that stands at the head. -/
theorem num_rt (X L : List UInt8) (hX : (X ++ L).length ≤ 9223372036854775000) : impl_source_num.f (B (X ++ L)) X.length = some (wrap64 (lv X), B L) := by
  have hm : min X.length (B (X ++ L)).size = X.length := by rw [B_size, List.length_append]; omega
  rw [num_f _ _ (by rw [B_size]; omega), hm]
  have h1 : nv (B (X ++ L)) 0 X.length = lv X := nv_lv [] X L
  have h2 : (B (X ++ L)).extract X.length (B (X ++ L)).size = B L := by rw [B_extract, B_size, List.drop_left, List.take_of_length_le (by simp)]
  rw [h1, h2]
theorem num1_rt (v : Int) (L : List UInt8) (h0 : 0 ≤ v) (h1 : v ≤ 255) (hL : L.length ≤ 9223372036854700000) : impl_source_num.f (B (nL 1 v ++ L)) 1 = some (v, B L) := by
  have h := num_rt (nL 1 v) L (by rw [List.length_append, nL_length]; omega)
  rw [nL_length, lv1 v h0 h1, w_id v (by omega) (by omega)] at h
  exact h
theorem num2_rt (v : Int) (L : List UInt8) (h0 : 0 ≤ v) (h1 : v ≤ 65535) (hL : L.length ≤ 9223372036854700000) : impl_source_num.f (B (nL 2 v ++ L)) 2 = some (v, B L) := by
  have h := num_rt (nL 2 v) L (by rw [List.length_append, nL_length]; omega)
  rw [nL_length, lv2 v h0 h1, w_id v (by omega) (by omega)] at h
  exact h
theorem num8_rt (v : Int) (L : List UInt8) (h0 : -9223372036854775808 ≤ v) (h1 : v ≤ 9223372036854775807) (hL : L.length ≤ 9223372036854700000) : impl_source_num.f (B (nL 8 v ++ L)) 8 = some (v, B L) := by
  have h := num_rt (nL 8 v) L (by rw [List.length_append, nL_length]; omega)
  rw [nL_length, lv8 v h0 h1] at h
  exact h
theorem text_rt (X L : List UInt8) : impl_source_text.f (B (X ++ L)) (X.length : Int) = some (B X, B L) := by
  have hm : min X.length (B (X ++ L)).size = X.length := by rw [B_size, List.length_append]; omega
  rw [text_f _ _ (by omega), Int.toNat_natCast, hm]
  have h2 : (B (X ++ L)).extract X.length (B (X ++ L)).size = B L := by rw [B_extract, B_size, List.drop_left, List.take_of_length_le (by simp)]
  have h3 : (B (X ++ L)).extract 0 X.length = B X := by rw [B_extract, List.drop_zero, Nat.sub_zero, List.take_left]
  rw [h2, h3]
theorem s8_rt (t : ByteArray) (L : List UInt8) (ht : t.size ≤ 255) (hL : L.length ≤ 9223372036854600000) : impl_source_s8.f (B (s8L t ++ L)) = some (t, B L) := by
  unfold impl_source_s8.f s8L
  rw [List.append_assoc, num1_rt _ _ (by omega) (by omega) (by rw [List.length_append, len_]; omega), Option.bind_some]
  have h := text_rt t.data.toList L
  rw [len_, B_list] at h
  simp only [h, Option.bind_some]
theorem s16_rt (t : ByteArray) (L : List UInt8) (ht : t.size ≤ 65535) (hL : L.length ≤ 9223372036854600000) : impl_source_s16.f (B (s16L t ++ L)) = some (t, B L) := by
  unfold impl_source_s16.f s16L
  rw [List.append_assoc, num2_rt _ _ (by omega) (by omega) (by rw [List.length_append, len_]; omega), Option.bind_some]
  have h := text_rt t.data.toList L
  rw [len_, B_list] at h
  simp only [h, Option.bind_some]
/-- The reference reads a number that stands at a place. -/
theorem l5_rt (P X L : List UInt8) (hs : (P ++ X ++ L).length ≤ 9223372036854700000) : Ev (fun q => spec_l5Num.f q (B (P ++ X ++ L)) P.length X.length) (wrap64 (lv X), ((P ++ X).length : Int)) := by
  have h := l5_at (B (P ++ X ++ L)) P.length X.length (by rw [B_size]; simp only [List.length_append]; omega) (by rw [B_size]; omega)
  rw [nv_lv] at h
  rw [List.length_append]
  exact h
theorem l5_1 (P L : List UInt8) (v : Int) (h0 : 0 ≤ v) (h1 : v ≤ 255) (hs : (P ++ nL 1 v ++ L).length ≤ 9223372036854700000) : Ev (fun q => spec_l5Num.f q (B (P ++ nL 1 v ++ L)) P.length 1) (v, ((P ++ nL 1 v).length : Int)) := by
  have h := l5_rt P (nL 1 v) L hs
  rw [lv1 v h0 h1, w_id v (by omega) (by omega), nL_length] at h
  exact h
theorem l5_2 (P L : List UInt8) (v : Int) (h0 : 0 ≤ v) (h1 : v ≤ 65535) (hs : (P ++ nL 2 v ++ L).length ≤ 9223372036854700000) : Ev (fun q => spec_l5Num.f q (B (P ++ nL 2 v ++ L)) P.length 2) (v, ((P ++ nL 2 v).length : Int)) := by
  have h := l5_rt P (nL 2 v) L hs
  rw [lv2 v h0 h1, w_id v (by omega) (by omega), nL_length] at h
  exact h
theorem l5_8 (P L : List UInt8) (v : Int) (h0 : -9223372036854775808 ≤ v) (h1 : v ≤ 9223372036854775807) (hs : (P ++ nL 8 v ++ L).length ≤ 9223372036854700000) : Ev (fun q => spec_l5Num.f q (B (P ++ nL 8 v ++ L)) P.length 8) (v, ((P ++ nL 8 v).length : Int)) := by
  have h := l5_rt P (nL 8 v) L hs
  rw [lv8 v h0 h1, nL_length] at h
  exact h
theorem l3_rt (P L X : List UInt8) (n : Nat) (t : ByteArray) (hn : n = 1 ∨ n = 2) (hX : X.length = n) (hv : lv X = (t.size : Int)) (hs : (P ++ (X ++ t.data.toList) ++ L).length ≤ 9223372036854700000) :
    Ev (fun q => spec_l3Part.f q (B (P ++ (X ++ t.data.toList) ++ L)) P.length n) (t, ((P ++ (X ++ t.data.toList)).length : Int)) := by
  have e : P ++ (X ++ t.data.toList) ++ L = P ++ X ++ (t.data.toList ++ L) := by simp only [List.append_assoc]
  have e2 : P ++ (X ++ t.data.toList) ++ L = (P ++ X) ++ t.data.toList ++ L := by simp only [List.append_assoc]
  have hnv : nv (B (P ++ (X ++ t.data.toList) ++ L)) P.length n = (t.size : Int) := by rw [e, ← hX, nv_lv, hv]
  have hsz : (B (P ++ (X ++ t.data.toList) ++ L)).size = P.length + n + t.size + L.length := by rw [B_size]; simp only [List.length_append, len_, hX]; omega
  have h := l3_at (B (P ++ (X ++ t.data.toList) ++ L)) P.length n t.size hn hnv (by rw [hsz]; omega) (by rw [B_size]; omega)
  rw [if_neg (by rw [hsz]; omega)] at h
  refine Ev.eq h ?_
  congr 1
  · rw [e2, B_mid (P ++ X) t.data.toList L _ _ (by rw [List.length_append, hX]) (by rw [List.length_append, hX, len_]), B_list]
  · simp only [List.length_append, len_, hX]; omega
theorem l3_8 (P L : List UInt8) (t : ByteArray) (ht : t.size ≤ 255) (hs : (P ++ s8L t ++ L).length ≤ 9223372036854700000) : Ev (fun q => spec_l3Part.f q (B (P ++ s8L t ++ L)) P.length 1) (t, ((P ++ s8L t).length : Int)) :=
  l3_rt P L (nL 1 t.size) 1 t (.inl rfl) (nL_length ..) (lv1 _ (by omega) (by omega)) hs
theorem l3_16 (P L : List UInt8) (t : ByteArray) (ht : t.size ≤ 65535) (hs : (P ++ s16L t ++ L).length ≤ 9223372036854700000) : Ev (fun q => spec_l3Part.f q (B (P ++ s16L t ++ L)) P.length 2) (t, ((P ++ s16L t).length : Int)) :=
  l3_rt P L (nL 2 t.size) 2 t (.inr rfl) (nL_length ..) (lv2 _ (by omega) (by omega)) hs
end Go.Proofs.Ytbhjbbanhmjgnaa.DecLib
