/- Some of this seat's texts, joined by prune.py. -/
import Derived.Test.YtdfgfhnbcifheaaDoorM0
import Derived.Test.YtdfgfhnbcifheaaDoorF17
import Derived.Test.YtdfgfhnbcifheaaDoorF18
import Derived.Test.YtdfgfhnbcifheaaDoorE0
import Derived.Test.YtdfgfhnbcifheaaDoorXNum
import Derived.Test.YtdfgfhnbcifheaaDoorShelf
import Derived.Test.YtdfgfhnbcifheaaDoorF8
import Derived.Test.YtdfgfhnbcifheaaDoorF10
import Derived.Test.YtdfgfhnbcifheaaDoorF12
import Derived.Test.YtdfgfhnbcifheaaDoorCan
import Derived.Test.YtdfgfhnbcifheaaDoorTie
import Derived.LaidLaws
import Derived.Lib.LaidU8
-- By pp.py, a program of this repo, with the kit's printer: Lean checks it.
namespace Go.Proofs.YtdfgfhnbcifheaaDoor.M
open Go.RowKit Go.Proofs.YtdfgfhnbcifheaaDoorW.PrintWords Go.Proofs.YtdfgfhnbcifheaaDoorW.PrintLast Go.Proofs.YtdfgfhnbcifheaaDoorW.PrintMore
attribute [local go_sem] max2_int min2_int max_two min_two max_three min_three max_four min_four
set_option linter.unusedVariables false
set_option linter.unusedSimpArgs false

noncomputable section
/-! ### laws_FnExactMetric: function 5 -/
def laws_FnExactMetric.f (k : Nat) (a0 : ByteArray) : Option (Bool) := if (a0.size : Int) > 1048576 then (some true) else ((spec_Metric.f k a0).bind fun t311 => ((impl_Metric.f k a0).bind fun t312 => (if t312.toList = t311.toList then (some true) else (some false))))
theorem laws_FnExactMetric.mono : ∀ a0 k, LeO (laws_FnExactMetric.f k a0) (laws_FnExactMetric.f (k + 1) a0) := by
  intro a0 k
  unfold laws_FnExactMetric.f
  repeat' first
      | (with_reducible exact impl_Metric.mono _ _)
      | (with_reducible exact spec_Metric.mono _ _)
      | (with_reducible exact LeO.refl _)
      | (with_reducible exact LeO.none _)
      | (with_reducible refine LeO.ite ?_ ?_)
      | (with_reducible refine LeO.bind ?_ (fun _ => ?_))
      | exact impl_Metric.mono _ _
      | exact spec_Metric.mono _ _
      | exact LeO.none _
      | refine LeO.ite ?_ ?_
      | refine LeO.bind ?_ (fun _ => ?_)
set_option maxHeartbeats 8000000 in
set_option maxRecDepth 100000 in
theorem laws_FnExactMetric.calls (k : Nat) (a0 : ByteArray) (r : Bool) (w : World) (h : laws_FnExactMetric.f k a0 = some r) (hT_ : Tabs w) :
    Calls Tryd.prog 5 #[.string a0] w fun e w' => e = .returned (.bool r) ∧ Below w.heap.size w w' := by
  have HT := Aside0.mk hT_
  clear hT_
  have HB := Aside0.mk (Below.refl w.heap.size w)
  have H : (if (a0.size : Int) > 1048576 then (some true) else ((spec_Metric.f k a0).bind fun t311 => ((impl_Metric.f k a0).bind fun t312 => (if t312.toList = t311.toList then (some true) else (some false))))) = some r := h
  clear h
  by_cases c2 : (a0.size : Int) > 1048576
  · rw [if_pos c2] at H
    have c2b0 : decide (1048576 < (a0.size : Int)) = true := decide_eq_true c2
    have c2b1 : decide (1048576 < a0.size) = true := decide_eq_true (by omega)
    clear c2
    obtain rfl := Option.some.inj H
    go_enter Tryd.func5, Tryd.ntmps5
    go_wp2
    go_ret
    exact ⟨by first | rfl | (simp [errW_none, errW_some] <;> rfl) | (simp [*, errW_none, errW_some] <;> rfl), by repeat (first | (with_reducible first | exact HB.out | apply below_alloc | apply pw_below_drewN | apply below_drew1) | exact HB.out)⟩
  · rw [if_neg c2] at H
    have c2b0 : decide (1048576 < (a0.size : Int)) = false := decide_eq_false c2
    have c2b1 : decide (1048576 < a0.size) = false := decide_eq_false (by omega)
    clear c2
    replace H := Option.bind_eq_some_iff.mp H
    obtain ⟨t311, A30, H⟩ := H
    replace H : ((impl_Metric.f k a0).bind fun t312 => (if t312.toList = t311.toList then (some true) else (some false))) = some r := H
    have A3 := Aside0.mk A30
    clear A30
    replace H := Option.bind_eq_some_iff.mp H
    obtain ⟨t312, A40, H⟩ := H
    replace H : (if t312.toList = t311.toList then (some true) else (some false)) = some r := H
    have A4 := Aside0.mk A40
    clear A40
    by_cases c5 : t312.toList = t311.toList
    · rw [if_pos c5] at H
      have c5b0 : (t312.toList == t311.toList) = true := beq_iff_eq.mpr c5
      have c5b1 : (t312.toList != t311.toList) = false := bne_eq_false_iff_eq.mpr c5
      clear c5
      obtain rfl := Option.some.inj H
      go_enter Tryd.func5, Tryd.ntmps5
      go_wp2_with (first | ((with_reducible refine gate_callee (f := 17) rfl ?_); refine goesL_ (some 9) rfl rfl Tryd.func17 (by kernel_rfl) rfl #[.string a0] rfl (by (try simp only [List.map_toArray, List.map_cons, List.map_nil]); first | done | rfl | (simp only [List.length_drop, List.length_take]; rfl)) ?_; (with_reducible refine (spec_Metric.calls k a0 t311 _ A3.out).mono ?_); rintro e w6 ⟨rfl, hb⟩; refine ⟨_, rfl, ?_⟩; have n0_ := Aside0.mk (below_step (by repeat (first | (with_reducible first | exact HB.out | apply below_alloc | apply pw_below_drewN | apply below_drew1) | exact HB.out)) hb); clear HB; have HB := n0_; clear n0_; (try clear hb); (try clear hb2); (try clear hk); (try clear hi)) | ((with_reducible refine gate_callee (f := 18) rfl ?_); refine goesL_ (some 11) rfl rfl Tryd.func18 (by kernel_rfl) rfl #[.string a0] rfl (by (try simp only [List.map_toArray, List.map_cons, List.map_nil]); first | done | rfl | (simp only [List.length_drop, List.length_take]; rfl)) ?_; (with_reducible refine (impl_Metric.calls k a0 t312 _ A4.out (Tabs.below HT.out (by repeat (first | (with_reducible first | exact HB.out | apply below_alloc | apply pw_below_drewN | apply below_drew1) | exact HB.out | refine below_set ?_ (Aside0.out (by assumption)))))).mono ?_); rintro e w7 ⟨rfl, hb⟩; refine ⟨_, rfl, ?_⟩; have n0_ := Aside0.mk (below_step (by repeat (first | (with_reducible first | exact HB.out | apply below_alloc | apply pw_below_drewN | apply below_drew1) | exact HB.out)) hb); clear HB; have HB := n0_; clear n0_; (try clear hb); (try clear hb2); (try clear hk); (try clear hi)))
      go_ret
      exact ⟨by first | rfl | (simp [errW_none, errW_some] <;> rfl) | (simp [*, errW_none, errW_some] <;> rfl), by repeat (first | (with_reducible first | exact HB.out | apply below_alloc | apply pw_below_drewN | apply below_drew1) | exact HB.out)⟩
    · rw [if_neg c5] at H
      have c5b0 : (t312.toList == t311.toList) = false := beq_eq_false_iff_ne.mpr c5
      have c5b1 : (t312.toList != t311.toList) = true := bne_iff_ne.mpr c5
      obtain rfl := Option.some.inj H
      go_enter Tryd.func5, Tryd.ntmps5
      go_wp2_with (first | ((with_reducible refine gate_callee (f := 17) rfl ?_); refine goesL_ (some 9) rfl rfl Tryd.func17 (by kernel_rfl) rfl #[.string a0] rfl (by (try simp only [List.map_toArray, List.map_cons, List.map_nil]); first | done | rfl | (simp only [List.length_drop, List.length_take]; rfl)) ?_; (with_reducible refine (spec_Metric.calls k a0 t311 _ A3.out).mono ?_); rintro e w8 ⟨rfl, hb⟩; refine ⟨_, rfl, ?_⟩; have n0_ := Aside0.mk (below_step (by repeat (first | (with_reducible first | exact HB.out | apply below_alloc | apply pw_below_drewN | apply below_drew1) | exact HB.out)) hb); clear HB; have HB := n0_; clear n0_; (try clear hb); (try clear hb2); (try clear hk); (try clear hi)) | ((with_reducible refine gate_callee (f := 18) rfl ?_); refine goesL_ (some 11) rfl rfl Tryd.func18 (by kernel_rfl) rfl #[.string a0] rfl (by (try simp only [List.map_toArray, List.map_cons, List.map_nil]); first | done | rfl | (simp only [List.length_drop, List.length_take]; rfl)) ?_; (with_reducible refine (impl_Metric.calls k a0 t312 _ A4.out (Tabs.below HT.out (by repeat (first | (with_reducible first | exact HB.out | apply below_alloc | apply pw_below_drewN | apply below_drew1) | exact HB.out | refine below_set ?_ (Aside0.out (by assumption)))))).mono ?_); rintro e w9 ⟨rfl, hb⟩; refine ⟨_, rfl, ?_⟩; have n0_ := Aside0.mk (below_step (by repeat (first | (with_reducible first | exact HB.out | apply below_alloc | apply pw_below_drewN | apply below_drew1) | exact HB.out)) hb); clear HB; have HB := n0_; clear n0_; (try clear hb); (try clear hb2); (try clear hk); (try clear hi)))
      go_ret
      exact ⟨by first | rfl | (simp [errW_none, errW_some] <;> rfl) | (simp [*, errW_none, errW_some] <;> rfl), by repeat (first | (with_reducible first | exact HB.out | apply below_alloc | apply pw_below_drewN | apply below_drew1) | exact HB.out)⟩

end

end Go.Proofs.YtdfgfhnbcifheaaDoor.M
/- Some of this seat's texts, joined by prune.py. -/
/- Some of this seat's texts, joined by prune.py. -/
/- Some of this seat's texts, joined by prune.py. -/
/- Some of this seat's texts, joined by prune.py. -/
/- A list's weight, counted down from what is left: plain. -/
namespace Go.Proofs.YtdfgfhnbcifheaaDoor.Loops
open Go.RowKit Go.Proofs.YtdfgfhnbcifheaaDoorW.PrintWords
end Go.Proofs.YtdfgfhnbcifheaaDoor.Loops
-- By pp.py, a program of this repo, with the kit's printer: Lean checks it.
namespace Go.Proofs.YtdfgfhnbcifheaaDoor.M
open Go.RowKit Go.Proofs.YtdfgfhnbcifheaaDoorW.PrintWords Go.Proofs.YtdfgfhnbcifheaaDoorW.PrintLast Go.Proofs.YtdfgfhnbcifheaaDoorW.PrintMore
attribute [local go_sem] max2_int min2_int max_two min_two max_three min_three max_four min_four
set_option linter.unusedVariables false
set_option linter.unusedSimpArgs false

open Go.Proofs.YtdfgfhnbcifheaaDoor.Opn
instance : Inhabited S43 := ⟨z43⟩
end Go.Proofs.YtdfgfhnbcifheaaDoor.M
-- By pp.py, a program of this repo, with the kit's printer: Lean checks it.
namespace Go.Proofs.YtdfgfhnbcifheaaDoor.M
open Go.RowKit Go.Proofs.YtdfgfhnbcifheaaDoorW.PrintWords Go.Proofs.YtdfgfhnbcifheaaDoorW.PrintLast Go.Proofs.YtdfgfhnbcifheaaDoorW.PrintMore
attribute [local go_sem] max2_int min2_int max_two min_two max_three min_three max_four min_four
set_option linter.unusedVariables false
set_option linter.unusedSimpArgs false

end Go.Proofs.YtdfgfhnbcifheaaDoor.M
namespace Go.Proofs.YtdfgfhnbcifheaaDoor.Pure
open Go.Proofs.YtdfgfhnbcifheaaDoor.M Go.RowKit
/-- What is left to prove of laws_FnExactMetric. -/
def FnExactMetricPure : Prop := ∀ (a0 : ByteArray), a0.size ≤ maxLen → ∃ k, laws_FnExactMetric.f k a0 = some true
end Go.Proofs.YtdfgfhnbcifheaaDoor.Pure
namespace Go.Proofs.YtdfgfhnbcifheaaDoor.M
end Go.Proofs.YtdfgfhnbcifheaaDoor.M
/- The reference's l2Num gives the lowest bytes of a number, as the program's num does. -/
namespace Go.Proofs.YtdfgfhnbcifheaaDoor.NumPlain
open Go.Proofs.YtdfgfhnbcifheaaDoor.M Go.Proofs.YtdfgfhnbcifheaaDoor.M.Num Go.Proofs.YtdfgfhnbcifheaaDoorW.PrintWords Go.Proofs.YtdfgfhnbcifheaaDoorW.PrintLast Go.RowKit

/-- The division's loop. -/
theorem l1_loop (v : Int) (xs : List Int) (i : Nat) (hi : i < 8) (r : ByteArray) (d : Nat) : ∀ j, j + d = i →
    (∃ k, spec_l2Num.l1 k v xs i (v / 256 ^ i) i = some r) → ∃ k, spec_l2Num.l1 k v xs i (v / 256 ^ j) j = some r := by
  induction d with
  | zero =>
    intro j hj h
    obtain rfl : j = i := by omega
    exact h
  | succ d ih =>
    intro j hj h
    obtain ⟨k, hk⟩ := ih (j + 1) (by omega) h
    refine ⟨k + 1, ?_⟩
    simp only [spec_l2Num.l1]
    have e2 : wrap64 ((j : Int) + 1) = ((j + 1 : Nat) : Int) := by unfold wrap64; omega
    rw [if_pos (by omega), arr8_div, e2]
    exact hk
/-- The first bytes of m. -/
def first (m : Nat) (v : Int) (n : Nat) : List Int := (List.range n).map fun p => byte8 v (8 - m + p)
theorem l0_loop (v : Int) (m : Nat) (hm : m ≤ 8) (d : Nat) : ∀ n, n + d = m →
    ∃ k, spec_l2Num.l0 k v (first m v n) ((m : Int) - 1 - n) = some (Num.bytes m v) := by
  induction d with
  | zero =>
    intro n hn
    obtain rfl : n = m := by omega
    refine ⟨1, ?_⟩
    simp only [spec_l2Num.l0]
    rw [if_neg (by omega)]
    rfl
  | succ d ih =>
    intro n hn
    obtain ⟨k, hk⟩ := ih (n + 1) (by omega)
    obtain ⟨k2, hk2⟩ := l1_loop v (first m v n) (m - 1 - n) (by omega) (Num.bytes m v) (m - 1 - n) 0 (by omega) ⟨k + 1, by
      simp only [spec_l2Num.l1]
      have e1 : wrap64 (((m - 1 - n : Nat) : Int) - 1) = (m : Int) - 1 - ((n + 1 : Nat) : Int) := by unfold wrap64; omega
      have e2 : first m v n ++ [v / 256 ^ (m - 1 - n) % 256] = first m v (n + 1) := by
        unfold first
        rw [List.range_succ, List.map_append]
        simp only [List.map_cons, List.map_nil, byte8]
        rw [show 7 - (8 - m + n) = m - 1 - n by omega]
      rw [if_neg (by omega), if_pos (by unfold first; rw [List.length_map, List.length_range]; omega), e1, e2]
      exact hk⟩
    refine ⟨k2 + 1, ?_⟩
    simp only [spec_l2Num.l0]
    rw [if_pos (by omega)]
    rw [show (m : Int) - 1 - (n : Int) = ((m - 1 - n : Nat) : Int) by omega]
    simpa using hk2
theorem spec_num (v : Int) (m : Nat) (hm : m ≤ 8) : Ev (fun k => spec_l2Num.f k m v) (Num.bytes m v) := by
  obtain ⟨k, hk⟩ := l0_loop v m hm m 0 (by omega)
  refine Ev.of (spec_l2Num.mono _ _) (k := k) ?_
  unfold spec_l2Num.f
  have e : wrap64 ((m : Int) - 1) = (m : Int) - 1 - ((0 : Nat) : Int) := by unfold wrap64; omega
  rw [e]
  exact hk
theorem bytes_size (m : Nat) (v : Int) : (Num.bytes m v).size = m := by
  unfold Num.bytes
  rw [strOfNums_size]
  simp [nums8]
end Go.Proofs.YtdfgfhnbcifheaaDoor.NumPlain
/- Some of this seat's texts, joined by prune.py. -/
/- Lists of labels, as the laws copy, compare and weigh them: plain. -/
namespace Go.Proofs.YtdfgfhnbcifheaaDoor.LabLaws
open Go.Proofs.YtdfgfhnbcifheaaDoor.M Go.Proofs.YtdfgfhnbcifheaaDoor.Loops Go.Proofs.YtdfgfhnbcifheaaDoorW.PrintWords Go.Proofs.YtdfgfhnbcifheaaDoorW.PrintLast Go.RowKit
abbrev LO := S38
theorem fold_count : ∀ (k acc : List LO), (k.foldl CanSort.ins acc).length = acc.length + k.length
  | [], acc => rfl
  | x :: k, acc => by rw [List.foldl_cons, fold_count k, (CanSort.ins_perm acc x).length_eq, List.length_cons, List.length_cons]; omega
theorem order_count (k : List LO) : (CanSort.order k).length = k.length := by unfold CanSort.order; rw [fold_count]; simp
theorem can_len (l : List LO) : (Can.can l).1.length ≤ 16 := by
  unfold Can.can
  split
  · exact Nat.zero_le _
  · split
    · exact Nat.zero_le _
    · split
      · exact Nat.zero_le _
      · split
        · show (CanSort.order _).length ≤ 16
          rw [order_count]
          exact Nat.le_trans (List.length_filter_le _ _) (by omega)
        · exact Nat.zero_le _
end Go.Proofs.YtdfgfhnbcifheaaDoor.LabLaws
/- The two tables of unicode/utf8, as the rows list them: what a walk reads; a world that holds them. -/
namespace Go.Proofs.YtdfgfhnbcifheaaDoor.Laid
open Go Go.Lib Go.Proofs Go.Proofs.YtdfgfhnbcifheaaDoor.M
theorem extra : U8Extra Tryd.prog Tryd.lays260_ren where
  n3 := by kernel_rfl
  n4 := by kernel_rfl
  y3 := by kernel_rfl
  y4 := by kernel_rfl
  c5 := by kernel_rfl
  c119 := by kernel_rfl
  c138 := by kernel_rfl
theorem first_eq : Rows.laid_unicode_utf8_first = firstData := by kernel_rfl
theorem accept_eq : (Rows.laid_unicode_utf8_acceptRanges : DataW Unit) = acceptData := by kernel_rfl
theorem tabs {W : World} (h : laidMet Tryd.prog [("unicode/utf8.acceptRanges", Rows.laid_unicode_utf8_acceptRanges), ("unicode/utf8.first", Rows.laid_unicode_utf8_first)] W) : Tabs W := by
  rw [first_eq, accept_eq] at h
  exact utf8Tabs_of_reads Tryd.lays260 extra (laidMet.reads h (by simp)) (laidMet.reads h (by simp))
/-- The cells of the two tables. -/
def firstCells : Array Value := (firstTab.map fun z => Value.int .u8 z).toArray
def acceptCells : Array Value := ((List.range 16).flatMap fun i => [Value.int .u8 (accLo i), Value.int .u8 (accHi i)]).toArray
def putRow_ (cs : Array Value) : Obj → Obj
  | .cells _ t frozen => .cells cs t frozen
  | o => o
/-- A world for the witness: the settled one, the tables' blocks hold what their initialisers lay. -/
noncomputable def laidWorld (os : Os) : World :=
  { World.holding Tryd.prog os ⟨#[], #[], []⟩ with heap := ((World.holding Tryd.prog os ⟨#[], #[], []⟩).heap.modify (Tryd.lays260_ren.g 3) (putRow_ firstCells)).modify (Tryd.lays260_ren.g 4) (putRow_ acceptCells) }
end Go.Proofs.YtdfgfhnbcifheaaDoor.Laid
