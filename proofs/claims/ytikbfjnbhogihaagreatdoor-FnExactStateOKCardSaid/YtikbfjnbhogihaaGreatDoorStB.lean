/- Some of this seat's texts, joined by prune.py. -/
import Derived.Test.YtikbfjnbhogihaaGreatDoorF166
import Derived.Test.YtikbfjnbhogihaaGreatDoorXRise
import Derived.Test.YtikbfjnbhogihaaGreatDoorMetr
import Derived.Test.YtikbfjnbhogihaaGreatDoorO0
import Derived.Test.YtikbfjnbhogihaaGreatDoorCanVal
import Derived.Test.YtikbfjnbhogihaaGreatDoorXCfg
import Derived.Test.YtikbfjnbhogihaaGreatDoorF49
import Derived.Test.YtikbfjnbhogihaaGreatDoorS0
import Derived.Test.YtikbfjnbhogihaaGreatDoorF106
import Derived.Test.YtikbfjnbhogihaaGreatDoorM0
/- When a state is one: what both compute. Plain. -/
namespace Go.Proofs.YtikbfjnbhogihaaGreatDoor.StOK
open Go.Proofs.YtikbfjnbhogihaaGreatDoor.M Go.Proofs.YtikbfjnbhogihaaGreatDoor.Loops Go.Proofs.YtikbfjnbhogihaaGreatDoor.Can Go.Proofs.YtikbfjnbhogihaaGreatDoor.Utf Go.Proofs.YtikbfjnbhogihaaGreatDoor.Key Go.Proofs.YtikbfjnbhogihaaGreatDoor.KeyDec Go.Proofs.YtikbfjnbhogihaaGreatDoor.KeyLaw Go.Proofs.YtikbfjnbhogihaaGreatDoor.Metr Go.Proofs.YtikbfjnbhogihaaGreatDoorW.PrintWords Go.Proofs.YtikbfjnbhogihaaGreatDoorW.PrintLast Go.Proofs.YtikbfjnbhogihaaGreatDoorW.PrintMore Go.RowKit
set_option linter.unusedVariables false
set_option linter.unusedSimpArgs false
abbrev Tn := S87
abbrev Ml := S91
abbrev Sr := S93
/-! ### a loop that goes on while all is well -/
def allFrom (P : Nat → Bool) : Nat → Nat → Bool
 | _, 0 => true
 | j, m + 1 => P j && allFrom P (j + 1) m
theorem allFrom_all {α : Type} (A : α → Bool) (z : α) (l : List α) : ∀ m j, j + m = l.length → allFrom (fun i => A (l.getD i z)) j m = (l.drop j).all A := by
 intro m
 induction m with
 | zero => intro j hj; rw [List.drop_eq_nil_of_le (by omega)]; rfl
 | succ m ih =>
  intro j hj
  have hlt : j < l.length := by omega
  show (A (l.getD j z) && allFrom _ (j + 1) m) = _
  rw [ih (j + 1) (by omega), List.drop_eq_getElem_cons hlt, List.all_cons, List.getD_eq_getElem?_getD, List.getElem?_eq_getElem hlt]
  rfl
theorem allFrom_and (P Q : Nat → Bool) : ∀ m j, allFrom (fun i => P i && Q i) j m = (allFrom P j m && allFrom Q j m) := by
 intro m
 induction m with
 | zero => intro j; rfl
 | succ m ih =>
  intro j
  show ((P j && Q j) && allFrom _ (j + 1) m) = ((P j && allFrom P (j + 1) m) && (Q j && allFrom Q (j + 1) m))
  rw [ih]
  cases P j <;> cases Q j <;> simp
def riseAt {α : Type} (g : α → ByteArray) (z : α) (l : List α) (i : Nat) : Bool := decide (i = 0) || Op.bytesLess (g (l.getD (i - 1) z)).toList (g (l.getD i z)).toList
theorem rise_from {α : Type} (g : α → ByteArray) (z : α) (l : List α) : ∀ m j, 1 ≤ j → j + m = l.length → allFrom (riseAt g z l) j m = Rise.up ((l.map g).drop (j - 1)) := by
 intro m
 induction m with
 | zero => intro j h1 hj; rw [Rise.up_short _ (by rw [List.length_drop, List.length_map]; omega)]; rfl
 | succ m ih =>
  intro j h1 hj
  obtain ⟨i, rfl⟩ : ∃ i, j = i + 1 := ⟨j - 1, by omega⟩
  have h := Rise.up_step g z l i (i + 1) rfl (by omega)
  rw [h]
  show (riseAt g z l (i + 1) && allFrom _ (i + 1 + 1) m) = _
  rw [ih (i + 1 + 1) (by omega) (by omega)]
  rfl
theorem rise_all {α : Type} (g : α → ByteArray) (z : α) (l : List α) : allFrom (riseAt g z l) 0 l.length = Rise.up (l.map g) := by
 cases hl : l.length with
 | zero => rw [List.length_eq_zero_iff.1 hl]; rfl
 | succ m =>
  show (riseAt g z l 0 && allFrom _ 1 m) = _
  rw [rise_from g z l m 1 (Nat.le_refl _) (by omega)]
  rfl
/-! ### small ones -/
theorem spec_between (a b c : Int) : spec_l1Between.f a b c = some (decide (b ≤ a ∧ a ≤ c)) := by
 unfold spec_l1Between.f
 by_cases h : b ≤ a
 ·rw [if_pos h]; simp [h]
 ·rw [if_neg h]; simp [h]
theorem spec_ten_chars (s : ByteArray) (hz : s.size ≤ 32) : ∀ n j, j + n = s.size → Ev (fun k => spec_l4TenantName.l0 k s (j : Int)) (TenN.chars s n) := by
 intro n
 induction n with
 | zero =>
  intro j hj
  exact Ev.step (f := fun _ => some true) (fun k => by simp only [spec_l4TenantName.l0]; rw [if_neg (by omega)]) (Ev.now _)
 | succ n ih =>
  intro j hj
  have hn := ih (j + 1) (by omega)
  have e : s.size - (n + 1) = j := by omega
  have hw : wrap64 ((j : Int) + 1) = ((j + 1 : Nat) : Int) := w_succ j (by omega)
  have ht : TenN.chars s (n + 1) = (TenN.okB (bt s (j : Int)) && TenN.chars s n) := by
   show (TenN.okB (bt s ((s.size - (n + 1) : Nat) : Int)) && TenN.chars s n) = _
   rw [e]
  rw [ht]
  cases hc : TenN.okB (bt s (j : Int)) with
  | true =>
   refine Ev.step (fun k => ?_) hn
   have hc := of_decide_eq_true hc
   simp only [spec_l4TenantName.l0]
   rw [hw, if_pos (by omega), if_pos (by omega)]
   generalize bt s (j : Int) = c at hc ⊢
   repeat' split
   all_goals first | rfl | (exfalso; omega)
  | false =>
   refine Ev.step (f := fun _ => some false) (fun k => ?_) (Ev.now _)
   have hc := of_decide_eq_false hc
   simp only [spec_l4TenantName.l0]
   rw [hw, if_pos (by omega), if_pos (by omega)]
   generalize bt s (j : Int) = c at hc ⊢
   repeat' split
   all_goals first | rfl | (exfalso; omega)
theorem spec_ten (s : ByteArray) : Ev (fun k => spec_l4TenantName.f k s) (TenN.ok s) := by
 unfold spec_l4TenantName.f TenN.ok
 simp only [spec_between, Option.bind_some]
 by_cases h : 1 ≤ s.size ∧ s.size ≤ 32
 ·rw [decide_eq_true h, decide_eq_true (show (1 : Int) ≤ (s.size : Int) ∧ (s.size : Int) ≤ 32 by omega), Bool.true_and]
  exact Ev.ite_pos rfl (spec_ten_chars s h.2 s.size 0 (by omega))
 ·rw [decide_eq_false h, decide_eq_false (show ¬ ((1 : Int) ≤ (s.size : Int) ∧ (s.size : Int) ≤ 32) by omega), Bool.false_and]
  exact Ev.ite_neg (by decide) (Ev.now _)
def metB (s : ByteArray) : Bool := decide (¬ s.toList = []) && (vf s == 0)
theorem spec_met (s : ByteArray) (h : s.size ≤ 1073741824) : Ev (fun k => spec_l4MetricName.f k s) (metB s) := by
 unfold spec_l4MetricName.f metB
 by_cases h0 : s.toList = []
 ·rw [decide_eq_false (fun h => h h0)]
  exact Ev.ite_pos h0 (Ev.now _)
 ·rw [decide_eq_true h0, Bool.true_and]
  exact Ev.ite_neg h0 (Ev.bind (spec_value s h) (Ev.now _))
theorem impl_met (s : ByteArray) (h : s.size ≤ 1073741824) : impl_isMetric.f s = some (metB s) := by
 unfold impl_isMetric.f metB
 by_cases h0 : s.toList = []
 ·rw [decide_eq_false (fun h => h h0), if_pos h0]; rfl
 ·rw [decide_eq_true h0, Bool.true_and, if_neg h0]
  unfold impl_valueFault.f
  rw [if_pos (by omega)]
  rfl
def idleB (a : Int) (m : List Ml) (s : List Sr) : Bool := decide (a = -1) && (decide (m.length = 0) && decide (s.length = 0))
theorem spec_idle (n : ByteArray) (a : Int) (m : List Ml) (s : List Sr) : spec_l4Idle.f n a m s = some (idleB a m s) := by
 unfold spec_l4Idle.f idleB
 by_cases h1 : a = -1
 ·rw [if_pos h1, decide_eq_true h1, Bool.true_and]
  by_cases h2 : m.length = 0
  ·rw [if_pos (by omega), decide_eq_true h2, Bool.true_and]
   by_cases h3 : s.length = 0
   ·rw [decide_eq_true h3, h3]; rfl
   ·rw [decide_eq_false h3, beq_eq_false_iff_ne.2 (by omega)]
  ·rw [if_neg (by omega), decide_eq_false h2]; rfl
 ·rw [if_neg h1, decide_eq_false h1]; rfl
theorem impl_idl (n : ByteArray) (a : Int) (m : List Ml) (s : List Sr) : impl_idle.f n a m s = some (idleB a m s) :=
 (show impl_idle.f n a m s = spec_l4Idle.f n a m s from rfl).trans (spec_idle n a m s)
/-! ### keys -/
noncomputable def dec (s : ByteArray) : List S141 × Bool := if h : s.size ≤ 1048576 then KeyDec.fin s (Classical.choose (same_dec s h)) else ([], false)
theorem dec_is (s : ByteArray) (h : s.size ≤ 1048576) : ∃ l, dec s = KeyDec.fin s l ∧ Ev (fun k => impl_DecodeKey.f k s) (dec s) ∧ Ev (fun k => spec_DecodeKey.f k s) (dec s) := by
 have e : dec s = KeyDec.fin s (Classical.choose (same_dec s h)) := by unfold dec; rw [dif_pos h]
 have hs := Classical.choose_spec (same_dec s h)
 rw [← e] at hs
 exact ⟨_, e, hs⟩
noncomputable def keyB (s : ByteArray) : Bool := (dec s).2
noncomputable def metS (s : ByteArray) : ByteArray := metr (dec s).1
theorem spec_metric (s : ByteArray) (h : s.size ≤ 1048576) : Ev (fun k => spec_Metric.f k s) (metS s) := by
 obtain ⟨l, e, h1, h2⟩ := dec_is s h
 have hlen : (dec s).1.length ≤ 16 := by rw [e]; exact fin_len s l
 unfold spec_Metric.f metS
 exact Ev.bind h2 (metr_loop spec_Metric.l0 (fun k a b c => by simp only [spec_Metric.l0]) (dec s).1 (by omega) (dec s).1.length 0 (by omega))
theorem metr_ne : ∀ l : List S141, (∀ x ∈ l, keep x = true) → l.any isMet = true → ¬ (metr l).toList = []
 | [], _, h => by cases h
 | x :: l, hk, h => by
  unfold metr
  by_cases hc : x.f0.toList = ([95, 95, 110, 97, 109, 101, 95, 95] : List UInt8)
  ·rw [if_pos hc]
   have := hk x List.mem_cons_self
   unfold keep at this
   exact of_decide_eq_true this
  ·rw [if_neg hc]
   refine metr_ne l (fun y hy => hk y (List.mem_cons_of_mem _ hy)) ?_
   rw [List.any_cons, Bool.or_eq_true] at h
   rcases h with h | h
   ·unfold isMet at h
    exact absurd (of_decide_eq_true (Bool.and_eq_true_iff.1 h).2) hc
   ·exact h
theorem key_can {l : List S141} (h : ¬ (key l).toList = []) : Ok l ∧ (can l).1 = l := by
 unfold key at h
 by_cases h0 : (can l).2.1 = 0
 ·rw [if_pos h0] at h
  by_cases h1 : same (can l).1 l = true
  ·exact ⟨can_zero h0, (same_iff _ _).1 h1⟩
  ·rw [if_neg h1, ByteArray.toList_eq] at h
   exact absurd rfl h
 ·rw [if_neg h0, ByteArray.toList_eq] at h
  exact absurd rfl h
theorem keyB_met (s : ByteArray) (h : s.size ≤ 1048576) (hk : keyB s = true) : ¬ (metS s).toList = [] := by
 obtain ⟨l, e, _, _⟩ := dec_is s h
 unfold keyB at hk
 unfold metS
 rw [e] at hk ⊢
 unfold KeyDec.fin at hk ⊢
 by_cases h0 : s.toList = []
 ·rw [if_pos h0] at hk; cases hk
 ·rw [if_neg h0] at hk ⊢
  by_cases h1 : (key l).toList = s.toList
  ·rw [if_pos h1]
   obtain ⟨hok, hcan⟩ := key_can (l := l) (by rw [h1]; exact h0)
   refine metr_ne l (fun x hx => ?_) hok.2.2.2
   rw [← hcan, ok_can hok] at hx
   have hp := CanSort.order_perm (l.filter keep) (once_filter keep hok.2.2.1)
   exact (List.mem_filter.1 (hp.mem_iff.1 hx)).2
  ·rw [if_neg h1] at hk; cases hk
theorem spec_key4 (s : ByteArray) (h : s.size ≤ 1048576) : Ev (fun k => spec_l4Key.f k s) (keyB s) := by
 obtain ⟨l, e, h1, h2⟩ := dec_is s h
 unfold spec_l4Key.f
 refine Ev.bind h2 ?_
 cases hk : keyB s with
 | true =>
  refine Ev.ite_pos hk (Ev.bind (spec_metric s h) (Ev.eq (Ev.now _) ?_))
  have := keyB_met s h hk
  simpa using this
 | false => exact Ev.ite_neg (by rw [show (dec s).2 = false from hk]; decide) (Ev.now _)
theorem gate {c b : Bool} {f : Nat → Option Bool} (h : c = true → Ev f b) : Ev (fun k => if c = true then f k else some false) (c && b) := by
 cases c
 ·exact Ev.ite_neg (by decide) (Ev.now _)
 ·exact Ev.ite_pos rfl (h rfl)
theorem getD_mem {α : Type} (l : List α) (z : α) (j : Nat) (h : j < l.length) : l.getD j z ∈ l := by
 rw [List.getD_eq_getElem?_getD, List.getElem?_eq_getElem h]
 exact List.getElem_mem h
noncomputable def mlB (m : Ml) : Bool := metB m.f0 && decide (0 ≤ m.f1 ∧ m.f1 ≤ 1000000)
noncomputable def srB (win now : Int) (x : Sr) : Bool := decide (0 ≤ x.f1 ∧ x.f1 ≤ now) && (decide (now - x.f1 < win) && keyB x.f0)
noncomputable def tnB (win now : Int) (t : Tn) : Bool := TenN.ok t.f0 && (decide (-1 ≤ t.f1 ∧ t.f1 ≤ 1000000) && (!(idleB t.f1 t.f2 t.f3) && (t.f2.all mlB && (t.f3.all (srB win now) && (Rise.up (t.f2.map (·.f0)) && Rise.up (t.f3.map (·.f0)))))))
noncomputable def stB (a b c d e f now : Int) (ts : List Tn) : Bool := St.cfgB a b c d e f && (decide (0 ≤ now ∧ now ≤ 1000000000000) && (decide (ts.length ≤ 10000) && (Rise.up (ts.map (·.f0)) && ts.all (tnB a now))))
structure Sm (t : Tn) : Prop where
 n2 : t.f2.length ≤ 1048576
 n3 : t.f3.length ≤ 1048576
 z0 : t.f0.size ≤ 1048576
 z2 : ∀ m ∈ t.f2, m.f0.size ≤ 1048576
 z3 : ∀ x ∈ t.f3, x.f0.size ≤ 1048576
/-! ### the same at the calls -/
theorem ten_c (s : ByteArray) (w : World) : Calls Tryz.prog 49 #[.string s] w fun e w' => ∃ b, e = .returned (.bool b) ∧ TenN.ok s = b ∧ Drawn0 w w' := by
 obtain ⟨k, hk⟩ := (spec_ten s).rounds
 refine (spec_l4TenantName.calls k s _ w hk).mono ?_
 rintro e w' ⟨rfl, h⟩
 exact ⟨_, rfl, rfl, h⟩
theorem met_c (s : ByteArray) (hs : s.size ≤ 1048576) (w : World) : Calls Tryz.prog 51 #[.string s] w fun e w' => ∃ b, e = .returned (.bool b) ∧ metB s = b ∧ Below w.heap.size w w' := by
 obtain ⟨k, hk⟩ := (spec_met s (by omega)).rounds
 refine (spec_l4MetricName.calls k s _ w hk).mono ?_
 rintro e w' ⟨rfl, h⟩
 exact ⟨_, rfl, rfl, h⟩
theorem key_c (s : ByteArray) (hs : s.size ≤ 1048576) (w : World) : Calls Tryz.prog 52 #[.string s] w fun e w' => ∃ b, e = .returned (.bool b) ∧ keyB s = b ∧ Below w.heap.size w w' := by
 obtain ⟨k, hk⟩ := (spec_key4 s hs).rounds
 refine (spec_l4Key.calls k s _ w hk).mono ?_
 rintro e w' ⟨rfl, h⟩
 exact ⟨_, rfl, rfl, h⟩
end Go.Proofs.YtikbfjnbhogihaaGreatDoor.StOK
-- By pp.py, a program of this repo, with the kit's printer: Lean checks it.
namespace Go.Proofs.YtikbfjnbhogihaaGreatDoor.M
open Go.RowKit Go.Proofs.YtikbfjnbhogihaaGreatDoorW.PrintWords Go.Proofs.YtikbfjnbhogihaaGreatDoorW.PrintLast Go.Proofs.YtikbfjnbhogihaaGreatDoorW.PrintMore
attribute [local go_sem] max2_int min2_int max_two min_two max_three min_three max_four min_four
set_option linter.unusedVariables false
set_option linter.unusedSimpArgs false
/-! ### laws_toConfig: function 14 -/
def laws_toConfig.f (a0_0 : Int) (a0_1 : Int) (a0_2 : Int) (a0_3 : Int) (a0_4 : Int) (a0_5 : Int) : Option (Int × Int × Int × Int × Int × Int) := some (a0_0, a0_1, a0_2, a0_3, a0_4, a0_5)
set_option maxHeartbeats 8000000 in
set_option maxRecDepth 100000 in
theorem laws_toConfig.calls (a0_0 : Int) (a0_1 : Int) (a0_2 : Int) (a0_3 : Int) (a0_4 : Int) (a0_5 : Int) (r1 : Int) (r2 : Int) (r3 : Int) (r4 : Int) (r5 : Int) (r6 : Int) (w : World) (h : laws_toConfig.f a0_0 a0_1 a0_2 a0_3 a0_4 a0_5 = some (r1, r2, r3, r4, r5, r6)) :
  Calls Tryz.prog 14 #[.agg #[.int .i64 a0_0, .int .i64 a0_1, .int .i64 a0_2, .int .i64 a0_3, .int .i64 a0_4, .int .i64 a0_5]] w fun e w' => e = .returned (.agg #[.int .i64 r1, .int .i64 r2, .int .i64 r3, .int .i64 r4, .int .i64 r5, .int .i64 r6]) ∧ Below w.heap.size w w' := by
 have hu23 := Tryz.underlying23
 have hu29 := Tryz.underlying29
 have HB := Aside0.mk (Below.refl w.heap.size w)
 have H : (some (a0_0, a0_1, a0_2, a0_3, a0_4, a0_5)) = some (r1, r2, r3, r4, r5, r6) := h
 clear h
 simp only [Option.some.injEq, Prod.mk.injEq] at H
 obtain ⟨rfl, rfl, rfl, rfl, rfl, rfl⟩ := H
 go_enter Tryz.func14, Tryz.ntmps14
 go_wp2_with (first | ((with_reducible refine gate_dst (N := 1) rfl ?_); refine box_event ?hg (N := 1) ?hd (cs := #[.int .i64 a0_0, .int .i64 a0_1, .int .i64 a0_2, .int .i64 a0_3, .int .i64 a0_4, .int .i64 a0_5]) (t := 23) ?hr ?_; (case hd => rfl); (case hg => rfl); (case hr => first | (go_simp; done) | (go_simp; rfl)); intro gb179 hg w2 hbox hb; have n0_ := Aside0.mk (below_step (by repeat (first | (with_reducible first | exact HB.out | apply below_alloc | apply pw_below_drewN | apply below_drew1) | exact HB.out)) hb); have n1_ := Aside0.mk (hbox); have n2_ := Aside0.mk ((by rw [hg]; exact (below_size (by repeat (first | (with_reducible first | exact HB.out | apply below_alloc | apply pw_below_drewN | apply below_drew1) | exact HB.out))) : w.heap.size ≤ gb179)); have n3_ := Aside0.mk ((by rw [hg]; exact (below_size (by repeat (first | (with_reducible first | exact HB.out | apply below_alloc | apply pw_below_drewN | apply below_drew1) | exact HB.out))) : w.heap.size ≤ gb179)); clear HB; have HB := n0_; have BK179 := n1_; have GW179 := n2_; have GE179 := n3_; clear n0_ n1_ n2_ n3_; clear hb hbox hg) | ((with_reducible refine gate_dst (N := 2) rfl ?_); refine box_event ?hg (N := 2) ?hd (cs := #[.int .i64 0, .int .i64 0, .int .i64 0, .int .i64 0, .int .i64 0, .int .i64 0]) (t := 29) ?hr ?_; (case hd => rfl); (case hg => rfl); (case hr => first | (go_simp; done) | (go_simp; rfl)); intro gb180 hg w3 hbox hb; have n0_ := Aside0.mk (blk_below (g := gb179) (o := .cells #[.int .i64 a0_0, .int .i64 a0_1, .int .i64 a0_2, .int .i64 a0_3, .int .i64 a0_4, .int .i64 a0_5] 23 (0, 0)) (by (with_reducible repeat (first | refine blk_drewN ?_ _ | refine blk_drew ?_ | refine blk_alloc ?_ _)); exact BK179.out) hb); have n1_ := Aside0.mk (below_step (by repeat (first | (with_reducible first | exact HB.out | apply below_alloc | apply pw_below_drewN | apply below_drew1 | refine below_set ?_ GE179.out) | exact HB.out)) hb); have n2_ := Aside0.mk (hbox); have n3_ := Aside0.mk ((by rw [hg]; exact (below_size (by repeat (first | (with_reducible first | exact HB.out | apply below_alloc | apply pw_below_drewN | apply below_drew1 | refine below_set ?_ GE179.out) | exact HB.out))) : w.heap.size ≤ gb180)); have n4_ := Aside0.mk ((by rw [hg]; exact (below_size (by repeat (first | (with_reducible first | exact HB.out | apply below_alloc | apply pw_below_drewN | apply below_drew1 | refine below_set ?_ GE179.out) | exact HB.out))) : w.heap.size ≤ gb180)); have n5_ := Aside0.mk ((by rw [hg]; exact Nat.ne_of_lt (blk_lt (g := gb179) (o := .cells #[.int .i64 a0_0, .int .i64 a0_1, .int .i64 a0_2, .int .i64 a0_3, .int .i64 a0_4, .int .i64 a0_5] 23 (0, 0)) (by (with_reducible repeat (first | refine blk_drewN ?_ _ | refine blk_drew ?_ | refine blk_alloc ?_ _)); exact BK179.out)) : gb179 ≠ gb180)); have n6_ := Aside0.mk ((by rw [hg]; exact Nat.ne_of_gt (blk_lt (g := gb179) (o := .cells #[.int .i64 a0_0, .int .i64 a0_1, .int .i64 a0_2, .int .i64 a0_3, .int .i64 a0_4, .int .i64 a0_5] 23 (0, 0)) (by (with_reducible repeat (first | refine blk_drewN ?_ _ | refine blk_drew ?_ | refine blk_alloc ?_ _)); exact BK179.out)) : gb180 ≠ gb179)); clear BK179; clear HB; have BK179 := n0_; have HB := n1_; have BK180 := n2_; have GW180 := n3_; have GE180 := n4_; have NB179_180 := n5_; have NB180_179 := n6_; clear n0_ n1_ n2_ n3_ n4_ n5_ n6_; clear hb hbox hg) | ((with_reducible refine gate_dst (N := 3) rfl ?_); refine box_event ?hg (N := 3) ?hd (cs := #[.int .i64 0, .int .i64 0, .int .i64 0, .int .i64 0, .int .i64 0, .int .i64 0]) (t := 29) ?hr ?_; (case hd => rfl); (case hg => rfl); (case hr => first | (go_simp; done) | (go_simp; rfl)); intro gb181 hg w4 hbox hb; have n0_ := Aside0.mk (blk_below (g := gb179) (o := .cells #[.int .i64 a0_0, .int .i64 a0_1, .int .i64 a0_2, .int .i64 a0_3, .int .i64 a0_4, .int .i64 a0_5] 23 (0, 0)) (by (with_reducible repeat (first | refine blk_drewN ?_ _ | refine blk_drew ?_ | refine blk_alloc ?_ _)); exact BK179.out) hb); have n1_ := Aside0.mk (blk_below (g := gb180) (o := .cells #[.int .i64 0, .int .i64 0, .int .i64 0, .int .i64 0, .int .i64 0, .int .i64 0] 29 (0, 0)) (by (with_reducible repeat (first | refine blk_drewN ?_ _ | refine blk_drew ?_ | refine blk_alloc ?_ _)); exact BK180.out) hb); have n2_ := Aside0.mk (below_step (by repeat (first | (with_reducible first | exact HB.out | apply below_alloc | apply pw_below_drewN | apply below_drew1 | refine below_set ?_ GE179.out | refine below_set ?_ GE180.out) | exact HB.out)) hb); have n3_ := Aside0.mk (hbox); have n4_ := Aside0.mk ((by rw [hg]; exact (below_size (by repeat (first | (with_reducible first | exact HB.out | apply below_alloc | apply pw_below_drewN | apply below_drew1 | refine below_set ?_ GE179.out | refine below_set ?_ GE180.out) | exact HB.out))) : w.heap.size ≤ gb181)); have n5_ := Aside0.mk ((by rw [hg]; exact (below_size (by repeat (first | (with_reducible first | exact HB.out | apply below_alloc | apply pw_below_drewN | apply below_drew1 | refine below_set ?_ GE179.out | refine below_set ?_ GE180.out) | exact HB.out))) : w.heap.size ≤ gb181)); have n6_ := Aside0.mk ((by rw [hg]; exact Nat.ne_of_lt (blk_lt (g := gb179) (o := .cells #[.int .i64 a0_0, .int .i64 a0_1, .int .i64 a0_2, .int .i64 a0_3, .int .i64 a0_4, .int .i64 a0_5] 23 (0, 0)) (by (with_reducible repeat (first | refine blk_drewN ?_ _ | refine blk_drew ?_ | refine blk_alloc ?_ _)); exact BK179.out)) : gb179 ≠ gb181)); have n7_ := Aside0.mk ((by rw [hg]; exact Nat.ne_of_gt (blk_lt (g := gb179) (o := .cells #[.int .i64 a0_0, .int .i64 a0_1, .int .i64 a0_2, .int .i64 a0_3, .int .i64 a0_4, .int .i64 a0_5] 23 (0, 0)) (by (with_reducible repeat (first | refine blk_drewN ?_ _ | refine blk_drew ?_ | refine blk_alloc ?_ _)); exact BK179.out)) : gb181 ≠ gb179)); have n8_ := Aside0.mk ((by rw [hg]; exact Nat.ne_of_lt (blk_lt (g := gb180) (o := .cells #[.int .i64 0, .int .i64 0, .int .i64 0, .int .i64 0, .int .i64 0, .int .i64 0] 29 (0, 0)) (by (with_reducible repeat (first | refine blk_drewN ?_ _ | refine blk_drew ?_ | refine blk_alloc ?_ _)); exact BK180.out)) : gb180 ≠ gb181)); have n9_ := Aside0.mk ((by rw [hg]; exact Nat.ne_of_gt (blk_lt (g := gb180) (o := .cells #[.int .i64 0, .int .i64 0, .int .i64 0, .int .i64 0, .int .i64 0, .int .i64 0] 29 (0, 0)) (by (with_reducible repeat (first | refine blk_drewN ?_ _ | refine blk_drew ?_ | refine blk_alloc ?_ _)); exact BK180.out)) : gb181 ≠ gb180)); clear BK179; clear BK180; clear HB; have BK179 := n0_; have BK180 := n1_; have HB := n2_; have BK181 := n3_; have GW181 := n4_; have GE181 := n5_; have NB179_181 := n6_; have NB181_179 := n7_; have NB180_181 := n8_; have NB181_180 := n9_; clear n0_ n1_ n2_ n3_ n4_ n5_ n6_ n7_ n8_ n9_; clear hb hbox hg; have hnb5 := NB179_180.out; have hnc5 := NB180_179.out; have hnb6 := NB179_181.out; have hnc6 := NB181_179.out; have hcz7_0 : w4.cell? ⟨gb179, 0, none⟩ = some (.int .i64 a0_0) := (blk_cell BK179.out 0).trans rfl; have hcz7_1 : w4.cell? ⟨gb179, 1, none⟩ = some (.int .i64 a0_1) := (blk_cell BK179.out 1).trans rfl; have hcz7_2 : w4.cell? ⟨gb179, 2, none⟩ = some (.int .i64 a0_2) := (blk_cell BK179.out 2).trans rfl; have hcz7_3 : w4.cell? ⟨gb179, 3, none⟩ = some (.int .i64 a0_3) := (blk_cell BK179.out 3).trans rfl; have hcz7_4 : w4.cell? ⟨gb179, 4, none⟩ = some (.int .i64 a0_4) := (blk_cell BK179.out 4).trans rfl; have hcz7_5 : w4.cell? ⟨gb179, 5, none⟩ = some (.int .i64 a0_5) := (blk_cell BK179.out 5).trans rfl; have hfz7_0 := blk_frozen BK179.out 0; have hfz7_1 := blk_frozen BK179.out 1; have hfz7_2 := blk_frozen BK179.out 2; have hfz7_3 := blk_frozen BK179.out 3; have hfz7_4 := blk_frozen BK179.out 4; have hfz7_5 := blk_frozen BK179.out 5; have hnb8 := NB181_180.out; have hnc8 := NB180_181.out; have hcz9_0 : w4.cell? ⟨gb181, 0, none⟩ = some (.int .i64 0) := (blk_cell BK181.out 0).trans rfl; have hcz9_1 : w4.cell? ⟨gb181, 1, none⟩ = some (.int .i64 0) := (blk_cell BK181.out 1).trans rfl; have hcz9_2 : w4.cell? ⟨gb181, 2, none⟩ = some (.int .i64 0) := (blk_cell BK181.out 2).trans rfl; have hcz9_3 : w4.cell? ⟨gb181, 3, none⟩ = some (.int .i64 0) := (blk_cell BK181.out 3).trans rfl; have hcz9_4 : w4.cell? ⟨gb181, 4, none⟩ = some (.int .i64 0) := (blk_cell BK181.out 4).trans rfl; have hcz9_5 : w4.cell? ⟨gb181, 5, none⟩ = some (.int .i64 0) := (blk_cell BK181.out 5).trans rfl; have hfz9_0 := blk_frozen BK181.out 0; have hfz9_1 := blk_frozen BK181.out 1; have hfz9_2 := blk_frozen BK181.out 2; have hfz9_3 := blk_frozen BK181.out 3; have hfz9_4 := blk_frozen BK181.out 4; have hfz9_5 := blk_frozen BK181.out 5; have hcz10_0 : w4.cell? ⟨gb180, 0, none⟩ = some (.int .i64 0) := (blk_cell BK180.out 0).trans rfl; have hcz10_1 : w4.cell? ⟨gb180, 1, none⟩ = some (.int .i64 0) := (blk_cell BK180.out 1).trans rfl; have hcz10_2 : w4.cell? ⟨gb180, 2, none⟩ = some (.int .i64 0) := (blk_cell BK180.out 2).trans rfl; have hcz10_3 : w4.cell? ⟨gb180, 3, none⟩ = some (.int .i64 0) := (blk_cell BK180.out 3).trans rfl; have hcz10_4 : w4.cell? ⟨gb180, 4, none⟩ = some (.int .i64 0) := (blk_cell BK180.out 4).trans rfl; have hcz10_5 : w4.cell? ⟨gb180, 5, none⟩ = some (.int .i64 0) := (blk_cell BK180.out 5).trans rfl; have hfz10_0 := blk_frozen BK180.out 0; have hfz10_1 := blk_frozen BK180.out 1; have hfz10_2 := blk_frozen BK180.out 2; have hfz10_3 := blk_frozen BK180.out 3; have hfz10_4 := blk_frozen BK180.out 4; have hfz10_5 := blk_frozen BK180.out 5))
 refine bodyPost_ret (results_cell_row rfl _ _ gb180 29 #[.int .i64 a0_0, .int .i64 a0_1, .int .i64 a0_2, .int .i64 a0_3, .int .i64 a0_4, .int .i64 a0_5] (0, 0) _ rfl (by (with_reducible repeat (first | refine blk_drewN ?_ _ | refine blk_drew ?_ | refine blk_alloc ?_ _)); refine blk_put (cs := #[.int .i64 a0_0, .int .i64 a0_1, .int .i64 a0_2, .int .i64 a0_3, .int .i64 a0_4, .int .i64 0]) ?_ 5 _ rfl; (with_reducible repeat (first | refine blk_drewN ?_ _ | refine blk_drew ?_ | refine blk_alloc ?_ _)); refine blk_put (cs := #[.int .i64 a0_0, .int .i64 a0_1, .int .i64 a0_2, .int .i64 a0_3, .int .i64 0, .int .i64 0]) ?_ 4 _ rfl; (with_reducible repeat (first | refine blk_drewN ?_ _ | refine blk_drew ?_ | refine blk_alloc ?_ _)); refine blk_put (cs := #[.int .i64 a0_0, .int .i64 a0_1, .int .i64 a0_2, .int .i64 0, .int .i64 0, .int .i64 0]) ?_ 3 _ rfl; (with_reducible repeat (first | refine blk_drewN ?_ _ | refine blk_drew ?_ | refine blk_alloc ?_ _)); refine blk_put (cs := #[.int .i64 a0_0, .int .i64 a0_1, .int .i64 0, .int .i64 0, .int .i64 0, .int .i64 0]) ?_ 2 _ rfl; (with_reducible repeat (first | refine blk_drewN ?_ _ | refine blk_drew ?_ | refine blk_alloc ?_ _)); refine blk_put (cs := #[.int .i64 a0_0, .int .i64 0, .int .i64 0, .int .i64 0, .int .i64 0, .int .i64 0]) ?_ 1 _ rfl; (with_reducible repeat (first | refine blk_drewN ?_ _ | refine blk_drew ?_ | refine blk_alloc ?_ _)); refine blk_put (cs := #[.int .i64 0, .int .i64 0, .int .i64 0, .int .i64 0, .int .i64 0, .int .i64 0]) ?_ 0 _ rfl; (with_reducible repeat (first | refine blk_drewN ?_ _ | refine blk_drew ?_ | refine blk_alloc ?_ _)); refine blk_far ?_ NB180_181.out _; (with_reducible repeat (first | refine blk_drewN ?_ _ | refine blk_drew ?_ | refine blk_alloc ?_ _)); refine blk_far ?_ NB180_181.out _; (with_reducible repeat (first | refine blk_drewN ?_ _ | refine blk_drew ?_ | refine blk_alloc ?_ _)); refine blk_far ?_ NB180_181.out _; (with_reducible repeat (first | refine blk_drewN ?_ _ | refine blk_drew ?_ | refine blk_alloc ?_ _)); refine blk_far ?_ NB180_181.out _; (with_reducible repeat (first | refine blk_drewN ?_ _ | refine blk_drew ?_ | refine blk_alloc ?_ _)); refine blk_far ?_ NB180_181.out _; (with_reducible repeat (first | refine blk_drewN ?_ _ | refine blk_drew ?_ | refine blk_alloc ?_ _)); refine blk_far ?_ NB180_181.out _; (with_reducible repeat (first | refine blk_drewN ?_ _ | refine blk_drew ?_ | refine blk_alloc ?_ _)); exact BK180.out) Tryz.underlying29 rfl (by kernel_rfl)) rfl ?_
 exact ⟨by first | rfl | (simp [errW_none, errW_some] <;> rfl) | (simp [*, errW_none, errW_some] <;> rfl), by repeat (first | (with_reducible first | exact HB.out | apply below_alloc | apply pw_below_drewN | apply below_drew1 | refine below_set ?_ GE179.out | refine below_set ?_ GE180.out | refine below_set ?_ GE181.out) | exact HB.out)⟩
end Go.Proofs.YtikbfjnbhogihaaGreatDoor.M
