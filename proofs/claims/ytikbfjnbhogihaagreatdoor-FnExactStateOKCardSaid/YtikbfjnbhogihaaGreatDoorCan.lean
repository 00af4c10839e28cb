/- Some of this seat's texts, joined by prune.py. -/
import Derived.Test.YtikbfjnbhogihaaGreatDoorS0
import Derived.Test.YtikbfjnbhogihaaGreatDoorShelf
import Derived.Test.YtikbfjnbhogihaaGreatDoorLoops
import Derived.Test.YtikbfjnbhogihaaGreatDoorF91
import Derived.Test.YtikbfjnbhogihaaGreatDoorF92
import Derived.Test.YtikbfjnbhogihaaGreatDoorF176
import Derived.Test.YtikbfjnbhogihaaGreatDoorM0
/- Labels in canonical form: what both compute. Plain. -/
namespace Go.Proofs.YtikbfjnbhogihaaGreatDoor.Can
open Go.Proofs.YtikbfjnbhogihaaGreatDoor.M Go.Proofs.YtikbfjnbhogihaaGreatDoor.Loops Go.Proofs.YtikbfjnbhogihaaGreatDoor.CanSort Go.Proofs.YtikbfjnbhogihaaGreatDoor.Utf Go.Proofs.YtikbfjnbhogihaaGreatDoorW.PrintWords Go.Proofs.YtikbfjnbhogihaaGreatDoorW.PrintLast Go.Proofs.YtikbfjnbhogihaaGreatDoorW.PrintMore Go.RowKit
def chr (i : Nat) (c : Int) : Bool := decide (65 ≤ c ∧ c ≤ 90 ∨ 97 ≤ c ∧ c ≤ 122 ∨ c = 95 ∨ (48 ≤ c ∧ c ≤ 57 ∧ 0 < i))
def chars (s : ByteArray) : Nat → Bool
 | 0 => true
 | n + 1 => chr (s.size - (n + 1)) (bt s ((s.size - (n + 1) : Nat) : Int)) && chars s n
def nameOK (s : ByteArray) : Bool := decide (1 ≤ s.size ∧ s.size ≤ 64) && chars s s.size
def fault (x : Lb) : Int := if nameOK x.f0 = true then vf x.f1 else 41
def firstF : List Lb → Nat → Option (Int × Nat)
 | [], _ => none
 | x :: l, i => if fault x = 0 then firstF l (i + 1) else some (fault x, i)
def named (x : Lb) (b : Lb) : Bool := decide (b.f0.toList = x.f0.toList)
def firstT : List Lb → List Lb → Option Nat
 | _, [] => none
 | before, x :: l => if before.any (named x) = true then some before.length else firstT (before ++ [x]) l
def keep (x : Lb) : Bool := decide (¬ x.f1.toList = [])
def isMet (x : Lb) : Bool := keep x && decide (x.f0.toList = [95, 95, 110, 97, 109, 101, 95, 95])
def can (l : List Lb) : List Lb × Int × Int :=
 if 16 < l.length then ([], 40, 0) else match firstF l 0 with
 | some (c, i) => ([], c, (i : Int))
 | none => match firstT [] l with
  | some i => ([], 45, (i : Int))
  | none => if l.any isMet = true then (order (l.filter keep), 0, 0) else ([], 46, 0)
def Fit (l : List Lb) : Prop := ∀ x ∈ l, x.f0.size ≤ 1073741824 ∧ x.f1.size ≤ 1073741824
theorem can_many {l : List Lb} (h : 16 < l.length) : can l = ([], 40, 0) := by unfold can; rw [if_pos h]
theorem can_fault {l : List Lb} {c : Int} {i : Nat} (h : ¬ 16 < l.length) (h2 : firstF l 0 = some (c, i)) : can l = ([], c, (i : Int)) := by unfold can; rw [if_neg h, h2]
theorem can_twice {l : List Lb} {i : Nat} (h : ¬ 16 < l.length) (h2 : firstF l 0 = none) (h3 : firstT [] l = some i) : can l = ([], 45, (i : Int)) := by unfold can; rw [if_neg h, h2, h3]
theorem can_none {l : List Lb} (h : ¬ 16 < l.length) (h2 : firstF l 0 = none) (h3 : firstT [] l = none) (h4 : l.any isMet = false) : can l = ([], 46, 0) := by unfold can; rw [if_neg h, h2, h3]; simp [h4]
theorem can_good {l : List Lb} (h : ¬ 16 < l.length) (h2 : firstF l 0 = none) (h3 : firstT [] l = none) (h4 : l.any isMet = true) : can l = (order (l.filter keep), 0, 0) := by unfold can; rw [if_neg h, h2, h3]; simp [h4]
theorem firstF_ok {x : Lb} {l : List Lb} {i : Nat} (h : fault x = 0) : firstF (x :: l) i = firstF l (i + 1) := by conv => lhs; unfold firstF; rw [if_pos h]
theorem firstF_bad {x : Lb} {l : List Lb} {i : Nat} (h : ¬ fault x = 0) : firstF (x :: l) i = some (fault x, i) := by conv => lhs; unfold firstF; rw [if_neg h]
theorem firstT_no {b : List Lb} {x : Lb} {l : List Lb} (h : b.any (named x) = false) : firstT b (x :: l) = firstT (b ++ [x]) l := by conv => lhs; unfold firstT; rw [h]; simp
theorem firstT_yes {b : List Lb} {x : Lb} {l : List Lb} (h : b.any (named x) = true) : firstT b (x :: l) = some b.length := by conv => lhs; unfold firstT; rw [h]; simp
theorem once_of : ∀ (l b : List Lb), firstT b l = none → Once b → Once (b ++ l)
 | [], b, _, hb => by simpa using hb
 | x :: l, b, h, hb => by
  cases hx : b.any (named x) with
  | true => rw [firstT_yes hx] at h; cases h
  | false =>
   rw [firstT_no hx] at h
   have h2 : Once (b ++ [x]) := by
    unfold Once at hb ⊢
    rw [List.pairwise_append]
    refine ⟨hb, by simp, fun a ha c hc => ?_⟩
    rw [List.mem_singleton] at hc
    subst hc
    intro e
    rw [List.any_eq_false] at hx
    exact hx a ha (by unfold named; exact decide_eq_true e)
   have := once_of l (b ++ [x]) h h2
   simpa using this
theorem once_all {l : List Lb} (h : firstT [] l = none) : Once l := by
 have := once_of l [] h (by unfold Once; simp)
 simpa using this
theorem once_filter {l : List Lb} (p : Lb → Bool) (h : Once l) : Once (l.filter p) := by unfold Once at h ⊢; exact h.filter _
/-! ### names -/
theorem impl_chars (s : ByteArray) (hz : s.size ≤ 64) : ∀ n j, j + n = s.size → Ev (fun k => impl_isName.l0 k s (s.size : Int) j) (chars s n) := by
 intro n
 induction n with
 | zero =>
  intro j hj
  refine Ev.step (f := fun _ => some _) (fun k => by simp only [impl_isName.l0]; rw [if_neg (by omega)]; rfl) (Ev.now _)
 | succ n ih =>
  intro j hj
  have hb := bt_range s (j : Int)
  have e : s.size - (n + 1) = j := by omega
  have hn := ih (j + 1) (by omega)
  have yes : chr j (bt s (j : Int)) = true → chars s (n + 1) = chars s n := fun h => (show chars s (n + 1) = (chr (s.size - (n + 1)) (bt s ((s.size - (n + 1) : Nat) : Int)) && chars s n) from rfl).trans (by rw [e, h]; rfl)
  have no : chr j (bt s (j : Int)) = false → chars s (n + 1) = false := fun h => (show chars s (n + 1) = (chr (s.size - (n + 1)) (bt s ((s.size - (n + 1) : Nat) : Int)) && chars s n) from rfl).trans (by rw [e, h]; rfl)
  have hw : wrap64 ((j : Int) + 1) = ((j + 1 : Nat) : Int) := w_succ j (by omega)
  cases hc : chr j (bt s (j : Int)) with
  | true =>
   rw [yes hc]
   refine Ev.step (fun k => ?_) hn
   unfold chr at hc
   have hc := of_decide_eq_true hc
   simp only [impl_isName.l0]
   rw [hw, if_pos (by omega), if_pos (by omega), if_pos (by omega)]
   generalize bt s (j : Int) = c at hb hc ⊢
   repeat' split
   all_goals first | rfl | (exfalso; omega)
  | false =>
   rw [no hc]
   refine Ev.step (f := fun _ => some false) (fun k => ?_) (Ev.now _)
   unfold chr at hc
   have hc := of_decide_eq_false hc
   simp only [impl_isName.l0]
   rw [hw, if_pos (by omega), if_pos (by omega), if_pos (by omega)]
   generalize bt s (j : Int) = c at hb hc ⊢
   repeat' split
   all_goals first | rfl | (exfalso; omega)
theorem size_zero {a : ByteArray} : a.toList = [] ↔ a.size = 0 := by
 rw [ByteArray.toList_eq]
 constructor
 ·intro h
  have : a.data.toList.length = 0 := by rw [h]; rfl
  exact this
 ·intro h
  exact List.length_eq_zero_iff.1 h
theorem impl_name (s : ByteArray) : Ev (fun k => impl_isName.f k s) (nameOK s) := by
 unfold impl_isName.f nameOK
 by_cases h0 : s.toList = []
 ·have := size_zero.1 h0
  refine Ev.ite_pos h0 (Ev.eq (Ev.now _) ?_)
  rw [decide_eq_false (by omega)]; rfl
 ·have h1 : ¬ s.size = 0 := fun h => h0 (size_zero.2 h)
  by_cases h2 : (s.size : Int) > 64
  ·refine Ev.ite_neg h0 (Ev.ite_pos h2 (Ev.eq (Ev.now _) ?_))
   rw [decide_eq_false (by omega)]; rfl
  ·refine Ev.ite_neg h0 (Ev.ite_neg h2 (Ev.eq (impl_chars s (by omega) s.size 0 (by omega)) ?_))
   rw [decide_eq_true (by omega)]; rfl
theorem spec_chars (s : ByteArray) (hz : s.size ≤ 64) (hd : ¬ (48 ≤ bt s 0 ∧ bt s 0 ≤ 57)) : ∀ n j, j + n = s.size → Ev (fun k => spec_l3NameOK.l0 k s j) (chars s n) := by
 intro n
 induction n with
 | zero =>
  intro j hj
  refine Ev.step (f := fun _ => some _) (fun k => by simp only [spec_l3NameOK.l0]; rw [if_neg (by omega)]; rfl) (Ev.now _)
 | succ n ih =>
  intro j hj
  have hb := bt_range s (j : Int)
  have e : s.size - (n + 1) = j := by omega
  have hn := ih (j + 1) (by omega)
  have yes : chr j (bt s (j : Int)) = true → chars s (n + 1) = chars s n := fun h => (show chars s (n + 1) = (chr (s.size - (n + 1)) (bt s ((s.size - (n + 1) : Nat) : Int)) && chars s n) from rfl).trans (by rw [e, h]; rfl)
  have no : chr j (bt s (j : Int)) = false → chars s (n + 1) = false := fun h => (show chars s (n + 1) = (chr (s.size - (n + 1)) (bt s ((s.size - (n + 1) : Nat) : Int)) && chars s n) from rfl).trans (by rw [e, h]; rfl)
  have hw : wrap64 ((j : Int) + 1) = ((j + 1 : Nat) : Int) := w_succ j (by omega)
  have hd' : j = 0 → ¬ (48 ≤ bt s (j : Int) ∧ bt s (j : Int) ≤ 57) := fun h => by subst h; exact hd
  cases hc : chr j (bt s (j : Int)) with
  | true =>
   rw [yes hc]
   refine Ev.step (fun k => ?_) hn
   unfold chr at hc
   have hc := of_decide_eq_true hc
   simp only [spec_l3NameOK.l0]
   rw [hw, if_pos (by omega), if_pos (by omega)]
   generalize bt s (j : Int) = c at hb hc hd' ⊢
   repeat' split
   all_goals first | rfl | (exfalso; omega)
  | false =>
   rw [no hc]
   refine Ev.step (f := fun _ => some false) (fun k => ?_) (Ev.now _)
   unfold chr at hc
   have hc := of_decide_eq_false hc
   simp only [spec_l3NameOK.l0]
   rw [hw, if_pos (by omega), if_pos (by omega)]
   generalize bt s (j : Int) = c at hb hc hd' ⊢
   repeat' split
   all_goals first | rfl | (exfalso; omega)
theorem spec_name (s : ByteArray) : Ev (fun k => spec_l3NameOK.f k s) (nameOK s) := by
 have stop : ∀ c, c = true → Ev (fun k => spec_l3NameOK.j0 k s c) false := by
  rintro c rfl
  exact Ev.step (f := fun _ => some false) (fun k => by simp only [spec_l3NameOK.j0, if_true]) (Ev.now _)
 have bet : spec_l1Between.f (s.size : Int) 1 64 = some (decide (1 ≤ s.size ∧ s.size ≤ 64)) := by
  unfold spec_l1Between.f
  split
  ·congr 1; rw [Bool.eq_iff_iff, decide_eq_true_eq, decide_eq_true_eq]; omega
  ·rw [decide_eq_false (by omega)]
 unfold spec_l3NameOK.f nameOK
 rw [bet]
 simp only [Option.bind_some]
 by_cases h : 1 ≤ s.size ∧ s.size ≤ 64
 ·rw [decide_eq_true h]
  simp only [if_true, Bool.true_and]
  refine Ev.ite_pos (by omega) ?_
  have first : 48 ≤ bt s 0 ∧ bt s 0 ≤ 57 → chars s s.size = false := by
   intro hd
   obtain ⟨n, hn⟩ : ∃ n, s.size = n + 1 := ⟨s.size - 1, by omega⟩
   rw [hn]
   unfold chars
   rw [show s.size - (n + 1) = 0 by omega]
   have : chr 0 (bt s ((0 : Nat) : Int)) = false := by
    unfold chr
    apply decide_eq_false
    have h2 : bt s ((0 : Nat) : Int) = bt s 0 := rfl
    rw [h2]
    omega
   rw [this]; rfl
  have go : ¬ (48 ≤ bt s 0 ∧ bt s 0 ≤ 57) → Ev (fun k => spec_l3NameOK.j0 k s false) (chars s s.size) := fun hd =>
   Ev.step (fun k => by simp only [spec_l3NameOK.j0, Bool.false_eq_true, if_false]; rfl) (spec_chars s h.2 hd s.size 0 (by omega))
  by_cases h48 : bt s 0 ≥ 48
  ·refine Ev.ite_pos h48 ?_
   by_cases h57 : bt s 0 ≤ 57
   ·rw [first ⟨h48, h57⟩]
    exact stop _ (decide_eq_true h57)
   ·rw [decide_eq_false h57]
    exact go (by omega)
  ·exact Ev.ite_neg h48 (go (by omega))
 ·rw [decide_eq_false h]
  simp only [Bool.false_eq_true, if_false, Bool.false_and]
  exact stop true rfl
end Go.Proofs.YtikbfjnbhogihaaGreatDoor.Can
-- By pp.py, a program of this repo, with the kit's printer: Lean checks it.
namespace Go.Proofs.YtikbfjnbhogihaaGreatDoor.M
open Go.RowKit Go.Proofs.YtikbfjnbhogihaaGreatDoorW.PrintWords Go.Proofs.YtikbfjnbhogihaaGreatDoorW.PrintLast Go.Proofs.YtikbfjnbhogihaaGreatDoorW.PrintMore
attribute [local go_sem] max2_int min2_int max_two min_two max_three min_three max_four min_four
set_option linter.unusedVariables false
set_option linter.unusedSimpArgs false
/-! ### spec_l2Num: function 94 -/
mutual
def spec_l2Num.l0 : Nat → Int → List Int → Int → Option (ByteArray)
 | 0, _, _, _ => none
 | k + 1, x1, x5, x6 => if x6 ≥ 0 then (spec_l2Num.l1 k x1 x5 x6 x1 0) else (some (strOfNums x5))
def spec_l2Num.l1 : Nat → Int → List Int → Int → Int → Int → Option (ByteArray)
 | 0, _, _, _, _, _ => none
 | k + 1, x1, x5, x6, x7, x8 => if x8 < x6 then (spec_l2Num.l1 k x1 x5 x6 (x7 / 256) (wrap64 (x8 + 1))) else (if x5.length < 140737488355328 then (spec_l2Num.l0 k x1 (x5 ++ [(x7) % 256]) (wrap64 (x6 - 1))) else (none))
end
def spec_l2Num.f (k : Nat) (a0 : Int) (a1 : Int) : Option (ByteArray) := spec_l2Num.l0 k a1 (([] : List Int)) (wrap64 (a0 - 1))
theorem spec_l2Num.mono_l : ∀ k, (∀ y0 y1 y2, LeO (spec_l2Num.l0 k y0 y1 y2) (spec_l2Num.l0 (k + 1) y0 y1 y2)) ∧ (∀ y0 y1 y2 y3 y4, LeO (spec_l2Num.l1 k y0 y1 y2 y3 y4) (spec_l2Num.l1 (k + 1) y0 y1 y2 y3 y4))
 | 0 => ⟨fun _ _ _ r h => by simp [spec_l2Num.l0] at h, fun _ _ _ _ _ r h => by simp [spec_l2Num.l1] at h⟩
 | k + 1 => by
  obtain ⟨ih0, ih1⟩ := spec_l2Num.mono_l k
  refine ⟨?_, ?_⟩
  ·intro y0 y1 y2
   unfold spec_l2Num.l0
   repeat' first
   | (with_reducible exact ih0 _ _ _)
   | (with_reducible exact ih1 _ _ _ _ _)
   | (with_reducible exact LeO.refl _)
   | (with_reducible exact LeO.none _)
   | (with_reducible refine LeO.ite ?_ ?_)
   | (with_reducible refine LeO.bind ?_ (fun _ => ?_))
   | exact ih0 _ _ _
   | exact ih1 _ _ _ _ _
   | exact LeO.none _
   | refine LeO.ite ?_ ?_
   | refine LeO.bind ?_ (fun _ => ?_)
  ·intro y0 y1 y2 y3 y4
   unfold spec_l2Num.l1
   repeat' first
   | (with_reducible exact ih0 _ _ _)
   | (with_reducible exact ih1 _ _ _ _ _)
   | (with_reducible exact LeO.refl _)
   | (with_reducible exact LeO.none _)
   | (with_reducible refine LeO.ite ?_ ?_)
   | (with_reducible refine LeO.bind ?_ (fun _ => ?_))
   | exact ih0 _ _ _
   | exact ih1 _ _ _ _ _
   | exact LeO.none _
   | refine LeO.ite ?_ ?_
   | refine LeO.bind ?_ (fun _ => ?_)
theorem spec_l2Num.mono : ∀ a0 a1 k, LeO (spec_l2Num.f k a0 a1) (spec_l2Num.f (k + 1) a0 a1) := by
 intro a0 a1 k
 obtain ⟨ih0, ih1⟩ := spec_l2Num.mono_l k
 unfold spec_l2Num.f
 repeat' first
   | (with_reducible exact ih0 _ _ _)
   | (with_reducible exact ih1 _ _ _ _ _)
   | (with_reducible exact LeO.refl _)
   | (with_reducible exact LeO.none _)
   | (with_reducible refine LeO.ite ?_ ?_)
   | (with_reducible refine LeO.bind ?_ (fun _ => ?_))
   | exact ih0 _ _ _
   | exact ih1 _ _ _ _ _
   | exact LeO.none _
   | refine LeO.ite ?_ ?_
   | refine LeO.bind ?_ (fun _ => ?_)
set_option maxHeartbeats 8000000 in
set_option maxRecDepth 100000 in
theorem spec_l2Num.calls (k : Nat) (a0 : Int) (a1 : Int) (r : ByteArray) (w : World) (h : spec_l2Num.f k a0 a1 = some r) :
  Calls Tryz.prog 94 #[.int .i64 a0, .int .i64 a1] w fun e w' => e = .returned (.string r) ∧ Below w.heap.size w w' := by
 have HB := Aside0.mk (Below.refl w.heap.size w)
 have H : (spec_l2Num.l0 k a1 (([] : List Int)) (wrap64 (a0 - 1))) = some r := h
 clear h
 obtain ⟨y131, hy131⟩ : ∃ y_ : List Int, y_ = (([] : List Int)) := ⟨_, rfl⟩
 replace H : (spec_l2Num.l0 k a1 y131 (wrap64 (a0 - 1))) = some r := by first | (rw [hy131]; with_reducible exact H) | (have H2_ := (Option.bind_some _ _).symm.trans H; rw [hy131]; with_reducible exact H2_) | (have H2_ := (Option.bind_some _ _).symm.trans H; with_reducible exact H2_) | with_reducible exact H | (rw [hy131]; exact H) | exact H
 have Ny131 := Aside0.mk hy131
 clear hy131
 have H' := Aside0.mk H
 clear H
 go_enter Tryz.func94, Tryz.ntmps94
 go_wp2_with (first | ((with_reducible refine gate_dst (N := 9) rfl ?_); refine Kd.R_lit (Kd.int .u8) _ 5 ?hg (N := 9) ?hd (xs := ([] : List Int)) (inner := []) (ok := fun _ => True) (okp := fun _ => True) ?hr ?hp (fun _ hk => hk) trivial (Below.refl _ _) (Nat.le_refl _) (by simp) ?_; (case hd => rfl); (case hg => rfl); (case hr => first | (go_simp; done) | (go_simp; rfl)); (case hp => exact (Reps.none _ _)); intro v132 w3 ho4 hb hg_ hnew_; clear hg_ hnew_; (first | rw [← Ny131.out] at ho4 | (simp only [Int.reduceToNat] at ho4; rw [← Ny131.out] at ho4)); have n0_ := Aside0.mk (Kd.R_lower ho4 (below_size (by repeat (first | (with_reducible first | exact HB.out | apply below_alloc | apply pw_below_drewN | apply below_drew1) | exact HB.out)))); have n1_ := Aside0.mk (below_step (by repeat (first | (with_reducible first | exact HB.out | apply below_alloc | apply pw_below_drewN | apply below_drew1) | exact HB.out)) hb); clear HB; have HO133 := n0_; have HB := n1_; clear n0_ n1_; clear hb ho4))
 go_loopg [5, 6] k (fun kq v5 v6 w' => ∃ (x5_1 : List Int) (x6_1 : Int), v6 = .int .i64 x6_1 ∧ Aside0 (spec_l2Num.l0 kq a1 x5_1 x6_1 = some r) ∧ Aside0 (kq ≤ k) ∧ Aside0 (Kd.R (Kd.int .u8) 5 w' w.heap.size (fun _ => True) v5 x5_1) ∧ Aside0 (Below w.heap.size w w'))
 case atStart => exact ⟨(y131), (wrap64 (a0 - 1)), (by first | rfl | (simp; done) | (simp [*]; done)), H', ⟨Nat.le_refl _⟩, ⟨by (with_reducible repeat (first | apply Kd.R_alloc | apply Kd.R_drewN | apply Kd.R_drew)); exact HO133.out⟩, ⟨by repeat (first | (with_reducible first | exact HB.out | apply below_alloc | apply pw_below_drewN | apply below_drew1) | exact HB.out)⟩⟩
 case round =>
  clear H'
  try clear p2
  obtain ⟨x5_1, x6_1, rfl, HA, HK1, HO_5, HB⟩ := hrel
  cases gk with
  | zero => exact absurd HA.out (by simp [spec_l2Num.l0])
  | succ k1 =>
   have H := HA.out
   clear HA
   simp only [spec_l2Num.l0] at H
   by_cases c5 : x6_1 ≥ 0
   ·rw [if_pos c5] at H
    have c5b0 : decide (0 ≤ x6_1) = true := decide_eq_true c5
    clear c5
    have H' := Aside0.mk H
    clear H
    go_wp2
    go_loopg [7, 8] k1 (fun kq v7 v8 w' => ∃ (x7_2 : Int) (x8_2 : Int), v7 = .int .i64 x7_2 ∧ v8 = .int .i64 x8_2 ∧ Aside0 (spec_l2Num.l1 kq a1 x5_1 x6_1 x7_2 x8_2 = some r) ∧ Aside0 (kq ≤ k1) ∧ Aside0 (Kd.R (Kd.int .u8) 5 w' w.heap.size (fun _ => True) u5 x5_1) ∧ Aside0 (Below w.heap.size w w'))
    case atStart => exact ⟨(a1), (0), (by first | rfl | (simp; done) | (simp [*]; done)), (by first | rfl | (simp; done) | (simp [*]; done)), H', ⟨Nat.le_refl _⟩, ⟨by (with_reducible repeat (first | apply Kd.R_alloc | apply Kd.R_drewN | apply Kd.R_drew)); exact HO_5.out⟩, ⟨by repeat (first | (with_reducible first | exact HB.out | apply below_alloc | apply pw_below_drewN | apply below_drew1) | exact HB.out)⟩⟩
    case round =>
     clear H'
     try clear p2
     try clear c5
     try clear c5b0
     try clear p2
     obtain ⟨x7_2, x8_2, rfl, rfl, HA, HK2, HO_5, HB⟩ := hrel
     cases gk with
     | zero => exact absurd HA.out (by simp [spec_l2Num.l1])
     | succ k2 =>
      have H := HA.out
      clear HA
      simp only [spec_l2Num.l1] at H
      by_cases c6 : x8_2 < x6_1
      ·rw [if_pos c6] at H
       have c6b0 : decide (x8_2 < x6_1) = true := decide_eq_true c6
       clear c6
       have H' := Aside0.mk H
       clear H
       go_wp2
       go_roundg k2
       case measure => have := HK1.out; have := HK2.out; omega
       case rel => exact ⟨(x7_2 / 256), (wrap64 (x8_2 + 1)), (by first | rfl | (simp; done) | (simp [*]; done)), (by first | rfl | (simp; done) | (simp [*]; done)), H', ⟨by have := HK1.out; have := HK2.out; omega⟩, ⟨by (with_reducible repeat (first | apply Kd.R_alloc | apply Kd.R_drewN | apply Kd.R_drew)); exact HO_5.out⟩, ⟨by repeat (first | (with_reducible first | exact HB.out | apply below_alloc | apply pw_below_drewN | apply below_drew1) | exact HB.out)⟩⟩
      ·rw [if_neg c6] at H
       have c6b0 : decide (x8_2 < x6_1) = false := decide_eq_false c6
       clear c6
       by_cases c7 : x5_1.length < 140737488355328
       ·rw [if_pos c7] at H
        have LMc7 := Aside0.mk c7
        clear c7
        obtain ⟨y134, hy134⟩ : ∃ y_ : List Int, y_ = (x5_1 ++ [(x7_2) % 256]) := ⟨_, rfl⟩
        replace H : (spec_l2Num.l0 k2 a1 y134 (wrap64 (x6_1 - 1))) = some r := by first | (rw [hy134]; with_reducible exact H) | (have H2_ := (Option.bind_some _ _).symm.trans H; rw [hy134]; with_reducible exact H2_) | (have H2_ := (Option.bind_some _ _).symm.trans H; with_reducible exact H2_) | with_reducible exact H | (rw [hy134]; exact H) | exact H
        have Ny134 := Aside0.mk hy134
        clear hy134
        have H' := Aside0.mk H
        clear H
        go_wp2_with (first | ((with_reducible refine gate_builtin (b := .append) (xs := #[.tmp 24, .tmp 27]) rfl ?_); at_builtin; refine Kd.R_append (Kd.int .u8) (w0 := w) w.heap.size rfl (.tmp 24) (.tmp 27) 53 5 (.int .u8 0) 1 rfl Tryz.underlying53 info5 rfl (by decide) (by omega) u5 x5_1 ((x7_2) % 256) [.int .u8 ((x7_2) % 256)] (fun _ => True) (fun _ => False) rfl rfl ?aP (fun _ hk => hk.elim) ?aF ?aO ?aB ?aS ?aL ?_; (case aP => exact rfl); (case aB => exact (by repeat (first | (with_reducible first | exact HB.out | apply below_alloc | apply pw_below_drewN | apply below_drew1) | exact HB.out))); (case aF => exact (fun _ _ => trivial)); (case aO => exact (by (with_reducible repeat (first | apply Kd.R_alloc | apply Kd.R_drewN | apply Kd.R_drew)); exact HO_5.out)); (case aS => exact (below_size (by repeat (first | (with_reducible first | exact HB.out | apply below_alloc | apply pw_below_drewN | apply below_drew1) | exact HB.out)))); (case aL => have := LMc7.out; omega); intro v135 w8 ho hb hg hat; rw [← Ny134.out] at ho; have n0_ := Aside0.mk (hb); have n1_ := Aside0.mk (ho); clear HB; clear HO_5; have HB := n0_; have HO136 := n1_; clear n0_ n1_; clear ho hb hg hat))
        go_roundg k2
        case measure => have := HK1.out; have := HK2.out; omega
        case rel => exact ⟨(y134), (wrap64 (x6_1 - 1)), (by first | rfl | (simp; done) | (simp [*]; done)), H', ⟨by have := HK1.out; have := HK2.out; omega⟩, ⟨by (with_reducible repeat (first | apply Kd.R_alloc | apply Kd.R_drewN | apply Kd.R_drew)); exact HO136.out⟩, ⟨by repeat (first | (with_reducible first | exact HB.out | apply below_alloc | apply pw_below_drewN | apply below_drew1) | exact HB.out)⟩⟩
       ·rw [if_neg c7] at H
        exact absurd H (by simp)
   ·rw [if_neg c5] at H
    have c5b0 : decide (0 ≤ x6_1) = false := decide_eq_false c5
    clear c5
    obtain rfl := Option.some.inj H
    have hcv9 := own_string (P := Tryz.prog) Tryz.underlying53 Tryz.underlying5 Tryz.underlying9 (Kd.own_of_R HO_5.out)
    go_wp2
    go_ret
    exact ⟨by first | rfl | (simp [errW_none, errW_some] <;> rfl) | (simp [*, errW_none, errW_some] <;> rfl), by repeat (first | (with_reducible first | exact HB.out | apply below_alloc | apply pw_below_drewN | apply below_drew1) | exact HB.out)⟩
end Go.Proofs.YtikbfjnbhogihaaGreatDoor.M
