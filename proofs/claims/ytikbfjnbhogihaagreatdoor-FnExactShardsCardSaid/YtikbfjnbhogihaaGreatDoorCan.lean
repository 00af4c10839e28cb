import Derived.Test.YtikbfjnbhogihaaGreatDoorCanSort
import Derived.Test.YtikbfjnbhogihaaGreatDoorMp
import Derived.Test.YtikbfjnbhogihaaGreatDoorKp
import Derived.Test.YtikbfjnbhogihaaGreatDoorF91
import Derived.Test.YtikbfjnbhogihaaGreatDoorF176
import Derived.Test.YtikbfjnbhogihaaGreatDoorSShelf
import Derived.Test.YtikbfjnbhogihaaGreatDoorM0
import Derived.Test.YtikbfjnbhogihaaGreatDoorF157
import Derived.Test.YtikbfjnbhogihaaGreatDoorMkT
import Derived.Test.YtikbfjnbhogihaaGreatDoorXSrcNum
import Derived.WalkKit
import Derived.Deep.RegionHeld3
import Derived.Deep.DeepCutAuto
import Derived.BigQuiet
import Derived.Laws.Cover1
/- Labels in canonical form: what both compute. Plain. -/
namespace Go.Proofs.YtikbfjnbhogihaaGreatDoor.Can
open Go.Proofs.YtikbfjnbhogihaaGreatDoor.M Go.Proofs.YtikbfjnbhogihaaGreatDoor.Loops Go.Proofs.YtikbfjnbhogihaaGreatDoor.CanSort Go.Proofs.YtikbfjnbhogihaaGreatDoor.Utf Go.Proofs.YtikbfjnbhogihaaGreatDoorW.PrintWords Go.Proofs.YtikbfjnbhogihaaGreatDoorW.PrintLast Go.Proofs.YtikbfjnbhogihaaGreatDoorW.PrintMore Go.RowKit
def chr (i : Nat) (c : Int) : Bool := decide (65 ≤ c ∧ c ≤ 90 ∨ 97 ≤ c ∧ c ≤ 122 ∨ c = 95 ∨ (48 ≤ c ∧ c ≤ 57 ∧ 0 < i))
def chars (s : ByteArray) : Nat → Bool
  | 0 => true
  | n + 1 => chr (s.size - (n + 1)) (bt s ((s.size - (n + 1) : Nat) : Int)) && chars s n
def nameOK (s : ByteArray) : Bool := decide (1 ≤ s.size ∧ s.size ≤ 64) && chars s s.size
def fault (x : Lb) : Int := if nameOK x.f0 = true then vf x.f1 else 41
def firstF : List Lb → Nat → Option (Int × Nat)
  | [], _ => none
  | x :: l, i => if fault x = 0 then firstF l (i + 1) else some (fault x, i)
def named (x : Lb) (b : Lb) : Bool := decide (b.f0.toList = x.f0.toList)
def firstT : List Lb → List Lb → Option Nat
  | _, [] => none
  | before, x :: l => if before.any (named x) = true then some before.length else firstT (before ++ [x]) l
def keep (x : Lb) : Bool := decide (¬ x.f1.toList = [])
def isMet (x : Lb) : Bool := keep x && decide (x.f0.toList = [95, 95, 110, 97, 109, 101, 95, 95])
def can (l : List Lb) : List Lb × Int × Int :=
  if 16 < l.length then ([], 40, 0) else match firstF l 0 with
  | some (c, i) => ([], c, (i : Int))
  | none => match firstT [] l with
    | some i => ([], 45, (i : Int))
    | none => if l.any isMet = true then (order (l.filter keep), 0, 0) else ([], 46, 0)
def Fit (l : List Lb) : Prop := ∀ x ∈ l, x.f0.size ≤ 1073741824 ∧ x.f1.size ≤ 1073741824
theorem can_many {l : List Lb} (h : 16 < l.length) : can l = ([], 40, 0) := by unfold can; rw [if_pos h]
theorem can_fault {l : List Lb} {c : Int} {i : Nat} (h : ¬ 16 < l.length) (h2 : firstF l 0 = some (c, i)) : can l = ([], c, (i : Int)) := by unfold can; rw [if_neg h, h2]
theorem can_twice {l : List Lb} {i : Nat} (h : ¬ 16 < l.length) (h2 : firstF l 0 = none) (h3 : firstT [] l = some i) : can l = ([], 45, (i : Int)) := by unfold can; rw [if_neg h, h2, h3]
theorem can_none {l : List Lb} (h : ¬ 16 < l.length) (h2 : firstF l 0 = none) (h3 : firstT [] l = none) (h4 : l.any isMet = false) : can l = ([], 46, 0) := by unfold can; rw [if_neg h, h2, h3]; simp [h4]
theorem can_good {l : List Lb} (h : ¬ 16 < l.length) (h2 : firstF l 0 = none) (h3 : firstT [] l = none) (h4 : l.any isMet = true) : can l = (order (l.filter keep), 0, 0) := by unfold can; rw [if_neg h, h2, h3]; simp [h4]
theorem firstF_ok {x : Lb} {l : List Lb} {i : Nat} (h : fault x = 0) : firstF (x :: l) i = firstF l (i + 1) := by conv => lhs; unfold firstF; rw [if_pos h]
theorem firstF_bad {x : Lb} {l : List Lb} {i : Nat} (h : ¬ fault x = 0) : firstF (x :: l) i = some (fault x, i) := by conv => lhs; unfold firstF; rw [if_neg h]
theorem firstT_no {b : List Lb} {x : Lb} {l : List Lb} (h : b.any (named x) = false) : firstT b (x :: l) = firstT (b ++ [x]) l := by conv => lhs; unfold firstT; rw [h]; simp
theorem firstT_yes {b : List Lb} {x : Lb} {l : List Lb} (h : b.any (named x) = true) : firstT b (x :: l) = some b.length := by conv => lhs; unfold firstT; rw [h]; simp
theorem once_of : ∀ (l b : List Lb), firstT b l = none → Once b → Once (b ++ l)
  | [], b, _, hb => by simpa using hb
  | x :: l, b, h, hb => by
    cases hx : b.any (named x) with
    | true => rw [firstT_yes hx] at h; cases h
    | false =>
      rw [firstT_no hx] at h
      have h2 : Once (b ++ [x]) := by
        unfold Once at hb ⊢
        rw [List.pairwise_append]
        refine ⟨hb, by simp, fun a ha c hc => ?_⟩
        rw [List.mem_singleton] at hc
        subst hc
        intro e
        rw [List.any_eq_false] at hx
        exact hx a ha (by unfold named; exact decide_eq_true e)
      have := once_of l (b ++ [x]) h h2
      simpa using this
theorem once_all {l : List Lb} (h : firstT [] l = none) : Once l := by
  have := once_of l [] h (by unfold Once; simp)
  simpa using this
theorem once_filter {l : List Lb} (p : Lb → Bool) (h : Once l) : Once (l.filter p) := by unfold Once at h ⊢; exact h.filter _
/-! ### names -/
theorem impl_chars (s : ByteArray) (hz : s.size ≤ 64) : ∀ n j, j + n = s.size → Ev (fun k => impl_isName.l0 k s (s.size : Int) j) (chars s n) := by
  intro n
  induction n with
  | zero =>
    intro j hj
    refine Ev.step (f := fun _ => some _) (fun k => by simp only [impl_isName.l0]; rw [if_neg (by omega)]; rfl) (Ev.now _)
  | succ n ih =>
    intro j hj
    have hb := bt_range s (j : Int)
    have e : s.size - (n + 1) = j := by omega
    have hn := ih (j + 1) (by omega)
    have yes : chr j (bt s (j : Int)) = true → chars s (n + 1) = chars s n := fun h => (show chars s (n + 1) = (chr (s.size - (n + 1)) (bt s ((s.size - (n + 1) : Nat) : Int)) && chars s n) from rfl).trans (by rw [e, h]; rfl)
    have no : chr j (bt s (j : Int)) = false → chars s (n + 1) = false := fun h => (show chars s (n + 1) = (chr (s.size - (n + 1)) (bt s ((s.size - (n + 1) : Nat) : Int)) && chars s n) from rfl).trans (by rw [e, h]; rfl)
    have hw : wrap64 ((j : Int) + 1) = ((j + 1 : Nat) : Int) := w_succ j (by omega)
    cases hc : chr j (bt s (j : Int)) with
    | true =>
      rw [yes hc]
      refine Ev.step (fun k => ?_) hn
      unfold chr at hc
      have hc := of_decide_eq_true hc
      simp only [impl_isName.l0]
      rw [hw, if_pos (by omega), if_pos (by omega), if_pos (by omega)]
      generalize bt s (j : Int) = c at hb hc ⊢
      repeat' split
      all_goals first | rfl | (exfalso; omega)
    | false =>
      rw [no hc]
      refine Ev.step (f := fun _ => some false) (fun k => ?_) (Ev.now _)
      unfold chr at hc
      have hc := of_decide_eq_false hc
      simp only [impl_isName.l0]
      rw [hw, if_pos (by omega), if_pos (by omega), if_pos (by omega)]
      generalize bt s (j : Int) = c at hb hc ⊢
      repeat' split
      all_goals first | rfl | (exfalso; omega)
theorem size_zero {a : ByteArray} : a.toList = [] ↔ a.size = 0 := by
  rw [ByteArray.toList_eq]
  constructor
  · intro h
    have : a.data.toList.length = 0 := by rw [h]; rfl
    exact this
  · intro h
    exact List.length_eq_zero_iff.1 h
theorem impl_name (s : ByteArray) : Ev (fun k => impl_isName.f k s) (nameOK s) := by
  unfold impl_isName.f nameOK
  by_cases h0 : s.toList = []
  · have := size_zero.1 h0
    refine Ev.ite_pos h0 (Ev.eq (Ev.now _) ?_)
    rw [decide_eq_false (by omega)]; rfl
  · have h1 : ¬ s.size = 0 := fun h => h0 (size_zero.2 h)
    by_cases h2 : (s.size : Int) > 64
    · refine Ev.ite_neg h0 (Ev.ite_pos h2 (Ev.eq (Ev.now _) ?_))
      rw [decide_eq_false (by omega)]; rfl
    · refine Ev.ite_neg h0 (Ev.ite_neg h2 (Ev.eq (impl_chars s (by omega) s.size 0 (by omega)) ?_))
      rw [decide_eq_true (by omega)]; rfl
theorem spec_chars (s : ByteArray) (hz : s.size ≤ 64) (hd : ¬ (48 ≤ bt s 0 ∧ bt s 0 ≤ 57)) : ∀ n j, j + n = s.size → Ev (fun k => spec_l3NameOK.l0 k s j) (chars s n) := by
  intro n
  induction n with
  | zero =>
    intro j hj
    refine Ev.step (f := fun _ => some _) (fun k => by simp only [spec_l3NameOK.l0]; rw [if_neg (by omega)]; rfl) (Ev.now _)
  | succ n ih =>
    intro j hj
    have hb := bt_range s (j : Int)
    have e : s.size - (n + 1) = j := by omega
    have hn := ih (j + 1) (by omega)
    have yes : chr j (bt s (j : Int)) = true → chars s (n + 1) = chars s n := fun h => (show chars s (n + 1) = (chr (s.size - (n + 1)) (bt s ((s.size - (n + 1) : Nat) : Int)) && chars s n) from rfl).trans (by rw [e, h]; rfl)
    have no : chr j (bt s (j : Int)) = false → chars s (n + 1) = false := fun h => (show chars s (n + 1) = (chr (s.size - (n + 1)) (bt s ((s.size - (n + 1) : Nat) : Int)) && chars s n) from rfl).trans (by rw [e, h]; rfl)
    have hw : wrap64 ((j : Int) + 1) = ((j + 1 : Nat) : Int) := w_succ j (by omega)
    have hd' : j = 0 → ¬ (48 ≤ bt s (j : Int) ∧ bt s (j : Int) ≤ 57) := fun h => by subst h; exact hd
    cases hc : chr j (bt s (j : Int)) with
    | true =>
      rw [yes hc]
      refine Ev.step (fun k => ?_) hn
      unfold chr at hc
      have hc := of_decide_eq_true hc
      simp only [spec_l3NameOK.l0]
      rw [hw, if_pos (by omega), if_pos (by omega)]
      generalize bt s (j : Int) = c at hb hc hd' ⊢
      repeat' split
      all_goals first | rfl | (exfalso; omega)
    | false =>
      rw [no hc]
      refine Ev.step (f := fun _ => some false) (fun k => ?_) (Ev.now _)
      unfold chr at hc
      have hc := of_decide_eq_false hc
      simp only [spec_l3NameOK.l0]
      rw [hw, if_pos (by omega), if_pos (by omega)]
      generalize bt s (j : Int) = c at hb hc hd' ⊢
      repeat' split
      all_goals first | rfl | (exfalso; omega)
theorem spec_name (s : ByteArray) : Ev (fun k => spec_l3NameOK.f k s) (nameOK s) := by
  have stop : ∀ c, c = true → Ev (fun k => spec_l3NameOK.j0 k s c) false := by
    rintro c rfl
    exact Ev.step (f := fun _ => some false) (fun k => by simp only [spec_l3NameOK.j0, if_true]) (Ev.now _)
  have bet : spec_l1Between.f (s.size : Int) 1 64 = some (decide (1 ≤ s.size ∧ s.size ≤ 64)) := by
    unfold spec_l1Between.f
    split
    · congr 1; rw [Bool.eq_iff_iff, decide_eq_true_eq, decide_eq_true_eq]; omega
    · rw [decide_eq_false (by omega)]
  unfold spec_l3NameOK.f nameOK
  rw [bet]
  simp only [Option.bind_some]
  by_cases h : 1 ≤ s.size ∧ s.size ≤ 64
  · rw [decide_eq_true h]
    simp only [if_true, Bool.true_and]
    refine Ev.ite_pos (by omega) ?_
    have first : 48 ≤ bt s 0 ∧ bt s 0 ≤ 57 → chars s s.size = false := by
      intro hd
      obtain ⟨n, hn⟩ : ∃ n, s.size = n + 1 := ⟨s.size - 1, by omega⟩
      rw [hn]
      unfold chars
      rw [show s.size - (n + 1) = 0 by omega]
      have : chr 0 (bt s ((0 : Nat) : Int)) = false := by
        unfold chr
        apply decide_eq_false
        have h2 : bt s ((0 : Nat) : Int) = bt s 0 := rfl
        rw [h2]
        omega
      rw [this]; rfl
    have go : ¬ (48 ≤ bt s 0 ∧ bt s 0 ≤ 57) → Ev (fun k => spec_l3NameOK.j0 k s false) (chars s s.size) := fun hd =>
      Ev.step (fun k => by simp only [spec_l3NameOK.j0, Bool.false_eq_true, if_false]; rfl) (spec_chars s h.2 hd s.size 0 (by omega))
    by_cases h48 : bt s 0 ≥ 48
    · refine Ev.ite_pos h48 ?_
      by_cases h57 : bt s 0 ≤ 57
      · rw [first ⟨h48, h57⟩]
        exact stop _ (decide_eq_true h57)
      · rw [decide_eq_false h57]
        exact go (by omega)
    · exact Ev.ite_neg h48 (go (by omega))
  · rw [decide_eq_false h]
    simp only [Bool.false_eq_true, if_false, Bool.false_and]
    exact stop true rfl
end Go.Proofs.YtikbfjnbhogihaaGreatDoor.Can
/- pop of the heap of sights: walked. -/
namespace Go.Proofs.YtikbfjnbhogihaaGreatDoor.Bk
open Go.RowKit Go.Proofs.YtikbfjnbhogihaaGreatDoor.M Go.Proofs.YtikbfjnbhogihaaGreatDoor.Loops Go.Proofs.YtikbfjnbhogihaaGreatDoorW.PrintWords Go.Proofs.YtikbfjnbhogihaaGreatDoorW.PrintLast Go.Proofs.YtikbfjnbhogihaaGreatDoorW.PrintMore
set_option linter.unusedVariables false
set_option linter.unusedSimpArgs false
theorem Hk.far {w0 w wr : World} {a : Nat} {l : Int} {m s c : Nat} {v : Value} {n : Nat} {q x : List Sg} {S : Nat → Prop} (h : Hk w0 w wr a l m s c v n q x S) (r : Nat) (hra : r ≠ a) (hrv : v.ownBlock ≠ some r) (hr : w.heap.size ≤ r) (hr0 : w0.heap.size ≤ r) (j : Nat) (u : Value) : Hk w0 w (wr.setCell ⟨r, j, none⟩ u) a l m s c v n q x S :=
  ⟨blk_far (p := ⟨r, j, none⟩) h.blk (Ne.symm hra) u, Kd.R_mono (Kd.R_far (p := ⟨r, j, none⟩) (sg_own h.row) (fun k hk e => hrv (by rw [hk]; exact congrArg some e)) u) (fun _ _ => trivial), below_set h.bel hr0, h.len, h.perm, h.kep.setCell (.inr hr) u, h.own⟩
end Go.Proofs.YtikbfjnbhogihaaGreatDoor.Bk
/- How long a canonical form is: plain. -/
namespace Go.Proofs.YtikbfjnbhogihaaGreatDoor.LabLaws
open Go.Proofs.YtikbfjnbhogihaaGreatDoor.M Go.Proofs.YtikbfjnbhogihaaGreatDoor.Loops Go.Proofs.YtikbfjnbhogihaaGreatDoorW.PrintWords Go.Proofs.YtikbfjnbhogihaaGreatDoorW.PrintLast Go.RowKit
abbrev LO := S141
theorem fold_count : ∀ (k acc : List LO), (k.foldl CanSort.ins acc).length = acc.length + k.length
  | [], acc => rfl
  | x :: k, acc => by rw [List.foldl_cons, fold_count k, (CanSort.ins_perm acc x).length_eq, List.length_cons, List.length_cons]; omega
theorem order_count (k : List LO) : (CanSort.order k).length = k.length := by unfold CanSort.order; rw [fold_count]; simp
theorem can_len (l : List LO) : (Can.can l).1.length ≤ 16 := by
  unfold Can.can
  split
  · exact Nat.zero_le _
  · split
    · exact Nat.zero_le _
    · split
      · exact Nat.zero_le _
      · split
        · show (CanSort.order _).length ≤ 16
          rw [order_count]
          exact Nat.le_trans (List.length_filter_le _ _) (by omega)
        · exact Nat.zero_le _
end Go.Proofs.YtikbfjnbhogihaaGreatDoor.LabLaws
namespace Go.Proofs.YtikbfjnbhogihaaGreatDoor.M
open Go.RowKit Go.Proofs.YtikbfjnbhogihaaGreatDoorW.PrintWords Go.Proofs.YtikbfjnbhogihaaGreatDoorW.PrintLast Go.Proofs.YtikbfjnbhogihaaGreatDoorW.PrintMore
attribute [local go_sem] max2_int min2_int max_two min_two max_three min_three max_four min_four
set_option linter.unusedVariables false
set_option linter.unusedSimpArgs false
/-! ### impl_s8: function 161 -/
def impl_s8.f (a0 : ByteArray) : Option (ByteArray) := (impl_num.f 1 (a0.size : Int)).bind fun t262 => (if t262.size + a0.size ≤ 9223372036854775807 then (some (t262 ++ a0)) else (none))
set_option maxHeartbeats 8000000 in
set_option maxRecDepth 100000 in
theorem impl_s8.calls (a0 : ByteArray) (r : ByteArray) (w : World) (h : impl_s8.f a0 = some r) :
    Calls Tryz.prog 161 #[.string a0] w fun e w' => e = .returned (.string r) ∧ Below w.heap.size w w' := by
  have HB := Aside0.mk (Below.refl w.heap.size w)
  have H : ((impl_num.f 1 (a0.size : Int)).bind fun t262 => (if t262.size + a0.size ≤ 9223372036854775807 then (some (t262 ++ a0)) else (none))) = some r := h
  clear h
  replace H := Option.bind_eq_some_iff.mp H
  obtain ⟨t262, A20, H⟩ := H
  replace H : (if t262.size + a0.size ≤ 9223372036854775807 then (some (t262 ++ a0)) else (none)) = some r := H
  have A2 := Aside0.mk A20
  clear A20
  by_cases c3 : t262.size + a0.size ≤ 9223372036854775807
  · rw [if_pos c3] at H
    try have c3b2 : (9223372036854775807 < t262.size + a0.size) = False := eq_false (Nat.not_lt.2 c3)
    obtain rfl := Option.some.inj H
    go_enter Tryz.func161, Tryz.ntmps161
    go_wp2_with (((with_reducible refine gate_callee (f := 160) rfl ?_); refine goesL_ (some 5) rfl rfl Tryz.func160 (by kernel_rfl) rfl #[.int .i64 1, .int .i64 (a0.size : Int)] rfl (by (try simp only [List.map_toArray, List.map_cons, List.map_nil]); first | done | rfl) ?_; (with_reducible refine (impl_num.calls 1 (a0.size : Int) t262 _ A2.out).mono ?_); rintro e w4 ⟨rfl, hb⟩; refine ⟨_, rfl, ?_⟩; have n0_ := Aside0.mk (below_step (by repeat ((with_reducible exact HB.out))) hb); clear HB; have HB := n0_; clear n0_; (try clear hb)))
    go_ret
    exact ⟨by rfl, by repeat ((with_reducible exact HB.out))⟩
  · rw [if_neg c3] at H
    exact absurd H (by simp)
/-! ### impl_source_s8: function 134 -/
def impl_source_s8.f (s0_0 : ByteArray) : Option (ByteArray × ByteArray) := (impl_source_num.f s0_0 1).bind fun bt231 => ((impl_source_text.f bt231.2 bt231.1).bind fun bt233 => (some (bt233.1, bt233.2)))
set_option maxHeartbeats 8000000 in
set_option maxRecDepth 100000 in
theorem impl_source_s8.calls (g : Nat) (s0_0 : ByteArray) (r1 : ByteArray) (r2 : ByteArray) (w0 w : World) (hI : IsS189 w0 w g s0_0) (hB : Below w0.heap.size w0 w) (h : impl_source_s8.f s0_0 = some (r1, r2)) :
    Calls Tryz.prog 134 #[.pointer (some ⟨g, 0, none⟩)] w fun e w' => e = .returned (.string r1) ∧ IsS189 w0 w' g r2 ∧ Below w0.heap.size w0 w' ∧ KeepBut w w' g none := by
  have HI0 := Aside0.mk hI
  have HK := Aside0.mk (KeepBut.refl w g none)
  have HL := Aside0.mk hB.size
  clear hI
  have HW0 := Aside0.mk hB.size
  have HB := Aside0.mk hB
  clear hB
  have H : ((impl_source_num.f s0_0 1).bind fun bt231 => ((impl_source_text.f bt231.2 bt231.1).bind fun bt233 => (some (bt233.1, bt233.2)))) = some (r1, r2) := h
  clear h
  replace H := Option.bind_eq_some_iff.mp H
  obtain ⟨⟨t231, t232⟩, A20, H⟩ := H
  replace H : ((impl_source_text.f t232 t231).bind fun bt233 => (some (bt233.1, bt233.2))) = some (r1, r2) := H
  have A2 := Aside0.mk A20
  clear A20
  replace H := Option.bind_eq_some_iff.mp H
  obtain ⟨⟨t233, t234⟩, A30, H⟩ := H
  replace H : (some (t233, t234)) = some (r1, r2) := H
  have A3 := Aside0.mk A30
  clear A30
  simp only [Option.some.injEq, Prod.mk.injEq] at H
  obtain ⟨rfl, rfl⟩ := H
  go_enter Tryz.func134, Tryz.ntmps134
  go_wp2_with (first | ((with_reducible refine gate_callee (f := 133) rfl ?_); refine goesL_ (some 5) rfl rfl Tryz.func133 (by kernel_rfl) rfl #[.pointer (some ⟨g, 0, none⟩), .int .i64 1] rfl (by (try simp only [List.map_toArray, List.map_cons, List.map_nil]); first | done | rfl | (simp only [List.length_drop, List.length_take]; rfl)) ?_; (with_reducible refine (impl_source_num.calls g s0_0 1 t231 t232 w0 _ ?side1 ?side2 A2.out).mono ?_); (case side1 => repeat (first | (with_reducible first | exact HI0.out | apply IsS189.alloc | apply IsS189.drewN | apply IsS189.drew | apply IsS189.set_0) | exact HI0.out)); (case side2 => repeat (first | (with_reducible first | exact HB.out | apply below_alloc | apply pw_below_drewN | apply below_drew1 | refine below_set ?_ (IsS189.ge HI0.out)) | exact HB.out)); rintro e w4 ⟨rfl, hi, hb, hk⟩; refine ⟨_, rfl, ?_⟩; have n0_ := Aside0.mk (KeepBut.trans (by repeat (first | (with_reducible first | exact HK.out | apply KeepBut.set_ | apply keep_drewN | apply keep_drew | apply keep_alloc) | exact HK.out)) hk (.inl rfl)); have n1_ := Aside0.mk (hb); have n2_ := Aside0.mk (hi); clear HK; clear HB; clear HI0; have HK := n0_; have HB := n1_; have HI0 := n2_; clear n0_ n1_ n2_; (try clear hb); (try clear hb2); (try clear hk); (try clear hi)) | ((with_reducible refine gate_callee (f := 157) rfl ?_); refine goesL_ (some 6) rfl rfl Tryz.func157 (by kernel_rfl) rfl #[.pointer (some ⟨g, 0, none⟩), .int .i64 t231] rfl (by (try simp only [List.map_toArray, List.map_cons, List.map_nil]); first | done | rfl | (simp only [List.length_drop, List.length_take]; rfl)) ?_; (with_reducible refine (impl_source_text.calls g t232 t231 t233 t234 w0 _ ?side1 ?side2 A3.out).mono ?_); (case side1 => repeat (first | (with_reducible first | exact HI0.out | apply IsS189.alloc | apply IsS189.drewN | apply IsS189.drew | apply IsS189.set_0) | exact HI0.out)); (case side2 => repeat (first | (with_reducible first | exact HB.out | apply below_alloc | apply pw_below_drewN | apply below_drew1 | refine below_set ?_ (IsS189.ge HI0.out)) | exact HB.out)); rintro e w5 ⟨rfl, hi, hb, hk⟩; refine ⟨_, rfl, ?_⟩; have n0_ := Aside0.mk (KeepBut.trans (by repeat (first | (with_reducible first | exact HK.out | apply KeepBut.set_ | apply keep_drewN | apply keep_drew | apply keep_alloc) | exact HK.out)) hk (.inl rfl)); have n1_ := Aside0.mk (hb); have n2_ := Aside0.mk (hi); clear HK; clear HB; clear HI0; have HK := n0_; have HB := n1_; have HI0 := n2_; clear n0_ n1_ n2_; (try clear hb); (try clear hb2); (try clear hk); (try clear hi)))
  go_ret
  exact ⟨by first | rfl | (simp [errW_none, errW_some] <;> rfl) | (simp [*, errW_none, errW_some] <;> rfl), by repeat (first | (with_reducible first | exact HI0.out | apply IsS189.alloc | apply IsS189.drewN | apply IsS189.drew | apply IsS189.set_0) | exact HI0.out), by repeat (first | (with_reducible first | exact HB.out | apply below_alloc | apply pw_below_drewN | apply below_drew1 | refine below_set ?_ (IsS189.ge HI0.out)) | exact HB.out), by repeat (first | (with_reducible first | exact HK.out | apply KeepBut.set_ | apply keep_drewN | apply keep_drew | apply keep_alloc) | exact HK.out)⟩
end Go.Proofs.YtikbfjnbhogihaaGreatDoor.M
/- impl.rising: texts in strictly rising order, by a closure that reads each element's first field. -/
namespace Go.Proofs.YtikbfjnbhogihaaGreatDoor.M
open Go.RowKit Go.Proofs.YtikbfjnbhogihaaGreatDoorW.PrintWords Go.Proofs.YtikbfjnbhogihaaGreatDoorW.PrintLast Go.Proofs.YtikbfjnbhogihaaGreatDoorW.PrintMore
set_option linter.unusedVariables false
set_option linter.unusedSimpArgs false
namespace Rise
def up : List ByteArray → Bool
  | [] => true
  | [_] => true
  | a :: b :: l => Op.bytesLess a.toList b.toList && up (b :: l)
theorem up_short (l : List ByteArray) (h : l.length ≤ 1) : up l = true := by
  match l, h with
  | [], _ => rfl
  | [_], _ => rfl
  | _ :: _ :: _, h => simp at h
theorem up_two (l : List ByteArray) (i : Nat) (h : i + 1 < l.length) : up (l.drop i) = (Op.bytesLess l[i].toList l[i + 1].toList && up (l.drop (i + 1))) := by
  rw [List.drop_eq_getElem_cons (show i < l.length by omega), List.drop_eq_getElem_cons h]
  rfl
theorem le_not (a b : List UInt8) : (Op.bytesLess a b || a == b) = !(Op.bytesLess b a) := by
  cases h : Op.bytesLess b a with
  | true =>
    have h1 : Op.bytesLess a b = false := by
      cases h2 : Op.bytesLess a b with
      | false => rfl
      | true => have := CanSort.less_trans _ _ _ h h2; rw [CanSort.less_irrefl] at this; cases this
    have h3 : (a == b) = false := by
      cases h4 : a == b with
      | false => rfl
      | true => rw [eq_of_beq h4, CanSort.less_irrefl] at h; cases h
    rw [h1, h3]; rfl
  | false =>
    cases h2 : Op.bytesLess a b with
    | true => rfl
    | false => rw [CanSort.less_total a b h2 h, beq_self_eq_true]; rfl
theorem up_step {α : Type} (g : α → ByteArray) (z : α) (l : List α) (i j : Nat) (hij : j = i + 1) (h : j < l.length) : up ((l.map g).drop (j - 1)) = (Op.bytesLess (g (l.getD (i : Int).toNat z)).toList (g (l.getD (j : Int).toNat z)).toList && up ((l.map g).drop j)) := by
  subst hij
  have hi : i < l.length := by omega
  rw [Int.toNat_natCast, Int.toNat_natCast, Nat.add_sub_cancel, up_two (l.map g) i (by rw [List.length_map]; exact h), List.getD_eq_getElem?_getD, List.getD_eq_getElem?_getD, List.getElem?_eq_getElem h, List.getElem?_eq_getElem hi]
  simp
end Rise
set_option maxHeartbeats 1000000 in
theorem Rise.key_Series (s : ByteArray) (v1 : Value) (w : World) :
    Calls Tryz.prog 110 #[.agg #[.string s, v1]] w fun e w' => e = .returned (.string s) ∧ Below w.heap.size w w' := by
  have HB := Aside0.mk ((Below.refl w.heap.size w).alloc (Nat.le_refl _) (.cells #[.string s, v1] 93))
  have hx : (w.alloc (.cells #[.string s, v1] 93)).cell? ⟨w.heap.size, 0, none⟩ = some (.string s) := (blk_cell (blk_new w _) 0).trans rfl
  go_enter Tryz.func110, Tryz.ntmps110
  go_wp2_with fail
  go_ret
  exact ⟨rfl, HB.out⟩
def impl_Series_string.f (l : List S93) : Option Bool := if l.length < 9223372036854775807 then some (Rise.up (l.map (·.f0))) else none
set_option maxHeartbeats 4000000 in
set_option maxRecDepth 100000 in
theorem impl_Series_string.calls (A0 : Option Addr) (c0 : Nat) (l0 : List S93) (r : Bool) (w : World) (hr0 : Kd.C k93 w A0 l0.length l0) (hc0 : l0.length ≤ c0) (h : impl_Series_string.f l0 = some r) :
    Calls Tryz.prog 109 #[.slice A0 l0.length c0, .func (.func 110) #[] #[]] w fun e w' => e = .returned (.bool r) ∧ Below w.heap.size w w' := by
  unfold impl_Series_string.f at h
  by_cases hn : l0.length < 9223372036854775807
  case neg => rw [if_neg hn] at h; cases h
  rw [if_pos hn] at h
  have H := Aside0.mk (Option.some.inj h)
  have HR := Aside0.mk hr0
  clear h hr0
  have HB := Aside0.mk (Below.refl w.heap.size w)
  go_enter Tryz.func109, Tryz.ntmps109
  go_wp2_with fail
  go_loopw [5] (fun i wr => ∃ j : Nat, i = .int .i64 j ∧ 1 ≤ j ∧ Aside0 (Rise.up (l0.map (·.f0)) = Rise.up ((l0.map (·.f0)).drop (j - 1))) ∧ Aside0 (Below w.heap.size w wr)) (fun i _ => l0.length - (intOf i).toNat)
  case atStart => exact ⟨1, rfl, Nat.le_refl _, ⟨rfl⟩, HB⟩
  case round =>
    obtain ⟨j, rfl, h1, HU, HBr⟩ := hrel
    by_cases hlt : j < l0.length
    · obtain ⟨i, hij⟩ : ∃ i, j = i + 1 := ⟨j - 1, by omega⟩
      have hs := Rise.up_step (·.f0) z93 l0 i j hij hlt
      have hi : i < l0.length := by omega
      have hw : IntKind.i64.wrap ((j : Int) - 1) = (i : Int) := (IntWalk.i64_in _ (by omega)).trans (by omega)
      clear hij
      change _ = (Op.bytesLess (rd_T93 l0 (i : Int)).f0.toList (rd_T93 l0 (j : Int)).f0.toList && _) at hs
      obtain ⟨ad, eaa, xa0, xa1⟩ := at_T93 HR.out ((j : Int)) (by omega) (by omega)
      subst eaa
      obtain ⟨ad2, eab, xb0, xb1⟩ := at_T93 HR.out ((i : Int)) (by omega) (by omega)
      obtain rfl := Option.some.inj eab
      obtain ⟨a, ha⟩ : ∃ a, a = rd_T93 l0 (j : Int) := ⟨_, rfl⟩
      obtain ⟨b, hb⟩ : ∃ b, b = rd_T93 l0 (i : Int) := ⟨_, rfl⟩
      rw [← ha] at xa0 xa1
      rw [← hb] at xb0 xb1
      rw [← ha, ← hb] at hs
      clear ha hb
      simp only [Int.toNat_natCast] at xa0 xa1 xb0 xb1
      have HS := Aside0.mk hs
      clear hs
      have hle := Rise.le_not a.f0.toList b.f0.toList
      cases hc : Op.bytesLess b.f0.toList a.f0.toList with
      | true =>
        rw [hc] at hle
        change (Op.bytesLess a.f0.toList b.f0.toList || a.f0.toList == b.f0.toList) = false at hle
        go_wp2_with fail
        have ra0 := (HBr.out.cell (World.block_lt_of_cell? w _ xa0)).trans xa0
        have ra1 := (HBr.out.cell (World.block_lt_of_cell? w _ xa1)).trans xa1
        have rb0 := (HBr.out.cell (World.block_lt_of_cell? w _ xb0)).trans xb0
        have rb1 := (HBr.out.cell (World.block_lt_of_cell? w _ xb1)).trans xb1
        go_region_held3 (fun W' => W'.cell? (ad.add (j * 2)) = some (.string a.f0) ∧ W'.cell? (⟨(ad.add (j * 2)).block, (ad.add (j * 2)).off + 1, none⟩) = some (.int .i64 a.f1) ∧ W'.cell? (ad.add (i * 2)) = some (.string b.f0) ∧ W'.cell? (⟨(ad.add (i * 2)).block, (ad.add (i * 2)).off + 1, none⟩) = some (.int .i64 b.f1))
          (first | exact ⟨ra0, ra1, rb0, rb1⟩ | exact ⟨pa0, pa1, pb0, pb1⟩ | exact ⟨qa0, qa1, qb0, qb1⟩)
          (first | (go_at_call 110; refine (Rise.key_Series _ _ _).mono ?_; rintro e Wa ⟨rfl, hba⟩; have HBa := Aside0.mk (below_step (below_drew1 HBr.out) hba); have pa0 := (HBa.out.cell (World.block_lt_of_cell? w _ xa0)).trans xa0; have pa1 := (HBa.out.cell (World.block_lt_of_cell? w _ xa1)).trans xa1; have pb0 := (HBa.out.cell (World.block_lt_of_cell? w _ xb0)).trans xb0; have pb1 := (HBa.out.cell (World.block_lt_of_cell? w _ xb1)).trans xb1; clear hba HBr)
                 | (go_at_call 110; refine (Rise.key_Series _ _ _).mono ?_; rintro e Wb ⟨rfl, hbb⟩; have HBb := Aside0.mk (below_step HBa.out hbb); have qa0 := (HBb.out.cell (World.block_lt_of_cell? w _ xa0)).trans xa0; have qa1 := (HBb.out.cell (World.block_lt_of_cell? w _ xa1)).trans xa1; have qb0 := (HBb.out.cell (World.block_lt_of_cell? w _ xb0)).trans xb0; have qb1 := (HBb.out.cell (World.block_lt_of_cell? w _ xb1)).trans xb1; clear hbb HBa))
        go_wp2_with fail
        go_roundw
        case rel => exact ⟨j + 1, by go_num, by omega, ⟨by rw [HU.out, HS.out, hc, Bool.true_and, Nat.add_sub_cancel]⟩, HBb⟩
        case measure => simp [intOf]; omega
      | false =>
        rw [hc] at hle
        change (Op.bytesLess a.f0.toList b.f0.toList || a.f0.toList == b.f0.toList) = true at hle
        go_wp2_with fail
        have ra0 := (HBr.out.cell (World.block_lt_of_cell? w _ xa0)).trans xa0
        have ra1 := (HBr.out.cell (World.block_lt_of_cell? w _ xa1)).trans xa1
        have rb0 := (HBr.out.cell (World.block_lt_of_cell? w _ xb0)).trans xb0
        have rb1 := (HBr.out.cell (World.block_lt_of_cell? w _ xb1)).trans xb1
        go_region_held3 (fun W' => W'.cell? (ad.add (j * 2)) = some (.string a.f0) ∧ W'.cell? (⟨(ad.add (j * 2)).block, (ad.add (j * 2)).off + 1, none⟩) = some (.int .i64 a.f1) ∧ W'.cell? (ad.add (i * 2)) = some (.string b.f0) ∧ W'.cell? (⟨(ad.add (i * 2)).block, (ad.add (i * 2)).off + 1, none⟩) = some (.int .i64 b.f1))
          (first | exact ⟨ra0, ra1, rb0, rb1⟩ | exact ⟨pa0, pa1, pb0, pb1⟩ | exact ⟨qa0, qa1, qb0, qb1⟩)
          (first | (go_at_call 110; refine (Rise.key_Series _ _ _).mono ?_; rintro e Wa ⟨rfl, hba⟩; have HBa := Aside0.mk (below_step (below_drew1 HBr.out) hba); have pa0 := (HBa.out.cell (World.block_lt_of_cell? w _ xa0)).trans xa0; have pa1 := (HBa.out.cell (World.block_lt_of_cell? w _ xa1)).trans xa1; have pb0 := (HBa.out.cell (World.block_lt_of_cell? w _ xb0)).trans xb0; have pb1 := (HBa.out.cell (World.block_lt_of_cell? w _ xb1)).trans xb1; clear hba HBr)
                 | (go_at_call 110; refine (Rise.key_Series _ _ _).mono ?_; rintro e Wb ⟨rfl, hbb⟩; have HBb := Aside0.mk (below_step HBa.out hbb); have qa0 := (HBb.out.cell (World.block_lt_of_cell? w _ xa0)).trans xa0; have qa1 := (HBb.out.cell (World.block_lt_of_cell? w _ xa1)).trans xa1; have qb0 := (HBb.out.cell (World.block_lt_of_cell? w _ xb0)).trans xb0; have qb1 := (HBb.out.cell (World.block_lt_of_cell? w _ xb1)).trans xb1; clear hbb HBa))
        go_wp2_with fail
        go_ret
        exact ⟨by rw [← H.out, HU.out, HS.out, hc, Bool.false_and]; rfl, HBb.out⟩
    · have hfin := Aside0.mk (Rise.up_short ((l0.map (·.f0)).drop (j - 1)) (by rw [List.length_drop, List.length_map]; omega))
      go_wp2_with fail
      go_ret
      exact ⟨by rw [← H.out, HU.out, hfin.out]; rfl, HBr.out⟩
set_option maxHeartbeats 1000000 in
theorem Rise.key_MetricLimit (s : ByteArray) (v1 : Value) (w : World) :
    Calls Tryz.prog 108 #[.agg #[.string s, v1]] w fun e w' => e = .returned (.string s) ∧ Below w.heap.size w w' := by
  have HB := Aside0.mk ((Below.refl w.heap.size w).alloc (Nat.le_refl _) (.cells #[.string s, v1] 91))
  have hx : (w.alloc (.cells #[.string s, v1] 91)).cell? ⟨w.heap.size, 0, none⟩ = some (.string s) := (blk_cell (blk_new w _) 0).trans rfl
  go_enter Tryz.func108, Tryz.ntmps108
  go_wp2_with fail
  go_ret
  exact ⟨rfl, HB.out⟩
def impl_MetricLimit_string.f (l : List S91) : Option Bool := if l.length < 9223372036854775807 then some (Rise.up (l.map (·.f0))) else none
set_option maxHeartbeats 4000000 in
set_option maxRecDepth 100000 in
theorem impl_MetricLimit_string.calls (A0 : Option Addr) (c0 : Nat) (l0 : List S91) (r : Bool) (w : World) (hr0 : Kd.C k91 w A0 l0.length l0) (hc0 : l0.length ≤ c0) (h : impl_MetricLimit_string.f l0 = some r) :
    Calls Tryz.prog 107 #[.slice A0 l0.length c0, .func (.func 108) #[] #[]] w fun e w' => e = .returned (.bool r) ∧ Below w.heap.size w w' := by
  unfold impl_MetricLimit_string.f at h
  by_cases hn : l0.length < 9223372036854775807
  case neg => rw [if_neg hn] at h; cases h
  rw [if_pos hn] at h
  have H := Aside0.mk (Option.some.inj h)
  have HR := Aside0.mk hr0
  clear h hr0
  have HB := Aside0.mk (Below.refl w.heap.size w)
  go_enter Tryz.func107, Tryz.ntmps107
  go_wp2_with fail
  go_loopw [5] (fun i wr => ∃ j : Nat, i = .int .i64 j ∧ 1 ≤ j ∧ Aside0 (Rise.up (l0.map (·.f0)) = Rise.up ((l0.map (·.f0)).drop (j - 1))) ∧ Aside0 (Below w.heap.size w wr)) (fun i _ => l0.length - (intOf i).toNat)
  case atStart => exact ⟨1, rfl, Nat.le_refl _, ⟨rfl⟩, HB⟩
  case round =>
    obtain ⟨j, rfl, h1, HU, HBr⟩ := hrel
    by_cases hlt : j < l0.length
    · obtain ⟨i, hij⟩ : ∃ i, j = i + 1 := ⟨j - 1, by omega⟩
      have hs := Rise.up_step (·.f0) z91 l0 i j hij hlt
      have hi : i < l0.length := by omega
      have hw : IntKind.i64.wrap ((j : Int) - 1) = (i : Int) := (IntWalk.i64_in _ (by omega)).trans (by omega)
      clear hij
      change _ = (Op.bytesLess (rd_T91 l0 (i : Int)).f0.toList (rd_T91 l0 (j : Int)).f0.toList && _) at hs
      obtain ⟨ad, eaa, xa0, xa1⟩ := at_T91 HR.out ((j : Int)) (by omega) (by omega)
      subst eaa
      obtain ⟨ad2, eab, xb0, xb1⟩ := at_T91 HR.out ((i : Int)) (by omega) (by omega)
      obtain rfl := Option.some.inj eab
      obtain ⟨a, ha⟩ : ∃ a, a = rd_T91 l0 (j : Int) := ⟨_, rfl⟩
      obtain ⟨b, hb⟩ : ∃ b, b = rd_T91 l0 (i : Int) := ⟨_, rfl⟩
      rw [← ha] at xa0 xa1
      rw [← hb] at xb0 xb1
      rw [← ha, ← hb] at hs
      clear ha hb
      simp only [Int.toNat_natCast] at xa0 xa1 xb0 xb1
      have HS := Aside0.mk hs
      clear hs
      have hle := Rise.le_not a.f0.toList b.f0.toList
      cases hc : Op.bytesLess b.f0.toList a.f0.toList with
      | true =>
        rw [hc] at hle
        change (Op.bytesLess a.f0.toList b.f0.toList || a.f0.toList == b.f0.toList) = false at hle
        go_wp2_with fail
        have ra0 := (HBr.out.cell (World.block_lt_of_cell? w _ xa0)).trans xa0
        have ra1 := (HBr.out.cell (World.block_lt_of_cell? w _ xa1)).trans xa1
        have rb0 := (HBr.out.cell (World.block_lt_of_cell? w _ xb0)).trans xb0
        have rb1 := (HBr.out.cell (World.block_lt_of_cell? w _ xb1)).trans xb1
        go_region_held3 (fun W' => W'.cell? (ad.add (j * 2)) = some (.string a.f0) ∧ W'.cell? (⟨(ad.add (j * 2)).block, (ad.add (j * 2)).off + 1, none⟩) = some (.int .i64 a.f1) ∧ W'.cell? (ad.add (i * 2)) = some (.string b.f0) ∧ W'.cell? (⟨(ad.add (i * 2)).block, (ad.add (i * 2)).off + 1, none⟩) = some (.int .i64 b.f1))
          (first | exact ⟨ra0, ra1, rb0, rb1⟩ | exact ⟨pa0, pa1, pb0, pb1⟩ | exact ⟨qa0, qa1, qb0, qb1⟩)
          (first | (go_at_call 108; refine (Rise.key_MetricLimit _ _ _).mono ?_; rintro e Wa ⟨rfl, hba⟩; have HBa := Aside0.mk (below_step (below_drew1 HBr.out) hba); have pa0 := (HBa.out.cell (World.block_lt_of_cell? w _ xa0)).trans xa0; have pa1 := (HBa.out.cell (World.block_lt_of_cell? w _ xa1)).trans xa1; have pb0 := (HBa.out.cell (World.block_lt_of_cell? w _ xb0)).trans xb0; have pb1 := (HBa.out.cell (World.block_lt_of_cell? w _ xb1)).trans xb1; clear hba HBr)
                 | (go_at_call 108; refine (Rise.key_MetricLimit _ _ _).mono ?_; rintro e Wb ⟨rfl, hbb⟩; have HBb := Aside0.mk (below_step HBa.out hbb); have qa0 := (HBb.out.cell (World.block_lt_of_cell? w _ xa0)).trans xa0; have qa1 := (HBb.out.cell (World.block_lt_of_cell? w _ xa1)).trans xa1; have qb0 := (HBb.out.cell (World.block_lt_of_cell? w _ xb0)).trans xb0; have qb1 := (HBb.out.cell (World.block_lt_of_cell? w _ xb1)).trans xb1; clear hbb HBa))
        go_wp2_with fail
        go_roundw
        case rel => exact ⟨j + 1, by go_num, by omega, ⟨by rw [HU.out, HS.out, hc, Bool.true_and, Nat.add_sub_cancel]⟩, HBb⟩
        case measure => simp [intOf]; omega
      | false =>
        rw [hc] at hle
        change (Op.bytesLess a.f0.toList b.f0.toList || a.f0.toList == b.f0.toList) = true at hle
        go_wp2_with fail
        have ra0 := (HBr.out.cell (World.block_lt_of_cell? w _ xa0)).trans xa0
        have ra1 := (HBr.out.cell (World.block_lt_of_cell? w _ xa1)).trans xa1
        have rb0 := (HBr.out.cell (World.block_lt_of_cell? w _ xb0)).trans xb0
        have rb1 := (HBr.out.cell (World.block_lt_of_cell? w _ xb1)).trans xb1
        go_region_held3 (fun W' => W'.cell? (ad.add (j * 2)) = some (.string a.f0) ∧ W'.cell? (⟨(ad.add (j * 2)).block, (ad.add (j * 2)).off + 1, none⟩) = some (.int .i64 a.f1) ∧ W'.cell? (ad.add (i * 2)) = some (.string b.f0) ∧ W'.cell? (⟨(ad.add (i * 2)).block, (ad.add (i * 2)).off + 1, none⟩) = some (.int .i64 b.f1))
          (first | exact ⟨ra0, ra1, rb0, rb1⟩ | exact ⟨pa0, pa1, pb0, pb1⟩ | exact ⟨qa0, qa1, qb0, qb1⟩)
          (first | (go_at_call 108; refine (Rise.key_MetricLimit _ _ _).mono ?_; rintro e Wa ⟨rfl, hba⟩; have HBa := Aside0.mk (below_step (below_drew1 HBr.out) hba); have pa0 := (HBa.out.cell (World.block_lt_of_cell? w _ xa0)).trans xa0; have pa1 := (HBa.out.cell (World.block_lt_of_cell? w _ xa1)).trans xa1; have pb0 := (HBa.out.cell (World.block_lt_of_cell? w _ xb0)).trans xb0; have pb1 := (HBa.out.cell (World.block_lt_of_cell? w _ xb1)).trans xb1; clear hba HBr)
                 | (go_at_call 108; refine (Rise.key_MetricLimit _ _ _).mono ?_; rintro e Wb ⟨rfl, hbb⟩; have HBb := Aside0.mk (below_step HBa.out hbb); have qa0 := (HBb.out.cell (World.block_lt_of_cell? w _ xa0)).trans xa0; have qa1 := (HBb.out.cell (World.block_lt_of_cell? w _ xa1)).trans xa1; have qb0 := (HBb.out.cell (World.block_lt_of_cell? w _ xb0)).trans xb0; have qb1 := (HBb.out.cell (World.block_lt_of_cell? w _ xb1)).trans xb1; clear hbb HBa))
        go_wp2_with fail
        go_ret
        exact ⟨by rw [← H.out, HU.out, HS.out, hc, Bool.false_and]; rfl, HBb.out⟩
    · have hfin := Aside0.mk (Rise.up_short ((l0.map (·.f0)).drop (j - 1)) (by rw [List.length_drop, List.length_map]; omega))
      go_wp2_with fail
      go_ret
      exact ⟨by rw [← H.out, HU.out, hfin.out]; rfl, HBr.out⟩
set_option maxHeartbeats 1000000 in
theorem Rise.key_Tenant (s : ByteArray) (v1 v2 v3 : Value) (w : World) :
    Calls Tryz.prog 57 #[.agg #[.string s, v1, v2, v3]] w fun e w' => e = .returned (.string s) ∧ Below w.heap.size w w' := by
  have HB := Aside0.mk ((Below.refl w.heap.size w).alloc (Nat.le_refl _) (.cells #[.string s, v1, v2, v3] 87))
  have hx : (w.alloc (.cells #[.string s, v1, v2, v3] 87)).cell? ⟨w.heap.size, 0, none⟩ = some (.string s) := (blk_cell (blk_new w _) 0).trans rfl
  go_enter Tryz.func57, Tryz.ntmps57
  go_wp2_with fail
  go_ret
  exact ⟨rfl, HB.out⟩
def impl_Tenant_string.f (l : List S87) : Option Bool := if l.length < 9223372036854775807 then some (Rise.up (l.map (·.f0))) else none
set_option maxHeartbeats 4000000 in
set_option maxRecDepth 100000 in
theorem impl_Tenant_string.calls (A0 : Option Addr) (c0 : Nat) (l0 : List S87) (r : Bool) (w : World) (hr0 : Kd.C k87 w A0 l0.length l0) (hc0 : l0.length ≤ c0) (h : impl_Tenant_string.f l0 = some r) :
    Calls Tryz.prog 56 #[.slice A0 l0.length c0, .func (.func 57) #[] #[]] w fun e w' => e = .returned (.bool r) ∧ Below w.heap.size w w' := by
  unfold impl_Tenant_string.f at h
  by_cases hn : l0.length < 9223372036854775807
  case neg => rw [if_neg hn] at h; cases h
  rw [if_pos hn] at h
  have H := Aside0.mk (Option.some.inj h)
  have HR := Aside0.mk hr0
  clear h hr0
  have HB := Aside0.mk (Below.refl w.heap.size w)
  go_enter Tryz.func56, Tryz.ntmps56
  go_wp2_with fail
  go_loopw [5] (fun i wr => ∃ j : Nat, i = .int .i64 j ∧ 1 ≤ j ∧ Aside0 (Rise.up (l0.map (·.f0)) = Rise.up ((l0.map (·.f0)).drop (j - 1))) ∧ Aside0 (Below w.heap.size w wr)) (fun i _ => l0.length - (intOf i).toNat)
  case atStart => exact ⟨1, rfl, Nat.le_refl _, ⟨rfl⟩, HB⟩
  case round =>
    obtain ⟨j, rfl, h1, HU, HBr⟩ := hrel
    by_cases hlt : j < l0.length
    · obtain ⟨i, hij⟩ : ∃ i, j = i + 1 := ⟨j - 1, by omega⟩
      have hs := Rise.up_step (·.f0) z87 l0 i j hij hlt
      have hi : i < l0.length := by omega
      have hw : IntKind.i64.wrap ((j : Int) - 1) = (i : Int) := (IntWalk.i64_in _ (by omega)).trans (by omega)
      clear hij
      change _ = (Op.bytesLess (rd_T87 l0 (i : Int)).f0.toList (rd_T87 l0 (j : Int)).f0.toList && _) at hs
      obtain ⟨ad, A2a, c2a, A3a, c3a, eaa, xa0, xa1, xa2, xa3, _, _, _, _⟩ := at_T87 HR.out ((j : Int)) (by omega) (by omega)
      subst eaa
      obtain ⟨ad2, A2b, c2b, A3b, c3b, eab, xb0, xb1, xb2, xb3, _, _, _, _⟩ := at_T87 HR.out ((i : Int)) (by omega) (by omega)
      obtain rfl := Option.some.inj eab
      obtain ⟨a, ha⟩ : ∃ a, a = rd_T87 l0 (j : Int) := ⟨_, rfl⟩
      obtain ⟨b, hb⟩ : ∃ b, b = rd_T87 l0 (i : Int) := ⟨_, rfl⟩
      rw [← ha] at xa0 xa1 xa2 xa3
      rw [← hb] at xb0 xb1 xb2 xb3
      rw [← ha, ← hb] at hs
      clear ha hb
      simp only [Int.toNat_natCast] at xa0 xa1 xa2 xa3 xb0 xb1 xb2 xb3
      have HS := Aside0.mk hs
      clear hs
      have hle := Rise.le_not a.f0.toList b.f0.toList
      cases hc : Op.bytesLess b.f0.toList a.f0.toList with
      | true =>
        rw [hc] at hle
        change (Op.bytesLess a.f0.toList b.f0.toList || a.f0.toList == b.f0.toList) = false at hle
        go_wp2_with fail
        have ra0 := (HBr.out.cell (World.block_lt_of_cell? w _ xa0)).trans xa0
        have ra1 := (HBr.out.cell (World.block_lt_of_cell? w _ xa1)).trans xa1
        have ra2 := (HBr.out.cell (World.block_lt_of_cell? w _ xa2)).trans xa2
        have ra3 := (HBr.out.cell (World.block_lt_of_cell? w _ xa3)).trans xa3
        have rb0 := (HBr.out.cell (World.block_lt_of_cell? w _ xb0)).trans xb0
        have rb1 := (HBr.out.cell (World.block_lt_of_cell? w _ xb1)).trans xb1
        have rb2 := (HBr.out.cell (World.block_lt_of_cell? w _ xb2)).trans xb2
        have rb3 := (HBr.out.cell (World.block_lt_of_cell? w _ xb3)).trans xb3
        go_region_held3 (fun W' => W'.cell? (ad.add (j * 4)) = some (.string a.f0) ∧ W'.cell? (⟨(ad.add (j * 4)).block, (ad.add (j * 4)).off + 1, none⟩) = some (.int .i64 a.f1) ∧ W'.cell? (⟨(ad.add (j * 4)).block, (ad.add (j * 4)).off + 2, none⟩) = some (.slice A2a a.f2.length c2a) ∧ W'.cell? (⟨(ad.add (j * 4)).block, (ad.add (j * 4)).off + 3, none⟩) = some (.slice A3a a.f3.length c3a) ∧ W'.cell? (ad.add (i * 4)) = some (.string b.f0) ∧ W'.cell? (⟨(ad.add (i * 4)).block, (ad.add (i * 4)).off + 1, none⟩) = some (.int .i64 b.f1) ∧ W'.cell? (⟨(ad.add (i * 4)).block, (ad.add (i * 4)).off + 2, none⟩) = some (.slice A2b b.f2.length c2b) ∧ W'.cell? (⟨(ad.add (i * 4)).block, (ad.add (i * 4)).off + 3, none⟩) = some (.slice A3b b.f3.length c3b))
          (first | exact ⟨ra0, ra1, ra2, ra3, rb0, rb1, rb2, rb3⟩ | exact ⟨pa0, pa1, pa2, pa3, pb0, pb1, pb2, pb3⟩ | exact ⟨qa0, qa1, qa2, qa3, qb0, qb1, qb2, qb3⟩)
          (first | (go_at_call 57; refine (Rise.key_Tenant _ _ _ _ _).mono ?_; rintro e Wa ⟨rfl, hba⟩; have HBa := Aside0.mk (below_step (below_drew1 HBr.out) hba); have pa0 := (HBa.out.cell (World.block_lt_of_cell? w _ xa0)).trans xa0; have pa1 := (HBa.out.cell (World.block_lt_of_cell? w _ xa1)).trans xa1; have pa2 := (HBa.out.cell (World.block_lt_of_cell? w _ xa2)).trans xa2; have pa3 := (HBa.out.cell (World.block_lt_of_cell? w _ xa3)).trans xa3; have pb0 := (HBa.out.cell (World.block_lt_of_cell? w _ xb0)).trans xb0; have pb1 := (HBa.out.cell (World.block_lt_of_cell? w _ xb1)).trans xb1; have pb2 := (HBa.out.cell (World.block_lt_of_cell? w _ xb2)).trans xb2; have pb3 := (HBa.out.cell (World.block_lt_of_cell? w _ xb3)).trans xb3; clear hba HBr)
                 | (go_at_call 57; refine (Rise.key_Tenant _ _ _ _ _).mono ?_; rintro e Wb ⟨rfl, hbb⟩; have HBb := Aside0.mk (below_step HBa.out hbb); have qa0 := (HBb.out.cell (World.block_lt_of_cell? w _ xa0)).trans xa0; have qa1 := (HBb.out.cell (World.block_lt_of_cell? w _ xa1)).trans xa1; have qa2 := (HBb.out.cell (World.block_lt_of_cell? w _ xa2)).trans xa2; have qa3 := (HBb.out.cell (World.block_lt_of_cell? w _ xa3)).trans xa3; have qb0 := (HBb.out.cell (World.block_lt_of_cell? w _ xb0)).trans xb0; have qb1 := (HBb.out.cell (World.block_lt_of_cell? w _ xb1)).trans xb1; have qb2 := (HBb.out.cell (World.block_lt_of_cell? w _ xb2)).trans xb2; have qb3 := (HBb.out.cell (World.block_lt_of_cell? w _ xb3)).trans xb3; clear hbb HBa))
        go_wp2_with fail
        go_roundw
        case rel => exact ⟨j + 1, by go_num, by omega, ⟨by rw [HU.out, HS.out, hc, Bool.true_and, Nat.add_sub_cancel]⟩, HBb⟩
        case measure => simp [intOf]; omega
      | false =>
        rw [hc] at hle
        change (Op.bytesLess a.f0.toList b.f0.toList || a.f0.toList == b.f0.toList) = true at hle
        go_wp2_with fail
        have ra0 := (HBr.out.cell (World.block_lt_of_cell? w _ xa0)).trans xa0
        have ra1 := (HBr.out.cell (World.block_lt_of_cell? w _ xa1)).trans xa1
        have ra2 := (HBr.out.cell (World.block_lt_of_cell? w _ xa2)).trans xa2
        have ra3 := (HBr.out.cell (World.block_lt_of_cell? w _ xa3)).trans xa3
        have rb0 := (HBr.out.cell (World.block_lt_of_cell? w _ xb0)).trans xb0
        have rb1 := (HBr.out.cell (World.block_lt_of_cell? w _ xb1)).trans xb1
        have rb2 := (HBr.out.cell (World.block_lt_of_cell? w _ xb2)).trans xb2
        have rb3 := (HBr.out.cell (World.block_lt_of_cell? w _ xb3)).trans xb3
        go_region_held3 (fun W' => W'.cell? (ad.add (j * 4)) = some (.string a.f0) ∧ W'.cell? (⟨(ad.add (j * 4)).block, (ad.add (j * 4)).off + 1, none⟩) = some (.int .i64 a.f1) ∧ W'.cell? (⟨(ad.add (j * 4)).block, (ad.add (j * 4)).off + 2, none⟩) = some (.slice A2a a.f2.length c2a) ∧ W'.cell? (⟨(ad.add (j * 4)).block, (ad.add (j * 4)).off + 3, none⟩) = some (.slice A3a a.f3.length c3a) ∧ W'.cell? (ad.add (i * 4)) = some (.string b.f0) ∧ W'.cell? (⟨(ad.add (i * 4)).block, (ad.add (i * 4)).off + 1, none⟩) = some (.int .i64 b.f1) ∧ W'.cell? (⟨(ad.add (i * 4)).block, (ad.add (i * 4)).off + 2, none⟩) = some (.slice A2b b.f2.length c2b) ∧ W'.cell? (⟨(ad.add (i * 4)).block, (ad.add (i * 4)).off + 3, none⟩) = some (.slice A3b b.f3.length c3b))
          (first | exact ⟨ra0, ra1, ra2, ra3, rb0, rb1, rb2, rb3⟩ | exact ⟨pa0, pa1, pa2, pa3, pb0, pb1, pb2, pb3⟩ | exact ⟨qa0, qa1, qa2, qa3, qb0, qb1, qb2, qb3⟩)
          (first | (go_at_call 57; refine (Rise.key_Tenant _ _ _ _ _).mono ?_; rintro e Wa ⟨rfl, hba⟩; have HBa := Aside0.mk (below_step (below_drew1 HBr.out) hba); have pa0 := (HBa.out.cell (World.block_lt_of_cell? w _ xa0)).trans xa0; have pa1 := (HBa.out.cell (World.block_lt_of_cell? w _ xa1)).trans xa1; have pa2 := (HBa.out.cell (World.block_lt_of_cell? w _ xa2)).trans xa2; have pa3 := (HBa.out.cell (World.block_lt_of_cell? w _ xa3)).trans xa3; have pb0 := (HBa.out.cell (World.block_lt_of_cell? w _ xb0)).trans xb0; have pb1 := (HBa.out.cell (World.block_lt_of_cell? w _ xb1)).trans xb1; have pb2 := (HBa.out.cell (World.block_lt_of_cell? w _ xb2)).trans xb2; have pb3 := (HBa.out.cell (World.block_lt_of_cell? w _ xb3)).trans xb3; clear hba HBr)
                 | (go_at_call 57; refine (Rise.key_Tenant _ _ _ _ _).mono ?_; rintro e Wb ⟨rfl, hbb⟩; have HBb := Aside0.mk (below_step HBa.out hbb); have qa0 := (HBb.out.cell (World.block_lt_of_cell? w _ xa0)).trans xa0; have qa1 := (HBb.out.cell (World.block_lt_of_cell? w _ xa1)).trans xa1; have qa2 := (HBb.out.cell (World.block_lt_of_cell? w _ xa2)).trans xa2; have qa3 := (HBb.out.cell (World.block_lt_of_cell? w _ xa3)).trans xa3; have qb0 := (HBb.out.cell (World.block_lt_of_cell? w _ xb0)).trans xb0; have qb1 := (HBb.out.cell (World.block_lt_of_cell? w _ xb1)).trans xb1; have qb2 := (HBb.out.cell (World.block_lt_of_cell? w _ xb2)).trans xb2; have qb3 := (HBb.out.cell (World.block_lt_of_cell? w _ xb3)).trans xb3; clear hbb HBa))
        go_wp2_with fail
        go_ret
        exact ⟨by rw [← H.out, HU.out, HS.out, hc, Bool.false_and]; rfl, HBb.out⟩
    · have hfin := Aside0.mk (Rise.up_short ((l0.map (·.f0)).drop (j - 1)) (by rw [List.length_drop, List.length_map]; omega))
      go_wp2_with fail
      go_ret
      exact ⟨by rw [← H.out, HU.out, hfin.out]; rfl, HBr.out⟩
end Go.Proofs.YtikbfjnbhogihaaGreatDoor.M
