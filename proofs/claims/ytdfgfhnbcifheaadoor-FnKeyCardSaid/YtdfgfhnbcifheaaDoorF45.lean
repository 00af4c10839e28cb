/- Some of this seat's texts, joined by prune.py. -/
import Derived.Test.YtdfgfhnbcifheaaDoorM0
import Derived.Test.YtdfgfhnbcifheaaDoorShelf
import Derived.Test.YtdfgfhnbcifheaaDoorF24
import Derived.Test.YtdfgfhnbcifheaaDoorUtf
import Derived.Test.YtdfgfhnbcifheaaDoorF42
import Derived.Test.YtdfgfhnbcifheaaDoorF25
import Derived.Test.YtdfgfhnbcifheaaDoorF26
import Derived.Test.YtdfgfhnbcifheaaDoorF28
-- By pp.py, a program of this repo, with the kit's printer: Lean checks it.
namespace Go.Proofs.YtdfgfhnbcifheaaDoor.M
open Go.RowKit Go.Proofs.YtdfgfhnbcifheaaDoorW.PrintWords Go.Proofs.YtdfgfhnbcifheaaDoorW.PrintLast Go.Proofs.YtdfgfhnbcifheaaDoorW.PrintMore
attribute [local go_sem] max2_int min2_int max_two min_two max_three min_three max_four min_four
set_option linter.unusedVariables false
set_option linter.unusedSimpArgs false

/-! ### spec_l1Cur_pick: function 45 -/
def spec_l1Cur_pick.f (s0_0 : List Int) (s0_1 : Int) (s0_2 : Int) (a1 : Int) : Option (Int × Int × Int) := if a1 ≤ 1 then (some (0, s0_1, s0_2)) else (if a1 ≤ 256 then ((spec_l1Cur_byte.f s0_0 s0_1 s0_2).bind fun bt313 => (if a1 = 0 then (none) else (some (Int.tmod bt313.1 a1, bt313.2.1, bt313.2.2)))) else ((spec_l1Cur_byte.f s0_0 s0_1 s0_2).bind fun bt316 => ((spec_l1Cur_byte.f s0_0 bt316.2.1 bt316.2.2).bind fun bt319 => (if a1 = 0 then (none) else (some (Int.tmod (wrap64 ((wrap64 (bt316.1 * 256)) + bt319.1)) a1, bt319.2.1, bt319.2.2))))))
set_option maxHeartbeats 8000000 in
set_option maxRecDepth 100000 in
theorem spec_l1Cur_pick.calls (g : Nat) (s0_0 : List Int) (s0_1 : Int) (s0_2 : Int) (a1 : Int) (r1 : Int) (r2 : Int) (r3 : Int) (w0 w : World) (hI : IsS56 w0 w g s0_0 s0_1 s0_2) (hB : Below w0.heap.size w0 w) (h : spec_l1Cur_pick.f s0_0 s0_1 s0_2 a1 = some (r1, r2, r3)) :
    Calls Tryd.prog 45 #[.pointer (some ⟨g, 0, none⟩), .int .i64 a1] w fun e w' => e = .returned (.int .i64 r1) ∧ IsS56 w0 w' g s0_0 r2 r3 ∧ Below w0.heap.size w0 w' ∧ KeepBut w w' g none := by
  have HI0 := Aside0.mk hI
  have HK := Aside0.mk (KeepBut.refl w g none)
  have HL := Aside0.mk hB.size
  clear hI
  have HW0 := Aside0.mk hB.size
  have HB := Aside0.mk hB
  clear hB
  have H : (if a1 ≤ 1 then (some (0, s0_1, s0_2)) else (if a1 ≤ 256 then ((spec_l1Cur_byte.f s0_0 s0_1 s0_2).bind fun bt313 => (if a1 = 0 then (none) else (some (Int.tmod bt313.1 a1, bt313.2.1, bt313.2.2)))) else ((spec_l1Cur_byte.f s0_0 s0_1 s0_2).bind fun bt316 => ((spec_l1Cur_byte.f s0_0 bt316.2.1 bt316.2.2).bind fun bt319 => (if a1 = 0 then (none) else (some (Int.tmod (wrap64 ((wrap64 (bt316.1 * 256)) + bt319.1)) a1, bt319.2.1, bt319.2.2))))))) = some (r1, r2, r3) := h
  clear h
  by_cases c3 : a1 ≤ 1
  · rw [if_pos c3] at H
    have c3b0 : decide (a1 ≤ 1) = true := decide_eq_true c3
    clear c3
    simp only [Option.some.injEq, Prod.mk.injEq] at H
    obtain ⟨rfl, rfl, rfl⟩ := H
    go_enter Tryd.func45, Tryd.ntmps45
    go_wp2
    go_ret
    exact ⟨by first | rfl | (simp [errW_none, errW_some] <;> rfl) | (simp [*, errW_none, errW_some] <;> rfl), by repeat (first | (with_reducible first | exact HI0.out | apply IsS56.alloc | apply IsS56.drewN | apply IsS56.drew | apply IsS56.set_1 | apply IsS56.set_2) | exact HI0.out), by repeat (first | (with_reducible first | exact HB.out | apply below_alloc | apply pw_below_drewN | apply below_drew1 | refine below_set ?_ (IsS56.ge HI0.out)) | exact HB.out), by repeat (first | (with_reducible first | exact HK.out | apply KeepBut.set_ | apply keep_drewN | apply keep_drew | apply keep_alloc) | exact HK.out)⟩
  · rw [if_neg c3] at H
    have c3b0 : decide (a1 ≤ 1) = false := decide_eq_false c3
    clear c3
    by_cases c4 : a1 ≤ 256
    · rw [if_pos c4] at H
      have c4b0 : decide (a1 ≤ 256) = true := decide_eq_true c4
      clear c4
      replace H := Option.bind_eq_some_iff.mp H
      obtain ⟨⟨t313, t314, t315⟩, A50, H⟩ := H
      replace H : (if a1 = 0 then (none) else (some (Int.tmod t313 a1, t314, t315))) = some (r1, r2, r3) := H
      have A5 := Aside0.mk A50
      clear A50
      by_cases c6 : a1 = 0
      · rw [if_pos c6] at H
        exact absurd H (by simp)
      · rw [if_neg c6] at H
        have c6b0 : (a1 == 0) = false := beq_eq_false_iff_ne.mpr c6
        have c6b1 : (a1 != 0) = true := bne_iff_ne.mpr c6
        simp only [Option.some.injEq, Prod.mk.injEq] at H
        obtain ⟨rfl, rfl, rfl⟩ := H
        go_enter Tryd.func45, Tryd.ntmps45
        go_wp2_with (first | ((with_reducible refine gate_callee (f := 59) rfl ?_); refine goesL_ (some 12) rfl rfl Tryd.func59 (by kernel_rfl) rfl #[.pointer (some ⟨g, 0, none⟩)] rfl (by (try simp only [List.map_toArray, List.map_cons, List.map_nil]); first | done | rfl | (simp only [List.length_drop, List.length_take]; rfl)) ?_; (with_reducible refine (spec_l1Cur_byte.calls g s0_0 s0_1 s0_2 t313 t314 t315 w0 _ ?side1 ?side2 A5.out).mono ?_); (case side1 => repeat (first | (with_reducible first | exact HI0.out | apply IsS56.alloc | apply IsS56.drewN | apply IsS56.drew | apply IsS56.set_1 | apply IsS56.set_2) | exact HI0.out)); (case side2 => repeat (first | (with_reducible first | exact HB.out | apply below_alloc | apply pw_below_drewN | apply below_drew1 | refine below_set ?_ (IsS56.ge HI0.out)) | exact HB.out)); rintro e w7 ⟨rfl, hi, hb, hk⟩; refine ⟨_, rfl, ?_⟩; have n0_ := Aside0.mk (KeepBut.trans (by repeat (first | (with_reducible first | exact HK.out | apply KeepBut.set_ | apply keep_drewN | apply keep_drew | apply keep_alloc) | exact HK.out)) hk (.inl rfl)); have n1_ := Aside0.mk (hb); have n2_ := Aside0.mk (hi); clear HK; clear HB; clear HI0; have HK := n0_; have HB := n1_; have HI0 := n2_; clear n0_ n1_ n2_; (try clear hb); (try clear hb2); (try clear hk); (try clear hi)))
        go_ret
        exact ⟨by first | rfl | (simp [errW_none, errW_some] <;> rfl) | (simp [*, errW_none, errW_some] <;> rfl), by repeat (first | (with_reducible first | exact HI0.out | apply IsS56.alloc | apply IsS56.drewN | apply IsS56.drew | apply IsS56.set_1 | apply IsS56.set_2) | exact HI0.out), by repeat (first | (with_reducible first | exact HB.out | apply below_alloc | apply pw_below_drewN | apply below_drew1 | refine below_set ?_ (IsS56.ge HI0.out)) | exact HB.out), by repeat (first | (with_reducible first | exact HK.out | apply KeepBut.set_ | apply keep_drewN | apply keep_drew | apply keep_alloc) | exact HK.out)⟩
    · rw [if_neg c4] at H
      have c4b0 : decide (a1 ≤ 256) = false := decide_eq_false c4
      clear c4
      replace H := Option.bind_eq_some_iff.mp H
      obtain ⟨⟨t316, t317, t318⟩, A80, H⟩ := H
      replace H : ((spec_l1Cur_byte.f s0_0 t317 t318).bind fun bt319 => (if a1 = 0 then (none) else (some (Int.tmod (wrap64 ((wrap64 (t316 * 256)) + bt319.1)) a1, bt319.2.1, bt319.2.2)))) = some (r1, r2, r3) := H
      have A8 := Aside0.mk A80
      clear A80
      replace H := Option.bind_eq_some_iff.mp H
      obtain ⟨⟨t319, t320, t321⟩, A90, H⟩ := H
      replace H : (if a1 = 0 then (none) else (some (Int.tmod (wrap64 ((wrap64 (t316 * 256)) + t319)) a1, t320, t321))) = some (r1, r2, r3) := H
      have A9 := Aside0.mk A90
      clear A90
      by_cases c10 : a1 = 0
      · rw [if_pos c10] at H
        exact absurd H (by simp)
      · rw [if_neg c10] at H
        have c10b0 : (a1 == 0) = false := beq_eq_false_iff_ne.mpr c10
        have c10b1 : (a1 != 0) = true := bne_iff_ne.mpr c10
        simp only [Option.some.injEq, Prod.mk.injEq] at H
        obtain ⟨rfl, rfl, rfl⟩ := H
        go_enter Tryd.func45, Tryd.ntmps45
        go_wp2_with (first | ((with_reducible refine gate_callee (f := 59) rfl ?_); refine goesL_ (some 16) rfl rfl Tryd.func59 (by kernel_rfl) rfl #[.pointer (some ⟨g, 0, none⟩)] rfl (by (try simp only [List.map_toArray, List.map_cons, List.map_nil]); first | done | rfl | (simp only [List.length_drop, List.length_take]; rfl)) ?_; (with_reducible refine (spec_l1Cur_byte.calls g s0_0 s0_1 s0_2 t316 t317 t318 w0 _ ?side1 ?side2 A8.out).mono ?_); (case side1 => repeat (first | (with_reducible first | exact HI0.out | apply IsS56.alloc | apply IsS56.drewN | apply IsS56.drew | apply IsS56.set_1 | apply IsS56.set_2) | exact HI0.out)); (case side2 => repeat (first | (with_reducible first | exact HB.out | apply below_alloc | apply pw_below_drewN | apply below_drew1 | refine below_set ?_ (IsS56.ge HI0.out)) | exact HB.out)); rintro e w11 ⟨rfl, hi, hb, hk⟩; refine ⟨_, rfl, ?_⟩; have n0_ := Aside0.mk (KeepBut.trans (by repeat (first | (with_reducible first | exact HK.out | apply KeepBut.set_ | apply keep_drewN | apply keep_drew | apply keep_alloc) | exact HK.out)) hk (.inl rfl)); have n1_ := Aside0.mk (hb); have n2_ := Aside0.mk (hi); clear HK; clear HB; clear HI0; have HK := n0_; have HB := n1_; have HI0 := n2_; clear n0_ n1_ n2_; (try clear hb); (try clear hb2); (try clear hk); (try clear hi)) | ((with_reducible refine gate_callee (f := 59) rfl ?_); refine goesL_ (some 18) rfl rfl Tryd.func59 (by kernel_rfl) rfl #[.pointer (some ⟨g, 0, none⟩)] rfl (by (try simp only [List.map_toArray, List.map_cons, List.map_nil]); first | done | rfl | (simp only [List.length_drop, List.length_take]; rfl)) ?_; (with_reducible refine (spec_l1Cur_byte.calls g s0_0 t317 t318 t319 t320 t321 w0 _ ?side1 ?side2 A9.out).mono ?_); (case side1 => repeat (first | (with_reducible first | exact HI0.out | apply IsS56.alloc | apply IsS56.drewN | apply IsS56.drew | apply IsS56.set_1 | apply IsS56.set_2) | exact HI0.out)); (case side2 => repeat (first | (with_reducible first | exact HB.out | apply below_alloc | apply pw_below_drewN | apply below_drew1 | refine below_set ?_ (IsS56.ge HI0.out)) | exact HB.out)); rintro e w12 ⟨rfl, hi, hb, hk⟩; refine ⟨_, rfl, ?_⟩; have n0_ := Aside0.mk (KeepBut.trans (by repeat (first | (with_reducible first | exact HK.out | apply KeepBut.set_ | apply keep_drewN | apply keep_drew | apply keep_alloc) | exact HK.out)) hk (.inl rfl)); have n1_ := Aside0.mk (hb); have n2_ := Aside0.mk (hi); clear HK; clear HB; clear HI0; have HK := n0_; have HB := n1_; have HI0 := n2_; clear n0_ n1_ n2_; (try clear hb); (try clear hb2); (try clear hk); (try clear hi)))
        go_ret
        exact ⟨by first | rfl | (simp [errW_none, errW_some] <;> rfl) | (simp [*, errW_none, errW_some] <;> rfl), by repeat (first | (with_reducible first | exact HI0.out | apply IsS56.alloc | apply IsS56.drewN | apply IsS56.drew | apply IsS56.set_1 | apply IsS56.set_2) | exact HI0.out), by repeat (first | (with_reducible first | exact HB.out | apply below_alloc | apply pw_below_drewN | apply below_drew1 | refine below_set ?_ (IsS56.ge HI0.out)) | exact HB.out), by repeat (first | (with_reducible first | exact HK.out | apply KeepBut.set_ | apply keep_drewN | apply keep_drew | apply keep_alloc) | exact HK.out)⟩

end Go.Proofs.YtdfgfhnbcifheaaDoor.M
/- Labels in canonical form: what both compute. Plain. -/
namespace Go.Proofs.YtdfgfhnbcifheaaDoor.Can
open Go.Proofs.YtdfgfhnbcifheaaDoor.M Go.Proofs.YtdfgfhnbcifheaaDoor.Loops Go.Proofs.YtdfgfhnbcifheaaDoor.CanSort Go.Proofs.YtdfgfhnbcifheaaDoor.Utf Go.Proofs.YtdfgfhnbcifheaaDoorW.PrintWords Go.Proofs.YtdfgfhnbcifheaaDoorW.PrintLast Go.Proofs.YtdfgfhnbcifheaaDoorW.PrintMore Go.RowKit
/-- A byte that a name may have; a digit not at the first place. -/
def chr (i : Nat) (c : Int) : Bool := decide (65 ≤ c ∧ c ≤ 90 ∨ 97 ≤ c ∧ c ≤ 122 ∨ c = 95 ∨ (48 ≤ c ∧ c ≤ 57 ∧ 0 < i))
def chars (s : ByteArray) : Nat → Bool
  | 0 => true
  | n + 1 => chr (s.size - (n + 1)) (bt s ((s.size - (n + 1) : Nat) : Int)) && chars s n
def nameOK (s : ByteArray) : Bool := decide (1 ≤ s.size ∧ s.size ≤ 64) && chars s s.size
def fault (x : Lb) : Int := if nameOK x.f0 = true then vf x.f1 else 41
/-- The first label with a fault, and the fault. -/
def firstF : List Lb → Nat → Option (Int × Nat)
  | [], _ => none
  | x :: l, i => if fault x = 0 then firstF l (i + 1) else some (fault x, i)
def named (x : Lb) (b : Lb) : Bool := decide (b.f0.toList = x.f0.toList)
/-- The first label whose name stood before. -/
def firstT : List Lb → List Lb → Option Nat
  | _, [] => none
  | before, x :: l => if before.any (named x) = true then some before.length else firstT (before ++ [x]) l
def keep (x : Lb) : Bool := decide (¬ x.f1.toList = [])
def isMet (x : Lb) : Bool := keep x && decide (x.f0.toList = [95, 95, 110, 97, 109, 101, 95, 95])
def can (l : List Lb) : List Lb × Int × Int :=
  if 16 < l.length then ([], 40, 0) else match firstF l 0 with
  | some (c, i) => ([], c, (i : Int))
  | none => match firstT [] l with
    | some i => ([], 45, (i : Int))
    | none => if l.any isMet = true then (order (l.filter keep), 0, 0) else ([], 46, 0)
/-- What can be told of: no text beyond reach. -/
def Fit (l : List Lb) : Prop := ∀ x ∈ l, x.f0.size ≤ 1073741824 ∧ x.f1.size ≤ 1073741824
theorem can_many {l : List Lb} (h : 16 < l.length) : can l = ([], 40, 0) := by unfold can; rw [if_pos h]
theorem can_fault {l : List Lb} {c : Int} {i : Nat} (h : ¬ 16 < l.length) (h2 : firstF l 0 = some (c, i)) : can l = ([], c, (i : Int)) := by unfold can; rw [if_neg h, h2]
theorem can_twice {l : List Lb} {i : Nat} (h : ¬ 16 < l.length) (h2 : firstF l 0 = none) (h3 : firstT [] l = some i) : can l = ([], 45, (i : Int)) := by unfold can; rw [if_neg h, h2, h3]
theorem can_none {l : List Lb} (h : ¬ 16 < l.length) (h2 : firstF l 0 = none) (h3 : firstT [] l = none) (h4 : l.any isMet = false) : can l = ([], 46, 0) := by unfold can; rw [if_neg h, h2, h3]; simp [h4]
theorem can_good {l : List Lb} (h : ¬ 16 < l.length) (h2 : firstF l 0 = none) (h3 : firstT [] l = none) (h4 : l.any isMet = true) : can l = (order (l.filter keep), 0, 0) := by unfold can; rw [if_neg h, h2, h3]; simp [h4]
theorem firstF_ok {x : Lb} {l : List Lb} {i : Nat} (h : fault x = 0) : firstF (x :: l) i = firstF l (i + 1) := by conv => lhs; unfold firstF; rw [if_pos h]
theorem firstF_bad {x : Lb} {l : List Lb} {i : Nat} (h : ¬ fault x = 0) : firstF (x :: l) i = some (fault x, i) := by conv => lhs; unfold firstF; rw [if_neg h]
theorem firstT_no {b : List Lb} {x : Lb} {l : List Lb} (h : b.any (named x) = false) : firstT b (x :: l) = firstT (b ++ [x]) l := by conv => lhs; unfold firstT; rw [h]; simp
theorem firstT_yes {b : List Lb} {x : Lb} {l : List Lb} (h : b.any (named x) = true) : firstT b (x :: l) = some b.length := by conv => lhs; unfold firstT; rw [h]; simp
theorem once_of : ∀ (l b : List Lb), firstT b l = none → Once b → Once (b ++ l)
  | [], b, _, hb => by simpa using hb
  | x :: l, b, h, hb => by
    cases hx : b.any (named x) with
    | true => rw [firstT_yes hx] at h; cases h
    | false =>
      rw [firstT_no hx] at h
      have h2 : Once (b ++ [x]) := by
        unfold Once at hb ⊢
        rw [List.pairwise_append]
        refine ⟨hb, by simp, fun a ha c hc => ?_⟩
        rw [List.mem_singleton] at hc
        subst hc
        intro e
        rw [List.any_eq_false] at hx
        exact hx a ha (by unfold named; exact decide_eq_true e)
      have := once_of l (b ++ [x]) h h2
      simpa using this
theorem once_all {l : List Lb} (h : firstT [] l = none) : Once l := by
  have := once_of l [] h (by unfold Once; simp)
  simpa using this
theorem once_filter {l : List Lb} (p : Lb → Bool) (h : Once l) : Once (l.filter p) := by unfold Once at h ⊢; exact h.filter _
/-! ### names -/
theorem impl_chars (s : ByteArray) (hz : s.size ≤ 64) : ∀ n j, j + n = s.size → Ev (fun k => impl_isName.l0 k s (s.size : Int) j) (chars s n) := by
  intro n
  induction n with
  | zero =>
    intro j hj
    refine Ev.step (f := fun _ => some _) (fun k => by simp only [impl_isName.l0]; rw [if_neg (by omega)]; rfl) (Ev.now _)
  | succ n ih =>
    intro j hj
    have hb := bt_range s (j : Int)
    have e : s.size - (n + 1) = j := by omega
    have hn := ih (j + 1) (by omega)
    have yes : chr j (bt s (j : Int)) = true → chars s (n + 1) = chars s n := fun h => (show chars s (n + 1) = (chr (s.size - (n + 1)) (bt s ((s.size - (n + 1) : Nat) : Int)) && chars s n) from rfl).trans (by rw [e, h]; rfl)
    have no : chr j (bt s (j : Int)) = false → chars s (n + 1) = false := fun h => (show chars s (n + 1) = (chr (s.size - (n + 1)) (bt s ((s.size - (n + 1) : Nat) : Int)) && chars s n) from rfl).trans (by rw [e, h]; rfl)
    have hw : wrap64 ((j : Int) + 1) = ((j + 1 : Nat) : Int) := w_succ j (by omega)
    cases hc : chr j (bt s (j : Int)) with
    | true =>
      rw [yes hc]
      refine Ev.step (fun k => ?_) hn
      unfold chr at hc
      have hc := of_decide_eq_true hc
      simp only [impl_isName.l0]
      rw [hw, if_pos (by omega), if_pos (by omega), if_pos (by omega)]
      generalize bt s (j : Int) = c at hb hc ⊢
      repeat' split
      all_goals first | rfl | (exfalso; omega)
    | false =>
      rw [no hc]
      refine Ev.step (f := fun _ => some false) (fun k => ?_) (Ev.now _)
      unfold chr at hc
      have hc := of_decide_eq_false hc
      simp only [impl_isName.l0]
      rw [hw, if_pos (by omega), if_pos (by omega), if_pos (by omega)]
      generalize bt s (j : Int) = c at hb hc ⊢
      repeat' split
      all_goals first | rfl | (exfalso; omega)
theorem size_zero {a : ByteArray} : a.toList = [] ↔ a.size = 0 := by
  rw [ByteArray.toList_eq]
  constructor
  · intro h
    have : a.data.toList.length = 0 := by rw [h]; rfl
    exact this
  · intro h
    exact List.length_eq_zero_iff.1 h
theorem impl_name (s : ByteArray) : Ev (fun k => impl_isName.f k s) (nameOK s) := by
  unfold impl_isName.f nameOK
  by_cases h0 : s.toList = []
  · have := size_zero.1 h0
    refine Ev.ite_pos h0 (Ev.eq (Ev.now _) ?_)
    rw [decide_eq_false (by omega)]; rfl
  · have h1 : ¬ s.size = 0 := fun h => h0 (size_zero.2 h)
    by_cases h2 : (s.size : Int) > 64
    · refine Ev.ite_neg h0 (Ev.ite_pos h2 (Ev.eq (Ev.now _) ?_))
      rw [decide_eq_false (by omega)]; rfl
    · refine Ev.ite_neg h0 (Ev.ite_neg h2 (Ev.eq (impl_chars s (by omega) s.size 0 (by omega)) ?_))
      rw [decide_eq_true (by omega)]; rfl
theorem spec_chars (s : ByteArray) (hz : s.size ≤ 64) (hd : ¬ (48 ≤ bt s 0 ∧ bt s 0 ≤ 57)) : ∀ n j, j + n = s.size → Ev (fun k => spec_l3NameOK.l0 k s j) (chars s n) := by
  intro n
  induction n with
  | zero =>
    intro j hj
    refine Ev.step (f := fun _ => some _) (fun k => by simp only [spec_l3NameOK.l0]; rw [if_neg (by omega)]; rfl) (Ev.now _)
  | succ n ih =>
    intro j hj
    have hb := bt_range s (j : Int)
    have e : s.size - (n + 1) = j := by omega
    have hn := ih (j + 1) (by omega)
    have yes : chr j (bt s (j : Int)) = true → chars s (n + 1) = chars s n := fun h => (show chars s (n + 1) = (chr (s.size - (n + 1)) (bt s ((s.size - (n + 1) : Nat) : Int)) && chars s n) from rfl).trans (by rw [e, h]; rfl)
    have no : chr j (bt s (j : Int)) = false → chars s (n + 1) = false := fun h => (show chars s (n + 1) = (chr (s.size - (n + 1)) (bt s ((s.size - (n + 1) : Nat) : Int)) && chars s n) from rfl).trans (by rw [e, h]; rfl)
    have hw : wrap64 ((j : Int) + 1) = ((j + 1 : Nat) : Int) := w_succ j (by omega)
    have hd' : j = 0 → ¬ (48 ≤ bt s (j : Int) ∧ bt s (j : Int) ≤ 57) := fun h => by subst h; exact hd
    cases hc : chr j (bt s (j : Int)) with
    | true =>
      rw [yes hc]
      refine Ev.step (fun k => ?_) hn
      unfold chr at hc
      have hc := of_decide_eq_true hc
      simp only [spec_l3NameOK.l0]
      rw [hw, if_pos (by omega), if_pos (by omega)]
      generalize bt s (j : Int) = c at hb hc hd' ⊢
      repeat' split
      all_goals first | rfl | (exfalso; omega)
    | false =>
      rw [no hc]
      refine Ev.step (f := fun _ => some false) (fun k => ?_) (Ev.now _)
      unfold chr at hc
      have hc := of_decide_eq_false hc
      simp only [spec_l3NameOK.l0]
      rw [hw, if_pos (by omega), if_pos (by omega)]
      generalize bt s (j : Int) = c at hb hc hd' ⊢
      repeat' split
      all_goals first | rfl | (exfalso; omega)
theorem spec_name (s : ByteArray) : Ev (fun k => spec_l3NameOK.f k s) (nameOK s) := by
  have stop : ∀ c, c = true → Ev (fun k => spec_l3NameOK.j0 k s c) false := by
    rintro c rfl
    exact Ev.step (f := fun _ => some false) (fun k => by simp only [spec_l3NameOK.j0, if_true]) (Ev.now _)
  have bet : spec_l1Between.f (s.size : Int) 1 64 = some (decide (1 ≤ s.size ∧ s.size ≤ 64)) := by
    unfold spec_l1Between.f
    split
    · congr 1; rw [Bool.eq_iff_iff, decide_eq_true_eq, decide_eq_true_eq]; omega
    · rw [decide_eq_false (by omega)]
  unfold spec_l3NameOK.f nameOK
  rw [bet]
  simp only [Option.bind_some]
  by_cases h : 1 ≤ s.size ∧ s.size ≤ 64
  · rw [decide_eq_true h]
    simp only [if_true, Bool.true_and]
    refine Ev.ite_pos (by omega) ?_
    have first : 48 ≤ bt s 0 ∧ bt s 0 ≤ 57 → chars s s.size = false := by
      intro hd
      obtain ⟨n, hn⟩ : ∃ n, s.size = n + 1 := ⟨s.size - 1, by omega⟩
      rw [hn]
      unfold chars
      rw [show s.size - (n + 1) = 0 by omega]
      have : chr 0 (bt s ((0 : Nat) : Int)) = false := by
        unfold chr
        apply decide_eq_false
        have h2 : bt s ((0 : Nat) : Int) = bt s 0 := rfl
        rw [h2]
        omega
      rw [this]; rfl
    have go : ¬ (48 ≤ bt s 0 ∧ bt s 0 ≤ 57) → Ev (fun k => spec_l3NameOK.j0 k s false) (chars s s.size) := fun hd =>
      Ev.step (fun k => by simp only [spec_l3NameOK.j0, Bool.false_eq_true, if_false]; rfl) (spec_chars s h.2 hd s.size 0 (by omega))
    by_cases h48 : bt s 0 ≥ 48
    · refine Ev.ite_pos h48 ?_
      by_cases h57 : bt s 0 ≤ 57
      · rw [first ⟨h48, h57⟩]
        exact stop _ (decide_eq_true h57)
      · rw [decide_eq_false h57]
        exact go (by omega)
    · exact Ev.ite_neg h48 (go (by omega))
  · rw [decide_eq_false h]
    simp only [Bool.false_eq_true, if_false, Bool.false_and]
    exact stop true rfl
end Go.Proofs.YtdfgfhnbcifheaaDoor.Can
