import Derived.Test.YtikbfjnbhogihaaGreatDoorM0
import Derived.Test.YtikbfjnbhogihaaGreatDoorXJoin
import Derived.Test.YtikbfjnbhogihaaGreatDoorF168
import Derived.BigCall
import Derived.BigGuard
import Derived.Sort.LotA
import Derived.Shelf.SlSortCmp.Insertion
import Derived.Shelf.Small.Strs
import Derived.Shelf.SlSortCmp.WholeK
import Derived.Shelf.SlSortCmp.NoneTotal
import Derived.WalkKit
namespace Go.Proofs.YtikbfjnbhogihaaGreatDoor.M
open Go.RowKit Go.Proofs.YtikbfjnbhogihaaGreatDoorW.PrintWords Go.Proofs.YtikbfjnbhogihaaGreatDoorW.PrintLast Go.Proofs.YtikbfjnbhogihaaGreatDoorW.PrintMore
attribute [local go_sem] max2_int min2_int max_two min_two max_three min_three max_four min_four
set_option linter.unusedVariables false
set_option linter.unusedSimpArgs false
/-! ### spec_l1Between: function 48 -/
def spec_l1Between.f (a0 : Int) (a1 : Int) (a2 : Int) : Option (Bool) := if a1 ≤ a0 then (some (decide (a0 ≤ a2))) else (some false)
set_option maxHeartbeats 8000000 in
set_option maxRecDepth 100000 in
theorem spec_l1Between.calls (a0 : Int) (a1 : Int) (a2 : Int) (r : Bool) (w : World) (h : spec_l1Between.f a0 a1 a2 = some r) :
  Calls Tryz.prog 48 #[.int .i64 a0, .int .i64 a1, .int .i64 a2] w fun e w' => e = .returned (.bool r) ∧ Drawn0 w w' := by
 have H : (if a1 ≤ a0 then (some (decide (a0 ≤ a2))) else (some false)) = some r := h
 clear h
 by_cases c4 : a1 ≤ a0
 ·rw [if_pos c4] at H
  have c4b0 : decide (a1 ≤ a0) = true := decide_eq_true c4
  clear c4
  obtain rfl := Option.some.inj H
  go_enter Tryz.func48, Tryz.ntmps48
  go_wp2
  go_ret
  exact ⟨by first | rfl | (simp; done) | (simp [*]; done), by repeat (first | exact Drawn0.refl _ | apply Drawn0.step)⟩
 ·rw [if_neg c4] at H
  have c4b0 : decide (a1 ≤ a0) = false := decide_eq_false c4
  clear c4
  obtain rfl := Option.some.inj H
  go_enter Tryz.func48, Tryz.ntmps48
  go_wp2
  go_ret
  exact ⟨by first | rfl | (simp; done) | (simp [*]; done), by repeat (first | exact Drawn0.refl _ | apply Drawn0.step)⟩
end Go.Proofs.YtikbfjnbhogihaaGreatDoor.M
/- A list's weight, counted down from what is left: plain. -/
namespace Go.Proofs.YtikbfjnbhogihaaGreatDoor.Loops
open Go.RowKit Go.Proofs.YtikbfjnbhogihaaGreatDoorW.PrintWords
theorem sz_list {α : Type} (L : Nat → List α → Int → Int → Option Int) (g : Nat → α → Int → Option Int) (d : α) (wt : α → Nat)
  (hL : ∀ k x a i, L (k + 1) x a i = if i < (x.length : Int) then (if 0 ≤ i then ((g k (x.getD i.toNat d) a).bind fun t => if t < 0 then some (-1) else L k x t (wrap64 (i + 1))) else none) else some a)
  (x : List α) (hn : x.length ≤ 9223372036854775807)
  (hg : ∀ e ∈ x, ∀ a : Int, 0 ≤ a → a ≤ 1048576 → ∃ t, Ev (fun k => g k e a) t ∧ (0 ≤ t → t = a - wt e)) (a : Int) (h0 : 0 ≤ a) (h1 : a ≤ 1048576) :
  ∃ t, Ev (fun k => if wrap64 (a - (x.length : Int)) < 0 then some (-1) else L k x (wrap64 (a - (x.length : Int))) 0) t ∧ (0 ≤ t → t = a - ((x.length : Int) + (total wt x : Nat))) := by
 have e1 : wrap64 (a - (x.length : Int)) = a - (x.length : Int) := by unfold wrap64; omega
 rw [e1]
 by_cases hneg : a - (x.length : Int) < 0
 ·simp only [if_pos hneg]
  exact ⟨-1, Ev.now _, fun h => by omega⟩
 ·simp only [if_neg hneg]
  obtain ⟨t, ht, hw⟩ := sz_loop L g d wt hL x (by omega) hg x.length 0 (a - (x.length : Int)) (by omega) (by omega) (by omega)
  refine ⟨t, ht, fun h => ?_⟩
  rw [hw h, List.drop_zero]
  omega
theorem sz_hand {f : Nat → Option Int} {t : Int} (h : Ev f t) : ∃ u, Ev (fun k => (f k).bind fun t => if t < 0 then some (-1) else some t) u ∧ (0 ≤ u → u = t) := by
 by_cases hneg : t < 0
 ·exact ⟨-1, Ev.bind h (by simp only [if_pos hneg]; exact Ev.now _), fun h => by omega⟩
 ·exact ⟨t, Ev.bind h (by simp only [if_neg hneg]; exact Ev.now _), fun _ => rfl⟩
theorem sz_one (n : Nat) (hn : n ≤ 9223372036854775807) (a : Int) (h0 : 0 ≤ a) (h1 : a ≤ 1048576) :
  ∃ t, (if wrap64 (a - (n : Int)) < 0 then some (-1) else some (wrap64 (a - (n : Int)))) = some t ∧ (0 ≤ t → t = a - (n : Int)) := by
 have e1 : wrap64 (a - (n : Int)) = a - (n : Int) := by unfold wrap64; omega
 rw [e1]
 by_cases hneg : a - (n : Int) < 0
 ·rw [if_pos hneg]; exact ⟨-1, rfl, fun h => by omega⟩
 ·rw [if_neg hneg]; exact ⟨_, rfl, fun _ => rfl⟩
end Go.Proofs.YtikbfjnbhogihaaGreatDoor.Loops
/- ConfigOK, the reference's and the program's: their walks by hand, and what both answer. -/
namespace Go.Proofs.YtikbfjnbhogihaaGreatDoor.M
open Go.RowKit Go.Proofs.YtikbfjnbhogihaaGreatDoorW.PrintWords Go.Proofs.YtikbfjnbhogihaaGreatDoorW.PrintLast Go.Proofs.YtikbfjnbhogihaaGreatDoorW.PrintMore
set_option linter.unusedVariables false
set_option linter.unusedSimpArgs false
namespace St
theorem and_split {R p q b : Bool} (h : R = (p && q)) (hb : p = b) : (b = true ∧ R = q) ∨ (b = false ∧ R = false) := by
 subst hb; cases p <;> simp_all
theorem sbetw_c (x lo hi : Int) (w : World) : Calls Tryz.prog 48 #[.int .i64 x, .int .i64 lo, .int .i64 hi] w fun e w' => ∃ b, e = .returned (.bool b) ∧ decide (lo ≤ x ∧ x ≤ hi) = b ∧ Drawn0 w w' := by
 refine (spec_l1Between.calls x lo hi (decide (lo ≤ x ∧ x ≤ hi)) w ?_).mono ?_
 ·unfold spec_l1Between.f
  by_cases h : lo ≤ x
  ·rw [if_pos h]; simp [h]
  ·rw [if_neg h]; simp [h]
 ·rintro e w' ⟨rfl, h⟩
  exact ⟨_, rfl, rfl, h⟩
theorem ibetw_c (x lo hi : Int) (w : World) : Calls Tryz.prog 55 #[.int .i64 x, .int .i64 lo, .int .i64 hi] w fun e w' => ∃ b, e = .returned (.bool b) ∧ decide (lo ≤ x ∧ x ≤ hi) = b ∧ Drawn0 w w' := by
 refine (impl_between.calls x lo hi (decide (lo ≤ x ∧ x ≤ hi)) w ?_).mono ?_
 ·unfold impl_between.f
  by_cases h : lo ≤ x
  ·rw [if_pos h]; simp [h]
  ·rw [if_neg h]; simp [h]
 ·rintro e w' ⟨rfl, h⟩
  exact ⟨_, rfl, rfl, h⟩
def cfgB (a b c d e f : Int) : Bool := decide (1 ≤ a ∧ a ≤ 1000000000) && (decide (0 ≤ b ∧ b ≤ 1000000) && (decide (0 ≤ c ∧ c ≤ 1000000) && (decide (1 ≤ d ∧ d ≤ 64) && (decide (0 ≤ e ∧ e ≤ 2) && (decide (100 ≤ f ∧ f ≤ 1000000) && true)))))
end St
def spec_ConfigOK.f (a b c d e f : Int) : Option Bool := some (St.cfgB a b c d e f)
set_option maxHeartbeats 2000000 in
set_option maxRecDepth 100000 in
theorem spec_ConfigOK.calls (a b c d e f : Int) (r : Bool) (w : World) (h : spec_ConfigOK.f a b c d e f = some r) :
  Calls Tryz.prog 47 #[.agg #[.int .i64 a, .int .i64 b, .int .i64 c, .int .i64 d, .int .i64 e, .int .i64 f]] w fun x w' => x = .returned (.bool r) ∧ Below w.heap.size w w' := by
 have hu := Tryz.underlying29
 have HV := Aside0.mk (Option.some.inj h).symm
 clear h
 go_enter Tryz.func47, Tryz.ntmps47
 go_wp2_with (go_at_call 48; refine (St.sbetw_c _ _ _ _).mono ?_; rintro e w' ⟨b, rfl, hb, ⟨nd, rfl⟩⟩; rcases St.and_split HV.out hb with ⟨rfl, h⟩ | ⟨rfl, h⟩ <;> (clear HV hb; have HV := Aside0.mk h; clear h))
 all_goals
  go_ret
  exact ⟨by rw [HV.out]; rfl, by repeat (first | apply below_alloc | apply pw_below_drewN | exact Below.refl _ _)⟩
def impl_ConfigOK.f (a b c d e f : Int) : Option Bool := some (St.cfgB a b c d e f)
set_option maxHeartbeats 2000000 in
set_option maxRecDepth 100000 in
theorem impl_ConfigOK.calls (a b c d e f : Int) (r : Bool) (w : World) (h : impl_ConfigOK.f a b c d e f = some r) :
  Calls Tryz.prog 54 #[.agg #[.int .i64 a, .int .i64 b, .int .i64 c, .int .i64 d, .int .i64 e, .int .i64 f]] w fun x w' => x = .returned (.bool r) ∧ Below w.heap.size w w' := by
 have hu := Tryz.underlying29
 have HV := Aside0.mk (Option.some.inj h).symm
 clear h
 go_enter Tryz.func54, Tryz.ntmps54
 go_wp2_with (go_at_call 55; refine (St.ibetw_c _ _ _ _).mono ?_; rintro e w' ⟨b, rfl, hb, ⟨nd, rfl⟩⟩; rcases St.and_split HV.out hb with ⟨rfl, h⟩ | ⟨rfl, h⟩ <;> (clear HV hb; have HV := Aside0.mk h; clear h))
 all_goals
  go_ret
  exact ⟨by rw [HV.out]; rfl, by repeat (first | apply below_alloc | apply pw_below_drewN | exact Below.refl _ _)⟩
end Go.Proofs.YtikbfjnbhogihaaGreatDoor.M
/- Labels in the order of their names: a permutation in order is what putting each at its place gives. Plain. -/
namespace Go.Proofs.YtikbfjnbhogihaaGreatDoor.CanSort
open Go.Proofs.YtikbfjnbhogihaaGreatDoor.M Go.Sort Go.Shelf
abbrev Lb := S141
instance : Inhabited Lb := ⟨z141⟩
theorem less_irrefl : ∀ a : List UInt8, Op.bytesLess a a = false
 | [] => by simp [Op.bytesLess]
 | a :: x => by rw [Op.bytesLess, less_irrefl x]; simp
theorem less_trans : ∀ a b c : List UInt8, Op.bytesLess a b = true → Op.bytesLess b c = true → Op.bytesLess a c = true
 | _, [], _ => by simp [Op.bytesLess]
 | _, _ :: _, [] => by simp [Op.bytesLess]
 | [], _ :: _, _ :: _ => by simp [Op.bytesLess]
 | a :: x, b :: y, c :: z => by
  have ih := less_trans x y z
  simp only [Op.bytesLess, Bool.or_eq_true, decide_eq_true_eq, Bool.and_eq_true, beq_iff_eq]
  rintro (h1 | ⟨rfl, h1⟩) (h2 | ⟨rfl, h2⟩)
  ·left; rw [UInt8.lt_iff_toNat_lt] at *; omega
  ·exact .inl h1
  ·exact .inl h2
  ·exact .inr ⟨rfl, ih h1 h2⟩
theorem less_total : ∀ a b : List UInt8, Op.bytesLess a b = false → Op.bytesLess b a = false → a = b
 | [], [] => fun _ _ => rfl
 | [], _ :: _ => by simp [Op.bytesLess]
 | _ :: _, [] => by simp [Op.bytesLess]
 | a :: x, b :: y => by
  have ih := less_total x y
  simp only [Op.bytesLess, Bool.or_eq_false_iff, decide_eq_false_iff_not, Bool.and_eq_false_iff, beq_eq_false_iff_ne]
  rintro ⟨h1, h2⟩ ⟨h3, h4⟩
  have e : a = b := by
   rw [UInt8.lt_iff_toNat_lt] at h1 h3
   exact UInt8.toNat_inj.1 (by omega)
  subst e
  rw [ih (h2.resolve_left (fun h => h rfl)) (h4.resolve_left (fun h => h rfl))]
theorem cmp_neg : ∀ a b : List UInt8, Lib.compareBytes a b < 0 ↔ Op.bytesLess a b = true
 | [], [] => by simp [Lib.compareBytes, Op.bytesLess]
 | [], _ :: _ => by simp [Lib.compareBytes, Op.bytesLess]
 | _ :: _, [] => by simp [Lib.compareBytes, Op.bytesLess]
 | a :: x, b :: y => by
  rw [Lib.compareBytes, Op.bytesLess]
  have ih := cmp_neg x y
  by_cases h1 : a < b
  ·rw [if_pos h1]; simp [h1]
  ·rw [if_neg h1]
   by_cases h2 : b < a
   ·rw [if_pos h2]
    have : a ≠ b := fun e => by subst e; exact absurd h2 (UInt8.lt_irrefl _)
    simp [h1, this]
   ·rw [if_neg h2, ih]
    have : a = b := by
     rw [UInt8.lt_iff_toNat_lt] at h1 h2
     exact UInt8.toNat_inj.1 (by omega)
    simp [this]
def less (a b : Lb) : Bool := Op.bytesLess a.f0.toList b.f0.toList
def L (a b : Lb) : Prop := less a b = true
theorem L_trans {a b c : Lb} (h1 : L a b) (h2 : L b c) : L a c := less_trans _ _ _ h1 h2
theorem L_of {a b : Lb} (h : ¬ L a b) (hne : a.f0.toList ≠ b.f0.toList) : L b a := by
 cases hb : less b a with
 | true => exact hb
 | false =>
  have ha : less a b = false := by simpa [L] using h
  exact absurd (less_total _ _ ha hb) hne
theorem L_ne {a b : Lb} (h : L a b) : a.f0.toList ≠ b.f0.toList := by
 intro e
 have h2 : Op.bytesLess a.f0.toList b.f0.toList = true := h
 rw [e, less_irrefl] at h2
 cases h2
def ins : List Lb → Lb → List Lb
 | [], l => [l]
 | o :: out, l => if less o l = true then o :: ins out l else l :: o :: out
theorem ins_perm : ∀ (out : List Lb) (l : Lb), (ins out l).Perm (l :: out)
 | [], l => List.Perm.refl _
 | o :: out, l => by
  unfold ins
  split
  ·exact ((ins_perm out l).cons o).trans (List.Perm.swap l o out)
  ·exact List.Perm.refl _
theorem ins_sorted : ∀ (out : List Lb) (l : Lb), out.Pairwise L → (∀ o ∈ out, o.f0.toList ≠ l.f0.toList) → (ins out l).Pairwise L
 | [], l, _, _ => by simp [ins]
 | o :: out, l, h, hne => by
  rw [List.pairwise_cons] at h
  unfold ins
  split
  ·rename_i hlt
   rw [List.pairwise_cons]
   refine ⟨fun x hx => ?_, ins_sorted out l h.2 (fun y hy => hne y (List.mem_cons_of_mem _ hy))⟩
   rcases List.mem_cons.1 ((ins_perm out l).mem_iff.1 hx) with rfl | hx
   ·exact hlt
   ·exact h.1 x hx
  ·rename_i hlt
   have hlo : L l o := L_of (a := o) (b := l) hlt (hne o (List.mem_cons_self ..))
   rw [List.pairwise_cons]
   refine ⟨fun x hx => ?_, List.pairwise_cons.2 h⟩
   rcases List.mem_cons.1 hx with rfl | hx
   ·exact hlo
   ·exact L_trans hlo (h.1 x hx)
theorem ins_at : ∀ (out : List Lb) (l : Lb) (k : Nat), k ≤ out.length → (∀ j, j < k → ∀ h : j < out.length, less out[j] l = true) → (∀ h : k < out.length, less out[k] l = false) → ins out l = out.take k ++ l :: out.drop k
 | [], l, k, hk, _, _ => by
  obtain rfl : k = 0 := by simpa using hk
  rfl
 | o :: out, l, 0, _, _, h2 => by
  unfold ins
  rw [if_neg (by rw [show less o l = false from h2 (by simp)]; simp)]
  rfl
 | o :: out, l, k + 1, hk, h1, h2 => by
  unfold ins
  have hh : less o l = true := h1 0 (by omega) (by simp)
  rw [if_pos hh, ins_at out l k (by simpa using hk) (fun j hj h => h1 (j + 1) (by omega) (by simpa using h)) (fun h => h2 (by simpa using h))]
  rfl
def Once (l : List Lb) : Prop := l.Pairwise (fun a b => a.f0.toList ≠ b.f0.toList)
theorem fold_sorted : ∀ (k acc : List Lb), acc.Pairwise L → Once k → (∀ o ∈ acc, ∀ x ∈ k, o.f0.toList ≠ x.f0.toList) → (k.foldl ins acc).Pairwise L ∧ (k.foldl ins acc).Perm (acc ++ k)
 | [], acc, h, _, _ => ⟨h, by simp⟩
 | x :: k, acc, h, ho, hd => by
  unfold Once at ho
  rw [List.pairwise_cons] at ho
  obtain ⟨h1, h2⟩ := fold_sorted k (ins acc x) (ins_sorted acc x h (fun o hm => hd o hm x (List.mem_cons_self ..))) ho.2 (fun o hm y hy => by
   rcases List.mem_cons.1 ((ins_perm acc x).mem_iff.1 hm) with rfl | hm
   ·exact ho.1 y hy
   ·exact hd o hm y (List.mem_cons_of_mem _ hy))
  refine ⟨h1, h2.trans ?_⟩
  refine ((ins_perm acc x).append_right k).trans ?_
  exact (List.perm_middle (a := x) (l₁ := acc) (l₂ := k)).symm
theorem uniq {a b : List Lb} (hp : a.Perm b) (ha : a.Pairwise L) (hb : b.Pairwise L) : a = b :=
 List.Perm.eq_of_pairwise (le := L) (fun _ _ _ _ h1 h2 => absurd (L_trans h1 h2) (fun h => L_ne h rfl)) ha hb hp
def order (k : List Lb) : List Lb := k.foldl ins []
theorem order_perm (k : List Lb) (h : Once k) : (order k).Perm k := by
 have := (fold_sorted k [] (by simp) h (by simp)).2
 unfold order
 simpa using this
theorem order_sorted (k : List Lb) (h : Once k) : (order k).Pairwise L := (fold_sorted k [] (by simp) h (by simp)).1
def cf (a b : Lb) : Int := Lib.compareBytes a.f0.data.toList b.f0.data.toList
theorem cf_less (a b : Lb) : ltOf cf a b = less a b := by
 unfold ltOf cf less
 rw [Bool.eq_iff_iff, decide_eq_true_eq, cmp_neg, ByteArray.toList_eq, ByteArray.toList_eq]
theorem swo : SWO (ltOf cf) where
 irrefl x := by rw [cf_less]; exact less_irrefl _
 trans x y z h1 h2 := by rw [cf_less] at *; exact less_trans _ _ _ h1 h2
 ntrans x y z h1 h2 := by
  rw [cf_less] at *
  cases h3 : less x z with
  | false => rfl
  | true =>
   exfalso
   cases h4 : less y x with
   | true =>
    have := less_trans _ _ _ h4 h3
    rw [show Op.bytesLess y.f0.toList z.f0.toList = less y z from rfl, h2] at this
    cases this
   | false =>
    have e := less_total _ _ h1 h4
    have h5 : Op.bytesLess x.f0.toList z.f0.toList = true := h3
    rw [e] at h5
    rw [show Op.bytesLess y.f0.toList z.f0.toList = less y z from rfl, h2] at h5
    cases h5
theorem sorted_order (d d' : Array Lb) (hp : PermIn 0 d.size d d') (hs : SortedIn (ltOf cf) 0 d.size d') (ho : Once d.toList) : d'.toList = order d.toList := by
 obtain ⟨hsz, _, hperm⟩ := hp
 have e1 : d'.extract 0 d.size = d' := by rw [← hsz]; exact Array.extract_size
 rw [e1, Array.extract_size] at hperm
 refine uniq (hperm.trans (order_perm _ ho).symm) ?_ (order_sorted _ ho)
 have hod : Once d'.toList := by
  unfold Once
  exact (List.Perm.pairwise_iff (fun h => Ne.symm h) hperm.symm).1 ho
 rw [List.pairwise_iff_getElem]
 intro i j hi hj hij
 have hi' : i < d'.size := by simpa using hi
 have hj' : j < d'.size := by simpa using hj
 have h1 := hs i j (Nat.zero_le _) hij (by omega)
 rw [getElem!_pos d' j hj', getElem!_pos d' i hi', cf_less] at h1
 have h2 := List.pairwise_iff_getElem.1 hod i j hi hj hij
 exact L_of (a := d'.toList[j]) (b := d'.toList[i]) (by simpa [L] using h1) (fun e => h2 e.symm)
end Go.Proofs.YtikbfjnbhogihaaGreatDoor.CanSort
/- slices.SortFunc at labels by their names: the row holds them in order. -/
namespace Go.Proofs.YtikbfjnbhogihaaGreatDoor.M
open Go.RowKit Go.Shelf Go.Sort Go.Proofs.YtikbfjnbhogihaaGreatDoor.CanSort Go.Proofs.YtikbfjnbhogihaaGreatDoorW.PrintWords Go.Proofs.YtikbfjnbhogihaaGreatDoorW.PrintLast Go.Proofs.YtikbfjnbhogihaaGreatDoorW.PrintMore
set_option linter.unusedVariables false
set_option linter.unusedSimpArgs false
namespace Srt
def enc (x : Lb) : List Value := [.string x.f0, .string x.f1]
set_option maxHeartbeats 1000000 in
theorem closure (x y : Lb) (W : World) : Calls Tryz.prog 178 #[.agg #[.string x.f0, .string x.f1], .agg #[.string y.f0, .string y.f1]] W fun e w' => e = .returned (.int .i64 (cf x y)) ∧ ∃ q os', w' = grow (W.drewN q) os' := by
 obtain ⟨r, hr⟩ : ∃ r, r = cf x y := ⟨_, rfl⟩
 have hc := fun W' => Tryz.strings_Compare x.f0 y.f0 W'
 have e : Lib.compareBytes x.f0.data.toList y.f0.data.toList = r := hr.symm
 rw [e] at hc
 rw [← hr]
 clear e hr
 go_enter Tryz.func178, Tryz.ntmps178
 go_wp2_with fail
 refine (hc _).mono ?_
 rintro e w' ⟨rfl, rfl⟩
 go_wp2_with fail
 go_ret
 exact ⟨rfl, 0, _, by rw [alloc_eq_grow, alloc_eq_grow, grow_grow]; rfl⟩
theorem lays (blk off size : Nat) (w : World) : CmpLays Tryz.prog 178 #[] enc 2 cf blk off size w := fun _ _ _ _ x y => closure x y _
theorem flat_seg (d : Array Lb) (j : Nat) (hj : j < d.size) : ((flatK enc 2 d).toList.drop (j * 2)).take 2 = enc d[j]! := by
 have hs : (flatK enc 2 d).size = d.size * 2 := size_flatK enc 2 d
 have g : ∀ i, i < 2 → (flatK enc 2 d).toList[j * 2 + i]? = (enc d[j]!)[i]? := by
  intro i hi
  have hlt : j * 2 + i < (flatK enc 2 d).size := by omega
  rw [Array.getElem?_toList, Array.getElem?_eq_getElem hlt, ← getElem!_pos (flatK enc 2 d) _ hlt, get_flatK enc 2 d _ (by omega), show (j * 2 + i) / 2 = j by omega, show (j * 2 + i) % 2 = i by omega]
  have : i = 0 ∨ i = 1 := by omega
  rcases this with rfl | rfl <;> rfl
 apply List.ext_getElem?
 intro i
 by_cases hi : i < 2
 ·rw [List.getElem?_take_of_lt hi, List.getElem?_drop, g i hi]
 ·rw [List.getElem?_eq_none (by simp; omega), List.getElem?_eq_none (by simp [enc]; omega)]
theorem put_take (F cur : Array Value) (h : F.size ≤ cur.size) : (putCells id 0 F cur).toList.take F.size = F.toList := by
 apply List.ext_getElem?
 intro i
 by_cases hi : i < F.size
 ·rw [List.getElem?_take_of_lt hi, Array.getElem?_toList, Array.getElem?_toList]
  unfold putCells
  rw [Array.getElem?_mapIdx, Array.getElem?_eq_getElem (by omega), Array.getElem?_eq_getElem hi]
  simp only [Option.map_some, Nat.zero_add, Nat.sub_zero, id]
  rw [if_pos ⟨Nat.zero_le _, hi⟩, getElem!_pos F i hi]
 ·rw [List.getElem?_eq_none (by simp; omega), List.getElem?_eq_none (by simp; omega)]
theorem put_size (F cur : Array Value) : (putCells id 0 F cur).size = cur.size := by unfold putCells; simp
theorem reps_flat {w : World} {base : Nat} {ok : Nat → Prop} (d : Array Lb) : Reps (k141.M w base ok) k141.sz d.toList (flatK enc 2 d).toList := by
 refine ⟨by rw [Array.length_toList, Array.length_toList, size_flatK]; rfl, fun j p hp => ?_⟩
 have hj : j < d.size := by
  have := (List.getElem?_eq_some_iff.1 hp).1
  simpa using this
 have e : d[j]! = p := by
  rw [getElem!_pos d j hj]
  rw [Array.getElem?_toList, Array.getElem?_eq_getElem hj] at hp
  exact Option.some.inj hp
 rw [show k141.sz = 2 from rfl, flat_seg d j hj, e]
 exact k141_mkM w base ok p
theorem reps_eq {w : World} {base : Nat} {ok : Nat → Prop} (d : Array Lb) (inner : List Value) (h : Reps (k141.M w base ok) k141.sz d.toList inner) (t : Nat) (ht : t < d.size * 2) : inner[t]? = some (flatK enc 2 d)[t]! := by
 have hj : t / 2 < d.size := by omega
 have hp : d.toList[t / 2]? = some d[t / 2]! := by rw [Array.getElem?_toList, Array.getElem?_eq_getElem hj, getElem!_pos d _ hj]
 have h2 := k141_openM (h.2 (t / 2) _ hp)
 have h3 : ((inner.drop (t / 2 * 2)).take 2)[t % 2]? = (enc d[t / 2]!)[t % 2]? := congrArg (fun l : List Value => l[t % 2]?) h2
 rw [List.getElem?_take_of_lt (by omega), List.getElem?_drop, show t / 2 * 2 + t % 2 = t by omega] at h3
 rw [h3, get_flatK enc 2 d t ht]
 have : t % 2 = 0 ∨ t % 2 = 1 := by omega
 rcases this with h | h <;> rw [h] <;> rfl
end Srt
noncomputable def impl_Label_177.f (l : List S141) : Option (List S141) := @ite _ (CanSort.Once l ∧ l.length < 4611686018427387904) (Classical.propDecidable _) (some (CanSort.order l)) none
set_option maxHeartbeats 1000000 in
theorem impl_Label_177.calls (P0 : Nat → Prop) (u : Value) (l r : List S141) (w0 w : World) (hB : Below w0.heap.size w0 w) (ho : Kd.R k141 141 w w0.heap.size P0 u l)
  (h : impl_Label_177.f l = some r) :
  Calls Tryz.prog 177 #[u, .func (.func 178) #[] #[]] w fun e w' => e = .returned (.tuple #[]) ∧ Kd.R k141 141 w' w0.heap.size (fun k => P0 k ∨ w.heap.size ≤ k) u r ∧ Below w0.heap.size w0 w' ∧ Kept w w' (fun k => P0 k) := by
 unfold impl_Label_177.f at h
 by_cases hz : CanSort.Once l ∧ l.length < 4611686018427387904
 ·rw [if_pos hz] at h
  obtain rfl := Option.some.inj h
  obtain ⟨hok, inner, hown, hreps⟩ := ho
  rcases hown.2 with ⟨rfl, hn⟩ | ⟨g, cap, cur, rfl, hbg, hx, hcap, hmax, hcs, htk⟩
  ·obtain rfl : l = [] := List.length_eq_zero_iff.1 hn
   refine (AnyF.slices_SortFunc_none Tryz.sortL none 0 (.func (.func 178) #[] #[]) w).mono ?_
   rintro e w' ⟨rfl, rfl⟩
   exact ⟨rfl, Kd.R_nil _ _ _ _ _, hB, Kept.refl _ _⟩
  ·obtain ⟨d, hd⟩ : ∃ d : Array S141, d.toList = l := ⟨l.toArray, by simp⟩
   subst hd
   have hlen : d.toList.length = d.size := Array.length_toList
   have hglt : g < w.heap.size := blk_lt hx
   have hil : inner.length = d.size * 2 := by rw [hown.1, hlen]; rfl
   have hH : HoldsK Srt.enc 2 w g 0 d := by
    intro t ht
    rw [size_flatK] at ht
    have h1 := Srt.reps_eq d inner hreps t ht
    have h2 : cur.toList[t]? = some (flatK Srt.enc 2 d)[t]! := by
     rw [← htk, List.getElem?_take_of_lt (by rw [hlen]; exact ht)] at h1
     exact h1
    refine ⟨?_, blk_frozen hx _⟩
    rw [Nat.zero_add]
    refine (blk_cell hx t).trans ?_
    rw [← Array.getElem?_toList, h2]; rfl
   have eg : ∀ args w, (callFunc 178 args).run Tryz.prog w = .ok (.enter 178 args) w := enters_of Tryz.func178 (by kernel_rfl) rfl
   have hcon := AnyQ.slices_SortFunc Tryz.sortL 2 Tryz.isAgg141 Tryz.sizeOf141 Srt.enc (fun _ => rfl) (fun x v hv => by simp [Srt.enc] at hv; rcases hv with rfl | rfl <;> rfl) cf swo 178 #[] g 0 cap d w eg (Srt.lays g 0 d.size w) hH hglt (by rw [← hlen]; exact hz.2)
   rw [hlen]
   refine Calls.mono hcon ?_
   rintro e w' ⟨rfl, d', n, os, hp, hs, rfl⟩
   have hord := sorted_order d d' hp hs hz.1
   have hd' : d'.size = d.size := hp.1
   have hw : ∀ k, k < w.heap.size → (sortWorldK Srt.enc 2 w g 0 n d' os).heap[k]? = if k = g then some (.cells (putCells id 0 (flatK Srt.enc 2 d') cur) 141 (0, 0)) else w.heap[k]? := by
    intro k hk
    show ((w.heap.modify g (onCells (putCells id 0 (flatK Srt.enc 2 d')))) ++ os)[k]? = _
    rw [Array.getElem?_append_left (by simpa using hk), Array.getElem?_modify]
    by_cases hkg : g = k
    ·subst hkg
     rw [if_pos rfl, if_pos rfl, hx]; rfl
    ·rw [if_neg hkg, if_neg (fun e => hkg e.symm)]
   have hsz : w.heap.size ≤ (sortWorldK Srt.enc 2 w g 0 n d' os).heap.size := by
    show _ ≤ ((w.heap.modify g (onCells (putCells id 0 (flatK Srt.enc 2 d')))) ++ os).size
    simp
   have hf : (flatK Srt.enc 2 d').size = d.size * 2 := by rw [size_flatK, hd']
   have hge : w0.heap.size ≤ g := hbg
   refine ⟨rfl, ⟨fun k hk => .inl (hok k hk), (flatK Srt.enc 2 d').toList, ⟨?_, .inr ⟨g, cap, putCells id 0 (flatK Srt.enc 2 d') cur, ?_, hbg, ?_, ?_, hmax, ?_, ?_⟩⟩, ?_⟩, ⟨hB.os, hB.tape, hB.output, Nat.le_trans hB.size hsz, fun k hk => ?_⟩, ⟨hsz, fun k hk hn => ?_⟩⟩
   ·rw [← hord, Array.length_toList, Array.length_toList, hf, hd']; rfl
   ·rw [← hord, Array.length_toList, hd']
   ·rw [hw g hglt, if_pos rfl]
   ·rw [← hord, Array.length_toList, hd']; rw [hlen] at hcap; exact hcap
   ·rw [Srt.put_size]; exact hcs
   ·rw [← hord, Array.length_toList, show d'.size * k141.sz = (flatK Srt.enc 2 d').size by rw [size_flatK]; rfl]
    exact Srt.put_take _ _ (by rw [hf, hcs, show k141.sz = 2 from rfl]; rw [hlen] at hcap; omega)
   ·rw [← hord]; exact Srt.reps_flat d'
   ·have hkw : k < w.heap.size := Nat.lt_of_lt_of_le hk hB.size
    rw [hw k hkw, if_neg (by omega)]
    exact hB.block k hk
   ·rw [hw k hk, if_neg (fun e => hn (by subst e; exact hok _ (by simp [Value.ownBlock])))]
 ·rw [if_neg hz] at h; cases h
end Go.Proofs.YtikbfjnbhogihaaGreatDoor.M
namespace Go.Proofs.YtikbfjnbhogihaaGreatDoor.M
open Go.RowKit Go.Proofs.YtikbfjnbhogihaaGreatDoorW.PrintWords Go.Proofs.YtikbfjnbhogihaaGreatDoorW.PrintLast Go.Proofs.YtikbfjnbhogihaaGreatDoorW.PrintMore
attribute [local go_sem] max2_int min2_int max_two min_two max_three min_three max_four min_four
set_option linter.unusedVariables false
set_option linter.unusedSimpArgs false
/-! ### laws_toSeries: function 170 -/
def laws_toSeries.f (a0_0 : ByteArray) (a0_1 : Int) : Option (ByteArray × Int) := some (a0_0, a0_1)
set_option maxHeartbeats 8000000 in
set_option maxRecDepth 100000 in
theorem laws_toSeries.calls (a0_0 : ByteArray) (a0_1 : Int) (r1 : ByteArray) (r2 : Int) (w : World) (h : laws_toSeries.f a0_0 a0_1 = some (r1, r2)) :
  Calls Tryz.prog 170 #[.agg #[.string a0_0, .int .i64 a0_1]] w fun e w' => e = .returned (.agg #[.string r1, .int .i64 r2]) ∧ Below w.heap.size w w' := by
 have hu225 := Tryz.underlying225
 have hu93 := Tryz.underlying93
 have HB := Aside0.mk (Below.refl w.heap.size w)
 have H : (some (a0_0, a0_1)) = some (r1, r2) := h
 clear h
 simp only [Option.some.injEq, Prod.mk.injEq] at H
 obtain ⟨rfl, rfl⟩ := H
 go_enter Tryz.func170, Tryz.ntmps170
 go_wp2_with (first | ((with_reducible refine gate_dst (N := 1) rfl ?_); refine box_event ?hg (N := 1) ?hd (cs := #[.string a0_0, .int .i64 a0_1]) (t := 225) ?hr ?_; (case hd => rfl); (case hg => rfl); (case hr => first | (go_simp; done) | (go_simp; rfl)); intro gb192 hg w2 hbox hb; have n0_ := Aside0.mk (below_step (by repeat (first | (with_reducible first | exact HB.out | apply below_alloc | apply pw_below_drewN | apply below_drew1) | exact HB.out)) hb); have n1_ := Aside0.mk (hbox); have n2_ := Aside0.mk ((by rw [hg]; exact (below_size (by repeat (first | (with_reducible first | exact HB.out | apply below_alloc | apply pw_below_drewN | apply below_drew1) | exact HB.out))) : w.heap.size ≤ gb192)); have n3_ := Aside0.mk ((by rw [hg]; exact (below_size (by repeat (first | (with_reducible first | exact HB.out | apply below_alloc | apply pw_below_drewN | apply below_drew1) | exact HB.out))) : w.heap.size ≤ gb192)); clear HB; have HB := n0_; have BK192 := n1_; have GW192 := n2_; have GE192 := n3_; clear n0_ n1_ n2_ n3_; clear hb hbox hg) | ((with_reducible refine gate_dst (N := 2) rfl ?_); refine box_event ?hg (N := 2) ?hd (cs := #[.string (⟨#[]⟩ : ByteArray), .int .i64 0]) (t := 93) ?hr ?_; (case hd => rfl); (case hg => rfl); (case hr => first | (go_simp; done) | (go_simp; rfl)); intro gb193 hg w3 hbox hb; have n0_ := Aside0.mk (blk_below (g := gb192) (o := .cells #[.string a0_0, .int .i64 a0_1] 225 (0, 0)) (by (with_reducible repeat (first | refine blk_drewN ?_ _ | refine blk_drew ?_ | refine blk_alloc ?_ _)); exact BK192.out) hb); have n1_ := Aside0.mk (below_step (by repeat (first | (with_reducible first | exact HB.out | apply below_alloc | apply pw_below_drewN | apply below_drew1 | refine below_set ?_ GE192.out) | exact HB.out)) hb); have n2_ := Aside0.mk (hbox); have n3_ := Aside0.mk ((by rw [hg]; exact (below_size (by repeat (first | (with_reducible first | exact HB.out | apply below_alloc | apply pw_below_drewN | apply below_drew1 | refine below_set ?_ GE192.out) | exact HB.out))) : w.heap.size ≤ gb193)); have n4_ := Aside0.mk ((by rw [hg]; exact (below_size (by repeat (first | (with_reducible first | exact HB.out | apply below_alloc | apply pw_below_drewN | apply below_drew1 | refine below_set ?_ GE192.out) | exact HB.out))) : w.heap.size ≤ gb193)); have n5_ := Aside0.mk ((by rw [hg]; exact Nat.ne_of_lt (blk_lt (g := gb192) (o := .cells #[.string a0_0, .int .i64 a0_1] 225 (0, 0)) (by (with_reducible repeat (first | refine blk_drewN ?_ _ | refine blk_drew ?_ | refine blk_alloc ?_ _)); exact BK192.out)) : gb192 ≠ gb193)); have n6_ := Aside0.mk ((by rw [hg]; exact Nat.ne_of_gt (blk_lt (g := gb192) (o := .cells #[.string a0_0, .int .i64 a0_1] 225 (0, 0)) (by (with_reducible repeat (first | refine blk_drewN ?_ _ | refine blk_drew ?_ | refine blk_alloc ?_ _)); exact BK192.out)) : gb193 ≠ gb192)); clear BK192; clear HB; have BK192 := n0_; have HB := n1_; have BK193 := n2_; have GW193 := n3_; have GE193 := n4_; have NB192_193 := n5_; have NB193_192 := n6_; clear n0_ n1_ n2_ n3_ n4_ n5_ n6_; clear hb hbox hg) | ((with_reducible refine gate_dst (N := 3) rfl ?_); refine box_event ?hg (N := 3) ?hd (cs := #[.string (⟨#[]⟩ : ByteArray), .int .i64 0]) (t := 93) ?hr ?_; (case hd => rfl); (case hg => rfl); (case hr => first | (go_simp; done) | (go_simp; rfl)); intro gb194 hg w4 hbox hb; have n0_ := Aside0.mk (blk_below (g := gb192) (o := .cells #[.string a0_0, .int .i64 a0_1] 225 (0, 0)) (by (with_reducible repeat (first | refine blk_drewN ?_ _ | refine blk_drew ?_ | refine blk_alloc ?_ _)); exact BK192.out) hb); have n1_ := Aside0.mk (blk_below (g := gb193) (o := .cells #[.string (⟨#[]⟩ : ByteArray), .int .i64 0] 93 (0, 0)) (by (with_reducible repeat (first | refine blk_drewN ?_ _ | refine blk_drew ?_ | refine blk_alloc ?_ _)); exact BK193.out) hb); have n2_ := Aside0.mk (below_step (by repeat (first | (with_reducible first | exact HB.out | apply below_alloc | apply pw_below_drewN | apply below_drew1 | refine below_set ?_ GE192.out | refine below_set ?_ GE193.out) | exact HB.out)) hb); have n3_ := Aside0.mk (hbox); have n4_ := Aside0.mk ((by rw [hg]; exact (below_size (by repeat (first | (with_reducible first | exact HB.out | apply below_alloc | apply pw_below_drewN | apply below_drew1 | refine below_set ?_ GE192.out | refine below_set ?_ GE193.out) | exact HB.out))) : w.heap.size ≤ gb194)); have n5_ := Aside0.mk ((by rw [hg]; exact (below_size (by repeat (first | (with_reducible first | exact HB.out | apply below_alloc | apply pw_below_drewN | apply below_drew1 | refine below_set ?_ GE192.out | refine below_set ?_ GE193.out) | exact HB.out))) : w.heap.size ≤ gb194)); have n6_ := Aside0.mk ((by rw [hg]; exact Nat.ne_of_lt (blk_lt (g := gb192) (o := .cells #[.string a0_0, .int .i64 a0_1] 225 (0, 0)) (by (with_reducible repeat (first | refine blk_drewN ?_ _ | refine blk_drew ?_ | refine blk_alloc ?_ _)); exact BK192.out)) : gb192 ≠ gb194)); have n7_ := Aside0.mk ((by rw [hg]; exact Nat.ne_of_gt (blk_lt (g := gb192) (o := .cells #[.string a0_0, .int .i64 a0_1] 225 (0, 0)) (by (with_reducible repeat (first | refine blk_drewN ?_ _ | refine blk_drew ?_ | refine blk_alloc ?_ _)); exact BK192.out)) : gb194 ≠ gb192)); have n8_ := Aside0.mk ((by rw [hg]; exact Nat.ne_of_lt (blk_lt (g := gb193) (o := .cells #[.string (⟨#[]⟩ : ByteArray), .int .i64 0] 93 (0, 0)) (by (with_reducible repeat (first | refine blk_drewN ?_ _ | refine blk_drew ?_ | refine blk_alloc ?_ _)); exact BK193.out)) : gb193 ≠ gb194)); have n9_ := Aside0.mk ((by rw [hg]; exact Nat.ne_of_gt (blk_lt (g := gb193) (o := .cells #[.string (⟨#[]⟩ : ByteArray), .int .i64 0] 93 (0, 0)) (by (with_reducible repeat (first | refine blk_drewN ?_ _ | refine blk_drew ?_ | refine blk_alloc ?_ _)); exact BK193.out)) : gb194 ≠ gb193)); clear BK192; clear BK193; clear HB; have BK192 := n0_; have BK193 := n1_; have HB := n2_; have BK194 := n3_; have GW194 := n4_; have GE194 := n5_; have NB192_194 := n6_; have NB194_192 := n7_; have NB193_194 := n8_; have NB194_193 := n9_; clear n0_ n1_ n2_ n3_ n4_ n5_ n6_ n7_ n8_ n9_; clear hb hbox hg; have hnb5 := NB192_193.out; have hnc5 := NB193_192.out; have hnb6 := NB192_194.out; have hnc6 := NB194_192.out; have hcz7_0 : w4.cell? ⟨gb192, 0, none⟩ = some (.string a0_0) := (blk_cell BK192.out 0).trans rfl; have hcz7_1 : w4.cell? ⟨gb192, 1, none⟩ = some (.int .i64 a0_1) := (blk_cell BK192.out 1).trans rfl; have hfz7_0 := blk_frozen BK192.out 0; have hfz7_1 := blk_frozen BK192.out 1; have hnb8 := NB194_193.out; have hnc8 := NB193_194.out; have hcz9_0 : w4.cell? ⟨gb194, 0, none⟩ = some (.string (⟨#[]⟩ : ByteArray)) := (blk_cell BK194.out 0).trans rfl; have hcz9_1 : w4.cell? ⟨gb194, 1, none⟩ = some (.int .i64 0) := (blk_cell BK194.out 1).trans rfl; have hfz9_0 := blk_frozen BK194.out 0; have hfz9_1 := blk_frozen BK194.out 1; have hcz10_0 : w4.cell? ⟨gb193, 0, none⟩ = some (.string (⟨#[]⟩ : ByteArray)) := (blk_cell BK193.out 0).trans rfl; have hcz10_1 : w4.cell? ⟨gb193, 1, none⟩ = some (.int .i64 0) := (blk_cell BK193.out 1).trans rfl; have hfz10_0 := blk_frozen BK193.out 0; have hfz10_1 := blk_frozen BK193.out 1))
 refine bodyPost_ret (results_cell_row rfl _ _ gb193 93 #[.string a0_0, .int .i64 a0_1] (0, 0) _ rfl (by (with_reducible repeat (first | refine blk_drewN ?_ _ | refine blk_drew ?_ | refine blk_alloc ?_ _)); refine blk_put (cs := #[.string a0_0, .int .i64 0]) ?_ 1 _ rfl; (with_reducible repeat (first | refine blk_drewN ?_ _ | refine blk_drew ?_ | refine blk_alloc ?_ _)); refine blk_put (cs := #[.string (⟨#[]⟩ : ByteArray), .int .i64 0]) ?_ 0 _ rfl; (with_reducible repeat (first | refine blk_drewN ?_ _ | refine blk_drew ?_ | refine blk_alloc ?_ _)); refine blk_far ?_ NB193_194.out _; (with_reducible repeat (first | refine blk_drewN ?_ _ | refine blk_drew ?_ | refine blk_alloc ?_ _)); refine blk_far ?_ NB193_194.out _; (with_reducible repeat (first | refine blk_drewN ?_ _ | refine blk_drew ?_ | refine blk_alloc ?_ _)); exact BK193.out) Tryz.underlying93 rfl (by kernel_rfl)) rfl ?_
 exact ⟨by first | rfl | (simp [errW_none, errW_some] <;> rfl) | (simp [*, errW_none, errW_some] <;> rfl), by repeat (first | (with_reducible first | exact HB.out | apply below_alloc | apply pw_below_drewN | apply below_drew1 | refine below_set ?_ GE192.out | refine below_set ?_ GE193.out | refine below_set ?_ GE194.out) | exact HB.out)⟩
end Go.Proofs.YtikbfjnbhogihaaGreatDoor.M
