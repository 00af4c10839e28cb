import Derived.Sort.LotA
import Derived.Shelf.SlSortCmp.Insertion
import Derived.Shelf.Small.Strs
import Derived.Test.YtikbfjnbhogihaaGreatDoorM0
import Derived.WalkKit
import Derived.Lib.ConvBytes
import Derived.Lib.SmallJoins
import Derived.Laws.Cover1
import Derived.Test.YtikbfjnbhogihaaGreatDoorKp
import Derived.Test.YtikbfjnbhogihaaGreatDoorF157
import Derived.Test.YtikbfjnbhogihaaGreatDoorXSrcNum
/- Labels in the order of their names: a permutation in order is what putting each at its place gives. Plain. -/
namespace Go.Proofs.YtikbfjnbhogihaaGreatDoor.CanSort
open Go.Proofs.YtikbfjnbhogihaaGreatDoor.M Go.Sort Go.Shelf
abbrev Lb := S141
instance : Inhabited Lb := ⟨z141⟩
theorem less_irrefl : ∀ a : List UInt8, Op.bytesLess a a = false
 | [] => by simp [Op.bytesLess]
 | a :: x => by rw [Op.bytesLess, less_irrefl x]; simp
theorem less_trans : ∀ a b c : List UInt8, Op.bytesLess a b = true → Op.bytesLess b c = true → Op.bytesLess a c = true
 | _, [], _ => by simp [Op.bytesLess]
 | _, _ :: _, [] => by simp [Op.bytesLess]
 | [], _ :: _, _ :: _ => by simp [Op.bytesLess]
 | a :: x, b :: y, c :: z => by
  have ih := less_trans x y z
  simp only [Op.bytesLess, Bool.or_eq_true, decide_eq_true_eq, Bool.and_eq_true, beq_iff_eq]
  rintro (h1 | ⟨rfl, h1⟩) (h2 | ⟨rfl, h2⟩)
  ·left; rw [UInt8.lt_iff_toNat_lt] at *; omega
  ·exact .inl h1
  ·exact .inl h2
  ·exact .inr ⟨rfl, ih h1 h2⟩
theorem less_total : ∀ a b : List UInt8, Op.bytesLess a b = false → Op.bytesLess b a = false → a = b
 | [], [] => fun _ _ => rfl
 | [], _ :: _ => by simp [Op.bytesLess]
 | _ :: _, [] => by simp [Op.bytesLess]
 | a :: x, b :: y => by
  have ih := less_total x y
  simp only [Op.bytesLess, Bool.or_eq_false_iff, decide_eq_false_iff_not, Bool.and_eq_false_iff, beq_eq_false_iff_ne]
  rintro ⟨h1, h2⟩ ⟨h3, h4⟩
  have e : a = b := by
   rw [UInt8.lt_iff_toNat_lt] at h1 h3
   exact UInt8.toNat_inj.1 (by omega)
  subst e
  rw [ih (h2.resolve_left (fun h => h rfl)) (h4.resolve_left (fun h => h rfl))]
theorem cmp_neg : ∀ a b : List UInt8, Lib.compareBytes a b < 0 ↔ Op.bytesLess a b = true
 | [], [] => by simp [Lib.compareBytes, Op.bytesLess]
 | [], _ :: _ => by simp [Lib.compareBytes, Op.bytesLess]
 | _ :: _, [] => by simp [Lib.compareBytes, Op.bytesLess]
 | a :: x, b :: y => by
  rw [Lib.compareBytes, Op.bytesLess]
  have ih := cmp_neg x y
  by_cases h1 : a < b
  ·rw [if_pos h1]; simp [h1]
  ·rw [if_neg h1]
   by_cases h2 : b < a
   ·rw [if_pos h2]
    have : a ≠ b := fun e => by subst e; exact absurd h2 (UInt8.lt_irrefl _)
    simp [h1, this]
   ·rw [if_neg h2, ih]
    have : a = b := by
     rw [UInt8.lt_iff_toNat_lt] at h1 h2
     exact UInt8.toNat_inj.1 (by omega)
    simp [this]
def less (a b : Lb) : Bool := Op.bytesLess a.f0.toList b.f0.toList
def L (a b : Lb) : Prop := less a b = true
theorem L_trans {a b c : Lb} (h1 : L a b) (h2 : L b c) : L a c := less_trans _ _ _ h1 h2
theorem L_of {a b : Lb} (h : ¬ L a b) (hne : a.f0.toList ≠ b.f0.toList) : L b a := by
 cases hb : less b a with
 | true => exact hb
 | false =>
  have ha : less a b = false := by simpa [L] using h
  exact absurd (less_total _ _ ha hb) hne
theorem L_ne {a b : Lb} (h : L a b) : a.f0.toList ≠ b.f0.toList := by
 intro e
 have h2 : Op.bytesLess a.f0.toList b.f0.toList = true := h
 rw [e, less_irrefl] at h2
 cases h2
def ins : List Lb → Lb → List Lb
 | [], l => [l]
 | o :: out, l => if less o l = true then o :: ins out l else l :: o :: out
theorem ins_perm : ∀ (out : List Lb) (l : Lb), (ins out l).Perm (l :: out)
 | [], l => List.Perm.refl _
 | o :: out, l => by
  unfold ins
  split
  ·exact ((ins_perm out l).cons o).trans (List.Perm.swap l o out)
  ·exact List.Perm.refl _
theorem ins_sorted : ∀ (out : List Lb) (l : Lb), out.Pairwise L → (∀ o ∈ out, o.f0.toList ≠ l.f0.toList) → (ins out l).Pairwise L
 | [], l, _, _ => by simp [ins]
 | o :: out, l, h, hne => by
  rw [List.pairwise_cons] at h
  unfold ins
  split
  ·rename_i hlt
   rw [List.pairwise_cons]
   refine ⟨fun x hx => ?_, ins_sorted out l h.2 (fun y hy => hne y (List.mem_cons_of_mem _ hy))⟩
   rcases List.mem_cons.1 ((ins_perm out l).mem_iff.1 hx) with rfl | hx
   ·exact hlt
   ·exact h.1 x hx
  ·rename_i hlt
   have hlo : L l o := L_of (a := o) (b := l) hlt (hne o (List.mem_cons_self ..))
   rw [List.pairwise_cons]
   refine ⟨fun x hx => ?_, List.pairwise_cons.2 h⟩
   rcases List.mem_cons.1 hx with rfl | hx
   ·exact hlo
   ·exact L_trans hlo (h.1 x hx)
theorem ins_at : ∀ (out : List Lb) (l : Lb) (k : Nat), k ≤ out.length → (∀ j, j < k → ∀ h : j < out.length, less out[j] l = true) → (∀ h : k < out.length, less out[k] l = false) → ins out l = out.take k ++ l :: out.drop k
 | [], l, k, hk, _, _ => by
  obtain rfl : k = 0 := by simpa using hk
  rfl
 | o :: out, l, 0, _, _, h2 => by
  unfold ins
  rw [if_neg (by rw [show less o l = false from h2 (by simp)]; simp)]
  rfl
 | o :: out, l, k + 1, hk, h1, h2 => by
  unfold ins
  have hh : less o l = true := h1 0 (by omega) (by simp)
  rw [if_pos hh, ins_at out l k (by simpa using hk) (fun j hj h => h1 (j + 1) (by omega) (by simpa using h)) (fun h => h2 (by simpa using h))]
  rfl
def Once (l : List Lb) : Prop := l.Pairwise (fun a b => a.f0.toList ≠ b.f0.toList)
theorem fold_sorted : ∀ (k acc : List Lb), acc.Pairwise L → Once k → (∀ o ∈ acc, ∀ x ∈ k, o.f0.toList ≠ x.f0.toList) → (k.foldl ins acc).Pairwise L ∧ (k.foldl ins acc).Perm (acc ++ k)
 | [], acc, h, _, _ => ⟨h, by simp⟩
 | x :: k, acc, h, ho, hd => by
  unfold Once at ho
  rw [List.pairwise_cons] at ho
  obtain ⟨h1, h2⟩ := fold_sorted k (ins acc x) (ins_sorted acc x h (fun o hm => hd o hm x (List.mem_cons_self ..))) ho.2 (fun o hm y hy => by
   rcases List.mem_cons.1 ((ins_perm acc x).mem_iff.1 hm) with rfl | hm
   ·exact ho.1 y hy
   ·exact hd o hm y (List.mem_cons_of_mem _ hy))
  refine ⟨h1, h2.trans ?_⟩
  refine ((ins_perm acc x).append_right k).trans ?_
  exact (List.perm_middle (a := x) (l₁ := acc) (l₂ := k)).symm
theorem uniq {a b : List Lb} (hp : a.Perm b) (ha : a.Pairwise L) (hb : b.Pairwise L) : a = b :=
 List.Perm.eq_of_pairwise (le := L) (fun _ _ _ _ h1 h2 => absurd (L_trans h1 h2) (fun h => L_ne h rfl)) ha hb hp
def order (k : List Lb) : List Lb := k.foldl ins []
theorem order_perm (k : List Lb) (h : Once k) : (order k).Perm k := by
 have := (fold_sorted k [] (by simp) h (by simp)).2
 unfold order
 simpa using this
theorem order_sorted (k : List Lb) (h : Once k) : (order k).Pairwise L := (fold_sorted k [] (by simp) h (by simp)).1
def cf (a b : Lb) : Int := Lib.compareBytes a.f0.data.toList b.f0.data.toList
theorem cf_less (a b : Lb) : ltOf cf a b = less a b := by
 unfold ltOf cf less
 rw [Bool.eq_iff_iff, decide_eq_true_eq, cmp_neg, ByteArray.toList_eq, ByteArray.toList_eq]
theorem swo : SWO (ltOf cf) where
 irrefl x := by rw [cf_less]; exact less_irrefl _
 trans x y z h1 h2 := by rw [cf_less] at *; exact less_trans _ _ _ h1 h2
 ntrans x y z h1 h2 := by
  rw [cf_less] at *
  cases h3 : less x z with
  | false => rfl
  | true =>
   exfalso
   cases h4 : less y x with
   | true =>
    have := less_trans _ _ _ h4 h3
    rw [show Op.bytesLess y.f0.toList z.f0.toList = less y z from rfl, h2] at this
    cases this
   | false =>
    have e := less_total _ _ h1 h4
    have h5 : Op.bytesLess x.f0.toList z.f0.toList = true := h3
    rw [e] at h5
    rw [show Op.bytesLess y.f0.toList z.f0.toList = less y z from rfl, h2] at h5
    cases h5
theorem sorted_order (d d' : Array Lb) (hp : PermIn 0 d.size d d') (hs : SortedIn (ltOf cf) 0 d.size d') (ho : Once d.toList) : d'.toList = order d.toList := by
 obtain ⟨hsz, _, hperm⟩ := hp
 have e1 : d'.extract 0 d.size = d' := by rw [← hsz]; exact Array.extract_size
 rw [e1, Array.extract_size] at hperm
 refine uniq (hperm.trans (order_perm _ ho).symm) ?_ (order_sorted _ ho)
 have hod : Once d'.toList := by
  unfold Once
  exact (List.Perm.pairwise_iff (fun h => Ne.symm h) hperm.symm).1 ho
 rw [List.pairwise_iff_getElem]
 intro i j hi hj hij
 have hi' : i < d'.size := by simpa using hi
 have hj' : j < d'.size := by simpa using hj
 have h1 := hs i j (Nat.zero_le _) hij (by omega)
 rw [getElem!_pos d' j hj', getElem!_pos d' i hi', cf_less] at h1
 have h2 := List.pairwise_iff_getElem.1 hod i j hi hj hij
 exact L_of (a := d'.toList[j]) (b := d'.toList[i]) (by simpa [L] using h1) (fun e => h2 e.symm)
end Go.Proofs.YtikbfjnbhogihaaGreatDoor.CanSort
namespace Go.Proofs.YtikbfjnbhogihaaGreatDoor.M
open Go.RowKit Go.Proofs.YtikbfjnbhogihaaGreatDoorW.PrintWords Go.Proofs.YtikbfjnbhogihaaGreatDoorW.PrintLast Go.Proofs.YtikbfjnbhogihaaGreatDoorW.PrintMore
attribute [local go_sem] max2_int min2_int max_two min_two max_three min_three max_four min_four
set_option linter.unusedVariables false
set_option linter.unusedSimpArgs false
/-! ### laws_szSeriesS: function 147 -/
def laws_szSeriesS.l0 : Nat → List (S225) → Int → Int → Option (Int)
 | 0, _, _, _ => none
 | k + 1, x0, x1, x5 => if x5 < (x0.length : Int) then (if 0 ≤ x5 then ((laws_szSeries.f ((rd_T225 x0 x5).f0) ((rd_T225 x0 x5).f1) x1).bind fun t106 => (if t106 < 0 then (some (-1)) else (laws_szSeriesS.l0 k x0 t106 (wrap64 (x5 + 1))))) else (none)) else (some x1)
def laws_szSeriesS.f (k : Nat) (l0 : List (S225)) (a1 : Int) : Option (Int) := if (wrap64 (a1 - (l0.length : Int))) < 0 then (some (-1)) else (laws_szSeriesS.l0 k l0 (wrap64 (a1 - (l0.length : Int))) 0)
set_option maxHeartbeats 8000000 in
set_option maxRecDepth 100000 in
theorem laws_szSeriesS.calls (k : Nat) (A0 : Option Addr) (c0 : Nat) (l0 : List (S225)) (a1 : Int) (r : Int) (w : World) (hr0 : Kd.C k225 w A0 l0.length l0) (hc0 : l0.length ≤ c0) (h : laws_szSeriesS.f k l0 a1 = some r) :
  Calls Tryz.prog 147 #[.slice A0 l0.length c0, .int .i64 a1] w fun e w' => e = .returned (.int .i64 r) ∧ Below w.heap.size w w' := by
 have hu225 := Tryz.underlying225
 have HR0 := Aside0.mk hr0
 have HC0 := Aside0.mk hc0
 clear hr0 hc0
 have HB := Aside0.mk (Below.refl w.heap.size w)
 have H : (if (wrap64 (a1 - (l0.length : Int))) < 0 then (some (-1)) else (laws_szSeriesS.l0 k l0 (wrap64 (a1 - (l0.length : Int))) 0)) = some r := h
 clear h
 by_cases c3 : (wrap64 (a1 - (l0.length : Int))) < 0
 ·rw [if_pos c3] at H
  have c3b0 : decide ((wrap64 (a1 - (l0.length : Int))) < 0) = true := decide_eq_true c3
  clear c3
  obtain rfl := Option.some.inj H
  go_enter Tryz.func147, Tryz.ntmps147
  go_wp2
  go_ret
  exact ⟨by first | rfl | (simp [errW_none, errW_some] <;> rfl) | (simp [*, errW_none, errW_some] <;> rfl), by repeat (first | (with_reducible first | exact HB.out | apply below_alloc | apply pw_below_drewN | apply below_drew1) | exact HB.out)⟩
 ·rw [if_neg c3] at H
  have c3b0 : decide ((wrap64 (a1 - (l0.length : Int))) < 0) = false := decide_eq_false c3
  clear c3
  have H' := Aside0.mk H
  clear H
  go_enter Tryz.func147, Tryz.ntmps147
  go_wp2
  go_loopg [1, 5] k (fun kq v1 v5 w' => ∃ (x1_1 : Int) (x5_1 : Int), v1 = .int .i64 x1_1 ∧ v5 = .int .i64 x5_1 ∧ Aside0 (laws_szSeriesS.l0 kq l0 x1_1 x5_1 = some r) ∧ Aside0 (kq ≤ k) ∧ Aside0 (Below w.heap.size w w'))
  case atStart => exact ⟨(wrap64 (a1 - (l0.length : Int))), (0), (by first | rfl | (simp; done) | (simp [*]; done)), (by first | rfl | (simp; done) | (simp [*]; done)), H', ⟨Nat.le_refl _⟩, ⟨by repeat (first | (with_reducible first | exact HB.out | apply below_alloc | apply pw_below_drewN | apply below_drew1) | exact HB.out)⟩⟩
  case round =>
   clear H'
   try clear c1
   try clear p2
   try clear c3
   try clear c3b0
   obtain ⟨x1_1, x5_1, rfl, rfl, HA, HK1, HB⟩ := hrel
   cases gk with
   | zero => exact absurd HA.out (by simp [laws_szSeriesS.l0])
   | succ k1 =>
    have H := HA.out
    clear HA
    simp only [laws_szSeriesS.l0] at H
    by_cases c4 : x5_1 < (l0.length : Int)
    ·rw [if_pos c4] at H
     have c4b0 : decide (x5_1 < (l0.length : Int)) = true := decide_eq_true c4
     clear c4
     by_cases c5 : 0 ≤ x5_1
     ·rw [if_pos c5] at H
      have c5b0 : decide (0 ≤ x5_1) = true := decide_eq_true c5
      clear c5
      replace H := Option.bind_eq_some_iff.mp H
      obtain ⟨t106, A60, H⟩ := H
      replace H : (if t106 < 0 then (some (-1)) else (laws_szSeriesS.l0 k1 l0 t106 (wrap64 (x5_1 + 1)))) = some r := H
      have A6 := Aside0.mk A60
      clear A60
      by_cases c7 : t106 < 0
      ·rw [if_pos c7] at H
       have c7b0 : decide (t106 < 0) = true := decide_eq_true c7
       clear c7
       obtain rfl := Option.some.inj H
       have p105 : 0 ≤ (x5_1 : Int) := of_decide_eq_true (by first | (with_reducible assumption) | assumption)
       have q105 : x5_1 < (l0.length : Int) := of_decide_eq_true (by first | (with_reducible assumption) | assumption)
       obtain ⟨ad105, e105, hx105_0, hx105_1⟩ := at_T225 HR0.out x5_1 p105 q105
       cases e105
       replace hx105_0 := (HB.out.cell (World.block_lt_of_cell? w _ hx105_0)).trans hx105_0
       replace hx105_1 := (HB.out.cell (World.block_lt_of_cell? w _ hx105_1)).trans hx105_1
       replace p105 := eq_true p105
       replace q105 := eq_true q105
       go_wp2_with (first | ((with_reducible refine gate_callee (f := 167) rfl ?_); refine goesL_ (some 23) rfl rfl Tryz.func167 (by kernel_rfl) rfl #[.agg #[.string ((rd_T225 l0 x5_1).f0), .int .i64 ((rd_T225 l0 x5_1).f1)], .int .i64 x1_1] rfl (by (try simp only [List.map_toArray, List.map_cons, List.map_nil]); first | done | rfl | (simp only [List.length_drop, List.length_take]; rfl)) ?_; (with_reducible refine (laws_szSeries.calls ((rd_T225 l0 x5_1).f0) ((rd_T225 l0 x5_1).f1) x1_1 t106 _ A6.out).mono ?_); rintro e w8 ⟨rfl, hb⟩; refine ⟨_, rfl, ?_⟩; have n0_ := Aside0.mk (below_step (by repeat (first | (with_reducible first | exact HB.out | apply below_alloc | apply pw_below_drewN | apply below_drew1) | exact HB.out)) hb); clear HB; have HB := n0_; clear n0_; (try clear hb); (try clear hb2); (try clear hk); (try clear hi)))
       go_ret
       exact ⟨by first | rfl | (simp [errW_none, errW_some] <;> rfl) | (simp [*, errW_none, errW_some] <;> rfl), by repeat (first | (with_reducible first | exact HB.out | apply below_alloc | apply pw_below_drewN | apply below_drew1) | exact HB.out)⟩
      ·rw [if_neg c7] at H
       have c7b0 : decide (t106 < 0) = false := decide_eq_false c7
       clear c7
       have H' := Aside0.mk H
       clear H
       have p105 : 0 ≤ (x5_1 : Int) := of_decide_eq_true (by first | (with_reducible assumption) | assumption)
       have q105 : x5_1 < (l0.length : Int) := of_decide_eq_true (by first | (with_reducible assumption) | assumption)
       obtain ⟨ad105, e105, hx105_0, hx105_1⟩ := at_T225 HR0.out x5_1 p105 q105
       cases e105
       replace hx105_0 := (HB.out.cell (World.block_lt_of_cell? w _ hx105_0)).trans hx105_0
       replace hx105_1 := (HB.out.cell (World.block_lt_of_cell? w _ hx105_1)).trans hx105_1
       replace p105 := eq_true p105
       replace q105 := eq_true q105
       go_wp2_with (first | ((with_reducible refine gate_callee (f := 167) rfl ?_); refine goesL_ (some 23) rfl rfl Tryz.func167 (by kernel_rfl) rfl #[.agg #[.string ((rd_T225 l0 x5_1).f0), .int .i64 ((rd_T225 l0 x5_1).f1)], .int .i64 x1_1] rfl (by (try simp only [List.map_toArray, List.map_cons, List.map_nil]); first | done | rfl | (simp only [List.length_drop, List.length_take]; rfl)) ?_; (with_reducible refine (laws_szSeries.calls ((rd_T225 l0 x5_1).f0) ((rd_T225 l0 x5_1).f1) x1_1 t106 _ A6.out).mono ?_); rintro e w9 ⟨rfl, hb⟩; refine ⟨_, rfl, ?_⟩; have n0_ := Aside0.mk (below_step (by repeat (first | (with_reducible first | exact HB.out | apply below_alloc | apply pw_below_drewN | apply below_drew1) | exact HB.out)) hb); clear HB; have HB := n0_; clear n0_; (try clear hb); (try clear hb2); (try clear hk); (try clear hi)))
       go_roundg k1
       case measure => have := HK1.out; omega
       case rel => exact ⟨(t106), (wrap64 (x5_1 + 1)), (by first | rfl | (simp; done) | (simp [*]; done)), (by first | rfl | (simp; done) | (simp [*]; done)), H', ⟨by have := HK1.out; omega⟩, ⟨by repeat (first | (with_reducible first | exact HB.out | apply below_alloc | apply pw_below_drewN | apply below_drew1) | exact HB.out)⟩⟩
     ·rw [if_neg c5] at H
      exact absurd H (by simp)
    ·rw [if_neg c4] at H
     have c4b0 : decide (x5_1 < (l0.length : Int)) = false := decide_eq_false c4
     clear c4
     obtain rfl := Option.some.inj H
     go_wp2
     go_ret
     exact ⟨by first | rfl | (simp [errW_none, errW_some] <;> rfl) | (simp [*, errW_none, errW_some] <;> rfl), by repeat (first | (with_reducible first | exact HB.out | apply below_alloc | apply pw_below_drewN | apply below_drew1) | exact HB.out)⟩
end Go.Proofs.YtikbfjnbhogihaaGreatDoor.M
/- impl.isTenant: a range over a string's bytes. -/
namespace Go.Proofs.YtikbfjnbhogihaaGreatDoor.M
open Go.RowKit Go.Proofs.YtikbfjnbhogihaaGreatDoorW.PrintWords Go.Proofs.YtikbfjnbhogihaaGreatDoorW.PrintLast Go.Proofs.YtikbfjnbhogihaaGreatDoorW.PrintMore
set_option linter.unusedVariables false
set_option linter.unusedSimpArgs false
namespace TenN
def okB (c : Int) : Bool := decide (97 ≤ c ∧ c ≤ 122 ∨ 48 ≤ c ∧ c ≤ 57 ∨ c = 45)
def chars (s : ByteArray) : Nat → Bool
 | 0 => true
 | n + 1 => okB (bt s ((s.size - (n + 1) : Nat) : Int)) && chars s n
def ok (s : ByteArray) : Bool := decide (1 ≤ s.size ∧ s.size ≤ 32) && chars s s.size
theorem step (s : ByteArray) (k : Nat) (h : k < s.size) : chars s (s.size - k) = (okB (bt s (k : Int)) && chars s (s.size - (k + 1))) := by
 obtain ⟨n, hn⟩ : ∃ n, s.size - k = n + 1 := ⟨s.size - k - 1, by omega⟩
 rw [hn, show s.size - (k + 1) = n by omega]
 show (okB (bt s ((s.size - (n + 1) : Nat) : Int)) && chars s n) = _
 rw [show s.size - (n + 1) = k by omega]
theorem size_zero {a : ByteArray} (h : a.toList = []) : a.size = 0 := by
 rw [ByteArray.toList_eq] at h
 have : a.data.toList.length = 0 := by rw [h]; rfl
 exact this
theorem size_pos {a : ByteArray} (h : ¬ a.toList = []) : 1 ≤ a.size := by
 rw [ByteArray.toList_eq] at h
 by_cases h0 : a.size = 0
 ·exact absurd (List.length_eq_zero_iff.1 (show a.data.toList.length = 0 from h0)) h
 ·omega
end TenN
def impl_isTenant.f (a0 : ByteArray) : Option Bool := some (TenN.ok a0)
set_option maxHeartbeats 4000000 in
set_option maxRecDepth 100000 in
theorem impl_isTenant.calls (a0 : ByteArray) (r : Bool) (w : World) (h : impl_isTenant.f a0 = some r) :
  Calls Tryz.prog 62 #[.string a0] w fun e w' => e = .returned (.bool r) ∧ Below w.heap.size w w' := by
 have H := Aside0.mk (Option.some.inj h)
 clear h
 by_cases h0 : a0.toList = []
 ·have hb : (a0.toList == ([] : List UInt8)) = true := by rw [h0]; rfl
  have hf := Aside0.mk (show TenN.ok a0 = false by unfold TenN.ok; rw [decide_eq_false (by have := TenN.size_zero h0; omega)]; rfl)
  clear h0
  go_enter Tryz.func62, Tryz.ntmps62
  go_wp2_with fail
  go_ret
  exact ⟨by rw [← H.out, hf.out]; rfl, Below.refl _ _⟩
 ·have hb : (a0.toList == ([] : List UInt8)) = false := by simpa using h0
  have hp := TenN.size_pos h0
  clear h0
  by_cases h1 : 32 < a0.size
  ·have hf := Aside0.mk (show TenN.ok a0 = false by unfold TenN.ok; rw [decide_eq_false (by omega)]; rfl)
   go_enter Tryz.func62, Tryz.ntmps62
   go_wp2_with fail
   go_ret
   exact ⟨by rw [← H.out, hf.out]; rfl, Below.refl _ _⟩
  ·have hf := Aside0.mk (show TenN.ok a0 = TenN.chars a0 a0.size by unfold TenN.ok; rw [decide_eq_true (by omega)]; rfl)
   have hcv := Lib.run_convert_string_bytes (P := Tryz.prog) w 9 53 5 a0 Tryz.underlying9 Tryz.underlying53 Tryz.underlying5
   go_enter Tryz.func62, Tryz.ntmps62
   go_wp2_with fail
   have HC := Aside0.mk (bytes_reads w 5 a0 (by omega))
   have HB2 := Aside0.mk (Joins.below_bytesWorld w.heap.size w 5 a0 (Nat.le_refl _))
   clear hcv hb
   generalize Lib.bytesWorld w 5 a0 = W2 at HC HB2 ⊢
   go_loop [15] (fun i => ∃ k : Nat, k ≤ a0.size ∧ i = .int .i64 k ∧ Aside0 (TenN.chars a0 a0.size = TenN.chars a0 (a0.size - k))) (fun i => a0.size - (intOf i).toNat)
   case atStart => exact ⟨0, by omega, by simp, ⟨rfl⟩⟩
   case round =>
    obtain ⟨k, hk, rfl, HU⟩ := hrel
    obtain hk5 | hk6 : a0.size ≤ k ∨ k < a0.size := by omega
    ·obtain rfl : k = a0.size := by omega
     have he := Aside0.mk (show TenN.chars a0 (a0.size - a0.size) = true by rw [Nat.sub_self]; rfl)
     go_wp2
     go_ret
     exact ⟨by rw [← H.out, hf.out, HU.out, he.out]; rfl, HB2.out⟩
    ·obtain ⟨ad, e, hcell⟩ := HC.out.at_ (k : Int) (by omega) (by omega)
     obtain rfl : (⟨w.heap.size, 0, none⟩ : Addr) = ad := by injection e
     rw [rd_bytesOf, add_plain, Int.toNat_natCast] at hcell
     clear e
     have hs := TenN.step a0 k hk6
     obtain ⟨c, hc⟩ : ∃ c, c = bt a0 (k : Int) := ⟨_, rfl⟩
     rw [← hc] at hcell hs
     have hcs : (c = 45 ∨ (48 ≤ c ∧ c ≤ 57) ∨ (97 ≤ c ∧ c ≤ 122)) ∨ (c < 45 ∨ (45 < c ∧ c < 48) ∨ (57 < c ∧ c < 97) ∨ 122 < c) := by omega
     have HS := Aside0.mk hs
     clear hs hc
     rcases hcs with hg | hg
     ·have ho := Aside0.mk (show TenN.okB c = true from decide_eq_true (by omega))
      rcases hg with h2 | h2 | h2
      all_goals
       go_wp2
       go_round
       case rel => exact ⟨k + 1, by omega, by go_num, ⟨by rw [HU.out, HS.out, ho.out, Bool.true_and]⟩⟩
       case measure => simp [intOf]; omega
     ·have ho := Aside0.mk (show TenN.okB c = false from decide_eq_false (by omega))
      have h45 : (c == 45) = false := beq_eq_false_iff_ne.2 (by omega)
      rcases hg with h2 | h2 | h2 | h2
      all_goals
       (try have hd1 : decide (c ≤ 57) = false := decide_eq_false (by omega))
       (try have hd2 : decide (c ≤ 122) = false := decide_eq_false (by omega))
       go_wp2
       go_ret
       exact ⟨by rw [← H.out, hf.out, HU.out, HS.out, ho.out]; rfl, HB2.out⟩
end Go.Proofs.YtikbfjnbhogihaaGreatDoor.M
namespace Go.Proofs.YtikbfjnbhogihaaGreatDoor.M
open Go.RowKit Go.Proofs.YtikbfjnbhogihaaGreatDoorW.PrintWords Go.Proofs.YtikbfjnbhogihaaGreatDoorW.PrintLast Go.Proofs.YtikbfjnbhogihaaGreatDoorW.PrintMore
attribute [local go_sem] max2_int min2_int max_two min_two max_three min_three max_four min_four
set_option linter.unusedVariables false
set_option linter.unusedSimpArgs false
/-! ### spec_l4Unsigned: function 67 -/
def spec_l4Unsigned.f (a0 : Int) (a1 : Int) : Option (Int) := if a0 ≥ 0 then (if a1 = 0 then (none) else (some (Int.tmod a0 a1))) else (if a1 = 0 then (none) else (some (Int.tmod (wrap64 ((wrap64 ((((a0 / 4294967296) % 4294967296) % a1) * ((4294967296 : Int) % a1))) + ((a0) % 4294967296))) a1)))
set_option maxHeartbeats 8000000 in
set_option maxRecDepth 100000 in
theorem spec_l4Unsigned.calls (a0 : Int) (a1 : Int) (r : Int) (w : World) (h : spec_l4Unsigned.f a0 a1 = some r) :
  Calls Tryz.prog 67 #[.int .i64 a0, .int .i64 a1] w fun e w' => e = .returned (.int .i64 r) ∧ Drawn0 w w' := by
 have H : (if a0 ≥ 0 then (if a1 = 0 then (none) else (some (Int.tmod a0 a1))) else (if a1 = 0 then (none) else (some (Int.tmod (wrap64 ((wrap64 ((((a0 / 4294967296) % 4294967296) % a1) * ((4294967296 : Int) % a1))) + ((a0) % 4294967296))) a1)))) = some r := h
 clear h
 by_cases c3 : a0 ≥ 0
 ·rw [if_pos c3] at H
  have c3b0 : decide (0 ≤ a0) = true := decide_eq_true c3
  clear c3
  by_cases c4 : a1 = 0
  ·rw [if_pos c4] at H
   exact absurd H (by simp)
  ·rw [if_neg c4] at H
   have c4b0 : (a1 == 0) = false := beq_eq_false_iff_ne.mpr c4
   have c4b1 : (a1 != 0) = true := bne_iff_ne.mpr c4
   obtain rfl := Option.some.inj H
   go_enter Tryz.func67, Tryz.ntmps67
   go_wp2
   repeat (go_quiet (fail); try go_wp2)
   go_ret
   exact ⟨by first | rfl | (simp; done) | (simp [*]; done), by repeat (first | exact Drawn0.refl _ | apply Drawn0.step)⟩
 ·rw [if_neg c3] at H
  have c3b0 : decide (0 ≤ a0) = false := decide_eq_false c3
  clear c3
  by_cases c5 : a1 = 0
  ·rw [if_pos c5] at H
   exact absurd H (by simp)
  ·rw [if_neg c5] at H
   have c5b0 : (a1 == 0) = false := beq_eq_false_iff_ne.mpr c5
   have c5b1 : (a1 != 0) = true := bne_iff_ne.mpr c5
   obtain rfl := Option.some.inj H
   go_enter Tryz.func67, Tryz.ntmps67
   go_wp2
   repeat (go_quiet (fail); try go_wp2)
   go_ret
   exact ⟨by first | rfl | (simp; done) | (simp [*]; done), by repeat (first | exact Drawn0.refl _ | apply Drawn0.step)⟩
/-! ### impl_s16: function 162 -/
def impl_s16.f (a0 : ByteArray) : Option (ByteArray) := (impl_num.f 2 (a0.size : Int)).bind fun t263 => (if t263.size + a0.size ≤ 9223372036854775807 then (some (t263 ++ a0)) else (none))
set_option maxHeartbeats 8000000 in
set_option maxRecDepth 100000 in
theorem impl_s16.calls (a0 : ByteArray) (r : ByteArray) (w : World) (h : impl_s16.f a0 = some r) :
  Calls Tryz.prog 162 #[.string a0] w fun e w' => e = .returned (.string r) ∧ Below w.heap.size w w' := by
 have HB := Aside0.mk (Below.refl w.heap.size w)
 have H : ((impl_num.f 2 (a0.size : Int)).bind fun t263 => (if t263.size + a0.size ≤ 9223372036854775807 then (some (t263 ++ a0)) else (none))) = some r := h
 clear h
 replace H := Option.bind_eq_some_iff.mp H
 obtain ⟨t263, A20, H⟩ := H
 replace H : (if t263.size + a0.size ≤ 9223372036854775807 then (some (t263 ++ a0)) else (none)) = some r := H
 have A2 := Aside0.mk A20
 clear A20
 by_cases c3 : t263.size + a0.size ≤ 9223372036854775807
 ·rw [if_pos c3] at H
  have c3b0 := eq_true c3
  have c3b1 : decide (t263.size + a0.size ≤ 9223372036854775807) = true := decide_eq_true c3
  try have c3b2 : (9223372036854775807 < t263.size + a0.size) = False := eq_false (Nat.not_lt.2 c3)
  obtain rfl := Option.some.inj H
  go_enter Tryz.func162, Tryz.ntmps162
  go_wp2_with (first | ((with_reducible refine gate_callee (f := 160) rfl ?_); refine goesL_ (some 5) rfl rfl Tryz.func160 (by kernel_rfl) rfl #[.int .i64 2, .int .i64 (a0.size : Int)] rfl (by (try simp only [List.map_toArray, List.map_cons, List.map_nil]); first | done | rfl | (simp only [List.length_drop, List.length_take]; rfl)) ?_; (with_reducible refine (impl_num.calls 2 (a0.size : Int) t263 _ A2.out).mono ?_); rintro e w4 ⟨rfl, hb⟩; refine ⟨_, rfl, ?_⟩; have n0_ := Aside0.mk (below_step (by repeat (first | (with_reducible first | exact HB.out | apply below_alloc | apply pw_below_drewN | apply below_drew1) | exact HB.out)) hb); clear HB; have HB := n0_; clear n0_; (try clear hb); (try clear hb2); (try clear hk); (try clear hi)))
  go_ret
  exact ⟨by first | rfl | (simp [errW_none, errW_some] <;> rfl) | (simp [*, errW_none, errW_some] <;> rfl), by repeat (first | (with_reducible first | exact HB.out | apply below_alloc | apply pw_below_drewN | apply below_drew1) | exact HB.out)⟩
 ·rw [if_neg c3] at H
  exact absurd H (by simp)
/-! ### laws_szTenant: function 103 -/
def laws_szTenant.f (k : Nat) (a0_0 : ByteArray) (a0_1 : Int) (l0_2 : List (S223)) (l0_3 : List (S225)) (a1 : Int) : Option (Int) := if (wrap64 (a1 - (a0_0.size : Int))) < 0 then (some (-1)) else ((laws_szMetricLimitS.f k l0_2 (wrap64 (a1 - (a0_0.size : Int)))).bind fun t108 => (if t108 < 0 then (some (-1)) else ((laws_szSeriesS.f k l0_3 t108).bind fun t109 => (if t109 < 0 then (some (-1)) else (some t109)))))
set_option maxHeartbeats 8000000 in
set_option maxRecDepth 100000 in
theorem laws_szTenant.calls (k : Nat) (a0_0 : ByteArray) (a0_1 : Int) (A0_2 : Option Addr) (c0_2 : Nat) (l0_2 : List (S223)) (A0_3 : Option Addr) (c0_3 : Nat) (l0_3 : List (S225)) (a1 : Int) (r : Int) (w : World) (hr0_2 : Kd.C k223 w A0_2 l0_2.length l0_2) (hc0_2 : l0_2.length ≤ c0_2) (hr0_3 : Kd.C k225 w A0_3 l0_3.length l0_3) (hc0_3 : l0_3.length ≤ c0_3) (h : laws_szTenant.f k a0_0 a0_1 l0_2 l0_3 a1 = some r) :
  Calls Tryz.prog 103 #[.agg #[.string a0_0, .int .i64 a0_1, .slice A0_2 l0_2.length c0_2, .slice A0_3 l0_3.length c0_3], .int .i64 a1] w fun e w' => e = .returned (.int .i64 r) ∧ Below w.heap.size w w' := by
 have HR0_2 := Aside0.mk hr0_2
 have HC0_2 := Aside0.mk hc0_2
 clear hr0_2 hc0_2
 have HR0_3 := Aside0.mk hr0_3
 have HC0_3 := Aside0.mk hc0_3
 clear hr0_3 hc0_3
 have HB := Aside0.mk (Below.refl w.heap.size w)
 have H : (if (wrap64 (a1 - (a0_0.size : Int))) < 0 then (some (-1)) else ((laws_szMetricLimitS.f k l0_2 (wrap64 (a1 - (a0_0.size : Int)))).bind fun t108 => (if t108 < 0 then (some (-1)) else ((laws_szSeriesS.f k l0_3 t108).bind fun t109 => (if t109 < 0 then (some (-1)) else (some t109)))))) = some r := h
 clear h
 by_cases c3 : (wrap64 (a1 - (a0_0.size : Int))) < 0
 ·rw [if_pos c3] at H
  have c3b0 : decide ((wrap64 (a1 - (a0_0.size : Int))) < 0) = true := decide_eq_true c3
  clear c3
  obtain rfl := Option.some.inj H
  go_enter Tryz.func103, Tryz.ntmps103
  go_wp2_with (((with_reducible refine gate_dst (N := 2) rfl ?_); refine box_event ?hg (N := 2) ?hd (cs := #[.string a0_0, .int .i64 a0_1, .slice A0_2 l0_2.length c0_2, .slice A0_3 l0_3.length c0_3]) (t := 159) ?hr ?_; (case hd => rfl); (case hg => rfl); (case hr => (go_simp; done)); intro gb107 hg w4 hbox hb; have n0_ := Aside0.mk (below_step (by repeat ((with_reducible exact HB.out))) hb); have n1_ := Aside0.mk (hbox); clear HB; have HB := n0_; have BK107 := n1_; clear n0_ n1_; clear hb hbox hg; have hcz5_0 : w4.cell? ⟨gb107, 0, none⟩ = some (.string a0_0) := (blk_cell BK107.out 0).trans rfl))
  go_ret
  exact ⟨by rfl, by repeat ((with_reducible exact HB.out))⟩
 ·rw [if_neg c3] at H
  have c3b0 : decide ((wrap64 (a1 - (a0_0.size : Int))) < 0) = false := decide_eq_false c3
  clear c3
  replace H := Option.bind_eq_some_iff.mp H
  obtain ⟨t108, A60, H⟩ := H
  replace H : (if t108 < 0 then (some (-1)) else ((laws_szSeriesS.f k l0_3 t108).bind fun t109 => (if t109 < 0 then (some (-1)) else (some t109)))) = some r := H
  have A6 := Aside0.mk A60
  clear A60
  by_cases c7 : t108 < 0
  ·rw [if_pos c7] at H
   have c7b0 : decide (t108 < 0) = true := decide_eq_true c7
   clear c7
   obtain rfl := Option.some.inj H
   go_enter Tryz.func103, Tryz.ntmps103
   go_wp2_with (first | ((with_reducible refine gate_dst (N := 2) rfl ?_); refine box_event ?hg (N := 2) ?hd (cs := #[.string a0_0, .int .i64 a0_1, .slice A0_2 l0_2.length c0_2, .slice A0_3 l0_3.length c0_3]) (t := 159) ?hr ?_; (case hd => rfl); (case hg => rfl); (case hr => (go_simp; done)); intro gb107 hg w8 hbox hb; have n0_ := Aside0.mk (below_step (by repeat ((with_reducible exact HB.out))) hb); have n1_ := Aside0.mk (hbox); clear HB; have HB := n0_; have BK107 := n1_; clear n0_ n1_; clear hb hbox hg; have hcz9_0 : w8.cell? ⟨gb107, 0, none⟩ = some (.string a0_0) := (blk_cell BK107.out 0).trans rfl; have hcz9_2 : w8.cell? ⟨gb107, 2, none⟩ = some (.slice A0_2 l0_2.length c0_2) := (blk_cell BK107.out 2).trans rfl) | ((with_reducible refine gate_callee (f := 146) rfl ?_); refine goesL_ (some 15) rfl rfl Tryz.func146 (by kernel_rfl) rfl #[.slice A0_2 l0_2.length c0_2, .int .i64 (wrap64 (a1 - (a0_0.size : Int)))] rfl (by (try simp only [List.map_toArray, List.map_cons, List.map_nil]); first | done | rfl) ?_; (with_reducible refine (laws_szMetricLimitS.calls k _ _ l0_2 (wrap64 (a1 - (a0_0.size : Int))) t108 _ ?side1 ?side2 A6.out).mono ?_); (case side1 => repeat (exact (Kd.C_below HR0_2.out HB.out))); (case side2 => exact HC0_2.out); rintro e w10 ⟨rfl, hb⟩; refine ⟨_, rfl, ?_⟩; have n1_ := Aside0.mk (below_step (by repeat ((with_reducible exact HB.out))) hb); clear BK107; clear HB; have HB := n1_; clear n1_; (try clear hb)))
   go_ret
   exact ⟨by rfl, by repeat ((with_reducible exact HB.out))⟩
  ·rw [if_neg c7] at H
   have c7b0 : decide (t108 < 0) = false := decide_eq_false c7
   clear c7
   replace H := Option.bind_eq_some_iff.mp H
   obtain ⟨t109, A110, H⟩ := H
   replace H : (if t109 < 0 then (some (-1)) else (some t109)) = some r := H
   have A11 := Aside0.mk A110
   clear A110
   by_cases c12 : t109 < 0
   ·rw [if_pos c12] at H
    have c12b0 : decide (t109 < 0) = true := decide_eq_true c12
    clear c12
    obtain rfl := Option.some.inj H
    go_enter Tryz.func103, Tryz.ntmps103
    go_wp2_with (first | ((with_reducible refine gate_dst (N := 2) rfl ?_); refine box_event ?hg (N := 2) ?hd (cs := #[.string a0_0, .int .i64 a0_1, .slice A0_2 l0_2.length c0_2, .slice A0_3 l0_3.length c0_3]) (t := 159) ?hr ?_; (case hd => rfl); (case hg => rfl); (case hr => (go_simp; done)); intro gb107 hg w13 hbox hb; have n0_ := Aside0.mk (below_step (by repeat ((with_reducible exact HB.out))) hb); have n1_ := Aside0.mk (hbox); clear HB; have HB := n0_; have BK107 := n1_; clear n0_ n1_; clear hb hbox hg; have hcz14_0 : w13.cell? ⟨gb107, 0, none⟩ = some (.string a0_0) := (blk_cell BK107.out 0).trans rfl; have hcz14_2 : w13.cell? ⟨gb107, 2, none⟩ = some (.slice A0_2 l0_2.length c0_2) := (blk_cell BK107.out 2).trans rfl) | ((with_reducible refine gate_callee (f := 146) rfl ?_); refine goesL_ (some 15) rfl rfl Tryz.func146 (by kernel_rfl) rfl #[.slice A0_2 l0_2.length c0_2, .int .i64 (wrap64 (a1 - (a0_0.size : Int)))] rfl (by (try simp only [List.map_toArray, List.map_cons, List.map_nil]); first | done | rfl) ?_; (with_reducible refine (laws_szMetricLimitS.calls k _ _ l0_2 (wrap64 (a1 - (a0_0.size : Int))) t108 _ ?side1 ?side2 A6.out).mono ?_); (case side1 => repeat (exact (Kd.C_below HR0_2.out HB.out))); (case side2 => exact HC0_2.out); rintro e w15 ⟨rfl, hb⟩; refine ⟨_, rfl, ?_⟩; have n0_ := Aside0.mk (blk_below (g := gb107) (o := .cells #[.string a0_0, .int .i64 a0_1, .slice A0_2 l0_2.length c0_2, .slice A0_3 l0_3.length c0_3] 159 (0, 0)) (by (with_reducible repeat (first | refine blk_drewN ?_ _ | refine blk_drew ?_ | refine blk_alloc ?_ _)); exact BK107.out) hb); have n1_ := Aside0.mk (below_step (by repeat ((with_reducible exact HB.out))) hb); clear BK107; clear HB; have BK107 := n0_; have HB := n1_; clear n0_ n1_; (try clear hb); have hcz16_3 : w15.cell? ⟨gb107, 3, none⟩ = some (.slice A0_3 l0_3.length c0_3) := (blk_cell BK107.out 3).trans rfl) | ((with_reducible refine gate_callee (f := 147) rfl ?_); refine goesL_ (some 21) rfl rfl Tryz.func147 (by kernel_rfl) rfl #[.slice A0_3 l0_3.length c0_3, .int .i64 t108] rfl (by (try simp only [List.map_toArray, List.map_cons, List.map_nil]); first | done | rfl) ?_; (with_reducible refine (laws_szSeriesS.calls k _ _ l0_3 t108 t109 _ ?side1 ?side2 A11.out).mono ?_); (case side1 => repeat (exact (Kd.C_below HR0_3.out HB.out))); (case side2 => exact HC0_3.out); rintro e w17 ⟨rfl, hb⟩; refine ⟨_, rfl, ?_⟩; have n1_ := Aside0.mk (below_step (by repeat ((with_reducible exact HB.out))) hb); clear BK107; clear HB; have HB := n1_; clear n1_; (try clear hb)))
    go_ret
    exact ⟨by rfl, by repeat ((with_reducible exact HB.out))⟩
   ·rw [if_neg c12] at H
    have c12b0 : decide (t109 < 0) = false := decide_eq_false c12
    clear c12
    obtain rfl := Option.some.inj H
    go_enter Tryz.func103, Tryz.ntmps103
    go_wp2_with (first | ((with_reducible refine gate_dst (N := 2) rfl ?_); refine box_event ?hg (N := 2) ?hd (cs := #[.string a0_0, .int .i64 a0_1, .slice A0_2 l0_2.length c0_2, .slice A0_3 l0_3.length c0_3]) (t := 159) ?hr ?_; (case hd => rfl); (case hg => rfl); (case hr => (go_simp; done)); intro gb107 hg w18 hbox hb; have n0_ := Aside0.mk (below_step (by repeat ((with_reducible exact HB.out))) hb); have n1_ := Aside0.mk (hbox); clear HB; have HB := n0_; have BK107 := n1_; clear n0_ n1_; clear hb hbox hg; have hcz19_0 : w18.cell? ⟨gb107, 0, none⟩ = some (.string a0_0) := (blk_cell BK107.out 0).trans rfl; have hcz19_2 : w18.cell? ⟨gb107, 2, none⟩ = some (.slice A0_2 l0_2.length c0_2) := (blk_cell BK107.out 2).trans rfl) | ((with_reducible refine gate_callee (f := 146) rfl ?_); refine goesL_ (some 15) rfl rfl Tryz.func146 (by kernel_rfl) rfl #[.slice A0_2 l0_2.length c0_2, .int .i64 (wrap64 (a1 - (a0_0.size : Int)))] rfl (by (try simp only [List.map_toArray, List.map_cons, List.map_nil]); first | done | rfl) ?_; (with_reducible refine (laws_szMetricLimitS.calls k _ _ l0_2 (wrap64 (a1 - (a0_0.size : Int))) t108 _ ?side1 ?side2 A6.out).mono ?_); (case side1 => repeat (exact (Kd.C_below HR0_2.out HB.out))); (case side2 => exact HC0_2.out); rintro e w20 ⟨rfl, hb⟩; refine ⟨_, rfl, ?_⟩; have n0_ := Aside0.mk (blk_below (g := gb107) (o := .cells #[.string a0_0, .int .i64 a0_1, .slice A0_2 l0_2.length c0_2, .slice A0_3 l0_3.length c0_3] 159 (0, 0)) (by (with_reducible repeat (first | refine blk_drewN ?_ _ | refine blk_drew ?_ | refine blk_alloc ?_ _)); exact BK107.out) hb); have n1_ := Aside0.mk (below_step (by repeat ((with_reducible exact HB.out))) hb); clear BK107; clear HB; have BK107 := n0_; have HB := n1_; clear n0_ n1_; (try clear hb); have hcz21_3 : w20.cell? ⟨gb107, 3, none⟩ = some (.slice A0_3 l0_3.length c0_3) := (blk_cell BK107.out 3).trans rfl) | ((with_reducible refine gate_callee (f := 147) rfl ?_); refine goesL_ (some 21) rfl rfl Tryz.func147 (by kernel_rfl) rfl #[.slice A0_3 l0_3.length c0_3, .int .i64 t108] rfl (by (try simp only [List.map_toArray, List.map_cons, List.map_nil]); first | done | rfl) ?_; (with_reducible refine (laws_szSeriesS.calls k _ _ l0_3 t108 t109 _ ?side1 ?side2 A11.out).mono ?_); (case side1 => repeat (exact (Kd.C_below HR0_3.out HB.out))); (case side2 => exact HC0_3.out); rintro e w22 ⟨rfl, hb⟩; refine ⟨_, rfl, ?_⟩; have n1_ := Aside0.mk (below_step (by repeat ((with_reducible exact HB.out))) hb); clear BK107; clear HB; have HB := n1_; clear n1_; (try clear hb)))
    go_ret
    exact ⟨by rfl, by repeat ((with_reducible exact HB.out))⟩
end Go.Proofs.YtikbfjnbhogihaaGreatDoor.M
