/- Labels in the order of their names: a permutation in order is what putting each at its place gives. Plain. -/
import Derived.Sort.LotA
import Derived.Shelf.SlSortCmp.Insertion
import Derived.Shelf.Small.Strs
import Derived.Test.YtdfgfhnbcifheaaDoorSShelf
namespace Go.Proofs.YtdfgfhnbcifheaaDoor.CanSort
open Go.Proofs.YtdfgfhnbcifheaaDoor.M Go.Sort Go.Shelf
abbrev Lb := S38
instance : Inhabited Lb := ⟨z38⟩
theorem less_irrefl : ∀ a : List UInt8, Op.bytesLess a a = false
  | [] => by simp [Op.bytesLess]
  | a :: x => by rw [Op.bytesLess, less_irrefl x]; simp
theorem less_trans : ∀ a b c : List UInt8, Op.bytesLess a b = true → Op.bytesLess b c = true → Op.bytesLess a c = true
  | _, [], _ => by simp [Op.bytesLess]
  | _, _ :: _, [] => by simp [Op.bytesLess]
  | [], _ :: _, _ :: _ => by simp [Op.bytesLess]
  | a :: x, b :: y, c :: z => by
    have ih := less_trans x y z
    simp only [Op.bytesLess, Bool.or_eq_true, decide_eq_true_eq, Bool.and_eq_true, beq_iff_eq]
    rintro (h1 | ⟨rfl, h1⟩) (h2 | ⟨rfl, h2⟩)
    · left; rw [UInt8.lt_iff_toNat_lt] at *; omega
    · exact .inl h1
    · exact .inl h2
    · exact .inr ⟨rfl, ih h1 h2⟩
theorem less_total : ∀ a b : List UInt8, Op.bytesLess a b = false → Op.bytesLess b a = false → a = b
  | [], [] => fun _ _ => rfl
  | [], _ :: _ => by simp [Op.bytesLess]
  | _ :: _, [] => by simp [Op.bytesLess]
  | a :: x, b :: y => by
    have ih := less_total x y
    simp only [Op.bytesLess, Bool.or_eq_false_iff, decide_eq_false_iff_not, Bool.and_eq_false_iff, beq_eq_false_iff_ne]
    rintro ⟨h1, h2⟩ ⟨h3, h4⟩
    have e : a = b := by
      rw [UInt8.lt_iff_toNat_lt] at h1 h3
      exact UInt8.toNat_inj.1 (by omega)
    subst e
    rw [ih (h2.resolve_left (fun h => h rfl)) (h4.resolve_left (fun h => h rfl))]
theorem cmp_neg : ∀ a b : List UInt8, Lib.compareBytes a b < 0 ↔ Op.bytesLess a b = true
  | [], [] => by simp [Lib.compareBytes, Op.bytesLess]
  | [], _ :: _ => by simp [Lib.compareBytes, Op.bytesLess]
  | _ :: _, [] => by simp [Lib.compareBytes, Op.bytesLess]
  | a :: x, b :: y => by
    rw [Lib.compareBytes, Op.bytesLess]
    have ih := cmp_neg x y
    by_cases h1 : a < b
    · rw [if_pos h1]; simp [h1]
    · rw [if_neg h1]
      by_cases h2 : b < a
      · rw [if_pos h2]
        have : a ≠ b := fun e => by subst e; exact absurd h2 (UInt8.lt_irrefl _)
        simp [h1, this]
      · rw [if_neg h2, ih]
        have : a = b := by
          rw [UInt8.lt_iff_toNat_lt] at h1 h2
          exact UInt8.toNat_inj.1 (by omega)
        simp [this]
/-- a's name is the lesser. -/
def less (a b : Lb) : Bool := Op.bytesLess a.f0.toList b.f0.toList
def L (a b : Lb) : Prop := less a b = true
theorem L_trans {a b c : Lb} (h1 : L a b) (h2 : L b c) : L a c := less_trans _ _ _ h1 h2
theorem L_of {a b : Lb} (h : ¬ L a b) (hne : a.f0.toList ≠ b.f0.toList) : L b a := by
  cases hb : less b a with
  | true => exact hb
  | false =>
    have ha : less a b = false := by simpa [L] using h
    exact absurd (less_total _ _ ha hb) hne
theorem L_ne {a b : Lb} (h : L a b) : a.f0.toList ≠ b.f0.toList := by
  intro e
  have h2 : Op.bytesLess a.f0.toList b.f0.toList = true := h
  rw [e, less_irrefl] at h2
  cases h2
/-- l put at its place. -/
def ins : List Lb → Lb → List Lb
  | [], l => [l]
  | o :: out, l => if less o l = true then o :: ins out l else l :: o :: out
theorem ins_perm : ∀ (out : List Lb) (l : Lb), (ins out l).Perm (l :: out)
  | [], l => List.Perm.refl _
  | o :: out, l => by
    unfold ins
    split
    · exact ((ins_perm out l).cons o).trans (List.Perm.swap l o out)
    · exact List.Perm.refl _
theorem ins_sorted : ∀ (out : List Lb) (l : Lb), out.Pairwise L → (∀ o ∈ out, o.f0.toList ≠ l.f0.toList) → (ins out l).Pairwise L
  | [], l, _, _ => by simp [ins]
  | o :: out, l, h, hne => by
    rw [List.pairwise_cons] at h
    unfold ins
    split
    · rename_i hlt
      rw [List.pairwise_cons]
      refine ⟨fun x hx => ?_, ins_sorted out l h.2 (fun y hy => hne y (List.mem_cons_of_mem _ hy))⟩
      rcases List.mem_cons.1 ((ins_perm out l).mem_iff.1 hx) with rfl | hx
      · exact hlt
      · exact h.1 x hx
    · rename_i hlt
      have hlo : L l o := L_of (a := o) (b := l) hlt (hne o (List.mem_cons_self ..))
      rw [List.pairwise_cons]
      refine ⟨fun x hx => ?_, List.pairwise_cons.2 h⟩
      rcases List.mem_cons.1 hx with rfl | hx
      · exact hlo
      · exact L_trans hlo (h.1 x hx)
theorem ins_at : ∀ (out : List Lb) (l : Lb) (k : Nat), k ≤ out.length → (∀ j, j < k → ∀ h : j < out.length, less out[j] l = true) → (∀ h : k < out.length, less out[k] l = false) → ins out l = out.take k ++ l :: out.drop k
  | [], l, k, hk, _, _ => by
    obtain rfl : k = 0 := by simpa using hk
    rfl
  | o :: out, l, 0, _, _, h2 => by
    unfold ins
    rw [if_neg (by rw [show less o l = false from h2 (by simp)]; simp)]
    rfl
  | o :: out, l, k + 1, hk, h1, h2 => by
    unfold ins
    have hh : less o l = true := h1 0 (by omega) (by simp)
    rw [if_pos hh, ins_at out l k (by simpa using hk) (fun j hj h => h1 (j + 1) (by omega) (by simpa using h)) (fun h => h2 (by simpa using h))]
    rfl
/-- No name twice. -/
def Once (l : List Lb) : Prop := l.Pairwise (fun a b => a.f0.toList ≠ b.f0.toList)
theorem fold_sorted : ∀ (k acc : List Lb), acc.Pairwise L → Once k → (∀ o ∈ acc, ∀ x ∈ k, o.f0.toList ≠ x.f0.toList) → (k.foldl ins acc).Pairwise L ∧ (k.foldl ins acc).Perm (acc ++ k)
  | [], acc, h, _, _ => ⟨h, by simp⟩
  | x :: k, acc, h, ho, hd => by
    unfold Once at ho
    rw [List.pairwise_cons] at ho
    obtain ⟨h1, h2⟩ := fold_sorted k (ins acc x) (ins_sorted acc x h (fun o hm => hd o hm x (List.mem_cons_self ..))) ho.2 (fun o hm y hy => by
      rcases List.mem_cons.1 ((ins_perm acc x).mem_iff.1 hm) with rfl | hm
      · exact ho.1 y hy
      · exact hd o hm y (List.mem_cons_of_mem _ hy))
    refine ⟨h1, h2.trans ?_⟩
    refine ((ins_perm acc x).append_right k).trans ?_
    exact (List.perm_middle (a := x) (l₁ := acc) (l₂ := k)).symm
theorem uniq {a b : List Lb} (hp : a.Perm b) (ha : a.Pairwise L) (hb : b.Pairwise L) : a = b :=
  List.Perm.eq_of_pairwise (le := L) (fun _ _ _ _ h1 h2 => absurd (L_trans h1 h2) (fun h => L_ne h rfl)) ha hb hp
/-- The labels in order. -/
def order (k : List Lb) : List Lb := k.foldl ins []
theorem order_perm (k : List Lb) (h : Once k) : (order k).Perm k := by
  have := (fold_sorted k [] (by simp) h (by simp)).2
  unfold order
  simpa using this
theorem order_sorted (k : List Lb) (h : Once k) : (order k).Pairwise L := (fold_sorted k [] (by simp) h (by simp)).1
def cf (a b : Lb) : Int := Lib.compareBytes a.f0.data.toList b.f0.data.toList
theorem cf_less (a b : Lb) : ltOf cf a b = less a b := by
  unfold ltOf cf less
  rw [Bool.eq_iff_iff, decide_eq_true_eq, cmp_neg, ByteArray.toList_eq, ByteArray.toList_eq]
theorem swo : SWO (ltOf cf) where
  irrefl x := by rw [cf_less]; exact less_irrefl _
  trans x y z h1 h2 := by rw [cf_less] at *; exact less_trans _ _ _ h1 h2
  ntrans x y z h1 h2 := by
    rw [cf_less] at *
    cases h3 : less x z with
    | false => rfl
    | true =>
      exfalso
      cases h4 : less y x with
      | true =>
        have := less_trans _ _ _ h4 h3
        rw [show Op.bytesLess y.f0.toList z.f0.toList = less y z from rfl, h2] at this
        cases this
      | false =>
        have e := less_total _ _ h1 h4
        have h5 : Op.bytesLess x.f0.toList z.f0.toList = true := h3
        rw [e] at h5
        rw [show Op.bytesLess y.f0.toList z.f0.toList = less y z from rfl, h2] at h5
        cases h5
/-- What the library's sort leaves is the order. -/
theorem sorted_order (d d' : Array Lb) (hp : PermIn 0 d.size d d') (hs : SortedIn (ltOf cf) 0 d.size d') (ho : Once d.toList) : d'.toList = order d.toList := by
  obtain ⟨hsz, _, hperm⟩ := hp
  have e1 : d'.extract 0 d.size = d' := by rw [← hsz]; exact Array.extract_size
  rw [e1, Array.extract_size] at hperm
  refine uniq (hperm.trans (order_perm _ ho).symm) ?_ (order_sorted _ ho)
  have hod : Once d'.toList := by
    unfold Once
    exact (List.Perm.pairwise_iff (fun h => Ne.symm h) hperm.symm).1 ho
  rw [List.pairwise_iff_getElem]
  intro i j hi hj hij
  have hi' : i < d'.size := by simpa using hi
  have hj' : j < d'.size := by simpa using hj
  have h1 := hs i j (Nat.zero_le _) hij (by omega)
  rw [getElem!_pos d' j hj', getElem!_pos d' i hi', cf_less] at h1
  have h2 := List.pairwise_iff_getElem.1 hod i j hi hj hij
  exact L_of (a := d'.toList[j]) (b := d'.toList[i]) (by simpa [L] using h1) (fun e => h2 e.symm)
end Go.Proofs.YtdfgfhnbcifheaaDoor.CanSort
