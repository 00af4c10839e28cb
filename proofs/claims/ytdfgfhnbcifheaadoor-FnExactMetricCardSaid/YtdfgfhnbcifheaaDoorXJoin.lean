/- Some of this seat's texts, joined by prune.py. -/
import Derived.WalkKit
import Derived.Test.YtdfgfhnbcifheaaDoorM0
import Derived.Test.YtdfgfhnbcifheaaDoorShelf
import Derived.Sort.LotA
import Derived.Shelf.SlSortCmp.Insertion
import Derived.Shelf.Small.Strs
/- Some of this seat's texts, joined by prune.py. -/
/- impl.join: texts, one behind the other. -/
namespace Go.Proofs.YtdfgfhnbcifheaaDoor.M
open Go.RowKit Go.Proofs.YtdfgfhnbcifheaaDoorW.PrintWords Go.Proofs.YtdfgfhnbcifheaaDoorW.PrintLast Go.Proofs.YtdfgfhnbcifheaaDoorW.PrintMore
set_option linter.unusedVariables false
set_option linter.unusedSimpArgs false
namespace Jn
theorem join_empty (xs : List (List UInt8)) : Lib.join xs [] = xs.flatten := by
  unfold Lib.join
  induction xs with
  | nil => rfl
  | cons x xs ih => cases xs with
    | nil => simp [List.intercalate]
    | cons y ys => simp [List.intercalate, List.intersperse] at ih ⊢; exact ih
/-- The bytes of texts, one behind the other. -/
def cat (xs : List ByteArray) : List UInt8 := (xs.map (·.data.toList)).flatten
end Jn
def impl_join.f (l0 : List ByteArray) : Option (ByteArray × List ByteArray) := if (Jn.cat l0).length ≤ 140737488355328 ∧ l0.length ≤ 140737488355328 then some (⟨(Jn.cat l0).toArray⟩, l0) else none
set_option maxHeartbeats 1000000 in
theorem impl_join.calls (P0 : Nat → Prop) (u : Value) (l0 : List ByteArray) (r1 : ByteArray) (r2 : List ByteArray) (w0 w : World) (hB : Below w0.heap.size w0 w) (ho : Kd.R Kd.string 9 w w0.heap.size P0 u l0) (h : impl_join.f l0 = some (r1, r2)) :
    Calls Tryd.prog 43 #[u] w fun e w' => e = .returned (.string r1) ∧ Kd.R Kd.string 9 w' w0.heap.size (fun k => P0 k ∨ w.heap.size ≤ k) u r2 ∧ Below w0.heap.size w0 w' ∧ Kept w w' (fun k => P0 k) := by
  unfold impl_join.f at h
  by_cases hz : (Jn.cat l0).length ≤ 140737488355328 ∧ l0.length ≤ 140737488355328
  · rw [if_pos hz] at h
    obtain ⟨rfl, rfl⟩ := Prod.mk.inj (Option.some.inj h)
    have hj : Lib.join (l0.map (·.data.toList)) (⟨#[]⟩ : ByteArray).data.toList = Jn.cat l0 := Jn.join_empty _
    have HJ := Aside0.mk hj
    have HO := Aside0.mk ho
    have HB := Aside0.mk hB
    clear hj h hB
    obtain ⟨A, c, rfl⟩ := Kd.R_slice ho
    have hrd := Kd.R_reads' ho
    have HC := Aside0.mk hrd.2.2
    have hc := hrd.2.1
    clear ho hrd
    cases l0 with
    | nil =>
      go_enter Tryd.func43, Tryd.ntmps43
      go_wp2_with fail
      refine (Tryd.strings_Join_none A c ⟨#[]⟩ _).mono ?_
      rintro e w' ⟨rfl, rfl⟩
      go_wp2_with fail
      go_ret
      exact ⟨rfl, Kd.R_mono HO.out (fun _ hk => .inl hk), HB.out, Kept.refl _ _⟩
    | cons x l =>
      obtain ⟨g, cap, e, _, hglt, _⟩ := Kd.R_form HO.out (by simp)
      injection e with eA _ ec
      subst eA
      have hcells : ∀ (j : Nat) y, (x :: l)[j]? = some y → w.cell? ⟨g, 0 + j, none⟩ = some (.string y) := by
        intro j y hy
        have hlt : j < (x :: l).length := (List.getElem?_eq_some_iff.1 hy).1
        obtain ⟨ad', e', hcc⟩ := Kd.at_string HC.out (j : Int) (by omega) (by omega)
        obtain rfl := Option.some.inj e'
        rw [Int.toNat_natCast] at hcc
        have e2 : rdOf ByteArray.empty (x :: l) (j : Int) = y := by
          unfold rdOf
          rw [Int.toNat_natCast, List.getD_eq_getElem?_getD, hy]; rfl
        rw [e2, add_plain] at hcc
        rw [Nat.zero_add]
        exact hcc
      have HCell := Aside0.mk hcells
      clear hcells ec
      go_enter Tryd.func43, Tryd.ntmps43
      go_wp2_with fail
      refine (Tryd.strings_Join g 0 c (x :: l) ⟨#[]⟩ _ HCell.out hglt hz.2 hc (by rw [HJ.out]; exact hz.1)).mono ?_
      rintro e w' ⟨he, hb⟩
      rw [HJ.out] at he
      subst he
      have HB2 := Aside0.mk hb
      clear hb
      go_wp2_with fail
      go_ret
      exact ⟨rfl, Kd.R_mono (Kd.R_below HO.out HB2.out) (fun _ hk => .inl hk), below_then HB.out HB.out.size HB2.out, Kept.of_below HB2.out _⟩
  · rw [if_neg hz] at h; cases h
end Go.Proofs.YtdfgfhnbcifheaaDoor.M
-- By pp.py, a program of this repo, with the kit's printer: Lean checks it.
namespace Go.Proofs.YtdfgfhnbcifheaaDoor.M
open Go.RowKit Go.Proofs.YtdfgfhnbcifheaaDoorW.PrintWords Go.Proofs.YtdfgfhnbcifheaaDoorW.PrintLast Go.Proofs.YtdfgfhnbcifheaaDoorW.PrintMore
attribute [local go_sem] max2_int min2_int max_two min_two max_three min_three max_four min_four
set_option linter.unusedVariables false
set_option linter.unusedSimpArgs false

/-! ### impl_source_text: function 62 -/
def impl_source_text.f (s0_0 : ByteArray) (a1 : Int) : Option (ByteArray × ByteArray) := if 0 ≤ (mn a1 (s0_0.size : Int)) then (if (mn a1 (s0_0.size : Int)) ≤ (s0_0.size : Int) then (some (s0_0.extract 0 ((mn a1 (s0_0.size : Int)) : Int).toNat, s0_0.extract ((mn a1 (s0_0.size : Int)) : Int).toNat s0_0.size)) else (none)) else (none)
set_option maxHeartbeats 8000000 in
set_option maxRecDepth 100000 in
theorem impl_source_text.calls (g : Nat) (s0_0 : ByteArray) (a1 : Int) (r1 : ByteArray) (r2 : ByteArray) (w0 w : World) (hI : IsS61 w0 w g s0_0) (hB : Below w0.heap.size w0 w) (h : impl_source_text.f s0_0 a1 = some (r1, r2)) :
    Calls Tryd.prog 62 #[.pointer (some ⟨g, 0, none⟩), .int .i64 a1] w fun e w' => e = .returned (.string r1) ∧ IsS61 w0 w' g r2 ∧ Below w0.heap.size w0 w' ∧ KeepBut w w' g none := by
  have HI0 := Aside0.mk hI
  have HK := Aside0.mk (KeepBut.refl w g none)
  have HL := Aside0.mk hB.size
  clear hI
  have HW0 := Aside0.mk hB.size
  have HB := Aside0.mk hB
  clear hB
  have H : (if 0 ≤ (mn a1 (s0_0.size : Int)) then (if (mn a1 (s0_0.size : Int)) ≤ (s0_0.size : Int) then (some (s0_0.extract 0 ((mn a1 (s0_0.size : Int)) : Int).toNat, s0_0.extract ((mn a1 (s0_0.size : Int)) : Int).toNat s0_0.size)) else (none)) else (none)) = some (r1, r2) := h
  clear h
  obtain ⟨ji3, hji3⟩ : ∃ j_ : Int, (mn a1 (s0_0.size : Int)) = j_ := ⟨_, rfl⟩
  replace H : (if 0 ≤ (ji3) then (if (ji3) ≤ (s0_0.size : Int) then (some (s0_0.extract 0 ((ji3) : Int).toNat, s0_0.extract ((ji3) : Int).toNat s0_0.size)) else (none)) else (none)) = some (r1, r2) := by first | (rw [hji3] at H; exact H) | (simp only [hji3] at H ⊢; exact H)
  have hji3_ : (if (s0_0.size : Int) < a1 then (s0_0.size : Int) else a1) = ji3 := hji3
  by_cases c4 : 0 ≤ (ji3)
  · rw [if_pos c4] at H
    have c4b0 := eq_true c4
    have c4b1 : decide (0 ≤ (ji3)) = true := decide_eq_true c4
    clear c4
    by_cases c5 : (ji3) ≤ (s0_0.size : Int)
    · rw [if_pos c5] at H
      have c5b0 := eq_true c5
      have c5b1 : decide ((ji3) ≤ (s0_0.size : Int)) = true := decide_eq_true c5
      clear c5
      have c6b0 := eq_true (of_decide_eq_true (by first | (with_reducible assumption) | assumption) : 0 ≤ (ji3))
      have c7b0 := eq_true (of_decide_eq_true (by first | (with_reducible assumption) | assumption) : (ji3) ≤ (s0_0.size : Int))
      simp only [Option.some.injEq, Prod.mk.injEq] at H
      obtain ⟨rfl, rfl⟩ := H
      obtain ⟨HGz8, hgz8⟩ := HI0.out
      have hcz8_0 := cellS61_0 HGz8
      have hfz8_0 := blk_frozen HGz8 0
      clear HGz8 hgz8
      go_enter Tryd.func62, Tryd.ntmps62
      go_wp2
      go_ret
      exact ⟨by first | rfl | (simp [errW_none, errW_some] <;> rfl) | (simp only [← hji3]; first | rfl | (simp [errW_none, errW_some] <;> rfl)) | (simp [*, errW_none, errW_some] <;> rfl), by repeat (first | (with_reducible first | exact HI0.out | apply IsS61.alloc | apply IsS61.drewN | apply IsS61.drew | apply IsS61.set_0) | exact HI0.out), by repeat (first | (with_reducible first | exact HB.out | apply below_alloc | apply pw_below_drewN | apply below_drew1 | refine below_set ?_ (IsS61.ge HI0.out)) | exact HB.out), by repeat (first | (with_reducible first | exact HK.out | apply KeepBut.set_ | apply keep_drewN | apply keep_drew | apply keep_alloc) | exact HK.out)⟩
    · rw [if_neg c5] at H
      exact absurd H (by simp)
  · rw [if_neg c4] at H
    exact absurd H (by simp)

end Go.Proofs.YtdfgfhnbcifheaaDoor.M
/- Labels in the order of their names: a permutation in order is what putting each at its place gives. Plain. -/
namespace Go.Proofs.YtdfgfhnbcifheaaDoor.CanSort
open Go.Proofs.YtdfgfhnbcifheaaDoor.M Go.Sort Go.Shelf
abbrev Lb := S38
instance : Inhabited Lb := ⟨z38⟩
theorem less_irrefl : ∀ a : List UInt8, Op.bytesLess a a = false
  | [] => by simp [Op.bytesLess]
  | a :: x => by rw [Op.bytesLess, less_irrefl x]; simp
theorem less_trans : ∀ a b c : List UInt8, Op.bytesLess a b = true → Op.bytesLess b c = true → Op.bytesLess a c = true
  | _, [], _ => by simp [Op.bytesLess]
  | _, _ :: _, [] => by simp [Op.bytesLess]
  | [], _ :: _, _ :: _ => by simp [Op.bytesLess]
  | a :: x, b :: y, c :: z => by
    have ih := less_trans x y z
    simp only [Op.bytesLess, Bool.or_eq_true, decide_eq_true_eq, Bool.and_eq_true, beq_iff_eq]
    rintro (h1 | ⟨rfl, h1⟩) (h2 | ⟨rfl, h2⟩)
    · left; rw [UInt8.lt_iff_toNat_lt] at *; omega
    · exact .inl h1
    · exact .inl h2
    · exact .inr ⟨rfl, ih h1 h2⟩
theorem less_total : ∀ a b : List UInt8, Op.bytesLess a b = false → Op.bytesLess b a = false → a = b
  | [], [] => fun _ _ => rfl
  | [], _ :: _ => by simp [Op.bytesLess]
  | _ :: _, [] => by simp [Op.bytesLess]
  | a :: x, b :: y => by
    have ih := less_total x y
    simp only [Op.bytesLess, Bool.or_eq_false_iff, decide_eq_false_iff_not, Bool.and_eq_false_iff, beq_eq_false_iff_ne]
    rintro ⟨h1, h2⟩ ⟨h3, h4⟩
    have e : a = b := by
      rw [UInt8.lt_iff_toNat_lt] at h1 h3
      exact UInt8.toNat_inj.1 (by omega)
    subst e
    rw [ih (h2.resolve_left (fun h => h rfl)) (h4.resolve_left (fun h => h rfl))]
theorem cmp_neg : ∀ a b : List UInt8, Lib.compareBytes a b < 0 ↔ Op.bytesLess a b = true
  | [], [] => by simp [Lib.compareBytes, Op.bytesLess]
  | [], _ :: _ => by simp [Lib.compareBytes, Op.bytesLess]
  | _ :: _, [] => by simp [Lib.compareBytes, Op.bytesLess]
  | a :: x, b :: y => by
    rw [Lib.compareBytes, Op.bytesLess]
    have ih := cmp_neg x y
    by_cases h1 : a < b
    · rw [if_pos h1]; simp [h1]
    · rw [if_neg h1]
      by_cases h2 : b < a
      · rw [if_pos h2]
        have : a ≠ b := fun e => by subst e; exact absurd h2 (UInt8.lt_irrefl _)
        simp [h1, this]
      · rw [if_neg h2, ih]
        have : a = b := by
          rw [UInt8.lt_iff_toNat_lt] at h1 h2
          exact UInt8.toNat_inj.1 (by omega)
        simp [this]
/-- a's name is the lesser. -/
def less (a b : Lb) : Bool := Op.bytesLess a.f0.toList b.f0.toList
def L (a b : Lb) : Prop := less a b = true
theorem L_trans {a b c : Lb} (h1 : L a b) (h2 : L b c) : L a c := less_trans _ _ _ h1 h2
theorem L_of {a b : Lb} (h : ¬ L a b) (hne : a.f0.toList ≠ b.f0.toList) : L b a := by
  cases hb : less b a with
  | true => exact hb
  | false =>
    have ha : less a b = false := by simpa [L] using h
    exact absurd (less_total _ _ ha hb) hne
theorem L_ne {a b : Lb} (h : L a b) : a.f0.toList ≠ b.f0.toList := by
  intro e
  have h2 : Op.bytesLess a.f0.toList b.f0.toList = true := h
  rw [e, less_irrefl] at h2
  cases h2
/-- l put at its place. -/
def ins : List Lb → Lb → List Lb
  | [], l => [l]
  | o :: out, l => if less o l = true then o :: ins out l else l :: o :: out
theorem ins_perm : ∀ (out : List Lb) (l : Lb), (ins out l).Perm (l :: out)
  | [], l => List.Perm.refl _
  | o :: out, l => by
    unfold ins
    split
    · exact ((ins_perm out l).cons o).trans (List.Perm.swap l o out)
    · exact List.Perm.refl _
theorem ins_sorted : ∀ (out : List Lb) (l : Lb), out.Pairwise L → (∀ o ∈ out, o.f0.toList ≠ l.f0.toList) → (ins out l).Pairwise L
  | [], l, _, _ => by simp [ins]
  | o :: out, l, h, hne => by
    rw [List.pairwise_cons] at h
    unfold ins
    split
    · rename_i hlt
      rw [List.pairwise_cons]
      refine ⟨fun x hx => ?_, ins_sorted out l h.2 (fun y hy => hne y (List.mem_cons_of_mem _ hy))⟩
      rcases List.mem_cons.1 ((ins_perm out l).mem_iff.1 hx) with rfl | hx
      · exact hlt
      · exact h.1 x hx
    · rename_i hlt
      have hlo : L l o := L_of (a := o) (b := l) hlt (hne o (List.mem_cons_self ..))
      rw [List.pairwise_cons]
      refine ⟨fun x hx => ?_, List.pairwise_cons.2 h⟩
      rcases List.mem_cons.1 hx with rfl | hx
      · exact hlo
      · exact L_trans hlo (h.1 x hx)
theorem ins_at : ∀ (out : List Lb) (l : Lb) (k : Nat), k ≤ out.length → (∀ j, j < k → ∀ h : j < out.length, less out[j] l = true) → (∀ h : k < out.length, less out[k] l = false) → ins out l = out.take k ++ l :: out.drop k
  | [], l, k, hk, _, _ => by
    obtain rfl : k = 0 := by simpa using hk
    rfl
  | o :: out, l, 0, _, _, h2 => by
    unfold ins
    rw [if_neg (by rw [show less o l = false from h2 (by simp)]; simp)]
    rfl
  | o :: out, l, k + 1, hk, h1, h2 => by
    unfold ins
    have hh : less o l = true := h1 0 (by omega) (by simp)
    rw [if_pos hh, ins_at out l k (by simpa using hk) (fun j hj h => h1 (j + 1) (by omega) (by simpa using h)) (fun h => h2 (by simpa using h))]
    rfl
/-- No name twice. -/
def Once (l : List Lb) : Prop := l.Pairwise (fun a b => a.f0.toList ≠ b.f0.toList)
theorem fold_sorted : ∀ (k acc : List Lb), acc.Pairwise L → Once k → (∀ o ∈ acc, ∀ x ∈ k, o.f0.toList ≠ x.f0.toList) → (k.foldl ins acc).Pairwise L ∧ (k.foldl ins acc).Perm (acc ++ k)
  | [], acc, h, _, _ => ⟨h, by simp⟩
  | x :: k, acc, h, ho, hd => by
    unfold Once at ho
    rw [List.pairwise_cons] at ho
    obtain ⟨h1, h2⟩ := fold_sorted k (ins acc x) (ins_sorted acc x h (fun o hm => hd o hm x (List.mem_cons_self ..))) ho.2 (fun o hm y hy => by
      rcases List.mem_cons.1 ((ins_perm acc x).mem_iff.1 hm) with rfl | hm
      · exact ho.1 y hy
      · exact hd o hm y (List.mem_cons_of_mem _ hy))
    refine ⟨h1, h2.trans ?_⟩
    refine ((ins_perm acc x).append_right k).trans ?_
    exact (List.perm_middle (a := x) (l₁ := acc) (l₂ := k)).symm
theorem uniq {a b : List Lb} (hp : a.Perm b) (ha : a.Pairwise L) (hb : b.Pairwise L) : a = b :=
  List.Perm.eq_of_pairwise (le := L) (fun _ _ _ _ h1 h2 => absurd (L_trans h1 h2) (fun h => L_ne h rfl)) ha hb hp
/-- The labels in order. -/
def order (k : List Lb) : List Lb := k.foldl ins []
theorem order_perm (k : List Lb) (h : Once k) : (order k).Perm k := by
  have := (fold_sorted k [] (by simp) h (by simp)).2
  unfold order
  simpa using this
theorem order_sorted (k : List Lb) (h : Once k) : (order k).Pairwise L := (fold_sorted k [] (by simp) h (by simp)).1
def cf (a b : Lb) : Int := Lib.compareBytes a.f0.data.toList b.f0.data.toList
theorem cf_less (a b : Lb) : ltOf cf a b = less a b := by
  unfold ltOf cf less
  rw [Bool.eq_iff_iff, decide_eq_true_eq, cmp_neg, ByteArray.toList_eq, ByteArray.toList_eq]
theorem swo : SWO (ltOf cf) where
  irrefl x := by rw [cf_less]; exact less_irrefl _
  trans x y z h1 h2 := by rw [cf_less] at *; exact less_trans _ _ _ h1 h2
  ntrans x y z h1 h2 := by
    rw [cf_less] at *
    cases h3 : less x z with
    | false => rfl
    | true =>
      exfalso
      cases h4 : less y x with
      | true =>
        have := less_trans _ _ _ h4 h3
        rw [show Op.bytesLess y.f0.toList z.f0.toList = less y z from rfl, h2] at this
        cases this
      | false =>
        have e := less_total _ _ h1 h4
        have h5 : Op.bytesLess x.f0.toList z.f0.toList = true := h3
        rw [e] at h5
        rw [show Op.bytesLess y.f0.toList z.f0.toList = less y z from rfl, h2] at h5
        cases h5
/-- What the library's sort leaves is the order. -/
theorem sorted_order (d d' : Array Lb) (hp : PermIn 0 d.size d d') (hs : SortedIn (ltOf cf) 0 d.size d') (ho : Once d.toList) : d'.toList = order d.toList := by
  obtain ⟨hsz, _, hperm⟩ := hp
  have e1 : d'.extract 0 d.size = d' := by rw [← hsz]; exact Array.extract_size
  rw [e1, Array.extract_size] at hperm
  refine uniq (hperm.trans (order_perm _ ho).symm) ?_ (order_sorted _ ho)
  have hod : Once d'.toList := by
    unfold Once
    exact (List.Perm.pairwise_iff (fun h => Ne.symm h) hperm.symm).1 ho
  rw [List.pairwise_iff_getElem]
  intro i j hi hj hij
  have hi' : i < d'.size := by simpa using hi
  have hj' : j < d'.size := by simpa using hj
  have h1 := hs i j (Nat.zero_le _) hij (by omega)
  rw [getElem!_pos d' j hj', getElem!_pos d' i hi', cf_less] at h1
  have h2 := List.pairwise_iff_getElem.1 hod i j hi hj hij
  exact L_of (a := d'.toList[j]) (b := d'.toList[i]) (by simpa [L] using h1) (fun e => h2 e.symm)
end Go.Proofs.YtdfgfhnbcifheaaDoor.CanSort
