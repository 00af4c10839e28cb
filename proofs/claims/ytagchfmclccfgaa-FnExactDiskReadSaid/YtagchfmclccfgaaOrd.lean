/- The order of texts: bytesLess, compareBytes. Plain. -/
import Derived.Test.YtagchfmclccfgaaXBin
import Derived.Test.YtagchfmclccfgaaDiskValid
namespace Go.Proofs.Ytagchfmclccfgaa.Ord
open Go.Proofs.Ytagchfmclccfgaa.M Go.Proofs.Ytagchfmclccfgaa.Loops Go.Proofs.Ytagchfmclccfgaa.DiskLaws Go.Proofs.Ytagchfmclccfgaa.DiskValid Go.Proofs.YtagchfmclccfgaaW.PrintWords Go.Proofs.YtagchfmclccfgaaW.PrintLast Go.RowKit
theorem cmp_zero : ∀ a b : List UInt8, Lib.compareBytes a b = 0 ↔ a = b
  | [], [] => by simp [Lib.compareBytes]
  | [], _ :: _ => by simp [Lib.compareBytes]
  | _ :: _, [] => by simp [Lib.compareBytes]
  | a :: x, b :: y => by
    rw [Lib.compareBytes]
    have ih := cmp_zero x y
    by_cases h1 : a < b
    · rw [if_pos h1]
      have : a ≠ b := fun e => by subst e; exact absurd h1 (UInt8.lt_irrefl _)
      simp [this]
    · rw [if_neg h1]
      by_cases h2 : b < a
      · rw [if_pos h2]
        have : a ≠ b := fun e => by subst e; exact absurd h2 (UInt8.lt_irrefl _)
        simp [this]
      · rw [if_neg h2, ih]
        have : a = b := by
          rw [UInt8.lt_iff_toNat_lt] at h1 h2
          exact UInt8.toNat_inj.1 (by omega)
        simp [this]
theorem cmp_neg : ∀ a b : List UInt8, Lib.compareBytes a b < 0 ↔ Op.bytesLess a b = true
  | [], [] => by simp [Lib.compareBytes, Op.bytesLess]
  | [], _ :: _ => by simp [Lib.compareBytes, Op.bytesLess]
  | _ :: _, [] => by simp [Lib.compareBytes, Op.bytesLess]
  | a :: x, b :: y => by
    rw [Lib.compareBytes, Op.bytesLess]
    have ih := cmp_neg x y
    by_cases h1 : a < b
    · rw [if_pos h1]; simp [h1]
    · rw [if_neg h1]
      by_cases h2 : b < a
      · rw [if_pos h2]
        have : a ≠ b := fun e => by subst e; exact absurd h2 (UInt8.lt_irrefl _)
        simp [h1, this]
      · rw [if_neg h2, ih]
        have : a = b := by
          rw [UInt8.lt_iff_toNat_lt] at h1 h2
          exact UInt8.toNat_inj.1 (by omega)
        simp [this]
theorem less_irrefl : ∀ a : List UInt8, Op.bytesLess a a = false
  | [] => by simp [Op.bytesLess]
  | a :: x => by rw [Op.bytesLess, less_irrefl x]; simp
theorem less_trans : ∀ a b c : List UInt8, Op.bytesLess a b = true → Op.bytesLess b c = true → Op.bytesLess a c = true
  | _, [], _ => by simp [Op.bytesLess]
  | _, _ :: _, [] => by simp [Op.bytesLess]
  | [], _ :: _, _ :: _ => by simp [Op.bytesLess]
  | a :: x, b :: y, c :: z => by
    have ih := less_trans x y z
    simp only [Op.bytesLess, Bool.or_eq_true, decide_eq_true_eq, Bool.and_eq_true, beq_iff_eq]
    rintro (h1 | ⟨rfl, h1⟩) (h2 | ⟨rfl, h2⟩)
    · left; rw [UInt8.lt_iff_toNat_lt] at *; omega
    · exact .inl h1
    · exact .inl h2
    · exact .inr ⟨rfl, ih h1 h2⟩
/-- In a list in order, the earlier name is the lesser. -/
theorem sorted (l : List FO) (h : OkFrom l 0) : ∀ d a : Nat, a + (d + 1) < l.length → Op.bytesLess (rd l a).f0.toList (rd l (a + (d + 1))).f0.toList = true := by
  intro d
  induction d with
  | zero =>
    intro a ha
    have := (h (a + 1) (Nat.zero_le _) ha).2.1
    rcases this with h0 | h1
    · omega
    · simpa using h1
  | succ d ih =>
    intro a ha
    have h1 := ih a (by omega)
    have := (h (a + (d + 1) + 1) (Nat.zero_le _) (by omega)).2.1
    rcases this with h0 | h2
    · omega
    · rw [Nat.add_sub_cancel] at h2; exact less_trans _ _ _ h1 h2
theorem cmp_less (x : FO) (t : ByteArray) : Bin.cmp x t < 0 ↔ Op.bytesLess x.f0.toList t.toList = true := by
  unfold Bin.cmp
  rw [cmp_neg, ByteArray.toList_eq, ByteArray.toList_eq]
theorem cmp_same (x : FO) (t : ByteArray) : Bin.cmp x t = 0 ↔ x.f0.toList = t.toList := by
  unfold Bin.cmp
  rw [cmp_zero, ByteArray.toList_eq, ByteArray.toList_eq]
theorem mono (l : List FO) (h : OkFrom l 0) (t : ByteArray) : ∀ a b : Nat, a ≤ b → b < l.length → Bin.cmp (rd_T71 l b) t < 0 → Bin.cmp (rd_T71 l a) t < 0 := by
  intro a b hab hb
  rw [rd_eq, rd_eq, cmp_less, cmp_less]
  intro h1
  rcases Nat.eq_or_lt_of_le hab with rfl | hlt
  · exact h1
  · have := sorted l h (b - a - 1) a (by omega)
    rw [show a + (b - a - 1 + 1) = b by omega] at this
    exact less_trans _ _ _ this h1
/-- The text of the file called t. -/
def lookup (l : List FO) (t : ByteArray) : ByteArray × Bool := match l.find? (fun x => decide (x.f0.toList = t.toList)) with
  | some x => (x.f1, true)
  | none => (⟨#[]⟩, false)
theorem lookup_hit (l : List FO) (t : ByteArray) (i : Nat) (hi : i < l.length) (h1 : ∀ a : Nat, a < i → Bin.cmp (rd_T71 l a) t < 0) (h2 : Bin.cmp (rd_T71 l i) t = 0) : lookup l t = ((rd_T71 l i).f1, true) := by
  have hg : rd_T71 l (i : Int) = l[i] := by
    rw [rd_eq]; unfold DiskValid.rd; rw [List.getD_eq_getElem?_getD, List.getElem?_eq_getElem hi]; rfl
  have hf : l.find? (fun x => decide (x.f0.toList = t.toList)) = some l[i] := by
    rw [List.find?_eq_some_iff_getElem]
    refine ⟨by rw [hg] at h2; exact decide_eq_true ((cmp_same _ _).1 h2), i, hi, rfl, fun a ha => ?_⟩
    have h3 := h1 a ha
    have hga : rd_T71 l (a : Int) = l[a] := by
      rw [rd_eq]; unfold DiskValid.rd; rw [List.getD_eq_getElem?_getD, List.getElem?_eq_getElem (by omega)]; rfl
    rw [hga] at h3
    have h4 : ¬ l[a].f0.toList = t.toList := fun e => by rw [← cmp_same] at e; omega
    simp [h4]
  unfold lookup
  rw [hf, hg]
theorem lookup_miss (l : List FO) (h : OkFrom l 0) (t : ByteArray) (i : Nat) (h1 : ∀ a : Nat, a < i → Bin.cmp (rd_T71 l a) t < 0) (h2 : ∀ a : Nat, i ≤ a → a < l.length → 0 ≤ Bin.cmp (rd_T71 l a) t) (h3 : ¬ (i < l.length ∧ Bin.cmp (rd_T71 l i) t = 0)) : lookup l t = (⟨#[]⟩, false) := by
  have hf : l.find? (fun x => decide (x.f0.toList = t.toList)) = none := by
    rw [List.find?_eq_none]
    intro x hx
    obtain ⟨a, ha, rfl⟩ := List.getElem_of_mem hx
    have hga : rd_T71 l (a : Int) = l[a] := by
      rw [rd_eq]; unfold DiskValid.rd; rw [List.getD_eq_getElem?_getD, List.getElem?_eq_getElem ha]; rfl
    intro he
    have e0 : Bin.cmp (rd_T71 l (a : Int)) t = 0 := by rw [hga]; exact (cmp_same _ _).2 (of_decide_eq_true he)
    by_cases hai : a < i
    · have := h1 a hai; omega
    · by_cases heq : a = i
      · subst heq; exact h3 ⟨ha, e0⟩
      · have h4 := h2 i (Nat.le_refl _) (by omega)
        have h5 : Bin.cmp (rd_T71 l (i : Int)) t < 0 := by
          rw [cmp_less, rd_eq]
          have := sorted l h (a - i - 1) i (by omega)
          rw [show i + (a - i - 1 + 1) = a by omega] at this
          rw [cmp_same, rd_eq] at e0
          rw [← e0]
          exact this
        omega
  unfold lookup
  rw [hf]
end Go.Proofs.Ytagchfmclccfgaa.Ord
