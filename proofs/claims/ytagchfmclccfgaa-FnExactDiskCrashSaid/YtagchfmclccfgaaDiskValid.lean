/- DiskValid: the reference's and the program's come to one answer; plain. -/
import Derived.Test.YtagchfmclccfgaaDiskLaws
import Derived.Test.YtagchfmclccfgaaSmall
import Derived.Test.YtagchfmclccfgaaF25
import Derived.Test.YtagchfmclccfgaaF27
namespace Go.Proofs.Ytagchfmclccfgaa.DiskValid
open Go.Proofs.Ytagchfmclccfgaa.M Go.Proofs.Ytagchfmclccfgaa.Loops Go.Proofs.Ytagchfmclccfgaa.DiskLaws Go.Proofs.Ytagchfmclccfgaa.FramePlain Go.Proofs.YtagchfmclccfgaaW.PrintWords Go.Proofs.YtagchfmclccfgaaW.PrintLast Go.RowKit

noncomputable def cdec (P : Prop) : Bool := @decide P (Classical.propDecidable P)
theorem cdec_pos {P : Prop} (h : P) : cdec P = true := by unfold cdec; simp [h]
theorem cdec_neg {P : Prop} (h : ¬ P) : cdec P = false := by unfold cdec; simp [h]
theorem cdec_congr {P Q : Prop} (h : P ↔ Q) : cdec P = cdec Q := by rw [propext h]
theorem cdec_of {P : Prop} [Decidable P] : cdec P = decide P := by
  by_cases h : P
  · rw [cdec_pos h, decide_eq_true h]
  · rw [cdec_neg h, decide_eq_false h]

/-! ### names of files -/
def FileChar (c : Int) : Prop := (97 ≤ c ∧ c ≤ 122) ∨ (48 ≤ c ∧ c ≤ 57) ∨ c = 45 ∨ c = 46
def CharsFrom (s : ByteArray) (j : Nat) : Prop := ∀ i : Nat, j ≤ i → i < s.size → FileChar (bt s i)
theorem chars_step (s : ByteArray) (j : Nat) (h : j < s.size) : CharsFrom s j ↔ FileChar (bt s j) ∧ CharsFrom s (j + 1) := by
  constructor
  · exact fun H => ⟨H j (Nat.le_refl _) h, fun i hi hl => H i (by omega) hl⟩
  · rintro ⟨h1, h2⟩ i hi hl
    rcases Nat.eq_or_lt_of_le hi with rfl | hlt
    · exact h1
    · exact h2 i hlt hl
theorem chars_end (s : ByteArray) : CharsFrom s s.size := fun i h1 h2 => by omega
def NameOK (s : ByteArray) : Prop := (1 ≤ s.size ∧ s.size ≤ 40) ∧ CharsFrom s 0
theorem spec_name_loop (s : ByteArray) (hs : s.size ≤ 40) (m : Nat) : ∀ j, j + m = s.size → Ev (fun k => spec_l1FileName.l0 k s j) (cdec (CharsFrom s j)) := by
  induction m with
  | zero =>
    intro j hj
    obtain rfl : j = s.size := by omega
    rw [cdec_pos (chars_end s)]
    exact Ev.step (f := fun _ => some true) (fun k => by simp only [spec_l1FileName.l0]; rw [if_neg (by omega)]) (Ev.now _)
  | succ m ih =>
    intro j hj
    rw [cdec_congr (chars_step s j (by omega))]
    by_cases hc : FileChar (bt s j)
    · rw [cdec_congr (Q := CharsFrom s (j + 1)) ⟨fun h => h.2, fun h => ⟨hc, h⟩⟩]
      refine Ev.step (f := fun k => spec_l1FileName.l0 k s ((j + 1 : Nat) : Int)) (fun k => ?_) (ih (j + 1) (by omega))
      simp only [spec_l1FileName.l0]
      rw [if_pos (by omega), if_pos (by omega), w_succ j (by omega)]
      unfold FileChar at hc
      repeat' split
      all_goals first | rfl | (exfalso; omega)
    · rw [cdec_neg (fun h => hc h.1)]
      refine Ev.step (f := fun k => some false) (fun k => ?_) (Ev.now _)
      simp only [spec_l1FileName.l0]
      rw [if_pos (by omega), if_pos (by omega), w_succ j (by omega)]
      unfold FileChar at hc
      repeat' split
      all_goals first | rfl | (exfalso; omega)
theorem impl_name_loop (s : ByteArray) (hs : s.size ≤ 40) (m : Nat) : ∀ j, j + m = s.size → Ev (fun k => impl_isFile.l0 k s s.size j) (cdec (CharsFrom s j)) := by
  induction m with
  | zero =>
    intro j hj
    obtain rfl : j = s.size := by omega
    rw [cdec_pos (chars_end s)]
    exact Ev.step (f := fun _ => some true) (fun k => by simp only [impl_isFile.l0]; rw [if_neg (by omega)]) (Ev.now _)
  | succ m ih =>
    intro j hj
    rw [cdec_congr (chars_step s j (by omega))]
    by_cases hc : FileChar (bt s j)
    · rw [cdec_congr (Q := CharsFrom s (j + 1)) ⟨fun h => h.2, fun h => ⟨hc, h⟩⟩]
      refine Ev.step (f := fun k => impl_isFile.l0 k s s.size ((j + 1 : Nat) : Int)) (fun k => ?_) (ih (j + 1) (by omega))
      simp only [impl_isFile.l0]
      rw [if_pos (by omega), if_pos (by omega), if_pos (by omega), w_succ j (by omega)]
      unfold FileChar at hc
      repeat' split
      all_goals first | rfl | (exfalso; omega)
    · rw [cdec_neg (fun h => hc h.1)]
      refine Ev.step (f := fun k => some false) (fun k => ?_) (Ev.now _)
      simp only [impl_isFile.l0]
      rw [if_pos (by omega), if_pos (by omega), if_pos (by omega), w_succ j (by omega)]
      unfold FileChar at hc
      repeat' split
      all_goals first | rfl | (exfalso; omega)
theorem spec_name (s : ByteArray) : Ev (fun k => spec_l1FileName.f k s) (cdec (NameOK s)) := by
  unfold spec_l1FileName.f
  simp only [between_eq, Option.bind_some, decide_eq_true_eq]
  by_cases h : 1 ≤ s.size ∧ s.size ≤ 40
  · rw [cdec_congr (Q := CharsFrom s 0) ⟨fun h => h.2, fun h' => ⟨h, h'⟩⟩]
    exact Ev.ite_pos (by omega) (spec_name_loop s h.2 s.size 0 (by omega))
  · rw [cdec_neg (fun h' => h h'.1)]
    exact Ev.ite_neg (by omega) (Ev.now _)
theorem impl_name (s : ByteArray) : Ev (fun k => impl_isFile.f k s) (cdec (NameOK s)) := by
  unfold impl_isFile.f
  by_cases h0 : s.size = 0
  · rw [cdec_neg (fun h' => by have := h'.1; omega)]
    refine Ev.ite_pos (size_zero.2 h0) (Ev.step (f := fun k => some false) (fun k => by simp only [impl_isFile.j0, if_true]) (Ev.now _))
  · refine Ev.ite_neg (fun h => h0 (size_zero.1 h)) ?_
    by_cases h : s.size ≤ 40
    · rw [cdec_congr (Q := CharsFrom s 0) ⟨fun h => h.2, fun h' => ⟨by omega, h'⟩⟩]
      exact Ev.step (f := fun k => impl_isFile.l0 k s s.size 0) (fun k => by simp only [impl_isFile.j0]; rw [if_neg (by simp; omega)]) (impl_name_loop s h s.size 0 (by omega))
    · rw [cdec_neg (fun h' => by have := h'.1; omega)]
      exact Ev.step (f := fun k => some false) (fun k => by simp only [impl_isFile.j0]; rw [if_pos (by simp; omega)]) (Ev.now _)

/-! ### the files -/
def rd (l : List FO) (i : Nat) : FO := l.getD i z71
def wtD (x : FO) : Nat := x.f1.size
def OkAt (l : List FO) (i : Nat) : Prop := NameOK (rd l i).f0 ∧ (i = 0 ∨ Op.bytesLess (rd l (i - 1)).f0.toList (rd l i).f0.toList = true) ∧ 0 ≤ (rd l i).f2 ∧ (rd l i).f2 ≤ ((rd l i).f1.size : Int)
def OkFrom (l : List FO) (j : Nat) : Prop := ∀ i, j ≤ i → i < l.length → OkAt l i
theorem ok_step (l : List FO) (j : Nat) (h : j < l.length) : OkFrom l j ↔ OkAt l j ∧ OkFrom l (j + 1) := by
  constructor
  · exact fun H => ⟨H j (Nat.le_refl _) h, fun i hi hl => H i (by omega) hl⟩
  · rintro ⟨h1, h2⟩ i hi hl
    rcases Nat.eq_or_lt_of_le hi with rfl | hlt
    · exact h1
    · exact h2 i hlt hl
theorem ok_end (l : List FO) : OkFrom l l.length := fun i h1 h2 => by omega
def Rng (n : Int) : Prop := 0 ≤ n ∧ n ≤ 1000000000000000
/-- A valid disk. -/
def Valid (l : List FO) (cap a b c : Int) : Prop := l.length ≤ 1000 ∧ (0 ≤ cap ∧ cap ≤ 1000000000) ∧ (total wtD l : Int) ≤ cap ∧ OkFrom l 0 ∧ Rng a ∧ Rng b ∧ Rng c
def Tail (l : List FO) (a b c : Int) (j : Nat) : Prop := OkFrom l j ∧ Rng a ∧ Rng b ∧ Rng c

theorem spec_bytes (l : List FO) (cap a b c : Int) (e : Bool) (hl : l.length ≤ 1048576) (ht : total wtD l ≤ 1048576) : Ev (fun k => spec_l1Bytes.f k l cap a b c e) (total wtD l : Nat) := by
  have key : ∀ (m j : Nat), j + m = l.length → ∀ x : Nat, x + total wtD (l.drop j) ≤ 1048576 → Ev (fun k => spec_l1Bytes.l0 k x l l.length j) ((x + total wtD (l.drop j) : Nat) : Int) := by
    intro m
    induction m with
    | zero =>
      intro j hj x hx
      rw [List.drop_eq_nil_of_le (by omega)]
      exact Ev.step (f := fun _ => some (x : Int)) (fun k => by simp only [spec_l1Bytes.l0]; rw [if_neg (by omega)]) (Ev.now _)
    | succ m ih =>
      intro j hj x hx
      have hjl : j < l.length := by omega
      have hg : rd_T71 l (j : Int) = l[j] := by
        unfold rd_T71; rw [Int.toNat_natCast, List.getD_eq_getElem?_getD, List.getElem?_eq_getElem hjl]; rfl
      rw [List.drop_eq_getElem_cons hjl, total_cons] at hx ⊢
      have hw : wtD l[j] = l[j].f1.size := rfl
      refine Ev.step (f := fun k => spec_l1Bytes.l0 k ((x + wtD l[j] : Nat) : Int) l l.length ((j + 1 : Nat) : Int)) (fun k => ?_) (Ev.eq (ih (j + 1) (by omega) (x + wtD l[j]) (by omega)) (by rw [Nat.add_assoc]))
      simp only [spec_l1Bytes.l0]
      rw [if_pos (by omega), if_pos (by omega), if_pos (by omega), w_succ j (by omega), hg, ← hw, w_id _ (by omega) (by omega)]
      rfl
  have := key l.length 0 (by omega) 0 (by rw [List.drop_zero]; omega)
  rw [List.drop_zero, Nat.zero_add] at this
  exact this
theorem rd_eq (l : List FO) (j : Nat) : rd_T71 l (j : Int) = rd l j := by
  unfold rd_T71 rd; rw [Int.toNat_natCast]
theorem rd_prev (l : List FO) (j : Nat) (h : 0 < j) : rd_T71 l (wrap64 ((j : Int) - 1)) = rd l (j - 1) ∨ 9223372036854775807 < j := by
  by_cases hj : j ≤ 9223372036854775807
  · left
    rw [w_id _ (by omega) (by omega), show (j : Int) - 1 = ((j - 1 : Nat) : Int) by omega, rd_eq]
  · right; omega
theorem spec_loop (l : List FO) (cap a b c : Int) (e : Bool) (hl : l.length ≤ 1000) (m : Nat) : ∀ j, j + m = l.length →
    Ev (fun k => spec_DiskValid.l0 k l l.length j l cap a b c e) (cdec (Tail l a b c j)) := by
  induction m with
  | zero =>
    intro j hj
    obtain rfl : j = l.length := by omega
    refine Ev.step (f := fun _ => some (cdec (Tail l a b c l.length))) (fun k => ?_) (Ev.now _)
    simp only [spec_DiskValid.l0]
    rw [if_neg (by omega)]
    simp only [between_eq, Option.bind_some, decide_eq_true_eq]
    have e1 : Tail l a b c l.length ↔ Rng a ∧ Rng b ∧ Rng c := ⟨fun h => h.2, fun h => ⟨ok_end l, h⟩⟩
    rw [cdec_congr e1]
    unfold Rng
    by_cases ha : 0 ≤ a ∧ a ≤ 1000000000000000
    · rw [if_pos ha]
      by_cases hb : 0 ≤ b ∧ b ≤ 1000000000000000
      · rw [if_pos hb, ← cdec_of]; congr 1; exact cdec_congr ⟨fun h => ⟨ha, hb, h⟩, fun h => h.2.2⟩
      · rw [if_neg hb, cdec_neg (fun h => hb h.2.1)]
    · rw [if_neg ha, cdec_neg (fun h => ha h.1)]
  | succ m ih =>
    intro j hj
    have hjl : j < l.length := by omega
    have hstep : Tail l a b c j ↔ OkAt l j ∧ Tail l a b c (j + 1) := by
      unfold Tail; rw [ok_step l j hjl, and_assoc]
    rw [cdec_congr hstep]
    have base : ∀ r, Ev (fun k => (spec_l1FileName.f k (rd l j).f0).bind fun t175 => (if t175 = true then ((spec_l1Between.f (rd l j).f2 0 ((rd l j).f1.size : Int)).bind fun t176 => (spec_DiskValid.j2 k j l l.length j (!t176) l cap a b c e (rd l j).f0 (rd l j).f1 (rd l j).f2)) else (spec_DiskValid.j2 k j l l.length j true l cap a b c e (rd l j).f0 (rd l j).f1 (rd l j).f2))) r →
        Ev (fun k => spec_DiskValid.l0 k l l.length j l cap a b c e) r := by
      intro r hr
      refine Ev.step (fun k => ?_) hr
      simp only [spec_DiskValid.l0]
      rw [if_pos (by omega), if_pos (by omega), if_pos (by omega), rd_eq]
    refine base _ (Ev.bind (spec_name _) ?_)
    have hno : ∀ r, r = false → Ev (fun k => spec_DiskValid.j2 k j l l.length j true l cap a b c e (rd l j).f0 (rd l j).f1 (rd l j).f2) r := by
      rintro r rfl
      exact Ev.step (f := fun _ => some false) (fun k => by simp only [spec_DiskValid.j2, if_true]) (Ev.now _)
    by_cases h1 : NameOK (rd l j).f0
    · rw [cdec_pos h1]
      simp only [if_true, between_eq, Option.bind_some]
      by_cases h2 : 0 ≤ (rd l j).f2 ∧ (rd l j).f2 ≤ ((rd l j).f1.size : Int)
      · rw [decide_eq_true h2]
        by_cases h3 : j = 0
        · subst h3
          rw [cdec_congr (Q := Tail l a b c (0 + 1)) ⟨fun h => h.2, fun h => ⟨⟨h1, .inl rfl, h2⟩, h⟩⟩]
          refine Ev.step (f := fun k => spec_DiskValid.l0 k l l.length ((0 + 1 : Nat) : Int) l cap a b c e) (fun k => ?_) (ih (0 + 1) (by omega))
          simp only [spec_DiskValid.j2]
          rw [if_neg (by simp), if_neg (by omega), w_succ 0 (by omega)]
        · have hp : rd_T71 l (wrap64 ((j : Int) - 1)) = rd l (j - 1) := (rd_prev l j (by omega)).resolve_right (by omega)
          have hj1 : wrap64 ((j : Int) - 1) = (j : Int) - 1 := w_id _ (by omega) (by omega)
          by_cases h4 : Op.bytesLess (rd l (j - 1)).f0.toList (rd l j).f0.toList = true
          · rw [cdec_congr (Q := Tail l a b c (j + 1)) ⟨fun h => h.2, fun h => ⟨⟨h1, .inr h4, h2⟩, h⟩⟩]
            refine Ev.step (f := fun k => spec_DiskValid.l0 k l l.length ((j + 1 : Nat) : Int) l cap a b c e) (fun k => ?_) (ih (j + 1) (by omega))
            simp only [spec_DiskValid.j2]
            rw [if_neg (by simp), if_pos (by omega), hp, if_pos h4, if_pos (by omega), if_pos (by omega), w_succ j (by omega)]
          · rw [cdec_neg (fun h => (h.1.2.1).elim h3 h4)]
            refine Ev.step (f := fun k => some false) (fun k => ?_) (Ev.now _)
            simp only [spec_DiskValid.j2]
            rw [if_neg (by simp), if_pos (by omega), hp, if_neg h4, if_pos (by omega), if_pos (by omega)]
      · rw [decide_eq_false h2]
        exact hno _ (cdec_neg (fun h => h2 h.1.2.2))
    · rw [cdec_neg h1]
      simp only [Bool.false_eq_true, if_false]
      exact hno _ (cdec_neg (fun h => h1 h.1.1))
theorem spec_valid (l : List FO) (cap a b c : Int) (e : Bool) (hl : l.length ≤ 1048576) (ht : total wtD l ≤ 1048576) : Ev (fun k => spec_DiskValid.f k l cap a b c e) (cdec (Valid l cap a b c)) := by
  unfold spec_DiskValid.f
  have hno : ∀ r, r = false → Ev (fun k => spec_DiskValid.j0 k true l cap a b c e) r := by
    rintro r rfl
    exact Ev.step (f := fun _ => some false) (fun k => by simp only [spec_DiskValid.j0, if_true]) (Ev.now _)
  by_cases h1 : l.length ≤ 1000
  · refine Ev.ite_neg (by omega) ?_
    simp only [between_eq, Option.bind_some, decide_eq_true_eq]
    by_cases h2 : 0 ≤ cap ∧ cap ≤ 1000000000
    · refine Ev.ite_pos h2 (Ev.bind (spec_bytes l cap a b c e hl ht) ?_)
      by_cases h3 : (total wtD l : Int) ≤ cap
      · rw [decide_eq_false (by omega)]
        rw [cdec_congr (Q := Tail l a b c 0) ⟨fun h => h.2.2.2, fun h => ⟨h1, h2, h3, h⟩⟩]
        exact Ev.step (f := fun k => spec_DiskValid.l0 k l l.length 0 l cap a b c e) (fun k => by simp only [spec_DiskValid.j0]; rw [if_neg (by simp)]) (spec_loop l cap a b c e h1 l.length 0 (by omega))
      · rw [decide_eq_true (by omega)]
        exact hno _ (cdec_neg (fun h => h3 h.2.2.1))
    · exact Ev.ite_neg h2 (hno _ (cdec_neg (fun h => h2 h.2.1)))
  · exact Ev.ite_pos (by omega) (hno _ (cdec_neg (fun h => h1 h.1)))

/-! ### the program's -/
theorem impl_nums (cap a b c s : Int) (l : List FO) (e : Bool) : Ev (fun k => impl_DiskValid.l1 k s [a, b, c] 0 l cap a b c e) (cdec ((Rng a ∧ Rng b ∧ Rng c) ∧ s ≤ cap)) := by
  have w1 : wrap64 ((0 : Int) + 1) = 1 := w_succ 0 (by omega)
  have w2 : wrap64 ((1 : Int) + 1) = 2 := w_succ 1 (by omega)
  have w3 : wrap64 ((2 : Int) + 1) = 3 := w_succ 2 (by omega)
  have r0 : Go.Proofs.YtagchfmclccfgaaW.PrintWords.rd [a, b, c] 0 = a := rfl
  have r1 : Go.Proofs.YtagchfmclccfgaaW.PrintWords.rd [a, b, c] 1 = b := rfl
  have r2 : Go.Proofs.YtagchfmclccfgaaW.PrintWords.rd [a, b, c] 2 = c := rfl
  have no : ∀ (i : Int) (n : Int) (hi : 0 ≤ i) (h3 : i < 3) (hr : Go.Proofs.YtagchfmclccfgaaW.PrintWords.rd [a, b, c] i = n) (hn : ¬ Rng n) (r : Bool), r = false → Ev (fun k => impl_DiskValid.l1 k s [a, b, c] i l cap a b c e) r := by
    rintro i n hi h3 hr hn r rfl
    refine Ev.step (f := fun _ => some false) (fun k => ?_) (Ev.now _)
    simp only [impl_DiskValid.l1]
    rw [if_pos h3, if_pos hi, hr]
    unfold Rng at hn
    by_cases h : n < 0
    · rw [if_pos h]
    · rw [if_neg h, if_pos (by omega)]
  have yes : ∀ (i j : Int) (n : Int) (hi : 0 ≤ i) (h3 : i < 3) (hr : Go.Proofs.YtagchfmclccfgaaW.PrintWords.rd [a, b, c] i = n) (hj : wrap64 (i + 1) = j) (hn : Rng n) (r : Bool), Ev (fun k => impl_DiskValid.l1 k s [a, b, c] j l cap a b c e) r → Ev (fun k => impl_DiskValid.l1 k s [a, b, c] i l cap a b c e) r := by
    intro i j n hi h3 hr hj hn r h
    refine Ev.step (fun k => ?_) h
    simp only [impl_DiskValid.l1]
    unfold Rng at hn
    rw [if_pos h3, if_pos hi, hr, if_neg (by omega), if_neg (by omega), hj]
  by_cases ha : Rng a
  · refine yes 0 1 a (by decide) (by decide) r0 w1 ha _ ?_
    by_cases hb : Rng b
    · refine yes 1 2 b (by decide) (by decide) r1 w2 hb _ ?_
      by_cases hc : Rng c
      · refine yes 2 3 c (by decide) (by decide) r2 w3 hc _ ?_
        rw [cdec_congr (Q := s ≤ cap) ⟨fun h => h.2, fun h => ⟨⟨ha, hb, hc⟩, h⟩⟩, cdec_of]
        exact Ev.step (f := fun _ => some (decide (s ≤ cap))) (fun k => by simp only [impl_DiskValid.l1]; rw [if_neg (by omega)]) (Ev.now _)
      · exact no 2 c (by decide) (by decide) r2 hc _ (cdec_neg (fun h => hc h.1.2.2))
    · exact no 1 b (by decide) (by decide) r1 hb _ (cdec_neg (fun h => hb h.1.2.1))
  · exact no 0 a (by decide) (by decide) r0 ha _ (cdec_neg (fun h => ha h.1.1))
theorem impl_loop (l : List FO) (cap a b c : Int) (e : Bool) (hl : l.length ≤ 1000) (m : Nat) : ∀ j, j + m = l.length → ∀ x : Nat, x + total wtD (l.drop j) ≤ 1048576 →
    Ev (fun k => impl_DiskValid.l0 k x l l.length j l cap a b c e) (cdec (Tail l a b c j ∧ ((x + total wtD (l.drop j) : Nat) : Int) ≤ cap)) := by
  induction m with
  | zero =>
    intro j hj x hx
    obtain rfl : j = l.length := by omega
    rw [List.drop_eq_nil_of_le (by omega)] at hx ⊢
    refine Ev.step (f := fun k => impl_DiskValid.l1 k x [a, b, c] 0 l cap a b c e) (fun k => by simp only [impl_DiskValid.l0]; rw [if_neg (by omega)]) (Ev.eq (impl_nums cap a b c x l e) (cdec_congr ?_))
    unfold Tail
    constructor
    · exact fun h => ⟨⟨ok_end l, h.1⟩, h.2⟩
    · exact fun h => ⟨h.1.2, h.2⟩
  | succ m ih =>
    intro j hj x hx
    have hjl : j < l.length := by omega
    have hg : rd l j = l[j] := by unfold rd; rw [List.getD_eq_getElem?_getD, List.getElem?_eq_getElem hjl]; rfl
    rw [List.drop_eq_getElem_cons hjl, total_cons] at hx ⊢
    have hw : ((rd l j).f1.size : Int) = (wtD l[j] : Int) := by rw [hg]; rfl
    have hsum : wrap64 ((x : Int) + ((rd l j).f1.size : Int)) = ((x + wtD l[j] : Nat) : Int) := by rw [hw, w_id _ (by omega) (by omega)]; omega
    have hstep : Tail l a b c j ↔ OkAt l j ∧ Tail l a b c (j + 1) := by unfold Tail; rw [ok_step l j hjl, and_assoc]
    have goal : ∀ (P : Prop), (OkAt l j ↔ P) → cdec (Tail l a b c j ∧ ((x + (wtD l[j] + total wtD (l.drop (j + 1))) : Nat) : Int) ≤ cap) = cdec (P ∧ (Tail l a b c (j + 1) ∧ ((x + wtD l[j] + total wtD (l.drop (j + 1)) : Nat) : Int) ≤ cap)) := by
      intro P hP
      refine cdec_congr ?_
      rw [hstep, hP, and_assoc, Nat.add_assoc]
    have IH := ih (j + 1) (by omega) (x + wtD l[j]) (by omega)
    have base : ∀ r, Ev (fun k => (impl_isFile.f k (rd l j).f0).bind fun t198 => (if t198 = true then (if (j : Int) > 0 then (if 0 ≤ (wrap64 ((j : Int) - 1)) then (if (wrap64 ((j : Int) - 1)) < (l.length : Int) then (if ((Op.bytesLess (((rd_T71 l (wrap64 ((j : Int) - 1))).f0).toList) ((rd l j).f0.toList)) = true) then (if (rd l j).f2 < 0 then (some false) else (if (rd l j).f2 > ((rd l j).f1.size : Int) then (some false) else (impl_DiskValid.l0 k ((x + wtD l[j] : Nat) : Int) l l.length ((j + 1 : Nat) : Int) l cap a b c e))) else (some false)) else (none)) else (none)) else (if (rd l j).f2 < 0 then (some false) else (if (rd l j).f2 > ((rd l j).f1.size : Int) then (some false) else (impl_DiskValid.l0 k ((x + wtD l[j] : Nat) : Int) l l.length ((j + 1 : Nat) : Int) l cap a b c e)))) else (some false))) r →
        Ev (fun k => impl_DiskValid.l0 k x l l.length j l cap a b c e) r := by
      intro r hr
      refine Ev.step (fun k => ?_) hr
      simp only [impl_DiskValid.l0]
      rw [if_pos (by omega), if_pos (by omega), if_pos (by omega), rd_eq, hsum, w_succ j (by omega)]
    refine base _ (Ev.bind (impl_name _) ?_)
    by_cases h1 : NameOK (rd l j).f0
    · rw [cdec_pos h1]
      simp only [if_true]
      have fin : ∀ (P : Prop), (OkAt l j ↔ P ∧ (0 ≤ (rd l j).f2 ∧ (rd l j).f2 ≤ ((rd l j).f1.size : Int))) → P →
          Ev (fun k => if (rd l j).f2 < 0 then (some false) else (if (rd l j).f2 > ((rd l j).f1.size : Int) then (some false) else (impl_DiskValid.l0 k ((x + wtD l[j] : Nat) : Int) l l.length ((j + 1 : Nat) : Int) l cap a b c e))) (cdec (Tail l a b c j ∧ ((x + (wtD l[j] + total wtD (l.drop (j + 1))) : Nat) : Int) ≤ cap)) := by
        intro P hP hp
        rw [goal _ hP]
        by_cases h5 : (rd l j).f2 < 0
        · rw [cdec_neg (fun h => by have := h.1.2.1; omega)]
          exact Ev.ite_pos h5 (Ev.now _)
        · by_cases h6 : (rd l j).f2 > ((rd l j).f1.size : Int)
          · rw [cdec_neg (fun h => by have := h.1.2.2; omega)]
            exact Ev.ite_neg h5 (Ev.ite_pos h6 (Ev.now _))
          · refine Ev.ite_neg h5 (Ev.ite_neg h6 (Ev.eq IH (cdec_congr ?_)))
            exact ⟨fun h => ⟨⟨hp, by omega, by omega⟩, h⟩, fun h => h.2⟩
      by_cases h3 : j = 0
      · refine Ev.ite_neg (by omega) (fin True ?_ trivial)
        unfold OkAt
        exact ⟨fun h => ⟨trivial, h.2.2⟩, fun h => ⟨h1, .inl h3, h.2⟩⟩
      · have hp : rd_T71 l (wrap64 ((j : Int) - 1)) = rd l (j - 1) := (rd_prev l j (by omega)).resolve_right (by omega)
        have hj1 : wrap64 ((j : Int) - 1) = (j : Int) - 1 := w_id _ (by omega) (by omega)
        refine Ev.ite_pos (by omega) (Ev.ite_pos (by omega) (Ev.ite_pos (by omega) ?_))
        rw [hp]
        by_cases h4 : Op.bytesLess (rd l (j - 1)).f0.toList (rd l j).f0.toList = true
        · refine Ev.ite_pos h4 (fin True ?_ trivial)
          unfold OkAt
          exact ⟨fun h => ⟨trivial, h.2.2⟩, fun h => ⟨h1, .inr h4, h.2⟩⟩
        · refine Ev.ite_neg h4 (Ev.eq (Ev.now _) (cdec_neg ?_).symm)
          rintro ⟨h, _⟩
          exact ((h.1 j (Nat.le_refl _) hjl).2.1).elim h3 h4
    · rw [cdec_neg h1]
      simp only [Bool.false_eq_true, if_false]
      refine Ev.eq (Ev.now _) (cdec_neg ?_).symm
      rintro ⟨h, _⟩
      exact h1 (h.1 j (Nat.le_refl _) hjl).1
theorem impl_valid (l : List FO) (cap a b c : Int) (e : Bool) (hl : l.length ≤ 1048576) (ht : total wtD l ≤ 1048576) : Ev (fun k => impl_DiskValid.f k l cap a b c e) (cdec (Valid l cap a b c)) := by
  unfold impl_DiskValid.f
  have hno : ∀ r, r = false → Ev (fun k => impl_DiskValid.j0 k true l cap a b c e) r := by
    rintro r rfl
    exact Ev.step (f := fun _ => some false) (fun k => by simp only [impl_DiskValid.j0, if_true]) (Ev.now _)
  by_cases h1 : l.length ≤ 1000
  · refine Ev.ite_neg (by omega) ?_
    by_cases h2 : cap < 0
    · exact Ev.ite_pos h2 (hno _ (cdec_neg (fun h => by have := h.2.1; omega)))
    · refine Ev.ite_neg h2 ?_
      by_cases h3 : cap > 1000000000
      · rw [decide_eq_true h3]; exact hno _ (cdec_neg (fun h => by have := h.2.1; omega))
      · rw [decide_eq_false h3]
        refine Ev.step (f := fun k => impl_DiskValid.l0 k 0 l l.length 0 l cap a b c e) (fun k => by simp only [impl_DiskValid.j0]; rw [if_neg (by simp)]) ?_
        have := impl_loop l cap a b c e h1 l.length 0 (by omega) 0 (by rw [List.drop_zero]; omega)
        refine Ev.eq this (cdec_congr ?_)
        rw [List.drop_zero, Nat.zero_add]
        unfold Tail Valid
        exact ⟨fun h => ⟨h1, by omega, h.2, h.1⟩, fun h => ⟨h.2.2.2, h.2.2.1⟩⟩
  · exact Ev.ite_pos (by omega) (hno _ (cdec_neg (fun h => h1 h.1)))
theorem total_cF (l : List FI) : total wtD (l.map cF) ≤ total wtF l := by
  induction l with
  | nil => simp [total]
  | cons x l ih => rw [List.map_cons, total_cons, total_cons]; unfold wtF wtD cF at *; dsimp only; omega
end Go.Proofs.Ytagchfmclccfgaa.DiskValid
