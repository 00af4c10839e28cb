/- Some of this seat's texts, joined by prune.py. -/
import Derived.Test.YtbhjbbanhmjgnaaSz
import Derived.Test.YtbhjbbanhmjgnaaSmall
import Derived.Test.YtbhjbbanhmjgnaaF16
import Derived.Test.YtbhjbbanhmjgnaaF17
import Derived.Test.YtbhjbbanhmjgnaaF31
import Derived.Test.YtbhjbbanhmjgnaaO0
/- Requests out of bytes: both decoders accept just what EncodeRequest writes, and give what was written. Plain. -/
namespace Go.Proofs.Ytbhjbbanhmjgnaa.ReqDec
open Go.Proofs.Ytbhjbbanhmjgnaa.M Go.Proofs.Ytbhjbbanhmjgnaa.Loops Go.Proofs.Ytbhjbbanhmjgnaa.FramePlain Go.Proofs.Ytbhjbbanhmjgnaa.DecLib Go.Proofs.Ytbhjbbanhmjgnaa.M.Enc Go.Proofs.YtbhjbbanhmjgnaaW.PrintWords Go.Proofs.YtbhjbbanhmjgnaaW.PrintLast Go.Proofs.YtbhjbbanhmjgnaaW.PrintMore Go.RowKit
set_option linter.unusedVariables false
set_option linter.unusedSimpArgs false
abbrev Out := Int × ByteArray × ByteArray × Int × List Sm × Bool
abbrev zero : Out := (0, ⟨#[]⟩, ⟨#[]⟩, 0, [], false)
def Rg (v : Int) : Prop := -9223372036854775808 ≤ v ∧ v ≤ 9223372036854775807
theorem rg_wrap (x : Int) : Rg (wrap64 x) := by unfold Rg wrap64; omega
theorem rg_small (v : Int) (h0 : 0 ≤ v) (h1 : v ≤ 65535) : Rg v := by unfold Rg; omega
/-- What both answer behind the reading. -/
noncomputable def fin (s : ByteArray) (kd : Int) (t m : ByteArray) (nm : Int) (l : List Sm) : Out :=
  if s.toList = [] then zero else if (req kd t m nm l).toList = s.toList then (kd, t, m, nm, l, true) else zero
theorem num8_any (r : ByteArray) (hr : r.size ≤ 9223372036854775807) : ∃ (v : Int) (r' : ByteArray), Rg v ∧ r'.size ≤ r.size ∧ impl_source_num.f r 8 = some (v, r') :=
  ⟨_, _, rg_wrap _, by rw [ByteArray.size_extract]; omega, num_f r 8 hr⟩
theorem num1_any (r : ByteArray) (hr : r.size ≤ 9223372036854775807) : ∃ (v : Nat) (r' : ByteArray), v ≤ 65535 ∧ r'.size ≤ r.size ∧ impl_source_num.f r 1 = some ((v : Int), r') := by
  obtain ⟨v, hv, h⟩ := num_small r 1 (.inl rfl) hr
  exact ⟨v, _, hv, by rw [ByteArray.size_extract]; omega, h⟩
theorem num2_any (r : ByteArray) (hr : r.size ≤ 9223372036854775807) : ∃ (v : Nat) (r' : ByteArray), v ≤ 65535 ∧ r'.size ≤ r.size ∧ impl_source_num.f r 2 = some ((v : Int), r') := by
  obtain ⟨v, hv, h⟩ := num_small r 2 (.inr rfl) hr
  exact ⟨v, _, hv, by rw [ByteArray.size_extract]; omega, h⟩
theorem l58_any (s : ByteArray) (p : Int) (hp : At s p) (hs : s.size ≤ 1048576) : ∃ v p', Ev (fun q => spec_l5Num.f q s p 8) (v, p') ∧ At s p' ∧ Rg v := by
  rcases hp with rfl | ⟨i, rfl, hi⟩
  · refine ⟨0, -1, ?_, .inl rfl, by unfold Rg; omega⟩
    unfold spec_l5Num.f
    exact Ev.ite_pos (by omega) (Ev.now _)
  · by_cases h : i + 8 ≤ s.size
    · exact ⟨_, _, l5_at s i 8 h (by omega), .inr ⟨i + 8, rfl, h⟩, rg_wrap _⟩
    · refine ⟨0, -1, ?_, .inl rfl, by unfold Rg; omega⟩
      have e : wrap64 ((i : Int) + 8) = ((i + 8 : Nat) : Int) := by rw [w_id _ (by omega) (by omega)]; omega
      unfold spec_l5Num.f
      rw [e]
      exact Ev.ite_neg (by omega) (Ev.ite_pos (by omega) (Ev.now _))
/-! ### the program's loops end -/
theorem lab_any (acc : List Sm) (n i n2 : Nat) (hacc : acc.length < 4398046511104) (hi : i < 65536) (hn2 : n2 ≤ 65535)
    (H : ∀ (labs : List Lb) (bits : Int) (rest : ByteArray), Rg bits → rest.size ≤ 1048576 → ∃ R, Ev (fun k => impl_source_samples.l0 k (acc ++ [(⟨labs, bits⟩ : Sm)]) n ((i + 1 : Nat) : Int) rest) R ∧ ∀ y ∈ R.1, Rg y.f1) :
    ∀ m j, j + m = n2 → ∀ (rest : ByteArray) (labs : List Lb), rest.size ≤ 1048576 → labs.length ≤ j → ∃ R, Ev (fun k => impl_source_samples.l1 k acc n i n2 j rest labs 0) R ∧ ∀ y ∈ R.1, Rg y.f1 := by
  intro m
  induction m with
  | zero =>
    intro j hj rest labs hr hl
    obtain ⟨v, r', hv, hr', h⟩ := num8_any rest (by omega)
    obtain ⟨R, hR, hR2⟩ := H labs v r' hv (by omega)
    refine ⟨R, Ev.step (fun k => ?_) hR, hR2⟩
    simp only [impl_source_samples.l1]
    rw [if_neg (by omega), h, Option.bind_some, if_pos hacc, w_succ i (by omega)]
  | succ m ih =>
    intro j hj rest labs hr hl
    obtain ⟨t, r1, ht, hr1, h1⟩ := s8_any rest (by omega)
    obtain ⟨u, r2, hu, hr2, h2⟩ := s16_any r1 (by omega)
    obtain ⟨R, hR, hR2⟩ := ih (j + 1) (by omega) r2 (labs ++ [(⟨t, u⟩ : Lb)]) (by omega) (by simp; omega)
    refine ⟨R, Ev.step (fun k => ?_) hR, hR2⟩
    simp only [impl_source_samples.l1]
    rw [if_pos (by omega), h1, Option.bind_some, h2, Option.bind_some, if_pos (by omega), w_succ j (by omega)]
theorem samp_any (n : Nat) (hn : n ≤ 65535) : ∀ m i, i + m = n → ∀ (acc : List Sm) (rest : ByteArray), acc.length ≤ i → rest.size ≤ 1048576 → (∀ y ∈ acc, Rg y.f1) → ∃ R, Ev (fun k => impl_source_samples.l0 k acc n i rest) R ∧ ∀ y ∈ R.1, Rg y.f1 := by
  intro m
  induction m with
  | zero =>
    intro i hi acc rest ha hr hg
    exact ⟨(acc, rest), Ev.step (f := fun _ => some _) (fun k => by simp only [impl_source_samples.l0]; rw [if_neg (by omega)]) (Ev.now _), hg⟩
  | succ m ih =>
    intro i hi acc rest ha hr hg
    by_cases he : rest.toList = []
    · exact ⟨(acc, rest), Ev.step (f := fun _ => some _) (fun k => by simp only [impl_source_samples.l0]; rw [if_pos (by omega), if_pos he]) (Ev.now _), hg⟩
    · obtain ⟨v, r', hv, hr', h⟩ := num1_any rest (by omega)
      obtain ⟨R, hR, hR2⟩ := lab_any acc n i v (by omega) (by omega) hv (fun labs bits rest' hb hz => ih (i + 1) (by omega) _ rest' (by simp; omega) hz (by
        intro y hy
        rcases List.mem_append.1 hy with hy | hy
        · exact hg y hy
        · rw [List.mem_singleton] at hy; subst hy; exact hb)) v 0 (by omega) r' [] (by omega) (by simp)
      refine ⟨R, Ev.step (fun k => ?_) hR, hR2⟩
      simp only [impl_source_samples.l0]
      rw [if_pos (by omega), if_neg he, h, Option.bind_some]
      rfl
/-! ### the program's loops read what was written -/
theorem lab_rt (acc : List Sm) (n i n2 : Nat) (hacc : acc.length < 4398046511104) (hi : i < 65536) (hn2 : n2 ≤ 65535) (bits : Int) (hb : Rg bits) (rest : List UInt8) (R : List Sm × ByteArray) :
    ∀ (ls done : List Lb), (∀ y ∈ ls, LabOK y) → done.length + ls.length = n2 → (labsL ls ++ (nL 8 bits ++ rest)).length ≤ 60000 →
      Ev (fun k => impl_source_samples.l0 k (acc ++ [(⟨done ++ ls, bits⟩ : Sm)]) n ((i + 1 : Nat) : Int) (B rest)) R →
      Ev (fun k => impl_source_samples.l1 k acc n i n2 done.length (B (labsL ls ++ (nL 8 bits ++ rest))) done 0) R := by
  intro ls
  induction ls with
  | nil =>
    intro done _ hd hz hR
    refine Ev.step (fun k => ?_) hR
    simp only [List.length_nil] at hd
    simp only [impl_source_samples.l1]
    have h := num8_rt bits rest hb.1 hb.2 (by simp only [List.length_append] at hz; omega)
    rw [if_neg (by omega), show labsL [] ++ (nL 8 bits ++ rest) = nL 8 bits ++ rest from rfl, h, Option.bind_some, if_pos hacc, w_succ i (by omega), List.append_nil]
  | cons y ls ih =>
    intro done hok hd hz hR
    have hy := hok y (List.mem_cons_self ..)
    have e : labsL (y :: ls) ++ (nL 8 bits ++ rest) = s8L y.f0 ++ (s16L y.f1 ++ (labsL ls ++ (nL 8 bits ++ rest))) := by
      show (labL y ++ labsL ls) ++ _ = _
      unfold labL
      simp only [List.append_assoc]
    simp only [List.length_cons] at hd
    rw [e] at hz ⊢
    have hz1 : (s16L y.f1 ++ (labsL ls ++ (nL 8 bits ++ rest))).length ≤ 60000 := by rw [List.length_append] at hz; omega
    have hz2 : (labsL ls ++ (nL 8 bits ++ rest)).length ≤ 60000 := by rw [List.length_append] at hz1; omega
    have h := ih (done ++ [y]) (fun z hz => hok z (List.mem_cons_of_mem _ hz)) (by simp; omega) hz2 (by rw [List.append_assoc]; exact hR)
    have hl : (done ++ [y]).length = done.length + 1 := by simp
    rw [hl] at h
    refine Ev.step (fun k => ?_) h
    simp only [impl_source_samples.l1]
    rw [if_pos (by omega), s8_rt y.f0 _ hy.1 (by omega), Option.bind_some, s16_rt y.f1 _ hy.2 (by omega), Option.bind_some, if_pos (by omega), w_succ _ (by omega)]
theorem sampL_ne (y : Sm) : 9 ≤ (sampL y).length := by
  unfold sampL
  rw [List.length_append, List.length_append, nL_length, nL_length]; omega
theorem B_ne (L : List UInt8) (h : 0 < L.length) : ¬ (B L).toList = [] := by
  rw [size_zero, B_size]; omega
theorem samp_rt (n : Nat) (hn : n ≤ 65535) : ∀ (ls done : List Sm), (∀ y ∈ ls, SampOK y ∧ Rg y.f1) → done.length + ls.length = n → (sampsL ls).length ≤ 60000 →
    Ev (fun k => impl_source_samples.l0 k done n done.length (B (sampsL ls))) (done ++ ls, B []) := by
  intro ls
  induction ls with
  | nil =>
    intro done _ hd _
    simp only [List.length_nil] at hd
    refine Ev.step (f := fun _ => some _) (fun k => by simp only [impl_source_samples.l0]; rw [if_neg (by omega)]) (Ev.eq (Ev.now _) ?_)
    rw [List.append_nil]; rfl
  | cons y ls ih =>
    intro done hok hd hz
    obtain ⟨hy, hyb⟩ := hok y (List.mem_cons_self ..)
    simp only [List.length_cons] at hd
    have e : sampsL (y :: ls) = nL 1 y.f0.length ++ (labsL y.f0 ++ (nL 8 y.f1 ++ sampsL ls)) := by
      show sampL y ++ sampsL ls = _
      unfold sampL
      simp only [List.append_assoc]
    have hne : ¬ (B (sampsL (y :: ls))).toList = [] := B_ne _ (by
      have := sampL_ne y
      show 0 < (sampL y ++ sampsL ls).length
      rw [List.length_append]; omega)
    rw [e] at hz hne ⊢
    have hz1 : (labsL y.f0 ++ (nL 8 y.f1 ++ sampsL ls)).length ≤ 60000 := by rw [List.length_append] at hz; omega
    have hz2 : (sampsL ls).length ≤ 60000 := by rw [List.length_append, List.length_append] at hz1; omega
    have h := ih (done ++ [y]) (fun z hz => hok z (List.mem_cons_of_mem _ hz)) (by simp; omega) hz2
    have hl : (done ++ [y]).length = done.length + 1 := by simp
    rw [hl, List.append_assoc] at h
    have h2 := lab_rt done n done.length y.f0.length (by omega) (by omega) (by have := hy.1; omega) y.f1 hyb (sampsL ls) _ y.f0 [] hy.2 (by simp) hz1 h
    refine Ev.step (fun k => ?_) h2
    simp only [impl_source_samples.l0]
    rw [if_pos (by omega), if_neg hne, num1_rt _ _ (by omega) (by have := hy.1; omega) (by omega), Option.bind_some]
    rfl
/-! ### the program's decoder -/
theorem ireq (kd : Int) (t m : ByteArray) (nm : Int) (l : List Sm) (s : ByteArray) (hs : ¬ s.toList = []) :
    ((impl_EncodeRequest.f kd t m nm l).bind fun t367 => (if t367.toList = s.toList then (some (kd, t, m, nm, l, true)) else (some (0, (⟨#[]⟩ : ByteArray), (⟨#[]⟩ : ByteArray), 0, ([] : List Sm), false)))) = some (fin s kd t m nm l) := by
  unfold impl_EncodeRequest.f fin
  rw [Option.bind_some, if_neg hs]
  split <;> rfl
theorem i6_any (s rest : ByteArray) (kd : Int) (t m : ByteArray) (nm : Int) (hs : ¬ s.toList = []) (hr : rest.size ≤ 1048576) : ∃ l, Ev (fun k => impl_DecodeRequest.j6 k s rest kd t m nm) (fin s kd t m nm l) ∧ ∀ y ∈ l, Rg y.f1 := by
  by_cases h1 : kd = 1
  · obtain ⟨v, r', hv, hr', h⟩ := num2_any rest (by omega)
    obtain ⟨R, hR, hR2⟩ := samp_any v hv v 0 (by omega) [] r' (by simp) (by omega) (by simp)
    refine ⟨R.1, Ev.step (f := fun k => (impl_source_samples.f k rest).bind fun bt363 => some (fin s kd t m nm bt363.1)) (fun k => ?_) (Ev.bind (a := R) ?_ (Ev.now _)), hR2⟩
    · simp only [impl_DecodeRequest.j6]
      rw [if_pos h1]
      congr 1
      funext b
      exact ireq kd t m nm b.1 s hs
    · refine Ev.congr (fun k => ?_) hR
      unfold impl_source_samples.f
      rw [h, Option.bind_some]; rfl
  · refine ⟨[], Ev.step (f := fun _ => some _) (fun k => ?_) (Ev.now _), by simp⟩
    simp only [impl_DecodeRequest.j6]
    rw [if_neg h1, ireq kd t m nm [] s hs]
theorem i5_any (s rest : ByteArray) (kd : Int) (t m : ByteArray) (nm : Int) (c : Bool) (hs : ¬ s.toList = []) (hr : rest.size ≤ 1048576) (hg : Rg nm) : ∃ nm' l, Ev (fun k => impl_DecodeRequest.j5 k s c rest kd t m nm) (fin s kd t m nm' l) ∧ (∀ y ∈ l, Rg y.f1) ∧ Rg nm' := by
  cases c with
  | true =>
    obtain ⟨v, r', hv, hr', h⟩ := num8_any rest (by omega)
    obtain ⟨l, hl, hl2⟩ := i6_any s r' kd t m v hs (by omega)
    exact ⟨v, l, Ev.step (fun k => by simp only [impl_DecodeRequest.j5]; simp only [if_true]; rw [h, Option.bind_some]) hl, hl2, hv⟩
  | false =>
    obtain ⟨l, hl, hl2⟩ := i6_any s rest kd t m nm hs hr
    exact ⟨nm, l, Ev.step (fun k => by simp only [impl_DecodeRequest.j5, Bool.false_eq_true, if_false]) hl, hl2, hg⟩
theorem i4_any (s rest : ByteArray) (kd : Int) (t m : ByteArray) (nm : Int) (hs : ¬ s.toList = []) (hr : rest.size ≤ 1048576) (hg : Rg nm) : ∃ nm' l, Ev (fun k => impl_DecodeRequest.j4 k s rest kd t m nm) (fin s kd t m nm' l) ∧ (∀ y ∈ l, Rg y.f1) ∧ Rg nm' := by
  by_cases h2 : kd = 2
  · obtain ⟨nm', l, h, h3⟩ := i5_any s rest kd t m nm true hs hr hg
    exact ⟨nm', l, Ev.step (fun k => by simp only [impl_DecodeRequest.j4]; rw [if_pos h2]) h, h3⟩
  · obtain ⟨nm', l, h, h3⟩ := i5_any s rest kd t m nm (kd == 3) hs hr hg
    exact ⟨nm', l, Ev.step (fun k => by simp only [impl_DecodeRequest.j4]; rw [if_neg h2]) h, h3⟩
theorem i3_any (s rest : ByteArray) (kd : Int) (t m : ByteArray) (nm : Int) (c : Bool) (hs : ¬ s.toList = []) (hr : rest.size ≤ 1048576) (hg : Rg nm) : ∃ m' nm' l, Ev (fun k => impl_DecodeRequest.j3 k s c rest kd t m nm) (fin s kd t m' nm' l) ∧ (∀ y ∈ l, Rg y.f1) ∧ Rg nm' := by
  cases c with
  | true =>
    obtain ⟨u, r', _, hr', h⟩ := s16_any rest (by omega)
    obtain ⟨nm', l, hl, h3⟩ := i4_any s r' kd t u nm hs (by omega) hg
    exact ⟨u, nm', l, Ev.step (fun k => by simp only [impl_DecodeRequest.j3]; simp only [if_true]; rw [h, Option.bind_some]) hl, h3⟩
  | false =>
    obtain ⟨nm', l, hl, h3⟩ := i4_any s rest kd t m nm hs hr hg
    exact ⟨m, nm', l, Ev.step (fun k => by simp only [impl_DecodeRequest.j3, Bool.false_eq_true, if_false]) hl, h3⟩
theorem i2_any (s rest : ByteArray) (kd : Int) (t m : ByteArray) (nm : Int) (hs : ¬ s.toList = []) (hr : rest.size ≤ 1048576) (hg : Rg nm) : ∃ m' nm' l, Ev (fun k => impl_DecodeRequest.j2 k s rest kd t m nm) (fin s kd t m' nm' l) ∧ (∀ y ∈ l, Rg y.f1) ∧ Rg nm' := by
  by_cases h2 : kd = 3
  · obtain ⟨m', nm', l, h, h3⟩ := i3_any s rest kd t m nm true hs hr hg
    exact ⟨m', nm', l, Ev.step (fun k => by simp only [impl_DecodeRequest.j2]; rw [if_pos h2]) h, h3⟩
  · obtain ⟨m', nm', l, h, h3⟩ := i3_any s rest kd t m nm (kd == 5) hs hr hg
    exact ⟨m', nm', l, Ev.step (fun k => by simp only [impl_DecodeRequest.j2]; rw [if_neg h2]) h, h3⟩
theorem i1_any (s rest : ByteArray) (kd : Int) (t m : ByteArray) (nm : Int) (c : Bool) (hs : ¬ s.toList = []) (hr : rest.size ≤ 1048576) (hg : Rg nm) : ∃ t' m' nm' l, Ev (fun k => impl_DecodeRequest.j1 k s c rest kd t m nm) (fin s kd t' m' nm' l) ∧ (∀ y ∈ l, Rg y.f1) ∧ Rg nm' := by
  cases c with
  | true =>
    obtain ⟨u, r', _, hr', h⟩ := s8_any rest (by omega)
    obtain ⟨m', nm', l, hl, h3⟩ := i2_any s r' kd u m nm hs (by omega) hg
    exact ⟨u, m', nm', l, Ev.step (fun k => by simp only [impl_DecodeRequest.j1]; simp only [if_true]; rw [h, Option.bind_some]) hl, h3⟩
  | false =>
    obtain ⟨m', nm', l, hl, h3⟩ := i2_any s rest kd t m nm hs hr hg
    exact ⟨t, m', nm', l, Ev.step (fun k => by simp only [impl_DecodeRequest.j1, Bool.false_eq_true, if_false]) hl, h3⟩
theorem impl_any (s : ByteArray) (hs : ¬ s.toList = []) (hz : s.size ≤ 60000) : ∃ kd t m nm l, Ev (fun k => impl_DecodeRequest.f k s) (fin s kd t m nm l) ∧ (∀ y ∈ l, Rg y.f1) ∧ Rg nm := by
  obtain ⟨v, r', hv, hr', h⟩ := num1_any s (by omega)
  have h0 : Rg 0 := rg_small 0 (by omega) (by omega)
  have main : ∃ t m nm l, Ev (fun k => if (v : Int) = 2 then (impl_DecodeRequest.j1 k s false r' v (⟨#[]⟩ : ByteArray) (⟨#[]⟩ : ByteArray) 0) else (impl_DecodeRequest.j1 k s ((v : Int) != 4) r' v (⟨#[]⟩ : ByteArray) (⟨#[]⟩ : ByteArray) 0)) (fin s v t m nm l) ∧ (∀ y ∈ l, Rg y.f1) ∧ Rg nm := by
    by_cases h2 : (v : Int) = 2
    · obtain ⟨t, m, nm, l, hl, h3⟩ := i1_any s r' v ⟨#[]⟩ ⟨#[]⟩ 0 false hs (by omega) h0
      exact ⟨t, m, nm, l, Ev.ite_pos h2 hl, h3⟩
    · obtain ⟨t, m, nm, l, hl, h3⟩ := i1_any s r' v ⟨#[]⟩ ⟨#[]⟩ 0 ((v : Int) != 4) hs (by omega) h0
      exact ⟨t, m, nm, l, Ev.ite_neg h2 hl, h3⟩
  obtain ⟨t, m, nm, l, hl, h3⟩ := main
  refine ⟨v, t, m, nm, l, ?_, h3⟩
  unfold impl_DecodeRequest.f
  refine Ev.ite_neg hs (Ev.step (fun k => ?_) hl)
  simp only [impl_DecodeRequest.j0]
  rw [if_neg (by simp only [decide_eq_true_eq]; omega), h, Option.bind_some]
theorem impl_zero (s : ByteArray) (h : s.toList = [] ∨ 60000 < s.size) : Ev (fun k => impl_DecodeRequest.f k s) zero := by
  unfold impl_DecodeRequest.f
  by_cases hs : s.toList = []
  · exact Ev.ite_pos hs (Ev.step (f := fun _ => some _) (fun k => by simp only [impl_DecodeRequest.j0, if_true]) (Ev.now _))
  · refine Ev.ite_neg hs (Ev.step (f := fun _ => some zero) (fun k => ?_) (Ev.now _))
    simp only [impl_DecodeRequest.j0]
    rw [if_pos (by simp only [decide_eq_true_eq]; rcases h with h | h; exact absurd h hs; omega)]
theorem i6_rt (s : ByteArray) (kd : Int) (t m : ByteArray) (nm : Int) (l : List Sm) (hs : ¬ s.toList = []) (hl : kd = 1 ∨ l = []) (hl5 : l.length ≤ 500) (hok : ∀ y ∈ l, SampOK y ∧ Rg y.f1) (rest : List UInt8)
    (hr : rest = if kd = 1 then nL 2 l.length ++ sampsL l else []) (hz : rest.length ≤ 60000) : Ev (fun k => impl_DecodeRequest.j6 k s (B rest) kd t m nm) (fin s kd t m nm l) := by
  by_cases h1 : kd = 1
  · rw [if_pos h1] at hr
    have hz2 : (sampsL l).length ≤ 60000 := by rw [hr, List.length_append] at hz; omega
    have h := samp_rt l.length (by omega) l [] hok (by simp) hz2
    refine Ev.step (f := fun k => (impl_source_samples.f k (B rest)).bind fun bt363 => some (fin s kd t m nm bt363.1)) (fun k => ?_) (Ev.bind (a := (l, B [])) ?_ (Ev.now _))
    · simp only [impl_DecodeRequest.j6]
      rw [if_pos h1]
      congr 1
      funext b
      exact ireq kd t m nm b.1 s hs
    · refine Ev.congr (fun k => ?_) h
      unfold impl_source_samples.f
      rw [hr, num2_rt _ _ (by omega) (by omega) (by omega), Option.bind_some]; rfl
  · obtain rfl : l = [] := hl.resolve_left h1
    refine Ev.step (f := fun _ => some _) (fun k => ?_) (Ev.now _)
    simp only [impl_DecodeRequest.j6]
    rw [if_neg h1, ireq kd t m nm [] s hs]
theorem i4_rt (s : ByteArray) (kd : Int) (t m : ByteArray) (nm : Int) (rest : List UInt8) (R : Out) (hz : rest.length ≤ 60000) (hg : Rg nm) (hn : (kd = 2 ∨ kd = 3) ∨ nm = 0)
    (h : Ev (fun k => impl_DecodeRequest.j6 k s (B rest) kd t m nm) R) : Ev (fun k => impl_DecodeRequest.j4 k s (B ((if kd = 2 ∨ kd = 3 then nL 8 nm else []) ++ rest)) kd t m 0) R := by
  have yes : ∀ c, c = true → (kd = 2 ∨ kd = 3) → Ev (fun k => impl_DecodeRequest.j5 k s c (B ((if kd = 2 ∨ kd = 3 then nL 8 nm else []) ++ rest)) kd t m 0) R := by
    rintro c rfl hk
    rw [if_pos hk]
    refine Ev.step (fun k => ?_) h
    simp only [impl_DecodeRequest.j5, if_true]
    rw [num8_rt _ _ hg.1 hg.2 (by omega), Option.bind_some]
  by_cases h2 : kd = 2
  · exact Ev.step (fun k => by simp only [impl_DecodeRequest.j4]; rw [if_pos h2]) (yes true rfl (.inl h2))
  · by_cases h3 : kd = 3
    · exact Ev.step (fun k => by simp only [impl_DecodeRequest.j4]; rw [if_neg h2]) (yes (kd == 3) (by simpa using h3) (.inr h3))
    · have hno : ¬ (kd = 2 ∨ kd = 3) := by omega
      obtain rfl : nm = 0 := hn.resolve_left hno
      rw [if_neg hno, List.nil_append]
      refine Ev.step (f := fun k => impl_DecodeRequest.j5 k s (kd == 3) (B rest) kd t m 0) (fun k => by simp only [impl_DecodeRequest.j4]; rw [if_neg h2]) (Ev.step (fun k => ?_) h)
      simp only [impl_DecodeRequest.j5]
      rw [if_neg (by simpa using h3)]
theorem i2_rt (s : ByteArray) (kd : Int) (t m : ByteArray) (rest : List UInt8) (R : Out) (hz : rest.length ≤ 60000) (hm : m.size ≤ 65535) (hn : (kd = 3 ∨ kd = 5) ∨ m = ⟨#[]⟩)
    (h : Ev (fun k => impl_DecodeRequest.j4 k s (B rest) kd t m 0) R) : Ev (fun k => impl_DecodeRequest.j2 k s (B ((if kd = 3 ∨ kd = 5 then s16L m else []) ++ rest)) kd t ⟨#[]⟩ 0) R := by
  have yes : ∀ c, c = true → (kd = 3 ∨ kd = 5) → Ev (fun k => impl_DecodeRequest.j3 k s c (B ((if kd = 3 ∨ kd = 5 then s16L m else []) ++ rest)) kd t ⟨#[]⟩ 0) R := by
    rintro c rfl hk
    rw [if_pos hk]
    refine Ev.step (fun k => ?_) h
    simp only [impl_DecodeRequest.j3, if_true]
    rw [s16_rt _ _ hm (by omega), Option.bind_some]
  by_cases h2 : kd = 3
  · exact Ev.step (fun k => by simp only [impl_DecodeRequest.j2]; rw [if_pos h2]) (yes true rfl (.inl h2))
  · by_cases h3 : kd = 5
    · exact Ev.step (fun k => by simp only [impl_DecodeRequest.j2]; rw [if_neg h2]) (yes (kd == 5) (by simpa using h3) (.inr h3))
    · have hno : ¬ (kd = 3 ∨ kd = 5) := by omega
      obtain rfl := hn.resolve_left hno
      rw [if_neg hno, List.nil_append]
      refine Ev.step (f := fun k => impl_DecodeRequest.j3 k s (kd == 5) (B rest) kd t ⟨#[]⟩ 0) (fun k => by simp only [impl_DecodeRequest.j2]; rw [if_neg h2]) (Ev.step (fun k => ?_) h)
      simp only [impl_DecodeRequest.j3]
      rw [if_neg (by simpa using h3)]
theorem nil_of {a : ByteArray} (h : a.toList = []) : a = ⟨#[]⟩ := by
  have h2 := size_zero.1 h
  obtain ⟨⟨l⟩⟩ := a
  cases l with
  | nil => rfl
  | cons x l => exact absurd h2 (by show ¬ (x :: l).length = 0; simp)
theorem good_parts {kd : Int} {t m : ByteArray} {nm : Int} {l : List Sm} (h1 : Enc.Good kd t m nm l) : (1 ≤ kd ∧ kd ≤ 6) ∧ ((kd = 1 ∨ kd = 3 ∨ kd = 5 ∨ kd = 6) ∨ t = ⟨#[]⟩) ∧ ((kd = 3 ∨ kd = 5) ∨ m = ⟨#[]⟩) ∧ ((kd = 2 ∨ kd = 3) ∨ nm = 0) ∧ (kd = 1 ∨ l = []) ∧ t.size ≤ 255 ∧ m.size ≤ 65535 ∧ l.length ≤ 500 := by
  obtain ⟨⟨h0, ht, hm, hn, hl⟩, h2, h3, h4⟩ := h1
  exact ⟨h0, ht.imp_right nil_of, hm.imp_right nil_of, hn, hl.imp_right (fun h => List.length_eq_zero_iff.1 h), h2, h3, h4⟩
theorem body_eq (kd : Int) (t m : ByteArray) (nm : Int) (l : List Sm) : bodyL kd t m nm l = nL 1 kd ++ ((if kd = 1 ∨ kd = 3 ∨ kd = 5 ∨ kd = 6 then s8L t else []) ++ ((if kd = 3 ∨ kd = 5 then s16L m else []) ++ ((if kd = 2 ∨ kd = 3 then nL 8 nm else []) ++ (if kd = 1 then nL 2 l.length ++ sampsL l else [])))) := by
  unfold bodyL headL
  simp only [List.append_assoc]
theorem body_ne (kd : Int) (t m : ByteArray) (nm : Int) (l : List Sm) : ¬ (B (bodyL kd t m nm l)).toList = [] := B_ne _ (by rw [body_eq, List.length_append, nL_length]; omega)
theorem impl_rt (kd : Int) (t m : ByteArray) (nm : Int) (l : List Sm) (h1 : Enc.Good kd t m nm l) (h2 : ∀ y ∈ l, SampOK y) (h3 : (bodyL kd t m nm l).length ≤ 60000) (hg : Rg nm) (hgl : ∀ y ∈ l, Rg y.f1) :
    Ev (fun k => impl_DecodeRequest.f k (B (bodyL kd t m nm l))) (fin (B (bodyL kd t m nm l)) kd t m nm l) := by
  have hne := body_ne kd t m nm l
  have hbz : (B (bodyL kd t m nm l)).size ≤ 60000 := h3
  obtain ⟨hk, ht, hm, hn, hl, hts, hms, hl5⟩ := good_parts h1
  obtain ⟨L4, hL4⟩ : ∃ L, L = (if kd = 1 then nL 2 l.length ++ sampsL l else []) := ⟨_, rfl⟩
  have hb := body_eq kd t m nm l
  rw [← hL4] at hb
  obtain ⟨L3, hL3⟩ : ∃ L, L = (if kd = 2 ∨ kd = 3 then nL 8 nm else []) ++ L4 := ⟨_, rfl⟩
  rw [← hL3] at hb
  obtain ⟨L2, hL2⟩ : ∃ L, L = (if kd = 3 ∨ kd = 5 then s16L m else []) ++ L3 := ⟨_, rfl⟩
  rw [← hL2] at hb
  obtain ⟨L1, hL1⟩ : ∃ L, L = (if kd = 1 ∨ kd = 3 ∨ kd = 5 ∨ kd = 6 then s8L t else []) ++ L2 := ⟨_, rfl⟩
  rw [← hL1] at hb
  have z1 : L1.length ≤ 60000 := by rw [hb, List.length_append] at h3; omega
  have z2 : L2.length ≤ 60000 := by rw [hL1, List.length_append] at z1; omega
  have z3 : L3.length ≤ 60000 := by rw [hL2, List.length_append] at z2; omega
  have z4 : L4.length ≤ 60000 := by rw [hL3, List.length_append] at z3; omega
  have s6 := i6_rt (B (bodyL kd t m nm l)) kd t m nm l hne hl hl5 (fun y hy => ⟨h2 y hy, hgl y hy⟩) L4 hL4 z4
  have s4 := i4_rt _ kd t m nm L4 _ z4 hg hn s6
  rw [← hL3] at s4
  have s2 := i2_rt _ kd t m L3 _ z3 hms hm s4
  rw [← hL2] at s2
  have s1 : Ev (fun k => if kd = 2 then (impl_DecodeRequest.j1 k (B (bodyL kd t m nm l)) false (B L1) kd (⟨#[]⟩ : ByteArray) (⟨#[]⟩ : ByteArray) 0) else (impl_DecodeRequest.j1 k (B (bodyL kd t m nm l)) (kd != 4) (B L1) kd (⟨#[]⟩ : ByteArray) (⟨#[]⟩ : ByteArray) 0)) (fin (B (bodyL kd t m nm l)) kd t m nm l) := by
    by_cases hy : kd = 1 ∨ kd = 3 ∨ kd = 5 ∨ kd = 6
    · rw [if_pos hy] at hL1
      refine Ev.ite_neg (by omega) (Ev.step (fun k => ?_) s2)
      simp only [impl_DecodeRequest.j1]
      rw [if_pos (by simp only [bne_iff_ne, ne_eq]; omega), hL1, s8_rt _ _ hts (by omega), Option.bind_some]
    · obtain rfl := ht.resolve_left hy
      rw [if_neg hy, List.nil_append] at hL1
      rw [hL1]
      by_cases h2 : kd = 2
      · exact Ev.ite_pos h2 (Ev.step (fun k => by simp only [impl_DecodeRequest.j1, Bool.false_eq_true, if_false]) s2)
      · refine Ev.ite_neg h2 (Ev.step (fun k => ?_) s2)
        simp only [impl_DecodeRequest.j1]
        rw [if_neg (by simp only [bne_iff_ne, ne_eq]; omega)]
  unfold impl_DecodeRequest.f
  refine Ev.ite_neg hne (Ev.step (fun k => ?_) s1)
  simp only [impl_DecodeRequest.j0]
  have hh := num1_rt kd L1 (by omega) (by omega) (by omega)
  rw [← hb] at hh
  rw [if_neg (by simp only [decide_eq_true_eq]; omega), hh, Option.bind_some]
/-! ### the reference's loops end -/
theorem Ev.succ {α : Type} {g : Nat → Option α} {r : α} (h : Ev (fun k => g (k + 1)) r) : Ev g r := Ev.step (fun _ => rfl) h
theorem sreq (kd : Int) (t m : ByteArray) (nm : Int) (l : List Sm) (s : ByteArray) :
    (if s.toList = ([] : List UInt8) then (some (0, (⟨#[]⟩ : ByteArray), (⟨#[]⟩ : ByteArray), 0, ([] : List Sm), false)) else ((spec_EncodeRequest.f kd t m nm l).bind fun t310 => (if t310.toList = s.toList then (some (kd, t, m, nm, l, true)) else (some (0, (⟨#[]⟩ : ByteArray), (⟨#[]⟩ : ByteArray), 0, ([] : List Sm), false))))) = some (fin s kd t m nm l) := by
  unfold spec_EncodeRequest.f fin
  rw [Option.bind_some]
  split
  · rfl
  · split <;> rfl
theorem slab_any (s : ByteArray) (hs : s.size ≤ 1048576) (kd : Int) (t m : ByteArray) (nm : Int) (n i v : Nat) (acc : List Sm) (hacc : acc.length < 4398046511104) (hi : i < 65536) (hv : v ≤ 65535)
    (H : ∀ (p : Int) (labs : List Lb) (bits : Int), At s p → Rg bits → ∃ l, Ev (fun k => spec_DecodeRequest.l0 k s p n ((i + 1 : Nat) : Int) kd t m nm (acc ++ [(⟨labs, bits⟩ : Sm)])) (fin s kd t m nm l) ∧ ∀ y ∈ l, Rg y.f1) :
    ∀ q j, j + q = v → ∀ (p : Int) (labs : List Lb), At s p → labs.length ≤ j → ∃ l, Ev (fun k => spec_DecodeRequest.l1 k s p n i v j kd t m nm acc labs 0) (fin s kd t m nm l) ∧ ∀ y ∈ l, Rg y.f1 := by
  have leave : ∀ (p : Int) (j : Nat) (labs : List Lb), At s p → ∃ l, Ev (fun k => spec_DecodeRequest.j9 k s p n i v j false kd t m nm acc labs 0) (fin s kd t m nm l) ∧ ∀ y ∈ l, Rg y.f1 := by
    intro p j labs hp
    obtain ⟨b, p', h, hp', hb⟩ := l58_any s p hp hs
    obtain ⟨l, hl, hl2⟩ := H p' labs b hp' hb
    refine ⟨l, Ev.succ ?_, hl2⟩
    simp only [spec_DecodeRequest.j9, Bool.false_eq_true, if_false]
    refine Ev.bind h (Ev.ite_pos hacc ?_)
    rw [w_succ i (by omega)]
    exact hl
  intro q
  induction q with
  | zero =>
    intro j hj p labs hp hl
    obtain ⟨l, h, h2⟩ := leave p j labs hp
    refine ⟨l, Ev.succ ?_, h2⟩
    simp only [spec_DecodeRequest.l1]
    exact Ev.ite_neg (by omega) h
  | succ q ih =>
    intro j hj p labs hp hl
    by_cases hneg : p < 0
    · obtain ⟨l, h, h2⟩ := leave p j labs hp
      refine ⟨l, Ev.succ ?_, h2⟩
      simp only [spec_DecodeRequest.l1]
      rw [decide_eq_false (show ¬ p ≥ 0 by omega)]
      exact Ev.ite_pos (by omega) h
    · obtain ⟨a, p1, h1, hp1, _⟩ := l3_any s p 1 (.inl rfl) hp (by omega)
      obtain ⟨b, p2, h2, hp2, _⟩ := l3_any s p1 2 (.inr rfl) hp1 (by omega)
      obtain ⟨l, hl3, hl4⟩ := ih (j + 1) (by omega) p2 (labs ++ [(⟨a, b⟩ : Lb)]) hp2 (by simp; omega)
      refine ⟨l, Ev.succ ?_, hl4⟩
      simp only [spec_DecodeRequest.l1]
      rw [decide_eq_true (show p ≥ 0 by omega)]
      refine Ev.ite_pos (by omega) (Ev.succ ?_)
      simp only [spec_DecodeRequest.j9, if_true]
      refine Ev.bind h1 (Ev.bind h2 (Ev.ite_pos (by omega) ?_))
      rw [w_succ j (by omega)]
      exact hl3
theorem sstop (s : ByteArray) (kd : Int) (t m : ByteArray) (nm p n i : Int) (acc : List Sm) : Ev (fun k => spec_DecodeRequest.j7 k s p n i false kd t m nm acc) (fin s kd t m nm acc) := by
  refine Ev.succ ?_
  simp only [spec_DecodeRequest.j7, Bool.false_eq_true, if_false]
  exact Ev.congr (fun k => sreq kd t m nm acc s) (Ev.now _)
theorem ssamp_any (s : ByteArray) (hs : s.size ≤ 1048576) (kd : Int) (t m : ByteArray) (nm : Int) (n : Nat) (hn : n ≤ 65535) : ∀ q i, i + q = n → ∀ (p : Int) (acc : List Sm), At s p → acc.length ≤ i → (∀ y ∈ acc, Rg y.f1) →
    ∃ l, Ev (fun k => spec_DecodeRequest.l0 k s p n i kd t m nm acc) (fin s kd t m nm l) ∧ ∀ y ∈ l, Rg y.f1 := by
  intro q
  induction q with
  | zero =>
    intro i hi p acc hp ha hg
    refine ⟨acc, Ev.succ ?_, hg⟩
    simp only [spec_DecodeRequest.l0]
    exact Ev.ite_neg (by omega) (sstop s kd t m nm p n i acc)
  | succ q ih =>
    intro i hi p acc hp ha hg
    by_cases hneg : p < 0
    · refine ⟨acc, Ev.succ ?_, hg⟩
      simp only [spec_DecodeRequest.l0]
      rw [decide_eq_false (show ¬ p ≥ 0 by omega)]
      exact Ev.ite_pos (by omega) (sstop s kd t m nm p n i acc)
    · obtain ⟨v, p1, hv, h1, hp1⟩ := l5_small s p 1 (.inl rfl) hp (by omega)
      obtain ⟨l, hl, hl2⟩ := slab_any s hs kd t m nm n i v acc (by omega) (by omega) hv (fun p' labs bits hp' hb => ih (i + 1) (by omega) p' _ hp' (by simp; omega) (by
        intro y hy
        rcases List.mem_append.1 hy with hy | hy
        · exact hg y hy
        · rw [List.mem_singleton] at hy; subst hy; exact hb)) v 0 (by omega) p1 [] hp1 (by simp)
      refine ⟨l, Ev.succ ?_, hl2⟩
      simp only [spec_DecodeRequest.l0]
      rw [decide_eq_true (show p ≥ 0 by omega)]
      refine Ev.ite_pos (by omega) (Ev.succ ?_)
      simp only [spec_DecodeRequest.j7, if_true]
      exact Ev.bind h1 hl
/-! ### the reference's loops read what was written -/
theorem slab_rt (S : List UInt8) (hS : S.length ≤ 60000) (kd : Int) (t m : ByteArray) (nm : Int) (n i v : Nat) (acc : List Sm) (hacc : acc.length < 4398046511104) (hi : i < 65536) (hv : v ≤ 65535) (bits : Int) (hb : Rg bits) (rest : List UInt8) (R : Out) :
    ∀ (ls done : List Lb) (P : List UInt8), S = P ++ (labsL ls ++ (nL 8 bits ++ rest)) → (∀ y ∈ ls, LabOK y) → done.length + ls.length = v →
      Ev (fun k => spec_DecodeRequest.l0 k (B S) ((P ++ labsL ls ++ nL 8 bits).length : Int) n ((i + 1 : Nat) : Int) kd t m nm (acc ++ [(⟨done ++ ls, bits⟩ : Sm)])) R →
      Ev (fun k => spec_DecodeRequest.l1 k (B S) (P.length : Int) n i v done.length kd t m nm acc done 0) R := by
  intro ls
  induction ls with
  | nil =>
    intro done P hP _ hd hR
    simp only [List.length_nil] at hd
    have hP' : S = P ++ nL 8 bits ++ rest := by rw [hP, List.append_assoc]; rfl
    have h8 := l5_8 P rest bits hb.1 hb.2 (by rw [← hP']; omega)
    rw [← hP'] at h8
    refine Ev.succ ?_
    simp only [spec_DecodeRequest.l1]
    refine Ev.ite_neg (by omega) (Ev.succ ?_)
    simp only [spec_DecodeRequest.j9, Bool.false_eq_true, if_false]
    refine Ev.bind h8 (Ev.ite_pos hacc ?_)
    rw [w_succ i (by omega)]
    rw [List.append_nil, show P ++ labsL [] ++ nL 8 bits = P ++ nL 8 bits by simp [labsL]] at hR
    exact hR
  | cons y ls ih =>
    intro done P hP hok hd hR
    have hy := hok y (List.mem_cons_self ..)
    simp only [List.length_cons] at hd
    have e : labsL (y :: ls) = s8L y.f0 ++ (s16L y.f1 ++ labsL ls) := by
      show labL y ++ labsL ls = _
      unfold labL
      simp only [List.append_assoc]
    have e1 : S = P ++ s8L y.f0 ++ (s16L y.f1 ++ (labsL ls ++ (nL 8 bits ++ rest))) := by rw [hP, e]; simp only [List.append_assoc]
    have e2 : S = (P ++ s8L y.f0) ++ s16L y.f1 ++ (labsL ls ++ (nL 8 bits ++ rest)) := by rw [e1]; simp only [List.append_assoc]
    have e3 : S = (P ++ s8L y.f0 ++ s16L y.f1) ++ (labsL ls ++ (nL 8 bits ++ rest)) := e2
    have h1 := l3_8 P (s16L y.f1 ++ (labsL ls ++ (nL 8 bits ++ rest))) y.f0 hy.1 (by rw [← e1]; omega)
    have h2 := l3_16 (P ++ s8L y.f0) (labsL ls ++ (nL 8 bits ++ rest)) y.f1 hy.2 (by rw [← e2]; omega)
    rw [← e1] at h1
    rw [← e2] at h2
    have h := ih (done ++ [y]) (P ++ s8L y.f0 ++ s16L y.f1) e3 (fun z hz => hok z (List.mem_cons_of_mem _ hz)) (by simp; omega) (by
      rw [e] at hR
      rw [show P ++ s8L y.f0 ++ s16L y.f1 ++ labsL ls ++ nL 8 bits = P ++ (s8L y.f0 ++ (s16L y.f1 ++ labsL ls)) ++ nL 8 bits by simp only [List.append_assoc], show done ++ [y] ++ ls = done ++ y :: ls by simp]
      exact hR)
    have hl : (done ++ [y]).length = done.length + 1 := by simp
    rw [hl] at h
    refine Ev.succ ?_
    simp only [spec_DecodeRequest.l1]
    rw [decide_eq_true (show (P.length : Int) ≥ 0 by omega)]
    refine Ev.ite_pos (by omega) (Ev.succ ?_)
    simp only [spec_DecodeRequest.j9, if_true]
    refine Ev.bind h1 (Ev.bind h2 (Ev.ite_pos (by omega) ?_))
    rw [w_succ _ (by omega)]
    exact h
theorem ssamp_rt (S : List UInt8) (hS : S.length ≤ 60000) (kd : Int) (t m : ByteArray) (nm : Int) (n : Nat) (hn : n ≤ 65535) : ∀ (ls done : List Sm) (P : List UInt8), S = P ++ sampsL ls → (∀ y ∈ ls, SampOK y ∧ Rg y.f1) → done.length + ls.length = n →
    Ev (fun k => spec_DecodeRequest.l0 k (B S) (P.length : Int) n done.length kd t m nm done) (fin (B S) kd t m nm (done ++ ls)) := by
  intro ls
  induction ls with
  | nil =>
    intro done P hP _ hd
    simp only [List.length_nil] at hd
    rw [List.append_nil]
    refine Ev.succ ?_
    simp only [spec_DecodeRequest.l0]
    exact Ev.ite_neg (by omega) (sstop _ kd t m nm _ _ _ done)
  | cons y ls ih =>
    intro done P hP hok hd
    obtain ⟨hy, hyb⟩ := hok y (List.mem_cons_self ..)
    simp only [List.length_cons] at hd
    have e : sampsL (y :: ls) = nL 1 y.f0.length ++ (labsL y.f0 ++ (nL 8 y.f1 ++ sampsL ls)) := by
      show sampL y ++ sampsL ls = _
      unfold sampL
      simp only [List.append_assoc]
    have e1 : S = P ++ nL 1 y.f0.length ++ (labsL y.f0 ++ (nL 8 y.f1 ++ sampsL ls)) := by rw [hP, e]; simp only [List.append_assoc]
    have h1 := l5_1 P (labsL y.f0 ++ (nL 8 y.f1 ++ sampsL ls)) y.f0.length (by omega) (by have := hy.1; omega) (by rw [← e1]; omega)
    rw [← e1] at h1
    have h := ih (done ++ [y]) (P ++ nL 1 y.f0.length ++ labsL y.f0 ++ nL 8 y.f1) (by rw [e1]; simp only [List.append_assoc]) (fun z hz => hok z (List.mem_cons_of_mem _ hz)) (by simp; omega)
    have hl : (done ++ [y]).length = done.length + 1 := by simp
    rw [hl, show done ++ [y] ++ ls = done ++ y :: ls by simp] at h
    have h2 := slab_rt S hS kd t m nm n done.length y.f0.length done (by omega) (by omega) (by have := hy.1; omega) y.f1 hyb (sampsL ls) _ y.f0 [] (P ++ nL 1 y.f0.length) e1 hy.2 (by simp) h
    refine Ev.succ ?_
    simp only [spec_DecodeRequest.l0]
    rw [decide_eq_true (show (P.length : Int) ≥ 0 by omega)]
    refine Ev.ite_pos (by omega) (Ev.succ ?_)
    simp only [spec_DecodeRequest.j7, if_true]
    exact Ev.bind h1 h2
/-! ### the reference's decoder -/
theorem s5_any (s : ByteArray) (hs : s.size ≤ 1048576) (kd p : Int) (hp : At s p) (t m : ByteArray) (nm : Int) : ∃ l, Ev (fun k => spec_DecodeRequest.j5 k s kd p kd t m nm) (fin s kd t m nm l) ∧ ∀ y ∈ l, Rg y.f1 := by
  by_cases h1 : kd = 1
  · obtain ⟨v, p1, hv, h, hp1⟩ := l5_small s p 2 (.inr rfl) hp (by omega)
    obtain ⟨l, hl, hl2⟩ := ssamp_any s hs kd t m nm v hv v 0 (by omega) p1 [] hp1 (by simp) (by simp)
    refine ⟨l, Ev.succ ?_, hl2⟩
    simp only [spec_DecodeRequest.j5]
    exact Ev.ite_pos h1 (Ev.bind h hl)
  · refine ⟨[], Ev.succ ?_, by simp⟩
    simp only [spec_DecodeRequest.j5]
    exact Ev.ite_neg h1 (Ev.congr (fun k => sreq kd t m nm [] s) (Ev.now _))
theorem s4_any (s : ByteArray) (hs : s.size ≤ 1048576) (kd p : Int) (hp : At s p) (t m : ByteArray) (nm : Int) (hg : Rg nm) (c : Bool) : ∃ nm' l, Ev (fun k => spec_DecodeRequest.j4 k s kd p c kd t m nm) (fin s kd t m nm' l) ∧ (∀ y ∈ l, Rg y.f1) ∧ Rg nm' := by
  cases c with
  | true =>
    obtain ⟨v, p1, h, hp1, hv⟩ := l58_any s p hp hs
    obtain ⟨l, hl, hl2⟩ := s5_any s hs kd p1 hp1 t m v
    refine ⟨v, l, Ev.succ ?_, hl2, hv⟩
    simp only [spec_DecodeRequest.j4, if_true]
    exact Ev.bind h hl
  | false =>
    obtain ⟨l, hl, hl2⟩ := s5_any s hs kd p hp t m nm
    refine ⟨nm, l, Ev.succ ?_, hl2, hg⟩
    simp only [spec_DecodeRequest.j4, Bool.false_eq_true, if_false]
    exact hl
theorem s3_any (s : ByteArray) (hs : s.size ≤ 1048576) (kd p : Int) (hp : At s p) (t m : ByteArray) (nm : Int) (hg : Rg nm) : ∃ nm' l, Ev (fun k => spec_DecodeRequest.j3 k s kd p kd t m nm) (fin s kd t m nm' l) ∧ (∀ y ∈ l, Rg y.f1) ∧ Rg nm' := by
  by_cases h2 : kd = 2
  · obtain ⟨nm', l, h, h3⟩ := s4_any s hs kd p hp t m nm hg true
    refine ⟨nm', l, Ev.succ ?_, h3⟩
    simp only [spec_DecodeRequest.j3]
    exact Ev.ite_pos h2 h
  · obtain ⟨nm', l, h, h3⟩ := s4_any s hs kd p hp t m nm hg (kd == 3)
    refine ⟨nm', l, Ev.succ ?_, h3⟩
    simp only [spec_DecodeRequest.j3]
    exact Ev.ite_neg h2 h
theorem s2_any (s : ByteArray) (hs : s.size ≤ 1048576) (kd p : Int) (hp : At s p) (t m : ByteArray) (nm : Int) (hg : Rg nm) (c : Bool) : ∃ m' nm' l, Ev (fun k => spec_DecodeRequest.j2 k s kd p c kd t m nm) (fin s kd t m' nm' l) ∧ (∀ y ∈ l, Rg y.f1) ∧ Rg nm' := by
  cases c with
  | true =>
    obtain ⟨u, p1, h, hp1, _⟩ := l3_any s p 2 (.inr rfl) hp (by omega)
    obtain ⟨nm', l, hl, hl2⟩ := s3_any s hs kd p1 hp1 t u nm hg
    refine ⟨u, nm', l, Ev.succ ?_, hl2⟩
    simp only [spec_DecodeRequest.j2, if_true]
    exact Ev.bind h hl
  | false =>
    obtain ⟨nm', l, hl, hl2⟩ := s3_any s hs kd p hp t m nm hg
    refine ⟨m, nm', l, Ev.succ ?_, hl2⟩
    simp only [spec_DecodeRequest.j2, Bool.false_eq_true, if_false]
    exact hl
theorem s1_any (s : ByteArray) (hs : s.size ≤ 1048576) (kd p : Int) (hp : At s p) (t m : ByteArray) (nm : Int) (hg : Rg nm) : ∃ m' nm' l, Ev (fun k => spec_DecodeRequest.j1 k s kd p kd t m nm) (fin s kd t m' nm' l) ∧ (∀ y ∈ l, Rg y.f1) ∧ Rg nm' := by
  by_cases h2 : kd = 3
  · obtain ⟨m', nm', l, h, h3⟩ := s2_any s hs kd p hp t m nm hg true
    refine ⟨m', nm', l, Ev.succ ?_, h3⟩
    simp only [spec_DecodeRequest.j1]
    exact Ev.ite_pos h2 h
  · obtain ⟨m', nm', l, h, h3⟩ := s2_any s hs kd p hp t m nm hg (kd == 5)
    refine ⟨m', nm', l, Ev.succ ?_, h3⟩
    simp only [spec_DecodeRequest.j1]
    exact Ev.ite_neg h2 h
theorem s0_any (s : ByteArray) (hs : s.size ≤ 1048576) (kd p : Int) (hp : At s p) (t m : ByteArray) (nm : Int) (hg : Rg nm) (c : Bool) : ∃ t' m' nm' l, Ev (fun k => spec_DecodeRequest.j0 k s kd p c kd t m nm) (fin s kd t' m' nm' l) ∧ (∀ y ∈ l, Rg y.f1) ∧ Rg nm' := by
  cases c with
  | true =>
    obtain ⟨u, p1, h, hp1, _⟩ := l3_any s p 1 (.inl rfl) hp (by omega)
    obtain ⟨m', nm', l, hl, hl2⟩ := s1_any s hs kd p1 hp1 u m nm hg
    refine ⟨u, m', nm', l, Ev.succ ?_, hl2⟩
    simp only [spec_DecodeRequest.j0, if_true]
    exact Ev.bind h hl
  | false =>
    obtain ⟨m', nm', l, hl, hl2⟩ := s1_any s hs kd p hp t m nm hg
    refine ⟨t, m', nm', l, Ev.succ ?_, hl2⟩
    simp only [spec_DecodeRequest.j0, Bool.false_eq_true, if_false]
    exact hl
theorem spec_any (s : ByteArray) (hs : s.size ≤ 1048576) : ∃ kd t m nm l, Ev (fun k => spec_DecodeRequest.f k s) (fin s kd t m nm l) ∧ (∀ y ∈ l, Rg y.f1) ∧ Rg nm := by
  obtain ⟨v, p1, hv, h, hp1⟩ := l5_small s 0 1 (.inl rfl) (.inr ⟨0, rfl, Nat.zero_le _⟩) (by omega)
  have h0 : Rg 0 := rg_small 0 (by omega) (by omega)
  have g := fun c => s0_any s hs v p1 hp1 ⟨#[]⟩ ⟨#[]⟩ 0 h0 c
  by_cases hk : (v : Int) = 1 ∨ (v : Int) = 3 ∨ (v : Int) = 5
  · obtain ⟨t, m, nm, l, hl, hl2⟩ := g true
    refine ⟨v, t, m, nm, l, ?_, hl2⟩
    unfold spec_DecodeRequest.f
    refine Ev.bind h ?_
    by_cases h1 : (v : Int) = 1
    · exact Ev.ite_pos h1 hl
    · by_cases h3 : (v : Int) = 3
      · exact Ev.ite_neg h1 (Ev.ite_pos h3 hl)
      · exact Ev.ite_neg h1 (Ev.ite_neg h3 (Ev.ite_pos (by omega) hl))
  · obtain ⟨t, m, nm, l, hl, hl2⟩ := g ((v : Int) == 6)
    refine ⟨v, t, m, nm, l, ?_, hl2⟩
    unfold spec_DecodeRequest.f
    exact Ev.bind h (Ev.ite_neg (by omega) (Ev.ite_neg (by omega) (Ev.ite_neg (by omega) hl)))
theorem s5_rt (S : List UInt8) (hS : S.length ≤ 60000) (kd : Int) (t m : ByteArray) (nm : Int) (l : List Sm) (hl : kd = 1 ∨ l = []) (hl5 : l.length ≤ 500) (hok : ∀ y ∈ l, SampOK y ∧ Rg y.f1) (P : List UInt8)
    (hP : S = P ++ (if kd = 1 then nL 2 l.length ++ sampsL l else [])) : Ev (fun k => spec_DecodeRequest.j5 k (B S) kd (P.length : Int) kd t m nm) (fin (B S) kd t m nm l) := by
  refine Ev.succ ?_
  simp only [spec_DecodeRequest.j5]
  by_cases h1 : kd = 1
  · rw [if_pos h1] at hP
    have e1 : S = P ++ nL 2 l.length ++ sampsL l := by rw [hP]; simp only [List.append_assoc]
    have h := l5_2 P (sampsL l) l.length (by omega) (by omega) (by rw [← e1]; omega)
    rw [← e1] at h
    exact Ev.ite_pos h1 (Ev.bind h (ssamp_rt S hS kd t m nm l.length (by omega) l [] (P ++ nL 2 l.length) e1 hok (by simp)))
  · obtain rfl : l = [] := hl.resolve_left h1
    exact Ev.ite_neg h1 (Ev.congr (fun k => sreq kd t m nm [] _) (Ev.now _))
theorem s3_rt (S : List UInt8) (hS : S.length ≤ 60000) (kd : Int) (t m : ByteArray) (nm : Int) (R : Out) (P L : List UInt8) (hg : Rg nm) (hn : (kd = 2 ∨ kd = 3) ∨ nm = 0)
    (hP : S = P ++ ((if kd = 2 ∨ kd = 3 then nL 8 nm else []) ++ L))
    (h : Ev (fun k => spec_DecodeRequest.j5 k (B S) kd ((P ++ (if kd = 2 ∨ kd = 3 then nL 8 nm else [])).length : Int) kd t m nm) R) : Ev (fun k => spec_DecodeRequest.j3 k (B S) kd (P.length : Int) kd t m 0) R := by
  have yes : ∀ c, c = true → (kd = 2 ∨ kd = 3) → Ev (fun k => spec_DecodeRequest.j4 k (B S) kd (P.length : Int) c kd t m 0) R := by
    rintro c rfl hk
    rw [if_pos hk] at h hP
    have e1 : S = P ++ nL 8 nm ++ L := by rw [hP]; simp only [List.append_assoc]
    have h8 := l5_8 P L nm hg.1 hg.2 (by rw [← e1]; omega)
    rw [← e1] at h8
    refine Ev.succ ?_
    simp only [spec_DecodeRequest.j4, if_true]
    exact Ev.bind h8 h
  refine Ev.succ ?_
  simp only [spec_DecodeRequest.j3]
  by_cases h2 : kd = 2
  · exact Ev.ite_pos h2 (yes true rfl (.inl h2))
  · refine Ev.ite_neg h2 ?_
    by_cases h3 : kd = 3
    · exact yes (kd == 3) (by simpa using h3) (.inr h3)
    · have hno : ¬ (kd = 2 ∨ kd = 3) := by omega
      obtain rfl : nm = 0 := hn.resolve_left hno
      rw [if_neg hno, List.append_nil] at h
      rw [show (kd == 3) = false by simpa using h3]
      refine Ev.succ ?_
      simp only [spec_DecodeRequest.j4, Bool.false_eq_true, if_false]
      exact h
theorem s1_rt (S : List UInt8) (hS : S.length ≤ 60000) (kd : Int) (t m : ByteArray) (R : Out) (P L : List UInt8) (hm : m.size ≤ 65535) (hn : (kd = 3 ∨ kd = 5) ∨ m = ⟨#[]⟩)
    (hP : S = P ++ ((if kd = 3 ∨ kd = 5 then s16L m else []) ++ L))
    (h : Ev (fun k => spec_DecodeRequest.j3 k (B S) kd ((P ++ (if kd = 3 ∨ kd = 5 then s16L m else [])).length : Int) kd t m 0) R) : Ev (fun k => spec_DecodeRequest.j1 k (B S) kd (P.length : Int) kd t ⟨#[]⟩ 0) R := by
  have yes : ∀ c, c = true → (kd = 3 ∨ kd = 5) → Ev (fun k => spec_DecodeRequest.j2 k (B S) kd (P.length : Int) c kd t ⟨#[]⟩ 0) R := by
    rintro c rfl hk
    rw [if_pos hk] at h hP
    have e1 : S = P ++ s16L m ++ L := by rw [hP]; simp only [List.append_assoc]
    have h8 := l3_16 P L m hm (by rw [← e1]; omega)
    rw [← e1] at h8
    refine Ev.succ ?_
    simp only [spec_DecodeRequest.j2, if_true]
    exact Ev.bind h8 h
  refine Ev.succ ?_
  simp only [spec_DecodeRequest.j1]
  by_cases h2 : kd = 3
  · exact Ev.ite_pos h2 (yes true rfl (.inl h2))
  · refine Ev.ite_neg h2 ?_
    by_cases h3 : kd = 5
    · exact yes (kd == 5) (by simpa using h3) (.inr h3)
    · have hno : ¬ (kd = 3 ∨ kd = 5) := by omega
      obtain rfl := hn.resolve_left hno
      rw [if_neg hno, List.append_nil] at h
      rw [show (kd == 5) = false by simpa using h3]
      refine Ev.succ ?_
      simp only [spec_DecodeRequest.j2, Bool.false_eq_true, if_false]
      exact h
theorem spec_rt (kd : Int) (t m : ByteArray) (nm : Int) (l : List Sm) (h1 : Enc.Good kd t m nm l) (h2 : ∀ y ∈ l, SampOK y) (h3 : (bodyL kd t m nm l).length ≤ 60000) (hg : Rg nm) (hgl : ∀ y ∈ l, Rg y.f1) :
    Ev (fun k => spec_DecodeRequest.f k (B (bodyL kd t m nm l))) (fin (B (bodyL kd t m nm l)) kd t m nm l) := by
  obtain ⟨hk, ht, hm, hn, hl, hts, hms, hl5⟩ := good_parts h1
  have hb := body_eq kd t m nm l
  obtain ⟨S, hS⟩ : ∃ S, S = bodyL kd t m nm l := ⟨_, rfl⟩
  rw [← hS] at h3 hb ⊢
  obtain ⟨X1, hX1⟩ : ∃ L, L = (if kd = 1 ∨ kd = 3 ∨ kd = 5 ∨ kd = 6 then s8L t else []) := ⟨_, rfl⟩
  obtain ⟨X2, hX2⟩ : ∃ L, L = (if kd = 3 ∨ kd = 5 then s16L m else []) := ⟨_, rfl⟩
  obtain ⟨X3, hX3⟩ : ∃ L, L = (if kd = 2 ∨ kd = 3 then nL 8 nm else []) := ⟨_, rfl⟩
  obtain ⟨X4, hX4⟩ : ∃ L, L = (if kd = 1 then nL 2 l.length ++ sampsL l else []) := ⟨_, rfl⟩
  rw [← hX1, ← hX2, ← hX3, ← hX4] at hb
  have g5 := s5_rt S h3 kd t m nm l hl hl5 (fun y hy => ⟨h2 y hy, hgl y hy⟩) (nL 1 kd ++ X1 ++ X2 ++ X3) (by rw [← hX4, hb]; simp only [List.append_assoc])
  have g3 := s3_rt S h3 kd t m nm _ (nL 1 kd ++ X1 ++ X2) X4 hg hn (by rw [← hX3, hb]; simp only [List.append_assoc]) (by rw [← hX3]; exact g5)
  have g1 := s1_rt S h3 kd t m _ (nL 1 kd ++ X1) (X3 ++ X4) hms hm (by rw [← hX2, hb]; simp only [List.append_assoc]) (by rw [← hX2]; exact g3)
  have hh := l5_1 [] (X1 ++ (X2 ++ (X3 ++ X4))) kd (by omega) (by omega) (by rw [List.nil_append, ← hb]; omega)
  rw [List.nil_append, ← hb] at hh
  unfold spec_DecodeRequest.f
  refine Ev.bind hh ?_
  have yes : ∀ c, c = true → (kd = 1 ∨ kd = 3 ∨ kd = 5 ∨ kd = 6) → Ev (fun k => spec_DecodeRequest.j0 k (B S) kd ((nL 1 kd).length : Int) c kd ⟨#[]⟩ ⟨#[]⟩ 0) (fin (B S) kd t m nm l) := by
    rintro c rfl hy
    rw [if_pos hy] at hX1
    subst hX1
    have e1 : S = nL 1 kd ++ s8L t ++ (X2 ++ (X3 ++ X4)) := by rw [hb]; simp only [List.append_assoc]
    have h8 := l3_8 (nL 1 kd) (X2 ++ (X3 ++ X4)) t hts (by rw [← e1]; omega)
    rw [← e1] at h8
    refine Ev.succ ?_
    simp only [spec_DecodeRequest.j0, if_true]
    exact Ev.bind h8 g1
  by_cases c1 : kd = 1
  · exact Ev.ite_pos c1 (yes true rfl (.inl c1))
  · refine Ev.ite_neg c1 ?_
    by_cases c3 : kd = 3
    · exact Ev.ite_pos c3 (yes true rfl (.inr (.inl c3)))
    · refine Ev.ite_neg c3 ?_
      by_cases c5 : kd = 5
      · exact Ev.ite_pos c5 (yes true rfl (.inr (.inr (.inl c5))))
      · refine Ev.ite_neg c5 ?_
        by_cases c6 : kd = 6
        · exact yes (kd == 6) (by simpa using c6) (.inr (.inr (.inr c6)))
        · have hno : ¬ (kd = 1 ∨ kd = 3 ∨ kd = 5 ∨ kd = 6) := by omega
          obtain rfl := ht.resolve_left hno
          rw [if_neg hno] at hX1
          subst hX1
          rw [List.append_nil] at g1
          rw [show (kd == 6) = false by simpa using c6]
          refine Ev.succ ?_
          simp only [spec_DecodeRequest.j0, Bool.false_eq_true, if_false]
          exact g1
/-! ### both -/
def Acc (s : ByteArray) : Prop := ∃ kd t m nm l, Enc.Good kd t m nm l ∧ (∀ y ∈ l, SampOK y) ∧ (bodyL kd t m nm l).length ≤ 60000 ∧ Rg nm ∧ (∀ y ∈ l, Rg y.f1) ∧ s = B (bodyL kd t m nm l)
theorem list_of (a b : ByteArray) : a.toList = b.toList ↔ a = b := by
  constructor
  · intro h
    rw [ByteArray.toList_eq, ByteArray.toList_eq] at h
    cases a; cases b
    simpa using h
  · rintro rfl; rfl
theorem fin_no (s : ByteArray) (h : ¬ Acc s) (kd : Int) (t m : ByteArray) (nm : Int) (l : List Sm) (hg : Rg nm) (hgl : ∀ y ∈ l, Rg y.f1) : fin s kd t m nm l = zero := by
  unfold fin
  split
  · rfl
  · rename_i hs
    split
    · rename_i he
      exfalso
      by_cases hc : Enc.Good kd t m nm l ∧ (∀ y ∈ l, SampOK y) ∧ (bodyL kd t m nm l).length ≤ 60000
      · refine h ⟨kd, t, m, nm, l, hc.1, hc.2.1, hc.2.2, hg, hgl, ?_⟩
        rw [← (list_of _ _).1 he, req_yes hc.1 hc.2.1 hc.2.2]; rfl
      · rw [req_no hc] at he
        exact hs (he.symm.trans (size_zero.2 rfl))
    · rfl
theorem dec_same (s : ByteArray) (hs : s.size ≤ 1048576) : ∃ (kd : Int) (t m : ByteArray) (nm : Int) (l : List Sm) (c : Bool), Ev (fun k => spec_DecodeRequest.f k s) (kd, t, m, nm, l, c) ∧ Ev (fun k => impl_DecodeRequest.f k s) (kd, t, m, nm, l, c) ∧ l.length ≤ 500 ∧ ∀ y ∈ l, y.f0.length ≤ 255 := by
  by_cases h : Acc s
  · obtain ⟨kd, t, m, nm, l, h1, h2, h3, hg, hgl, rfl⟩ := h
    have hf : fin (B (bodyL kd t m nm l)) kd t m nm l = (kd, t, m, nm, l, true) := by
      unfold fin
      rw [if_neg (body_ne kd t m nm l), if_pos (by rw [req_yes h1 h2 h3]; rfl)]
    have a := spec_rt kd t m nm l h1 h2 h3 hg hgl
    have b := impl_rt kd t m nm l h1 h2 h3 hg hgl
    rw [hf] at a b
    exact ⟨kd, t, m, nm, l, true, a, b, h1.2.2.2, fun y hy => (h2 y hy).1⟩
  · refine ⟨0, ⟨#[]⟩, ⟨#[]⟩, 0, [], false, ?_, ?_, by simp, by simp⟩
    · obtain ⟨kd, t, m, nm, l, a, hgl, hg⟩ := spec_any s hs
      rw [fin_no s h kd t m nm l hg hgl] at a
      exact a
    · by_cases hz : s.toList = [] ∨ 60000 < s.size
      · exact impl_zero s hz
      · obtain ⟨kd, t, m, nm, l, a, hgl, hg⟩ := impl_any s (fun e => hz (.inl e)) (Nat.le_of_not_lt (fun e => hz (.inr e)))
        rw [fin_no s h kd t m nm l hg hgl] at a
        exact a
end Go.Proofs.Ytbhjbbanhmjgnaa.ReqDec
/- Some of this seat's texts, joined by prune.py. -/
/- laws.FnExactDecodeRequest: the law's own walk. It answers true. -/
namespace Go.Proofs.Ytbhjbbanhmjgnaa.M
open Go.RowKit Go.Proofs.Ytbhjbbanhmjgnaa.ReqDec Go.Proofs.Ytbhjbbanhmjgnaa.Mark Go.Proofs.YtbhjbbanhmjgnaaW.PrintWords Go.Proofs.YtbhjbbanhmjgnaaW.PrintLast Go.Proofs.YtbhjbbanhmjgnaaW.PrintMore
set_option linter.unusedVariables false
set_option linter.unusedSimpArgs false
namespace LawDR
open MkS
theorem five {W : World} {g t : Nat} {a b c d e : Value} (h : W.heap[g]? = some (.cells #[a, b, c, d, e] t (0, 0))) :
    W.cell? ⟨g, 0, none⟩ = some a ∧ W.cell? ⟨g, 1, none⟩ = some b ∧ W.cell? ⟨g, 2, none⟩ = some c ∧ W.cell? ⟨g, 3, none⟩ = some d ∧ W.cell? ⟨g, 4, none⟩ = some e :=
  ⟨(blk_cell h 0).trans rfl, (blk_cell h 1).trans rfl, (blk_cell h 2).trans rfl, (blk_cell h 3).trans rfl, (blk_cell h 4).trans rfl⟩
theorem blk_below {W W' : World} {g : Nat} {o : Obj} (h : W.heap[g]? = some o) (hb : Below W.heap.size W W') : W'.heap[g]? = some o := (hb.block _ (blk_lt h)).trans h
set_option maxHeartbeats 8000000 in
set_option maxRecDepth 100000 in
theorem law (s : ByteArray) (w : World) (hm : s.size ≤ 9223372036854775807) : Calls Try.prog 5 #[.string s] w fun e w' => e = .returned (.bool true) ∧ Below w.heap.size w w' := by
  by_cases hs : s.size ≤ 1048576
  · obtain ⟨kd, t, m, nm, l, c, ⟨K1, h1⟩, ⟨K2, h2⟩, hl, hl2⟩ := dec_same s hs
    have H1 := Aside0.mk (h1 K1 (Nat.le_refl _))
    have H2 := Aside0.mk (h2 K2 (Nat.le_refl _))
    have HL := Aside0.mk hl
    have HL2 := Aside0.mk hl2
    clear h1 h2 hl hl2
    go_enter Try.func5, Try.ntmps5
    go_wp2_with fail
    refine (spec_DecodeRequest.calls K1 s kd t m nm l c w H1.out).mono ?_
    rintro e w1 ⟨v0, rfl, hS, hB⟩
    obtain ⟨A0, n0, rfl⟩ := Kd.S_slice hS
    have HS0 := Aside0.mk hS
    have HB0 := Aside0.mk hB
    clear hS hB
    obtain ⟨W1, hW1⟩ : ∃ W, w1.alloc (.cells #[.int .i64 kd, .string t, .string m, .int .i64 nm, .slice A0 l.length n0] 29) = W := ⟨_, rfl⟩
    have hx0 : W1.heap[w1.heap.size]? = some (.cells #[.int .i64 kd, .string t, .string m, .int .i64 nm, .slice A0 l.length n0] 29 (0, 0)) := by rw [← hW1]; exact blk_new w1 _
    have HX0 := Aside0.mk hx0
    have hz1 : w1.heap.size < W1.heap.size := blk_lt hx0
    have HS1 : Aside0 (Kd.S k65 65 W1 w.heap.size (fun k => k < W1.heap.size) (.slice A0 l.length n0) l) := ⟨by
      rw [← hW1]
      refine Kd.S_mono (Kd.S_bound (Kd.S_alloc HS0.out _)) (fun k hk => ?_)
      exact hk.2.2.1⟩
    have HB1 : Aside0 (Below w.heap.size w W1) := ⟨by rw [← hW1]; exact below_alloc HB0.out _⟩
    have HZ1 := Aside0.mk hz1
    clear hx0 hz1 HS0 HB0
    go_wp2_with fail
    clear hW1
    refine (impl_DecodeRequest.calls K2 s kd t m nm l c W1 H2.out).mono ?_
    rintro e w2 ⟨v1, rfl, hS, hB⟩
    obtain ⟨A1, n1, rfl⟩ := Kd.S_slice hS
    obtain ⟨W2, hW2⟩ : ∃ W, w2.alloc (.cells #[.int .i64 kd, .string t, .string m, .int .i64 nm, .slice A1 l.length n1] 29) = W := ⟨_, rfl⟩
    have hx1 : W2.heap[w2.heap.size]? = some (.cells #[.int .i64 kd, .string t, .string m, .int .i64 nm, .slice A1 l.length n1] 29 (0, 0)) := by rw [← hW2]; exact blk_new w2 _
    have HX1 := Aside0.mk hx1
    have HB2 : Aside0 (Below W1.heap.size W1 W2) := ⟨by rw [← hW2]; exact below_alloc hB _⟩
    have HS2 : Aside0 (Kd.S k65 65 W2 W1.heap.size (fun k => W1.heap.size ≤ k ∧ k < w2.heap.size) (.slice A1 l.length n1) l) := ⟨by
      rw [← hW2]
      refine Kd.S_alloc (Kd.S_mono (Kd.S_bound hS) (fun k hk => ?_)) _
      exact ⟨hk.2.1, hk.2.2.1⟩⟩
    have HX0b := Aside0.mk (blk_below HX0.out HB2.out)
    have hz2 : w2.heap.size < W2.heap.size := blk_lt hx1
    have hz12 : W1.heap.size ≤ w2.heap.size := hB.size
    have HZ2 := Aside0.mk hz2
    have HZ12 := Aside0.mk hz12
    have HS1b := Aside0.mk (Kd.S_below HS1.out HB2.out)
    clear hx1 hS hB hz2 hz12
    obtain ⟨ca0, ca1, ca2, ca3, ca4⟩ := five HX0b.out
    obtain ⟨cb0, cb1, cb2, cb3, cb4⟩ := five HX1.out
    go_wp2_with fail
    clear hW2
    obtain ⟨K3, h3⟩ := ReqLaws.eq_request kd t m nm l (by have := HL.out; omega) (fun x hx => by have := HL2.out x hx; omega)
    have H3 := Aside0.mk (h3 K3 (Nat.le_refl _))
    clear h3
    refine (laws_eqRequest.calls K3 kd t m nm A1 n1 l kd t m nm A0 n0 l true W2 (Kd.S_reads' HS2.out).2.2 (Kd.S_reads' HS2.out).2.1 (Kd.S_reads' HS1b.out).2.2 (Kd.S_reads' HS1b.out).2.1 H3.out).mono ?_
    rintro e w3 ⟨rfl, hB3⟩
    have HX0c := Aside0.mk (blk_below HX0b.out hB3)
    have HX1c := Aside0.mk (blk_below HX1.out hB3)
    have HS2c := Aside0.mk (Kd.S_below HS2.out hB3)
    have HS1c := Aside0.mk (Kd.S_below HS1b.out hB3)
    have HB3 := Aside0.mk (below_then HB2.out HB2.out.size hB3)
    have HZ3 := Aside0.mk (Nat.lt_of_lt_of_le HZ2.out hB3.size)
    clear ca0 ca1 ca2 ca3 ca4 cb0 cb1 cb2 cb3 cb4 hB3
    obtain ⟨ca0, ca1, ca2, ca3, ca4⟩ := five HX0c.out
    obtain ⟨cb0, cb1, cb2, cb3, cb4⟩ := five HX1c.out
    go_wp2_with fail
    clear ca0 ca1 ca2 ca3 ca4 cb0 cb1 cb2 cb3 cb4
    obtain ⟨K4, h4⟩ := mk_ev l 1 HL2.out (by have := HL.out; omega)
    have H4 : Aside0 (mk K4 l 1 = some (((eS l 1 : Nat) : Int), wS l 1)) := ⟨h4 K4 (Nat.le_refl _)⟩
    obtain ⟨K5, h5⟩ := held_request l kd t m nm HL2.out HL.out
    have H5 := Aside0.mk (h5 K5 (Nat.le_refl _))
    clear h4 h5
    have hlen : (wS l 1).length = l.length := wS_length l 1
    have HLen := Aside0.mk hlen
    clear hlen
    obtain ⟨E, hE⟩ : ∃ E : Nat, E = eS l 1 := ⟨_, rfl⟩
    obtain ⟨M, hM⟩ : ∃ M : List Sp, M = wS l 1 := ⟨_, rfl⟩
    rw [← hE, ← hM] at H4 H5
    rw [← hM] at HLen
    clear hE hM
    refine (markReq K4 (fun k => W1.heap.size ≤ k ∧ k < w2.heap.size) kd t m nm _ l 1 E M W1 w3 HB3.out HS2c.out (by have := HL.out; omega) H4.out).mono ?_
    rintro e w4 ⟨rfl, hS4, hB4, hK4⟩
    have HX0d := Aside0.mk (blk_kept HX0c.out hK4 (fun h => by have := HZ1.out; omega))
    have HX1d := Aside0.mk (blk_kept HX1c.out hK4 (fun h => by omega))
    have HS1d := Aside0.mk (Kd.S_kept HS1c.out hK4 (fun k hk h => by omega))
    have HS4 := Aside0.mk hS4
    have HB4 := Aside0.mk hB4
    clear hS4 hB4 hK4
    obtain ⟨cb0, cb1, cb2, cb3, cb4⟩ := five HX1d.out
    go_wp2_with fail
    clear cb0 cb1 cb2 cb3 cb4
    have hh := laws_heldRequest.calls K5 kd t m nm A1 n1 M 1 E w4 (by rw [HLen.out]; have := (Kd.S_reads' HS4.out).2.2; rw [HLen.out] at this; exact this) (by rw [HLen.out]; exact (Kd.S_reads' HS4.out).2.1) H5.out
    rw [HLen.out] at hh
    refine hh.mono ?_
    rintro e w5 ⟨rfl, hB5⟩
    have HX0e := Aside0.mk (blk_below HX0d.out hB5)
    have HX1e := Aside0.mk (blk_below HX1d.out hB5)
    have HS1e := Aside0.mk (Kd.S_below HS1d.out hB5)
    have HS4e := Aside0.mk (Kd.S_below HS4.out hB5)
    have HB5 := Aside0.mk (below_then HB4.out HB4.out.size hB5)
    clear hB5 hh
    have hE0 : (0 : Int) ≤ (E : Int) := Int.natCast_nonneg E
    go_wp2_with fail
    refine (impl_DecodeRequest.calls K2 s kd t m nm l c w5 H2.out).mono ?_
    rintro e w6 ⟨v2, rfl, hS, hB⟩
    obtain ⟨A2, n2, rfl⟩ := Kd.S_slice hS
    obtain ⟨W6, hW6⟩ : ∃ W, w6.alloc (.cells #[.int .i64 kd, .string t, .string m, .int .i64 nm, .slice A2 l.length n2] 29) = W := ⟨_, rfl⟩
    have hx2 : W6.heap[w6.heap.size]? = some (.cells #[.int .i64 kd, .string t, .string m, .int .i64 nm, .slice A2 l.length n2] 29 (0, 0)) := by rw [← hW6]; exact blk_new w6 _
    have HX2 := Aside0.mk hx2
    have HB6 : Aside0 (Below w5.heap.size w5 W6) := ⟨by rw [← hW6]; exact below_alloc hB _⟩
    have HS6 : Aside0 (Kd.S k65 65 W6 w5.heap.size (fun _ => True) (.slice A2 l.length n2) l) := ⟨by
      rw [← hW6]
      exact Kd.S_alloc hS _⟩
    have HX0f := Aside0.mk (blk_below HX0e.out HB6.out)
    have HX1f := Aside0.mk (blk_below HX1e.out HB6.out)
    have HS1f := Aside0.mk (Kd.S_below HS1e.out HB6.out)
    have HS4f := Aside0.mk (Kd.S_below HS4e.out HB6.out)
    have HB7 := Aside0.mk (below_then HB5.out HB5.out.size HB6.out)
    clear hx2 hS hB
    obtain ⟨ca0, ca1, ca2, ca3, ca4⟩ := five HX0f.out
    obtain ⟨cc0, cc1, cc2, cc3, cc4⟩ := five HX2.out
    go_wp2_with fail
    clear hW6 ca0 ca1 ca2 ca3 ca4 cc0 cc1 cc2 cc3 cc4
    refine (laws_eqRequest.calls K3 kd t m nm A2 n2 l kd t m nm A0 n0 l true W6 (Kd.S_reads' HS6.out).2.2 (Kd.S_reads' HS6.out).2.1 (Kd.S_reads' HS1f.out).2.2 (Kd.S_reads' HS1f.out).2.1 H3.out).mono ?_
    rintro e w7 ⟨rfl, hB7⟩
    have HX1g := Aside0.mk (blk_below HX1f.out hB7)
    have HS4g := Aside0.mk (Kd.S_below HS4f.out hB7)
    have HB8 := Aside0.mk (below_then HB7.out HB7.out.size hB7)
    clear hB7
    obtain ⟨cb0, cb1, cb2, cb3, cb4⟩ := five HX1g.out
    go_wp2_with fail
    clear cb0 cb1 cb2 cb3 cb4
    have hh := laws_heldRequest.calls K5 kd t m nm A1 n1 M 1 E w7 (by rw [HLen.out]; have := (Kd.S_reads' HS4g.out).2.2; rw [HLen.out] at this; exact this) (by rw [HLen.out]; exact (Kd.S_reads' HS4g.out).2.1) H5.out
    rw [HLen.out] at hh
    refine hh.mono ?_
    rintro e w8 ⟨rfl, hB8⟩
    have HB9 := Aside0.mk (below_then HB8.out HB8.out.size hB8)
    clear hB8 hh
    go_wp2_with fail
    go_ret
    exact ⟨rfl, below_then HB1.out HB1.out.size HB9.out⟩
  · go_enter Try.func5, Try.ntmps5
    go_wp2
    go_ret
    exact ⟨rfl, Below.refl _ _⟩
end LawDR
/-- What the law answers: true. -/
def laws_FnExactDecodeRequest.f (a0 : ByteArray) : Option Bool := if a0.size ≤ 9223372036854775807 then some true else none
theorem laws_FnExactDecodeRequest.calls (a0 : ByteArray) (r : Bool) (w : World) (h : laws_FnExactDecodeRequest.f a0 = some r) : Calls Try.prog 5 #[.string a0] w fun e w' => e = .returned (.bool r) ∧ Below w.heap.size w w' := by
  unfold laws_FnExactDecodeRequest.f at h
  by_cases hz : a0.size ≤ 9223372036854775807
  · rw [if_pos hz] at h
    obtain rfl := Option.some.inj h
    exact LawDR.law a0 w hz
  · rw [if_neg hz] at h
    cases h
end Go.Proofs.Ytbhjbbanhmjgnaa.M
/- Some of this seat's texts, joined by prune.py. -/
-- By pp.py, a program of this repo, with the kit's printer: Lean checks it.
namespace Go.Proofs.Ytbhjbbanhmjgnaa.M
open Go.RowKit Go.Proofs.YtbhjbbanhmjgnaaW.PrintWords Go.Proofs.YtbhjbbanhmjgnaaW.PrintLast Go.Proofs.YtbhjbbanhmjgnaaW.PrintMore
attribute [local go_sem] max2_int min2_int max_two min_two max_three min_three max_four min_four
set_option linter.unusedVariables false
set_option linter.unusedSimpArgs false

end Go.Proofs.Ytbhjbbanhmjgnaa.M
namespace Go.Proofs.Ytbhjbbanhmjgnaa.Pure
open Go.Proofs.Ytbhjbbanhmjgnaa.M Go.RowKit
/-- What is left to prove of laws_FnExactDecodeRequest. -/
def FnExactDecodeRequestPure : Prop := ∀ (a0 : ByteArray), a0.size ≤ maxLen → laws_FnExactDecodeRequest.f a0 = some true
end Go.Proofs.Ytbhjbbanhmjgnaa.Pure
namespace Go.Proofs.Ytbhjbbanhmjgnaa.M
end Go.Proofs.Ytbhjbbanhmjgnaa.M
/- The program's DecodeRequest answers what the reference's answers, for every text that the statement's guard lets in; what it gives owns its memory. No conditions. -/
namespace Go.Proofs.Ytbhjbbanhmjgnaa.Pure
open Go.Proofs.Ytbhjbbanhmjgnaa.M Go.RowKit
theorem FnExactDecodeRequest : FnExactDecodeRequestPure := by
  intro a0 h
  unfold laws_FnExactDecodeRequest.f
  exact if_pos h
end Go.Proofs.Ytbhjbbanhmjgnaa.Pure
