/- Batches read: both decoders accept just what EncodeBatch writes, and give what was written. Plain. -/
import Derived.Test.YtogoblkehdmapaaDoorF27
import Derived.Test.YtogoblkehdmapaaDoorF19
import Derived.Test.YtogoblkehdmapaaDoorXSBd
import Derived.Test.YtogoblkehdmapaaDoorF12
namespace Go.Proofs.YtogoblkehdmapaaDoor.BatDec
open Go.Proofs.YtogoblkehdmapaaDoor.M Go.Proofs.YtogoblkehdmapaaDoor.M.Bat Go.Proofs.YtogoblkehdmapaaDoor.Loops Go.Proofs.YtogoblkehdmapaaDoor.DecLib Go.Proofs.YtogoblkehdmapaaDoor.M.Enc Go.Proofs.YtogoblkehdmapaaDoorW.PrintWords Go.Proofs.YtogoblkehdmapaaDoorW.PrintLast Go.Proofs.YtogoblkehdmapaaDoorW.PrintMore Go.RowKit
set_option linter.unusedVariables false
set_option linter.unusedSimpArgs false
abbrev Out := Int × List Rc × Bool
def In64 (v : Int) : Prop := -9223372036854775808 ≤ v ∧ v ≤ 9223372036854775807
theorem in_wrap (v : Int) : In64 (wrap64 v) := by unfold In64 wrap64; omega
def InR (l : List Rc) : Prop := ∀ x ∈ l, In64 x.f3
theorem inr_snoc {l : List Rc} {x : Rc} (h : InR l) (hx : In64 x.f3) : InR (l ++ [x]) := by
  intro y hy
  rcases List.mem_append.1 hy with hy | hy
  · exact h y hy
  · rw [List.mem_singleton] at hy; subst hy; exact hx
/-- What is given behind the reading. -/
def fin (s : ByteArray) (n : Int) (l : List Rc) : Out := if s.toList = [] then (0, [], false) else if (bat n l).toList = s.toList then (n, l, true) else (0, [], false)
def batL (n : Int) (l : List Rc) : List UInt8 := hdL n l ++ recsL l
theorem bat_good (n : Int) (l : List Rc) (s : ByteArray) (h : (bat n l).toList = s.toList) (hs : ¬ s.toList = []) : batOK n l = true ∧ s = B (batL n l) := by
  unfold bat at h
  by_cases hc : batOK n l = true
  · rw [if_pos hc] at h
    refine ⟨hc, ?_⟩
    rw [ByteArray.toList_eq, ByteArray.toList_eq] at h
    rw [← B_list s, ← h]
    rfl
  · rw [if_neg hc, ByteArray.toList_eq] at h
    exact absurd h.symm hs
theorem fin_none (s : ByteArray) : fin s 0 [] = (0, [], false) := by
  unfold fin
  by_cases h0 : s.toList = []
  · rw [if_pos h0]
  · rw [if_neg h0, if_neg]
    intro h
    have := (bat_good 0 [] s h h0).1
    unfold batOK at this
    simp at this
theorem fin_ev (s : ByteArray) (n : Int) (l : List Rc) (E : Option ByteArray) (h : E = some (bat n l)) :
    Ev (fun _ => if s.toList = ([] : List UInt8) then (some (0, ([] : List Rc), false)) else (E.bind fun t => (if t.toList = s.toList then (some (n, l, true)) else (some (0, ([] : List Rc), false))))) (fin s n l) := by
  by_cases h0 : s.toList = []
  · have e : fin s n l = (0, [], false) := by unfold fin; rw [if_pos h0]
    rw [e]; exact Ev.ite_pos h0 (Ev.now _)
  · by_cases h1 : (bat n l).toList = s.toList
    · have e : fin s n l = (n, l, true) := by unfold fin; rw [if_neg h0, if_pos h1]
      rw [e, h]; exact Ev.ite_neg h0 (Ev.ite_pos h1 (Ev.now _))
    · have e : fin s n l = (0, [], false) := by unfold fin; rw [if_neg h0, if_neg h1]
      rw [e, h]; exact Ev.ite_neg h0 (Ev.ite_neg h1 (Ev.now _))
theorem enc_impl (n : Int) (l : List Rc) : impl_EncodeBatch.f n l = some (bat n l) := by
  unfold impl_EncodeBatch.f impl_batchText.f
  simp only [Option.bind_some]
/-! ### the program's reader -/
theorem impl_end (s rest : ByteArray) (n : Int) (q : Nat) (acc : List Rc) : Ev (fun k => impl_DecodeBatch.l0 k s (q : Int) (q : Int) rest n acc) (fin s n acc) := by
  refine Ev.step (fun k => ?_) (fin_ev s n acc _ (enc_impl n acc))
  simp only [impl_DecodeBatch.l0]
  rw [if_neg (by omega)]
theorem num8_in (r : ByteArray) (hr : r.size ≤ 9223372036854775807) : ∃ (v : Int) (r' : ByteArray), In64 v ∧ r'.size ≤ r.size ∧ impl_source_num.f r 8 = some (v, r') := by
  have h := num_f r 8 hr
  exact ⟨_, _, in_wrap _, by rw [ByteArray.size_extract]; omega, h⟩
theorem impl_any (s : ByteArray) (n : Int) (q : Nat) (hq : q ≤ 65535) : ∀ m i, i + m = q → ∀ (acc : List Rc) (rest : ByteArray), acc.length ≤ i → rest.size ≤ 1048576 → InR acc → ∃ n' l, InR l ∧ Ev (fun k => impl_DecodeBatch.l0 k s (q : Int) (i : Int) rest n acc) (fin s n' l) := by
  intro m
  induction m with
  | zero =>
    intro i hi acc rest ha hr hf
    obtain rfl : i = q := by omega
    exact ⟨n, acc, hf, impl_end s rest n i acc⟩
  | succ m ih =>
    intro i hi acc rest ha hr hf
    by_cases h0 : rest.toList = []
    · refine ⟨0, [], (fun x hx => by cases hx), ?_⟩
      rw [fin_none]
      refine Ev.step (f := fun _ => some (0, ([] : List Rc), false)) (fun k => ?_) (Ev.now _)
      simp only [impl_DecodeBatch.l0]
      rw [if_pos (by omega), if_pos h0]
    · obtain ⟨v, r1, hr1, h1⟩ := num_any rest 1 (by omega)
      obtain ⟨t, r2, ht, hr2, h2⟩ := s8_any r1 (by omega)
      obtain ⟨u, r3, hu, hr3, h3⟩ := s16_any r2 (by omega)
      obtain ⟨w, r4, hw, hr4, h4⟩ := num8_in r3 (by omega)
      obtain ⟨n', l, hl, hev⟩ := ih (i + 1) (by omega) (acc ++ [(⟨v, t, u, w⟩ : Rc)]) r4 (by simp; omega) (by omega) (inr_snoc hf hw)
      refine ⟨n', l, hl, Ev.step (fun k => ?_) hev⟩
      simp only [impl_DecodeBatch.l0]
      rw [if_pos (by omega), if_neg h0, show impl_source_num.f rest 1 = some (v, r1) from h1, Option.bind_some, h2, Option.bind_some, h3, Option.bind_some, h4, Option.bind_some, if_pos (by omega), w_succ i (by omega)]
theorem impl_total (s : ByteArray) (hs : s.size ≤ 1048576) : ∃ n l, InR l ∧ Ev (fun k => impl_DecodeBatch.f k s) (fin s n l) := by
  obtain ⟨v, r1, _, hr1, h1⟩ := num8_in s (by omega)
  obtain ⟨q, hq, h2⟩ := num_small r1 2 (.inr rfl) (by omega)
  obtain ⟨n', l, hl, hev⟩ := impl_any s v q hq q 0 (by omega) [] (r1.extract (min 2 r1.size) r1.size) (Nat.le_refl _) (by rw [ByteArray.size_extract]; omega) (fun x hx => by cases hx)
  refine ⟨n', l, hl, ?_⟩
  unfold impl_DecodeBatch.f
  rw [h1]
  simp only [Option.bind_some]
  rw [show impl_source_num.f r1 2 = some ((q : Int), r1.extract (min 2 r1.size) r1.size) from h2]
  simp only [Option.bind_some]
  exact hev
def Good (l : List Rc) : Prop := ∀ x ∈ l, okR x = true ∧ In64 x.f3
theorem rec_in {x : Rc} (h : okR x = true) : 0 ≤ x.f0 ∧ x.f0 ≤ 255 ∧ x.f1.size ≤ 255 ∧ x.f2.size ≤ 65535 := by
  unfold okR at h
  simp only [Bool.and_eq_true, decide_eq_true_eq] at h
  obtain ⟨h0, h1, h2⟩ := h
  unfold recB at h0
  by_cases k1 : x.f0 = 1
  · exact ⟨by omega, by omega, h1, h2⟩
  · rw [if_neg k1] at h0
    by_cases k2 : x.f0 = 2
    · exact ⟨by omega, by omega, h1, h2⟩
    · rw [if_neg k2] at h0
      have := of_decide_eq_true h0
      exact ⟨by omega, by omega, h1, h2⟩
theorem recs_cons (y : Rc) (ls : List Rc) : recsL (y :: ls) = nL 1 y.f0 ++ (s8L y.f1 ++ (s16L y.f2 ++ (nL 8 y.f3 ++ recsL ls))) := by
  show recL y ++ recsL ls = _
  unfold recL
  simp only [List.append_assoc]
theorem recs_len (l : List Rc) (h : Good l) (hn : l.length ≤ 500) : (recsL l).length ≤ 40000000 := by
  have := recs_le l (fun x hx => (h x hx).1)
  have e2 : l.length * 65802 ≤ 500 * 65802 := Nat.mul_le_mul_right _ hn
  omega
theorem impl_rt (s : ByteArray) (n : Int) (q : Nat) (hq : q ≤ 500) : ∀ (ls done : List Rc), Good ls → done.length + ls.length = q → Ev (fun k => impl_DecodeBatch.l0 k s (q : Int) (done.length : Int) (B (recsL ls)) n done) (fin s n (done ++ ls)) := by
  intro ls
  induction ls with
  | nil =>
    intro done _ hl
    simp only [List.length_nil, Nat.add_zero] at hl
    rw [List.append_nil, ← hl]
    exact impl_end s _ n done.length done
  | cons y ls ih =>
    intro done hg hl
    simp only [List.length_cons] at hl
    have hgl : Good ls := fun x hx => hg x (List.mem_cons_of_mem _ hx)
    have hlen := recs_len ls hgl (by omega)
    obtain ⟨hok, hin⟩ := hg y List.mem_cons_self
    obtain ⟨k0, k1, k2, k3⟩ := rec_in hok
    have h := ih (done ++ [y]) hgl (by simp; omega)
    rw [show (done ++ [y]).length = done.length + 1 by simp, List.append_assoc] at h
    have l8 := s8L_length y.f1
    have l16 := s16L_length y.f2
    have ln := nL_length 8 y.f3
    have hne : ¬ (B (recsL (y :: ls))).toList = [] := by
      rw [ByteArray.toList_eq]
      intro hh
      have : (recsL (y :: ls)).length = 0 := by
        have := congrArg List.length hh
        exact this
      rw [recs_cons, List.length_append, nL_length] at this
      omega
    refine Ev.step (fun k => ?_) h
    simp only [impl_DecodeBatch.l0]
    rw [if_pos (by omega), if_neg hne, recs_cons, num1_rt y.f0 _ k0 k1 (by simp only [List.length_append]; omega), Option.bind_some, s8_rt y.f1 _ k2 (by simp only [List.length_append]; omega), Option.bind_some, s16_rt y.f2 _ k3 (by simp only [List.length_append]; omega), Option.bind_some, num8_rt y.f3 _ hin.1 hin.2 (by omega), Option.bind_some, if_pos (by omega), w_succ _ (by omega)]
theorem impl_back (n : Int) (l : List Rc) (hb : batOK n l = true) (hr : InR l) : Ev (fun k => impl_DecodeBatch.f k (B (batL n l))) (fin (B (batL n l)) n l) := by
  unfold batOK at hb
  simp only [Bool.and_eq_true, decide_eq_true_eq, List.all_eq_true] at hb
  obtain ⟨hn, hl, ha⟩ := hb
  have hg : Good l := fun x hx => ⟨ha x hx, hr x hx⟩
  have hlen := recs_len l hg hl.2
  have l2 := nL_length 2 (l.length : Int)
  have e : batL n l = nL 8 n ++ (nL 2 (l.length : Int) ++ recsL l) := by unfold batL hdL; rw [List.append_assoc]
  have h := impl_rt (B (batL n l)) n l.length hl.2 l [] hg (by simp)
  unfold impl_DecodeBatch.f
  rw [show impl_source_num.f (B (batL n l)) 8 = some (n, B (nL 2 (l.length : Int) ++ recsL l)) by rw [e]; exact num8_rt n _ (by omega) (by omega) (by rw [List.length_append]; omega)]
  simp only [Option.bind_some]
  rw [num2_rt (l.length : Int) (recsL l) (by omega) (by omega) (by omega)]
  simp only [Option.bind_some]
  exact h
/-! ### the reference's reader -/
theorem l5_in (s : ByteArray) (p : Int) (hp : At s p) (hs : s.size ≤ 9223372036854775000) : ∃ v p', In64 v ∧ Ev (fun q => spec_l5Num.f q s p 8) (v, p') ∧ At s p' := by
  rcases hp with rfl | ⟨i, rfl, hi⟩
  · refine ⟨0, -1, ⟨by decide, by decide⟩, ?_, .inl rfl⟩
    unfold spec_l5Num.f
    exact Ev.ite_pos (by omega) (Ev.now _)
  · by_cases h : i + 8 ≤ s.size
    · exact ⟨_, _, in_wrap _, l5_at s i 8 h hs, .inr ⟨i + 8, rfl, h⟩⟩
    · refine ⟨0, -1, ⟨by decide, by decide⟩, ?_, .inl rfl⟩
      have e : wrap64 ((i : Int) + 8) = ((i + 8 : Nat) : Int) := by rw [w_id _ (by omega) (by omega)]; omega
      unfold spec_l5Num.f
      rw [e]
      exact Ev.ite_neg (by omega) (Ev.ite_pos (by omega) (Ev.now _))
theorem spec_fin (s : ByteArray) (n p : Int) (q i : Nat) (acc : List Rc) : Ev (fun k => spec_DecodeBatch.j1 k s p (q : Int) (i : Int) false n acc) (fin s n acc) := by
  refine Ev.step (fun k => ?_) (fin_ev s n acc (spec_EncodeBatch.f n acc) rfl)
  simp only [spec_DecodeBatch.j1, Bool.false_eq_true, if_false]
theorem spec_end (s : ByteArray) (n p : Int) (q i : Nat) (hi : q ≤ i) (acc : List Rc) : Ev (fun k => spec_DecodeBatch.l0 k s p (q : Int) (i : Int) n acc) (fin s n acc) := by
  refine Ev.step (fun k => ?_) (spec_fin s n p q i acc)
  simp only [spec_DecodeBatch.l0]
  rw [if_neg (by omega)]
theorem spec_step (k : Nat) (s : ByteArray) (n p : Int) (q i : Nat) (hi : i < q) (hp : 0 ≤ p) (acc : List Rc) (ha : acc.length ≤ i) (hq : q ≤ 65535) :
    spec_DecodeBatch.l0 (k + 2) s p (q : Int) (i : Int) n acc = (spec_l5Num.f k s p 1).bind fun bt175 => ((spec_l3Part.f k s bt175.2 1).bind fun bt177 => ((spec_l3Part.f k s bt177.2 2).bind fun bt179 => ((spec_l5Num.f k s bt179.2 8).bind fun bt181 => spec_DecodeBatch.l0 k s bt181.2 (q : Int) ((i + 1 : Nat) : Int) n (acc ++ [(⟨bt175.1, bt177.1, bt179.1, bt181.1⟩ : Rc)])))) := by
  conv => lhs; unfold spec_DecodeBatch.l0
  rw [if_pos (by omega), decide_eq_true (show p ≥ 0 by omega)]
  conv => lhs; unfold spec_DecodeBatch.j1
  simp only [if_true, if_pos (show acc.length < 2932031007402 by omega), w_succ i (by omega)]
theorem ev2 {α : Type} {g f : Nat → Option α} {r : α} (h : ∀ k, g (k + 2) = f k) (k : Ev f r) : Ev g r := by
  obtain ⟨K, hK⟩ := k
  refine ⟨K + 2, fun n hn => ?_⟩
  obtain ⟨m, rfl⟩ : ∃ m, n = m + 2 := ⟨n - 2, by omega⟩
  rw [h]
  exact hK m (by omega)
theorem spec_any (s : ByteArray) (hs : s.size ≤ 1048576) (n : Int) (q : Nat) (hq : q ≤ 65535) : ∀ m i, i + m = q → ∀ (acc : List Rc) (p : Int), acc.length ≤ i → At s p → InR acc → ∃ l, InR l ∧ Ev (fun k => spec_DecodeBatch.l0 k s p (q : Int) (i : Int) n acc) (fin s n l) := by
  intro m
  induction m with
  | zero =>
    intro i hi acc p ha hp hf
    exact ⟨acc, hf, spec_end s n p q i (by omega) acc⟩
  | succ m ih =>
    intro i hi acc p ha hp hf
    by_cases h0 : 0 ≤ p
    · obtain ⟨v, p1, h1, hp1⟩ := l5_any s p 1 (by omega) hp (by omega)
      obtain ⟨t, p2, h2, hp2, ht⟩ := l3_any s p1 1 (.inl rfl) hp1 (by omega)
      obtain ⟨u, p3, h3, hp3, hu⟩ := l3_any s p2 2 (.inr rfl) hp2 (by omega)
      obtain ⟨w, p4, hw, h4, hp4⟩ := l5_in s p3 hp3 (by omega)
      obtain ⟨l, hl, hev⟩ := ih (i + 1) (by omega) (acc ++ [(⟨v, t, u, w⟩ : Rc)]) p4 (by simp; omega) hp4 (inr_snoc hf hw)
      exact ⟨l, hl, ev2 (fun k => spec_step k s n p q i (by omega) h0 acc ha hq) (Ev.bind h1 (Ev.bind h2 (Ev.bind h3 (Ev.bind h4 hev))))⟩
    · refine ⟨acc, hf, Ev.step (fun k => ?_) (spec_fin s n p q i acc)⟩
      simp only [spec_DecodeBatch.l0]
      rw [if_pos (by omega), decide_eq_false (by omega)]
theorem spec_total (s : ByteArray) (hs : s.size ≤ 1048576) : ∃ n l, InR l ∧ Ev (fun k => spec_DecodeBatch.f k s) (fin s n l) := by
  obtain ⟨v, p1, _, h1, hp1⟩ := l5_in s 0 (.inr ⟨0, rfl, Nat.zero_le _⟩) (by omega)
  obtain ⟨q, p2, hq, h2, hp2⟩ := l5_small s p1 2 (.inr rfl) hp1 (by omega)
  obtain ⟨l, hl, hev⟩ := spec_any s hs v q hq q 0 (by omega) [] p2 (Nat.le_refl _) hp2 (fun x hx => by cases hx)
  refine ⟨v, l, hl, ?_⟩
  unfold spec_DecodeBatch.f
  exact Ev.bind h1 (Ev.bind h2 hev)
theorem spec_rt (n : Int) (all : List Rc) (hall : all.length ≤ 500) (hga : Good all) : ∀ (ls done : List Rc), Good ls → done ++ ls = all →
    Ev (fun k => spec_DecodeBatch.l0 k (B (batL n all)) ((hdL n all ++ recsL done).length : Int) (all.length : Int) (done.length : Int) n done) (fin (B (batL n all)) n all) := by
  have hlen := recs_len all hga hall
  have htot : (batL n all).length ≤ 40000010 := by unfold batL; rw [List.length_append, hdL_length]; omega
  intro ls
  induction ls with
  | nil =>
    intro done _ he
    rw [List.append_nil] at he
    subst he
    exact spec_end _ n _ done.length done.length (Nat.le_refl _) done
  | cons y ls ih =>
    intro done hg he
    have hgl : Good ls := fun x hx => hg x (List.mem_cons_of_mem _ hx)
    obtain ⟨hok, hin⟩ := hg y List.mem_cons_self
    obtain ⟨k0, k1, k2, k3⟩ := rec_in hok
    have hdl : done.length + (ls.length + 1) = all.length := by rw [← he]; simp
    have h := ih (done ++ [y]) hgl (by rw [List.append_assoc]; exact he)
    rw [show (done ++ [y]).length = done.length + 1 by simp] at h
    have ea : batL n all = (hdL n all ++ recsL done) ++ nL 1 y.f0 ++ (s8L y.f1 ++ (s16L y.f2 ++ (nL 8 y.f3 ++ recsL ls))) := by
      unfold batL
      rw [show recsL all = recsL done ++ recsL (y :: ls) by rw [← he]; unfold recsL; rw [List.flatMap_append], recs_cons]
      simp only [List.append_assoc]
    have eb : batL n all = (hdL n all ++ recsL done ++ nL 1 y.f0) ++ s8L y.f1 ++ (s16L y.f2 ++ (nL 8 y.f3 ++ recsL ls)) := by rw [ea]; simp only [List.append_assoc]
    have ec : batL n all = (hdL n all ++ recsL done ++ nL 1 y.f0 ++ s8L y.f1) ++ s16L y.f2 ++ (nL 8 y.f3 ++ recsL ls) := by rw [ea]; simp only [List.append_assoc]
    have ed : batL n all = (hdL n all ++ recsL done ++ nL 1 y.f0 ++ s8L y.f1 ++ s16L y.f2) ++ nL 8 y.f3 ++ recsL ls := by rw [ea]; simp only [List.append_assoc]
    have h1 := l5_1 (hdL n all ++ recsL done) (s8L y.f1 ++ (s16L y.f2 ++ (nL 8 y.f3 ++ recsL ls))) y.f0 k0 k1 (by rw [← ea]; omega)
    have h2 := l3_8 (hdL n all ++ recsL done ++ nL 1 y.f0) (s16L y.f2 ++ (nL 8 y.f3 ++ recsL ls)) y.f1 k2 (by rw [← eb]; omega)
    have h3 := l3_16 (hdL n all ++ recsL done ++ nL 1 y.f0 ++ s8L y.f1) (nL 8 y.f3 ++ recsL ls) y.f2 k3 (by rw [← ec]; omega)
    have h4 := l5_8 (hdL n all ++ recsL done ++ nL 1 y.f0 ++ s8L y.f1 ++ s16L y.f2) (recsL ls) y.f3 hin.1 hin.2 (by rw [← ed]; omega)
    rw [← ea] at h1
    rw [← eb] at h2
    rw [← ec] at h3
    rw [← ed] at h4
    have ep : (hdL n all ++ recsL done ++ nL 1 y.f0 ++ s8L y.f1 ++ s16L y.f2 ++ nL 8 y.f3) = hdL n all ++ recsL (done ++ [y]) := by
      rw [recs_snoc]
      unfold recL
      simp only [List.append_assoc]
    rw [ep] at h4
    exact ev2 (fun k => spec_step k _ n _ all.length done.length (by omega) (by omega) done (Nat.le_refl _) (by omega)) (Ev.bind h1 (Ev.bind h2 (Ev.bind h3 (Ev.bind h4 h))))
theorem spec_back (n : Int) (l : List Rc) (hb : batOK n l = true) (hr : InR l) : Ev (fun k => spec_DecodeBatch.f k (B (batL n l))) (fin (B (batL n l)) n l) := by
  unfold batOK at hb
  simp only [Bool.and_eq_true, decide_eq_true_eq, List.all_eq_true] at hb
  obtain ⟨hn, hl, ha⟩ := hb
  have hg : Good l := fun x hx => ⟨ha x hx, hr x hx⟩
  have hlen := recs_len l hg hl.2
  have l2 := nL_length 2 (l.length : Int)
  have l8 := nL_length 8 n
  have ea : batL n l = [] ++ nL 8 n ++ (nL 2 (l.length : Int) ++ recsL l) := by unfold batL hdL; rw [List.append_assoc]; rfl
  have eb : batL n l = ([] ++ nL 8 n) ++ nL 2 (l.length : Int) ++ recsL l := by unfold batL hdL; rfl
  have h1 := l5_8 [] (nL 2 (l.length : Int) ++ recsL l) n (by omega) (by omega) (by rw [← ea]; unfold batL; rw [List.length_append, hdL_length]; omega)
  have h2 := l5_2 ([] ++ nL 8 n) (recsL l) (l.length : Int) (by omega) (by omega) (by rw [← eb]; unfold batL; rw [List.length_append, hdL_length]; omega)
  rw [← ea] at h1
  rw [← eb] at h2
  have h3 := spec_rt n l hl.2 hg l [] hg rfl
  unfold spec_DecodeBatch.f
  refine Ev.bind h1 (Ev.bind h2 ?_)
  have e : hdL n l ++ recsL [] = [] ++ nL 8 n ++ nL 2 (l.length : Int) := by unfold hdL recsL; simp
  rw [e] at h3
  exact h3
/-- Both decoders give the same. -/
theorem same_dec (s : ByteArray) (hs : s.size ≤ 1048576) : ∃ n l, Ev (fun k => impl_DecodeBatch.f k s) (fin s n l) ∧ Ev (fun k => spec_DecodeBatch.f k s) (fin s n l) := by
  obtain ⟨n, a, hra, ha⟩ := impl_total s hs
  obtain ⟨n', b, hrb, hb⟩ := spec_total s hs
  by_cases h0 : s.toList = []
  · have e : fin s n a = fin s n' b := by unfold fin; rw [if_pos h0, if_pos h0]
    exact ⟨n', b, e ▸ ha, hb⟩
  · by_cases h1 : (bat n a).toList = s.toList
    · obtain ⟨hg, rfl⟩ := bat_good n a s h1 h0
      exact ⟨n, a, impl_back n a hg hra, spec_back n a hg hra⟩
    · by_cases h2 : (bat n' b).toList = s.toList
      · obtain ⟨hg, rfl⟩ := bat_good n' b s h2 h0
        exact ⟨n', b, impl_back n' b hg hrb, spec_back n' b hg hrb⟩
      · have e : fin s n a = fin s n' b := by unfold fin; rw [if_neg h0, if_neg h0, if_neg h1, if_neg h2]
        exact ⟨n', b, e ▸ ha, hb⟩
theorem fin_len (s : ByteArray) (n : Int) (l : List Rc) : (fin s n l).2.1.length ≤ 500 := by
  unfold fin
  by_cases h0 : s.toList = []
  · rw [if_pos h0]; exact Nat.zero_le _
  · rw [if_neg h0]
    by_cases h1 : (bat n l).toList = s.toList
    · rw [if_pos h1]
      have := (bat_good n l s h1 h0).1
      unfold batOK at this
      simp only [Bool.and_eq_true, decide_eq_true_eq] at this
      exact this.2.1.2
    · rw [if_neg h1]; exact Nat.zero_le _
end Go.Proofs.YtogoblkehdmapaaDoor.BatDec
