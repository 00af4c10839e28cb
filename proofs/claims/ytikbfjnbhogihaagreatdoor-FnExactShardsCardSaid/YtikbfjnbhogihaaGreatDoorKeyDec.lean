import Derived.Test.YtikbfjnbhogihaaGreatDoorF93
import Derived.Test.YtikbfjnbhogihaaGreatDoorF51
import Derived.Test.YtikbfjnbhogihaaGreatDoorF38
import Derived.Test.YtikbfjnbhogihaaGreatDoorF104
import Derived.Test.YtikbfjnbhogihaaGreatDoorKp
import Derived.Test.YtikbfjnbhogihaaGreatDoorMp
import Derived.Test.YtikbfjnbhogihaaGreatDoorSShelf
import Derived.Test.YtikbfjnbhogihaaGreatDoorM0
/- Keys read: both decoders accept just what EncodeKey writes, and give what was written. Plain. -/
namespace Go.Proofs.YtikbfjnbhogihaaGreatDoor.KeyDec
open Go.Proofs.YtikbfjnbhogihaaGreatDoor.M Go.Proofs.YtikbfjnbhogihaaGreatDoor.Loops Go.Proofs.YtikbfjnbhogihaaGreatDoor.Can Go.Proofs.YtikbfjnbhogihaaGreatDoor.Utf Go.Proofs.YtikbfjnbhogihaaGreatDoor.Key Go.Proofs.YtikbfjnbhogihaaGreatDoor.LabLaws Go.Proofs.YtikbfjnbhogihaaGreatDoor.DecLib Go.Proofs.YtikbfjnbhogihaaGreatDoor.M.Enc Go.Proofs.YtikbfjnbhogihaaGreatDoorW.PrintWords Go.Proofs.YtikbfjnbhogihaaGreatDoorW.PrintLast Go.Proofs.YtikbfjnbhogihaaGreatDoorW.PrintMore Go.RowKit
set_option linter.unusedVariables false
set_option linter.unusedSimpArgs false
abbrev Lab := S141
abbrev Out := List Lab × Bool
/-! ### what a key's labels are -/
theorem width4 (s : ByteArray) (pos : Nat) : (Utf8.decode s pos).2 ≤ 4 := by
 rw [Lib.decode_at]
 rcases Lib.decodeN_shape (s.size - pos) (s.get! pos).toNat (s.get! (pos + 1)).toNat (s.get! (pos + 2)).toNat (s.get! (pos + 3)).toNat with h | h | h | h | h
 ·rw [h.2]; exact (by omega : 1 ≤ 4)
 ·rw [h.2.2.2.2]; exact (by omega : 2 ≤ 4)
 ·rw [h.2.2.2.2.2.2]; exact (by omega : 3 ≤ 4)
 ·rw [h.2.2.2.2.2.2.2]; exact (by omega : 4 ≤ 4)
 ·rw [h]; exact (by omega : 1 ≤ 4)
theorem scan_size (s : ByteArray) : ∀ (b pos : Nat) (rs : List Nat), s.size ≤ pos + b → scan s b pos = some rs → s.size ≤ pos + 4 * rs.length := by
 intro b
 induction b with
 | zero => intro pos rs h _; omega
 | succ b ih =>
  intro pos rs h hs
  by_cases hp : pos < s.size
  ·by_cases hb : bad s pos
   ·rw [scan_bad s b pos hp hb] at hs; cases hs
   ·rw [scan_step s b pos hp hb] at hs
    obtain ⟨t, ht, rfl⟩ := Option.map_eq_some_iff.1 hs
    have hw := width_pos s pos hp
    have h4 := width4 s pos
    have := ih _ t (by omega) ht
    rw [List.length_cons]; omega
  ·omega
theorem vf_size (s : ByteArray) (h : vf s = 0) : s.size ≤ 512 := by
 unfold vf at h
 cases hs : scan s s.size 0 with
 | none => rw [hs] at h; cases h
 | some rs =>
  rw [hs] at h
  have := scan_size s s.size 0 rs (by omega) hs
  unfold fin at h
  simp only [Nat.zero_add] at h
  by_cases h1 : 128 < rs.length
  ·rw [if_pos h1] at h; cases h
  ·omega
theorem fault_zero {x : Lab} (h : fault x = 0) : LabOK x := by
 unfold fault at h
 cases hn : nameOK x.f0 with
 | false => rw [hn] at h; cases h
 | true =>
  rw [hn] at h
  have hv := vf_size x.f1 h
  unfold nameOK at hn
  have := of_decide_eq_true (Bool.and_eq_true_iff.1 hn).1
  exact ⟨by omega, by omega⟩
theorem firstF_none : ∀ (l : List Lab) (i : Nat), firstF l i = none → ∀ x ∈ l, fault x = 0
 | [], _, _, x, hx => by cases hx
 | y :: l, i, h, x, hx => by
  by_cases h0 : fault y = 0
  ·rw [firstF_ok h0] at h
   rcases List.mem_cons.1 hx with rfl | hx
   ·exact h0
   ·exact firstF_none l _ h x hx
  ·rw [firstF_bad h0] at h; cases h
theorem firstF_some : ∀ (l : List Lab) (i : Nat) (c : Int) (j : Nat), firstF l i = some (c, j) → c ≠ 0
 | [], _, _, _, h => by cases h
 | y :: l, i, c, j, h => by
  by_cases h0 : fault y = 0
  ·rw [firstF_ok h0] at h
   exact firstF_some l _ c j h
  ·rw [firstF_bad h0] at h
   cases h
   exact h0
def Good (l : List Lab) : Prop := l.length ≤ 16 ∧ ∀ x ∈ l, LabOK x
theorem can_ok {l : List Lab} (h : (can l).2.1 = 0) : Good l := by
 by_cases h16 : 16 < l.length
 ·rw [can_many h16] at h; cases h
 ·cases hf : firstF l 0 with
  | none => exact ⟨by omega, fun x hx => fault_zero (firstF_none l 0 hf x hx)⟩
  | some cj =>
   obtain ⟨c, j⟩ := cj
   rw [can_fault h16 hf] at h
   exact absurd h (firstF_some l 0 c j hf)
theorem wr_list : ∀ (l : List Lab) (b : ByteArray), (wr b l).data.toList = b.data.toList ++ labsL l
 | [], b => by simp [wr, labsL]
 | x :: l, b => by
  unfold wr
  rw [wr_list l, app_, app_, show Key.s8 x.f0 = s8B x.f0 from rfl, show Key.s16 x.f1 = s16B x.f1 from rfl, s8B_list, s16B_list]
  simp only [labsL, List.flatMap_cons, labL, List.append_assoc]
def keyL (l : List Lab) : List UInt8 := nL 1 l.length ++ labsL l
theorem key_good (l : List Lab) (s : ByteArray) (h : (key l).toList = s.toList) (hs : ¬ s.toList = []) : Good l ∧ s = B (keyL l) := by
 have hne : ¬ (key l).toList = [] := fun e => hs (h.symm.trans e)
 have hks : key l = s := by
  apply ByteArray.ext
  apply Array.ext'
  rw [ByteArray.toList_eq, ByteArray.toList_eq] at h
  exact h
 unfold key at hks hne
 by_cases h0 : (can l).2.1 = 0
 ·rw [if_pos h0] at hks hne
  by_cases hsm : same (can l).1 l = true
  ·rw [if_pos hsm] at hks
   refine ⟨can_ok h0, ?_⟩
   rw [← hks]
   have := wr_list l (Num.bytes 1 (l.length : Int))
   rw [← B_list (wr _ l), this]
   rfl
  ·rw [if_neg hsm] at hne
   exact absurd (Can.size_zero.2 rfl) hne
 ·rw [if_neg h0] at hne
  exact absurd (Can.size_zero.2 rfl) hne
noncomputable def fin (s : ByteArray) (l : List Lab) : Out := if s.toList = [] then ([], false) else if (key l).toList = s.toList then (l, true) else ([], false)
theorem fin_ev (s : ByteArray) (l : List Lab) (E : Nat → List Lab → Option ByteArray) (h : Ev (fun k => E k l) (key l)) :
  Ev (fun k => if s.toList = ([] : List UInt8) then (some (([] : List Lab), false)) else ((E k l).bind fun t => (if t.toList = s.toList then (some (l, true)) else (some (([] : List Lab), false))))) (fin s l) := by
 unfold fin
 by_cases h0 : s.toList = []
 ·rw [if_pos h0]; exact Ev.ite_pos h0 (Ev.now _)
 ·rw [if_neg h0]
  refine Ev.ite_neg h0 (Ev.bind h ?_)
  by_cases h1 : (key l).toList = s.toList
  ·exact Ev.eq (Ev.ite_pos h1 (Ev.now _)) (if_pos h1).symm
  ·exact Ev.eq (Ev.ite_neg h1 (Ev.now _)) (if_neg h1).symm
theorem fit_snoc {l : List Lab} {t u : ByteArray} (h : Fit l) (h1 : t.size ≤ 1048576) (h2 : u.size ≤ 1048576) : Fit (l ++ [(⟨t, u⟩ : Lab)]) := by
 intro y hy
 rcases List.mem_append.1 hy with hy | hy
 ·exact h y hy
 ·rw [List.mem_singleton] at hy
  subst hy
  exact ⟨by show t.size ≤ _; omega, by show u.size ≤ _; omega⟩
/-! ### the program's reader -/
theorem impl_end (s : ByteArray) (n : Nat) (acc : List Lab) (rest : ByteArray) (ha : acc.length ≤ 1048576) (hf : Fit acc) : Ev (fun k => impl_DecodeKey.l0 k s acc n n rest) (fin s acc) := by
 refine Ev.step (fun k => ?_) (fin_ev s acc (fun k l => impl_EncodeKey.f k l) (impl_key acc ha hf))
 simp only [impl_DecodeKey.l0]
 rw [if_neg (by omega)]
theorem impl_any (s : ByteArray) (n : Nat) (hn : n ≤ 65535) : ∀ m i, i + m = n → ∀ (acc : List Lab) (rest : ByteArray), acc.length ≤ i → rest.size ≤ 1048576 → Fit acc → ∃ l, Ev (fun k => impl_DecodeKey.l0 k s acc n i rest) (fin s l) := by
 intro m
 induction m with
 | zero =>
  intro i hi acc rest ha hr hf
  obtain rfl : i = n := by omega
  exact ⟨acc, impl_end s i acc rest (by omega) hf⟩
 | succ m ih =>
  intro i hi acc rest ha hr hf
  obtain ⟨t, r1, ht, hr1, h1⟩ := s8_any rest (by omega)
  obtain ⟨u, r2, hu, hr2, h2⟩ := s16_any r1 (by omega)
  obtain ⟨l, hl⟩ := ih (i + 1) (by omega) (acc ++ [(⟨t, u⟩ : Lab)]) r2 (by simp; omega) (by omega) (fit_snoc hf (by omega) (by omega))
  refine ⟨l, Ev.step (fun k => ?_) hl⟩
  simp only [impl_DecodeKey.l0]
  rw [if_pos (by omega), h1, Option.bind_some, h2, Option.bind_some, if_pos (by omega), w_succ i (by omega)]
theorem fit_good {l : List Lab} (h : ∀ x ∈ l, LabOK x) : Fit l := fun x hx => by
 have := h x hx
 exact ⟨by have := this.1; omega, by have := this.2; omega⟩
theorem labL_len (x : Lab) (h : LabOK x) : (labL x).length ≤ 70000 := by
 unfold labL
 rw [List.length_append, s8L_length, s16L_length]
 have := h.1
 have := h.2
 omega
theorem labsL_len : ∀ (l : List Lab), (∀ x ∈ l, LabOK x) → (labsL l).length ≤ l.length * 70000
 | [], _ => Nat.zero_le _
 | x :: l, h => by
  have := labL_len x (h x List.mem_cons_self)
  have := labsL_len l (fun y hy => h y (List.mem_cons_of_mem _ hy))
  show (labL x ++ labsL l).length ≤ _
  rw [List.length_append, List.length_cons]; omega
theorem impl_rt (s : ByteArray) (n : Nat) (hn : n ≤ 16) : ∀ (ls done : List Lab), (∀ x ∈ done, LabOK x) → (∀ x ∈ ls, LabOK x) → done.length + ls.length = n → Ev (fun k => impl_DecodeKey.l0 k s done n done.length (B (labsL ls))) (fin s (done ++ ls)) := by
 intro ls
 induction ls with
 | nil =>
  intro done hd _ hl
  simp only [List.length_nil, Nat.add_zero] at hl
  rw [List.append_nil]
  have := impl_end s n done (B (labsL [])) (by omega) (fit_good hd)
  rw [← hl] at this ⊢
  exact this
 | cons y ls ih =>
  intro done hd hok hl
  have hy := hok y List.mem_cons_self
  have hrest := labsL_len ls (fun z hz => hok z (List.mem_cons_of_mem _ hz))
  simp only [List.length_cons] at hl
  have hle : ls.length * 70000 ≤ 16 * 70000 := Nat.mul_le_mul_right _ (by omega)
  have e : labsL (y :: ls) = s8L y.f0 ++ (s16L y.f1 ++ labsL ls) := by
   show labL y ++ labsL ls = _
   unfold labL
   simp only [List.append_assoc]
  have h16 : (s16L y.f1).length ≤ 65537 := by rw [s16L_length]; have := hy.2; omega
  have h := ih (done ++ [y]) (fun z hz => by
   rcases List.mem_append.1 hz with hz | hz
   ·exact hd z hz
   ·rw [List.mem_singleton] at hz; subst hz; exact hy) (fun z hz => hok z (List.mem_cons_of_mem _ hz)) (by simp; omega)
  rw [show (done ++ [y]).length = done.length + 1 by simp, List.append_assoc] at h
  refine Ev.step (fun k => ?_) h
  simp only [impl_DecodeKey.l0]
  rw [e, if_pos (by omega), s8_rt y.f0 _ hy.1 (by rw [List.length_append]; omega), Option.bind_some, s16_rt y.f1 _ hy.2 (by omega), Option.bind_some, if_pos (by omega), w_succ _ (by omega)]
theorem impl_total (s : ByteArray) (hs : s.size ≤ 1048576) : ∃ l, Ev (fun k => impl_DecodeKey.f k s) (fin s l) := by
 obtain ⟨v, hv, h⟩ := num_small s 1 (.inl rfl) (by omega)
 obtain ⟨l, hl⟩ := impl_any s v hv v 0 (by omega) [] _ (Nat.le_refl _) (show (s.extract (min 1 s.size) s.size).size ≤ 1048576 by rw [ByteArray.size_extract]; omega) (fun x hx => by cases hx)
 refine ⟨l, ?_⟩
 unfold impl_DecodeKey.f
 rw [show (1 : Int) = ((1 : Nat) : Int) from rfl, h]
 simp only [Option.bind_some]
 exact hl
theorem impl_back (l : List Lab) (hg : Good l) : Ev (fun k => impl_DecodeKey.f k (B (keyL l))) (fin (B (keyL l)) l) := by
 have hlen := labsL_len l hg.2
 have hle : l.length * 70000 ≤ 16 * 70000 := Nat.mul_le_mul_right _ hg.1
 have h := num1_rt (l.length : Int) (labsL l) (by omega) (by have := hg.1; omega) (by omega)
 have h2 := impl_rt (B (keyL l)) l.length hg.1 l [] (fun x hx => by cases hx) hg.2 (by simp)
 unfold impl_DecodeKey.f
 rw [show impl_source_num.f (B (keyL l)) 1 = some ((l.length : Int), B (labsL l)) from h]
 simp only [Option.bind_some]
 exact h2
/-! ### the reference's reader -/
theorem spec_step (k : Nat) (s : ByteArray) (acc : List Lab) (p : Int) : spec_DecodeKey.l0 (k + 1) s acc p = spec_DecodeKey.j1 k s acc p (decide (p > 0 ∧ p < (s.size : Int) ∧ (acc.length : Int) ≤ 16)) := by
 simp only [spec_DecodeKey.l0]
 by_cases h1 : p > 0
 ·by_cases h2 : p < (s.size : Int)
  ·rw [if_pos h1, if_pos h2]
   congr 1
   simp [h1, h2]
  ·rw [if_pos h1, if_neg h2, decide_eq_false (fun h => h2 h.2.1)]
 ·rw [if_neg h1, decide_eq_false (fun h => h1 h.1)]
theorem spec_end (s : ByteArray) (acc : List Lab) (p : Int) (hp : ¬ (p > 0 ∧ p < (s.size : Int) ∧ (acc.length : Int) ≤ 16)) (ha : acc.length ≤ 1048576) (hf : Fit acc) : Ev (fun k => spec_DecodeKey.l0 k s acc p) (fin s acc) := by
 refine Ev.step (f := fun k => spec_DecodeKey.j1 k s acc p false) (fun k => by rw [spec_step, decide_eq_false hp]) ?_
 refine Ev.step (fun k => ?_) (fin_ev s acc (fun k l => spec_EncodeKey.f k l) (spec_key acc ha hf))
 simp only [spec_DecodeKey.j1, Bool.false_eq_true, if_false]
theorem spec_any (s : ByteArray) (hs : s.size ≤ 1048576) : ∀ m (acc : List Lab) (p : Int), acc.length + m = 17 → At s p → Fit acc → ∃ l, Ev (fun k => spec_DecodeKey.l0 k s acc p) (fin s l) := by
 intro m
 induction m with
 | zero =>
  intro acc p ha hp hf
  exact ⟨acc, spec_end s acc p (fun h => by have := h.2.2; omega) (by omega) hf⟩
 | succ m ih =>
  intro acc p ha hp hf
  by_cases hc : p > 0 ∧ p < (s.size : Int) ∧ (acc.length : Int) ≤ 16
  ·obtain ⟨t, p1, h1, hp1, ht⟩ := l3_any s p 1 (.inl rfl) hp (by omega)
   obtain ⟨u, p2, h2, hp2, hu⟩ := l3_any s p1 2 (.inr rfl) hp1 (by omega)
   obtain ⟨l, hl⟩ := ih (acc ++ [(⟨t, u⟩ : Lab)]) p2 (by simp; omega) hp2 (fit_snoc hf (by omega) (by omega))
   refine ⟨l, Ev.step (f := fun k => spec_DecodeKey.j1 k s acc p true) (fun k => by rw [spec_step, decide_eq_true hc]) ?_⟩
   refine Ev.step (f := fun k => (spec_l3Part.f k s p ((1 : Nat) : Int)).bind fun bt266 => ((spec_l3Part.f k s bt266.2 ((2 : Nat) : Int)).bind fun bt268 => (spec_DecodeKey.l0 k s (acc ++ [(⟨bt266.1, bt268.1⟩ : Lab)]) bt268.2))) (fun k => ?_) (Ev.bind h1 (Ev.bind h2 hl))
   simp only [spec_DecodeKey.j1, if_true, if_pos (show acc.length < 4398046511104 by omega)]
   rfl
  ·exact ⟨acc, spec_end s acc p hc (by omega) hf⟩
theorem spec_rt (n : Nat) (hn : n ≤ 16) (all : List Lab) (hall : (keyL all).length ≤ 2000000) : ∀ (ls done : List Lab), (∀ x ∈ done, LabOK x) → (∀ x ∈ ls, LabOK x) → done ++ ls = all → done.length + ls.length = n →
  Ev (fun k => spec_DecodeKey.l0 k (B (keyL all)) done ((1 + (labsL done).length : Nat) : Int)) (fin (B (keyL all)) all) := by
 intro ls
 induction ls with
 | nil =>
  intro done hd _ he hl
  rw [List.append_nil] at he
  subst he
  simp only [List.length_nil, Nat.add_zero] at hl
  refine spec_end _ _ _ (fun h => ?_) (by omega) (fit_good hd)
  have h2 := h.2.1
  rw [B_size] at h2
  unfold keyL at h2
  rw [List.length_append, nL_length] at h2
  omega
 | cons y ls ih =>
  intro done hd hok he hl
  have hy := hok y List.mem_cons_self
  simp only [List.length_cons] at hl
  have ed : labsL (done ++ [y]) = labsL done ++ (s8L y.f0 ++ s16L y.f1) := by
   unfold labsL
   rw [List.flatMap_append]
   simp [labL]
  have ea : keyL all = (nL 1 all.length ++ labsL done) ++ s8L y.f0 ++ (s16L y.f1 ++ labsL ls) := by
   rw [← he]
   unfold keyL labsL
   rw [List.flatMap_append, List.flatMap_cons]
   simp only [labL, List.append_assoc]
  have eb : keyL all = (nL 1 all.length ++ labsL done ++ s8L y.f0) ++ s16L y.f1 ++ labsL ls := by
   rw [ea]; simp only [List.append_assoc]
  have h1 := l3_8 (nL 1 all.length ++ labsL done) (s16L y.f1 ++ labsL ls) y.f0 hy.1 (by rw [← ea]; omega)
  have h2 := l3_16 (nL 1 all.length ++ labsL done ++ s8L y.f0) (labsL ls) y.f1 hy.2 (by rw [← eb]; omega)
  rw [← ea] at h1
  rw [← eb] at h2
  have h := ih (done ++ [y]) (fun z hz => by
   rcases List.mem_append.1 hz with hz | hz
   ·exact hd z hz
   ·rw [List.mem_singleton] at hz; subst hz; exact hy) (fun z hz => hok z (List.mem_cons_of_mem _ hz)) (by rw [List.append_assoc]; exact he) (by simp; omega)
  have hp0 : (nL 1 all.length ++ labsL done).length = 1 + (labsL done).length := by rw [List.length_append, nL_length]
  have hp2 : (nL 1 all.length ++ labsL done ++ s8L y.f0 ++ s16L y.f1).length = 1 + (labsL (done ++ [y])).length := by
   rw [ed]; simp only [List.length_append, nL_length]; omega
  rw [hp0] at h1
  rw [hp2] at h2
  have hsz : (B (keyL all)).size = (keyL all).length := B_size _
  have hlt : 1 + (labsL done).length < (keyL all).length := by
   rw [ea]; simp only [List.length_append, nL_length, s8L_length]; omega
  have hc : ((1 + (labsL done).length : Nat) : Int) > 0 ∧ ((1 + (labsL done).length : Nat) : Int) < ((B (keyL all)).size : Int) ∧ (done.length : Int) ≤ 16 := ⟨by omega, by rw [hsz]; omega, by omega⟩
  refine Ev.step (f := fun k => spec_DecodeKey.j1 k (B (keyL all)) done ((1 + (labsL done).length : Nat) : Int) true) (fun k => by rw [spec_step, decide_eq_true hc]) ?_
  refine Ev.step (f := fun k => (spec_l3Part.f k (B (keyL all)) ((1 + (labsL done).length : Nat) : Int) 1).bind fun bt266 => ((spec_l3Part.f k (B (keyL all)) bt266.2 2).bind fun bt268 => (spec_DecodeKey.l0 k (B (keyL all)) (done ++ [(⟨bt266.1, bt268.1⟩ : Lab)]) bt268.2))) (fun k => ?_) (Ev.bind h1 (Ev.bind h2 h))
  simp only [spec_DecodeKey.j1, if_true, if_pos (show done.length < 4398046511104 by omega)]
theorem spec_total (s : ByteArray) (hs : s.size ≤ 1048576) : ∃ l, Ev (fun k => spec_DecodeKey.f k s) (fin s l) := by
 unfold spec_DecodeKey.f
 by_cases h0 : s.size = 0
 ·exact ⟨[], spec_end s [] 1 (fun h => by have := h.2.1; omega) (Nat.zero_le _) (fun x hx => by cases hx)⟩
 ·exact spec_any s hs 17 [] 1 (by simp) (.inr ⟨1, rfl, by omega⟩) (fun x hx => by cases hx)
theorem spec_back (l : List Lab) (hg : Good l) : Ev (fun k => spec_DecodeKey.f k (B (keyL l))) (fin (B (keyL l)) l) := by
 have hlen := labsL_len l hg.2
 have hle : l.length * 70000 ≤ 16 * 70000 := Nat.mul_le_mul_right _ hg.1
 unfold spec_DecodeKey.f
 exact spec_rt l.length hg.1 l (by unfold keyL; rw [List.length_append, nL_length]; omega) l [] (fun x hx => by cases hx) hg.2 rfl (by simp)
theorem same_dec (s : ByteArray) (hs : s.size ≤ 1048576) : ∃ l : List Lab, Ev (fun k => impl_DecodeKey.f k s) (fin s l) ∧ Ev (fun k => spec_DecodeKey.f k s) (fin s l) := by
 obtain ⟨a, ha⟩ := impl_total s hs
 obtain ⟨b, hb⟩ := spec_total s hs
 by_cases h0 : s.toList = []
 ·have e : fin s a = fin s b := by unfold fin; rw [if_pos h0, if_pos h0]
  exact ⟨b, e ▸ ha, hb⟩
 ·by_cases h1 : (key a).toList = s.toList
  ·obtain ⟨hg, rfl⟩ := key_good a s h1 h0
   exact ⟨a, impl_back a hg, spec_back a hg⟩
  ·by_cases h2 : (key b).toList = s.toList
   ·obtain ⟨hg, rfl⟩ := key_good b s h2 h0
    exact ⟨b, impl_back b hg, spec_back b hg⟩
   ·have e : fin s a = fin s b := by unfold fin; rw [if_neg h0, if_neg h0, if_neg h1, if_neg h2]
    exact ⟨b, e ▸ ha, hb⟩
theorem fin_len (s : ByteArray) (l : List Lab) : (fin s l).1.length ≤ 16 := by
 unfold fin
 by_cases h0 : s.toList = []
 ·rw [if_pos h0]; exact Nat.zero_le _
 ·rw [if_neg h0]
  by_cases h1 : (key l).toList = s.toList
  ·rw [if_pos h1]; exact (key_good l s h1 h0).1.1
  ·rw [if_neg h1]; exact Nat.zero_le _
end Go.Proofs.YtikbfjnbhogihaaGreatDoor.KeyDec
/- A key's metric: plain. -/
namespace Go.Proofs.YtikbfjnbhogihaaGreatDoor.Metr
open Go.Proofs.YtikbfjnbhogihaaGreatDoor.M Go.Proofs.YtikbfjnbhogihaaGreatDoor.Loops Go.Proofs.YtikbfjnbhogihaaGreatDoorW.PrintWords Go.Proofs.YtikbfjnbhogihaaGreatDoorW.PrintLast Go.RowKit
def metr : List S141 → ByteArray
 | [] => ⟨#[]⟩
 | x :: l => if x.f0.toList = ([95, 95, 110, 97, 109, 101, 95, 95] : List UInt8) then x.f1 else metr l
theorem metr_loop (L : Nat → List S141 → Int → Int → Option ByteArray)
  (hL : ∀ k x12 x13 x14, L (k + 1) x12 x13 x14 = if x14 < x13 then (if 0 ≤ x14 then (if x14 < (x12.length : Int) then (if ((rd_T141 x12 x14).f0).toList = ([95, 95, 110, 97, 109, 101, 95, 95] : List UInt8) then (some ((rd_T141 x12 x14).f1)) else (L k x12 x13 (wrap64 (x14 + 1)))) else (none)) else (none)) else (some (⟨#[]⟩ : ByteArray)))
  (l : List S141) (hl : l.length ≤ 1048576) : ∀ m j, j + m = l.length → Ev (fun k => L k l (l.length : Int) (j : Int)) (metr (l.drop j)) := by
 intro m
 induction m with
 | zero =>
  intro j hj
  refine Ev.step (f := fun _ => some (⟨#[]⟩ : ByteArray)) (fun k => by rw [hL, if_neg (by omega)]) (Ev.eq (Ev.now _) ?_)
  rw [List.drop_eq_nil_of_le (by omega)]; rfl
 | succ m ih =>
  intro j hj
  have h1 : j < l.length := by omega
  rw [List.drop_eq_getElem_cons h1]
  have hst : ∀ k, L (k + 1) l (l.length : Int) (j : Int) = if l[j].f0.toList = ([95, 95, 110, 97, 109, 101, 95, 95] : List UInt8) then some l[j].f1 else L k l (l.length : Int) ((j + 1 : Nat) : Int) := by
   intro k
   rw [hL, if_pos (by omega), if_pos (by omega), if_pos (by omega), Can.rd_get l j h1, w_succ j (by omega)]
  refine Ev.step hst ?_
  unfold metr
  by_cases hc : l[j].f0.toList = ([95, 95, 110, 97, 109, 101, 95, 95] : List UInt8)
  ·rw [if_pos hc]; exact Ev.ite_pos hc (Ev.now _)
  ·rw [if_neg hc]; exact Ev.ite_neg hc (ih (j + 1) (by omega))
end Go.Proofs.YtikbfjnbhogihaaGreatDoor.Metr
/- A list's weight, counted down from what is left: plain. -/
namespace Go.Proofs.YtikbfjnbhogihaaGreatDoor.Loops
open Go.RowKit Go.Proofs.YtikbfjnbhogihaaGreatDoorW.PrintWords
theorem sz_list {α : Type} (L : Nat → List α → Int → Int → Option Int) (g : Nat → α → Int → Option Int) (d : α) (wt : α → Nat)
  (hL : ∀ k x a i, L (k + 1) x a i = if i < (x.length : Int) then (if 0 ≤ i then ((g k (x.getD i.toNat d) a).bind fun t => if t < 0 then some (-1) else L k x t (wrap64 (i + 1))) else none) else some a)
  (x : List α) (hn : x.length ≤ 9223372036854775807)
  (hg : ∀ e ∈ x, ∀ a : Int, 0 ≤ a → a ≤ 1048576 → ∃ t, Ev (fun k => g k e a) t ∧ (0 ≤ t → t = a - wt e)) (a : Int) (h0 : 0 ≤ a) (h1 : a ≤ 1048576) :
  ∃ t, Ev (fun k => if wrap64 (a - (x.length : Int)) < 0 then some (-1) else L k x (wrap64 (a - (x.length : Int))) 0) t ∧ (0 ≤ t → t = a - ((x.length : Int) + (total wt x : Nat))) := by
 have e1 : wrap64 (a - (x.length : Int)) = a - (x.length : Int) := by unfold wrap64; omega
 rw [e1]
 by_cases hneg : a - (x.length : Int) < 0
 ·simp only [if_pos hneg]
  exact ⟨-1, Ev.now _, fun h => by omega⟩
 ·simp only [if_neg hneg]
  obtain ⟨t, ht, hw⟩ := sz_loop L g d wt hL x (by omega) hg x.length 0 (a - (x.length : Int)) (by omega) (by omega) (by omega)
  refine ⟨t, ht, fun h => ?_⟩
  rw [hw h, List.drop_zero]
  omega
theorem sz_hand {f : Nat → Option Int} {t : Int} (h : Ev f t) : ∃ u, Ev (fun k => (f k).bind fun t => if t < 0 then some (-1) else some t) u ∧ (0 ≤ u → u = t) := by
 by_cases hneg : t < 0
 ·exact ⟨-1, Ev.bind h (by simp only [if_pos hneg]; exact Ev.now _), fun h => by omega⟩
 ·exact ⟨t, Ev.bind h (by simp only [if_neg hneg]; exact Ev.now _), fun _ => rfl⟩
theorem sz_one (n : Nat) (hn : n ≤ 9223372036854775807) (a : Int) (h0 : 0 ≤ a) (h1 : a ≤ 1048576) :
  ∃ t, (if wrap64 (a - (n : Int)) < 0 then some (-1) else some (wrap64 (a - (n : Int)))) = some t ∧ (0 ≤ t → t = a - (n : Int)) := by
 have e1 : wrap64 (a - (n : Int)) = a - (n : Int) := by unfold wrap64; omega
 rw [e1]
 by_cases hneg : a - (n : Int) < 0
 ·rw [if_pos hneg]; exact ⟨-1, rfl, fun h => by omega⟩
 ·rw [if_neg hneg]; exact ⟨_, rfl, fun _ => rfl⟩
end Go.Proofs.YtikbfjnbhogihaaGreatDoor.Loops
/- Lists of strings: alike to themselves; marked; the marks read again. Plain. -/
namespace Go.Proofs.YtikbfjnbhogihaaGreatDoor.Mark
open Go.Proofs.YtikbfjnbhogihaaGreatDoor.M Go.Proofs.YtikbfjnbhogihaaGreatDoor.Loops Go.Proofs.YtikbfjnbhogihaaGreatDoorW.PrintWords Go.Proofs.YtikbfjnbhogihaaGreatDoorW.PrintLast Go.RowKit
theorem eq_strs (x : List ByteArray) (hx : x.length ≤ 1048576) : Ev (fun k => laws_eqStringS.f k x x) true := by
 have key : ∀ m j, j + m = x.length → Ev (fun k => laws_eqStringS.l0 k x x (j : Int)) true := by
  intro m
  induction m with
  | zero =>
   intro j hj
   exact Ev.step (f := fun _ => some true) (fun k => by simp only [laws_eqStringS.l0]; rw [if_neg (by omega)]) (Ev.now _)
  | succ m ih =>
   intro j hj
   refine Ev.step (fun k => ?_) (ih (j + 1) (by omega))
   simp only [laws_eqStringS.l0, if_true]
   rw [if_pos (by omega), if_pos (by omega), if_pos (by omega), w_succ j (by omega)]
 unfold laws_eqStringS.f
 simp only [if_true]
 exact key x.length 0 (by omega)
noncomputable def marks (a n : Nat) : List ByteArray := (List.range n).map fun j => T (a + j)
theorem marks_length (a n : Nat) : (marks a n).length = n := by simp [marks]
theorem mark_strs (l : List ByteArray) (a : Nat) (hl : l.length ≤ 1048576) (ha : a ≤ 1048576) : Ev (fun k => laws_markStringS.f k l a) ((((a + l.length : Nat)) : Int), marks a l.length) := by
 have key : ∀ m j (y : List ByteArray), j + m = l.length → y.length = l.length → y.take j = marks a j → Ev (fun k => laws_markStringS.l0 k y ((a + j : Nat) : Int) (j : Int)) (((a + l.length : Nat) : Int), marks a l.length) := by
  intro m
  induction m with
  | zero =>
   intro j y hj hy ht
   refine Ev.step (f := fun _ => some (((a + j : Nat) : Int), y)) (fun k => by simp only [laws_markStringS.l0]; rw [if_neg (by omega)]) (Ev.eq (Ev.now _) ?_)
   obtain rfl : j = l.length := by omega
   rw [← ht, List.take_of_length_le (by omega)]
  | succ m ih =>
   intro j y hj hy ht
   have hT := text (a + j) (by omega)
   refine Ev.step (f := fun k => (laws_markText.f k ((a + j : Nat) : Int)).bind fun t => laws_markStringS.l0 k (y.set j t) ((a + (j + 1) : Nat) : Int) ((j + 1 : Nat) : Int)) (fun k => ?_) (Ev.bind hT (ih (j + 1) _ (by omega) (by simpa using hy) ?_))
   ·simp only [laws_markStringS.l0]
    have e1 : wrap64 (((a + j : Nat) : Int) + 1) = ((a + (j + 1) : Nat) : Int) := by rw [w_id _ (by omega) (by omega)]; omega
    rw [if_pos (by omega), e1, w_succ j (by omega), Int.toNat_natCast]
    congr 1 <;> (funext t; rw [if_pos (by omega)])
   ·rw [List.take_set, List.take_add_one, List.getElem?_eq_getElem (by omega)]
    simp only [Option.toList_some]
    rw [List.set_append_right _ _ (by rw [List.length_take]; omega), List.length_take, Nat.min_eq_left (by omega), Nat.sub_self, ht]
    simp [marks, List.range_succ]
 unfold laws_markStringS.f
 exact key l.length 0 l (by omega) rfl (by simp [marks])
theorem held_strs (a n : Nat) (hn : n ≤ 1048576) (ha : a ≤ 1048576) : Ev (fun k => laws_heldStringS.f k (marks a n) a) ((a + n : Nat) : Int) := by
 have key : ∀ m j, j + m = n → Ev (fun k => laws_heldStringS.l0 k (marks a n) ((a + j : Nat) : Int) (j : Int)) ((a + n : Nat) : Int) := by
  intro m
  induction m with
  | zero =>
   intro j hj
   refine Ev.step (f := fun _ => some ((a + j : Nat) : Int)) (fun k => by simp only [laws_heldStringS.l0]; rw [if_neg (by rw [marks_length]; omega)]) (Ev.eq (Ev.now _) ?_)
   obtain rfl : j = n := by omega
   rfl
  | succ m ih =>
   intro j hj
   have hT := text (a + j) (by omega)
   refine Ev.step (f := fun k => (laws_markText.f k ((a + j : Nat) : Int)).bind fun t => if (T (a + j)).toList = t.toList then laws_heldStringS.l0 k (marks a n) ((a + (j + 1) : Nat) : Int) ((j + 1 : Nat) : Int) else some (-1)) (fun k => ?_) (Ev.bind hT (Ev.ite_pos rfl (ih (j + 1) (by omega))))
   simp only [laws_heldStringS.l0]
   have e1 : wrap64 (((a + j : Nat) : Int) + 1) = ((a + (j + 1) : Nat) : Int) := by rw [w_id _ (by omega) (by omega)]; omega
   have e2 : rdOf ByteArray.empty (marks a n) (j : Int) = T (a + j) := by
    unfold rdOf marks
    rw [Int.toNat_natCast, List.getD_eq_getElem?_getD, List.getElem?_map, List.getElem?_range (by omega)]
    rfl
   rw [if_pos (by rw [marks_length]; omega), if_pos (by omega), e1, w_succ j (by omega), e2]
 unfold laws_heldStringS.f
 exact key n 0 (by omega)
end Go.Proofs.YtikbfjnbhogihaaGreatDoor.Mark
namespace Go.Proofs.YtikbfjnbhogihaaGreatDoor.M
open Go.RowKit Go.Proofs.YtikbfjnbhogihaaGreatDoorW.PrintWords Go.Proofs.YtikbfjnbhogihaaGreatDoorW.PrintLast Go.Proofs.YtikbfjnbhogihaaGreatDoorW.PrintMore
attribute [local go_sem] max2_int min2_int max_two min_two max_three min_three max_four min_four
set_option linter.unusedVariables false
set_option linter.unusedSimpArgs false
/-! ### laws_toConfig: function 14 -/
def laws_toConfig.f (a0_0 : Int) (a0_1 : Int) (a0_2 : Int) (a0_3 : Int) (a0_4 : Int) (a0_5 : Int) : Option (Int × Int × Int × Int × Int × Int) := some (a0_0, a0_1, a0_2, a0_3, a0_4, a0_5)
set_option maxHeartbeats 8000000 in
set_option maxRecDepth 100000 in
theorem laws_toConfig.calls (a0_0 : Int) (a0_1 : Int) (a0_2 : Int) (a0_3 : Int) (a0_4 : Int) (a0_5 : Int) (r1 : Int) (r2 : Int) (r3 : Int) (r4 : Int) (r5 : Int) (r6 : Int) (w : World) (h : laws_toConfig.f a0_0 a0_1 a0_2 a0_3 a0_4 a0_5 = some (r1, r2, r3, r4, r5, r6)) :
  Calls Tryz.prog 14 #[.agg #[.int .i64 a0_0, .int .i64 a0_1, .int .i64 a0_2, .int .i64 a0_3, .int .i64 a0_4, .int .i64 a0_5]] w fun e w' => e = .returned (.agg #[.int .i64 r1, .int .i64 r2, .int .i64 r3, .int .i64 r4, .int .i64 r5, .int .i64 r6]) ∧ Below w.heap.size w w' := by
 have HB := Aside0.mk (Below.refl w.heap.size w)
 have H : (some (a0_0, a0_1, a0_2, a0_3, a0_4, a0_5)) = some (r1, r2, r3, r4, r5, r6) := h
 clear h
 simp only [Option.some.injEq, Prod.mk.injEq] at H
 obtain ⟨rfl, rfl, rfl, rfl, rfl, rfl⟩ := H
 go_enter Tryz.func14, Tryz.ntmps14
 go_wp2_with (first | ((with_reducible refine gate_dst (N := 1) rfl ?_); refine box_event ?hg (N := 1) ?hd (cs := #[.int .i64 a0_0, .int .i64 a0_1, .int .i64 a0_2, .int .i64 a0_3, .int .i64 a0_4, .int .i64 a0_5]) (t := 23) ?hr ?_; (case hd => rfl); (case hg => rfl); (case hr => (go_simp; done)); intro gb179 hg w2 hbox hb; have n0_ := Aside0.mk (below_step (by repeat ((with_reducible exact HB.out))) hb); have n1_ := Aside0.mk (hbox); clear HB; have HB := n0_; have BK179 := n1_; clear n0_ n1_; clear hb hbox hg) | ((with_reducible refine gate_dst (N := 2) rfl ?_); refine box_event ?hg (N := 2) ?hd (cs := #[.int .i64 0, .int .i64 0, .int .i64 0, .int .i64 0, .int .i64 0, .int .i64 0]) (t := 29) ?hr ?_; (case hd => rfl); (case hg => rfl); (case hr => (go_simp; done)); intro gb180 hg w3 hbox hb; have n0_ := Aside0.mk (blk_below (g := gb179) (o := .cells #[.int .i64 a0_0, .int .i64 a0_1, .int .i64 a0_2, .int .i64 a0_3, .int .i64 a0_4, .int .i64 a0_5] 23 (0, 0)) (by (with_reducible repeat (first | refine blk_drewN ?_ _ | refine blk_drew ?_ | refine blk_alloc ?_ _)); exact BK179.out) hb); have n1_ := Aside0.mk (below_step (by repeat ((with_reducible exact HB.out))) hb); have n2_ := Aside0.mk (hbox); have n4_ := Aside0.mk ((by rw [hg]; exact (below_size (by repeat ((with_reducible exact HB.out)))) : w.heap.size ≤ gb180)); clear BK179; clear HB; have BK179 := n0_; have HB := n1_; have BK180 := n2_; have GE180 := n4_; clear n0_ n1_ n2_ n4_; clear hb hbox hg) | ((with_reducible refine gate_dst (N := 3) rfl ?_); refine box_event ?hg (N := 3) ?hd (cs := #[.int .i64 0, .int .i64 0, .int .i64 0, .int .i64 0, .int .i64 0, .int .i64 0]) (t := 29) ?hr ?_; (case hd => rfl); (case hg => rfl); (case hr => (go_simp; done)); intro gb181 hg w4 hbox hb; have n0_ := Aside0.mk (blk_below (g := gb179) (o := .cells #[.int .i64 a0_0, .int .i64 a0_1, .int .i64 a0_2, .int .i64 a0_3, .int .i64 a0_4, .int .i64 a0_5] 23 (0, 0)) (by (with_reducible repeat (first | refine blk_drewN ?_ _ | refine blk_drew ?_ | refine blk_alloc ?_ _)); exact BK179.out) hb); have n1_ := Aside0.mk (blk_below (g := gb180) (o := .cells #[.int .i64 0, .int .i64 0, .int .i64 0, .int .i64 0, .int .i64 0, .int .i64 0] 29 (0, 0)) (by (with_reducible repeat (first | refine blk_drewN ?_ _ | refine blk_drew ?_ | refine blk_alloc ?_ _)); exact BK180.out) hb); have n2_ := Aside0.mk (below_step (by repeat ((with_reducible exact HB.out))) hb); have n3_ := Aside0.mk (hbox); have n5_ := Aside0.mk ((by rw [hg]; exact (below_size (by repeat ((with_reducible exact HB.out)))) : w.heap.size ≤ gb181)); have n8_ := Aside0.mk ((by rw [hg]; exact Nat.ne_of_lt (blk_lt (g := gb180) (o := .cells #[.int .i64 0, .int .i64 0, .int .i64 0, .int .i64 0, .int .i64 0, .int .i64 0] 29 (0, 0)) (by (with_reducible repeat (first | refine blk_drewN ?_ _ | refine blk_drew ?_ | refine blk_alloc ?_ _)); exact BK180.out)) : gb180 ≠ gb181)); clear BK179; clear BK180; clear HB; have BK179 := n0_; have BK180 := n1_; have HB := n2_; have BK181 := n3_; have GE181 := n5_; have NB180_181 := n8_; clear n0_ n1_ n2_ n3_ n5_ n8_; clear hb hbox hg; have hcz7_0 : w4.cell? ⟨gb179, 0, none⟩ = some (.int .i64 a0_0) := (blk_cell BK179.out 0).trans rfl; have hcz7_1 : w4.cell? ⟨gb179, 1, none⟩ = some (.int .i64 a0_1) := (blk_cell BK179.out 1).trans rfl; have hcz7_2 : w4.cell? ⟨gb179, 2, none⟩ = some (.int .i64 a0_2) := (blk_cell BK179.out 2).trans rfl; have hcz7_3 : w4.cell? ⟨gb179, 3, none⟩ = some (.int .i64 a0_3) := (blk_cell BK179.out 3).trans rfl; have hcz7_4 : w4.cell? ⟨gb179, 4, none⟩ = some (.int .i64 a0_4) := (blk_cell BK179.out 4).trans rfl; have hcz7_5 : w4.cell? ⟨gb179, 5, none⟩ = some (.int .i64 a0_5) := (blk_cell BK179.out 5).trans rfl; have hnc8 := NB180_181.out; have hcz9_0 : w4.cell? ⟨gb181, 0, none⟩ = some (.int .i64 0) := (blk_cell BK181.out 0).trans rfl; have hcz9_1 : w4.cell? ⟨gb181, 1, none⟩ = some (.int .i64 0) := (blk_cell BK181.out 1).trans rfl; have hcz9_2 : w4.cell? ⟨gb181, 2, none⟩ = some (.int .i64 0) := (blk_cell BK181.out 2).trans rfl; have hcz9_3 : w4.cell? ⟨gb181, 3, none⟩ = some (.int .i64 0) := (blk_cell BK181.out 3).trans rfl; have hcz9_4 : w4.cell? ⟨gb181, 4, none⟩ = some (.int .i64 0) := (blk_cell BK181.out 4).trans rfl; have hcz9_5 : w4.cell? ⟨gb181, 5, none⟩ = some (.int .i64 0) := (blk_cell BK181.out 5).trans rfl; have hfz9_0 := blk_frozen BK181.out 0; have hfz9_1 := blk_frozen BK181.out 1; have hfz9_2 := blk_frozen BK181.out 2; have hfz9_3 := blk_frozen BK181.out 3; have hfz9_4 := blk_frozen BK181.out 4; have hfz9_5 := blk_frozen BK181.out 5; have hcz10_0 : w4.cell? ⟨gb180, 0, none⟩ = some (.int .i64 0) := (blk_cell BK180.out 0).trans rfl; have hcz10_1 : w4.cell? ⟨gb180, 1, none⟩ = some (.int .i64 0) := (blk_cell BK180.out 1).trans rfl; have hcz10_2 : w4.cell? ⟨gb180, 2, none⟩ = some (.int .i64 0) := (blk_cell BK180.out 2).trans rfl; have hcz10_3 : w4.cell? ⟨gb180, 3, none⟩ = some (.int .i64 0) := (blk_cell BK180.out 3).trans rfl; have hcz10_4 : w4.cell? ⟨gb180, 4, none⟩ = some (.int .i64 0) := (blk_cell BK180.out 4).trans rfl; have hcz10_5 : w4.cell? ⟨gb180, 5, none⟩ = some (.int .i64 0) := (blk_cell BK180.out 5).trans rfl; have hfz10_0 := blk_frozen BK180.out 0; have hfz10_1 := blk_frozen BK180.out 1; have hfz10_2 := blk_frozen BK180.out 2; have hfz10_3 := blk_frozen BK180.out 3; have hfz10_4 := blk_frozen BK180.out 4; have hfz10_5 := blk_frozen BK180.out 5))
 refine bodyPost_ret (results_cell_row rfl _ _ gb180 29 #[.int .i64 a0_0, .int .i64 a0_1, .int .i64 a0_2, .int .i64 a0_3, .int .i64 a0_4, .int .i64 a0_5] (0, 0) _ rfl (by (with_reducible repeat (first | refine blk_drewN ?_ _ | refine blk_drew ?_ | refine blk_alloc ?_ _)); refine blk_put (cs := #[.int .i64 a0_0, .int .i64 a0_1, .int .i64 a0_2, .int .i64 a0_3, .int .i64 a0_4, .int .i64 0]) ?_ 5 _ rfl; (with_reducible repeat (first | refine blk_drewN ?_ _ | refine blk_drew ?_ | refine blk_alloc ?_ _)); refine blk_put (cs := #[.int .i64 a0_0, .int .i64 a0_1, .int .i64 a0_2, .int .i64 a0_3, .int .i64 0, .int .i64 0]) ?_ 4 _ rfl; (with_reducible repeat (first | refine blk_drewN ?_ _ | refine blk_drew ?_ | refine blk_alloc ?_ _)); refine blk_put (cs := #[.int .i64 a0_0, .int .i64 a0_1, .int .i64 a0_2, .int .i64 0, .int .i64 0, .int .i64 0]) ?_ 3 _ rfl; (with_reducible repeat (first | refine blk_drewN ?_ _ | refine blk_drew ?_ | refine blk_alloc ?_ _)); refine blk_put (cs := #[.int .i64 a0_0, .int .i64 a0_1, .int .i64 0, .int .i64 0, .int .i64 0, .int .i64 0]) ?_ 2 _ rfl; (with_reducible repeat (first | refine blk_drewN ?_ _ | refine blk_drew ?_ | refine blk_alloc ?_ _)); refine blk_put (cs := #[.int .i64 a0_0, .int .i64 0, .int .i64 0, .int .i64 0, .int .i64 0, .int .i64 0]) ?_ 1 _ rfl; (with_reducible repeat (first | refine blk_drewN ?_ _ | refine blk_drew ?_ | refine blk_alloc ?_ _)); refine blk_put (cs := #[.int .i64 0, .int .i64 0, .int .i64 0, .int .i64 0, .int .i64 0, .int .i64 0]) ?_ 0 _ rfl; (with_reducible repeat (first | refine blk_drewN ?_ _ | refine blk_drew ?_ | refine blk_alloc ?_ _)); refine blk_far ?_ NB180_181.out _; (with_reducible repeat (first | refine blk_drewN ?_ _ | refine blk_drew ?_ | refine blk_alloc ?_ _)); refine blk_far ?_ NB180_181.out _; (with_reducible repeat (first | refine blk_drewN ?_ _ | refine blk_drew ?_ | refine blk_alloc ?_ _)); refine blk_far ?_ NB180_181.out _; (with_reducible repeat (first | refine blk_drewN ?_ _ | refine blk_drew ?_ | refine blk_alloc ?_ _)); refine blk_far ?_ NB180_181.out _; (with_reducible repeat (first | refine blk_drewN ?_ _ | refine blk_drew ?_ | refine blk_alloc ?_ _)); refine blk_far ?_ NB180_181.out _; (with_reducible repeat (first | refine blk_drewN ?_ _ | refine blk_drew ?_ | refine blk_alloc ?_ _)); refine blk_far ?_ NB180_181.out _; (with_reducible repeat (first | refine blk_drewN ?_ _ | refine blk_drew ?_ | refine blk_alloc ?_ _)); exact BK180.out) Tryz.underlying29 rfl (by kernel_rfl)) rfl ?_
 exact ⟨by rfl, by repeat ((with_reducible first | exact HB.out | refine below_set ?_ GE180.out | refine below_set ?_ GE181.out))⟩
end Go.Proofs.YtikbfjnbhogihaaGreatDoor.M
