/- Keys read: both decoders accept just what EncodeKey writes, and give what was written. Plain. -/
import Derived.Test.YtikbfjnbhogihaaGreatDoorDecTx
import Derived.Test.YtikbfjnbhogihaaGreatDoorF168
import Derived.Test.YtikbfjnbhogihaaGreatDoorKeyPlain
import Derived.Test.YtikbfjnbhogihaaGreatDoorF104
import Derived.Test.YtikbfjnbhogihaaGreatDoorF88
namespace Go.Proofs.YtikbfjnbhogihaaGreatDoor.KeyDec
open Go.Proofs.YtikbfjnbhogihaaGreatDoor.M Go.Proofs.YtikbfjnbhogihaaGreatDoor.Loops Go.Proofs.YtikbfjnbhogihaaGreatDoor.Can Go.Proofs.YtikbfjnbhogihaaGreatDoor.Utf Go.Proofs.YtikbfjnbhogihaaGreatDoor.Key Go.Proofs.YtikbfjnbhogihaaGreatDoor.LabLaws Go.Proofs.YtikbfjnbhogihaaGreatDoor.DecLib Go.Proofs.YtikbfjnbhogihaaGreatDoor.M.Enc Go.Proofs.YtikbfjnbhogihaaGreatDoorW.PrintWords Go.Proofs.YtikbfjnbhogihaaGreatDoorW.PrintLast Go.Proofs.YtikbfjnbhogihaaGreatDoorW.PrintMore Go.RowKit
set_option linter.unusedVariables false
set_option linter.unusedSimpArgs false
abbrev Lab := S141
abbrev Out := List Lab × Bool
/-! ### what a key's labels are -/
theorem width4 (s : ByteArray) (pos : Nat) : (Utf8.decode s pos).2 ≤ 4 := by
 rw [Lib.decode_at]
 rcases Lib.decodeN_shape (s.size - pos) (s.get! pos).toNat (s.get! (pos + 1)).toNat (s.get! (pos + 2)).toNat (s.get! (pos + 3)).toNat with h | h | h | h | h
 ·rw [h.2]; exact (by omega : 1 ≤ 4)
 ·rw [h.2.2.2.2]; exact (by omega : 2 ≤ 4)
 ·rw [h.2.2.2.2.2.2]; exact (by omega : 3 ≤ 4)
 ·rw [h.2.2.2.2.2.2.2]; exact (by omega : 4 ≤ 4)
 ·rw [h]; exact (by omega : 1 ≤ 4)
theorem scan_size (s : ByteArray) : ∀ (b pos : Nat) (rs : List Nat), s.size ≤ pos + b → scan s b pos = some rs → s.size ≤ pos + 4 * rs.length := by
 intro b
 induction b with
 | zero => intro pos rs h _; omega
 | succ b ih =>
  intro pos rs h hs
  by_cases hp : pos < s.size
  ·by_cases hb : bad s pos
   ·rw [scan_bad s b pos hp hb] at hs; cases hs
   ·rw [scan_step s b pos hp hb] at hs
    obtain ⟨t, ht, rfl⟩ := Option.map_eq_some_iff.1 hs
    have hw := width_pos s pos hp
    have h4 := width4 s pos
    have := ih _ t (by omega) ht
    rw [List.length_cons]; omega
  ·omega
theorem vf_size (s : ByteArray) (h : vf s = 0) : s.size ≤ 512 := by
 unfold vf at h
 cases hs : scan s s.size 0 with
 | none => rw [hs] at h; cases h
 | some rs =>
  rw [hs] at h
  have := scan_size s s.size 0 rs (by omega) hs
  unfold fin at h
  simp only [Nat.zero_add] at h
  by_cases h1 : 128 < rs.length
  ·rw [if_pos h1] at h; cases h
  ·omega
theorem fault_zero {x : Lab} (h : fault x = 0) : LabOK x := by
 unfold fault at h
 cases hn : nameOK x.f0 with
 | false => rw [hn] at h; cases h
 | true =>
  rw [hn] at h
  have hv := vf_size x.f1 h
  unfold nameOK at hn
  have := of_decide_eq_true (Bool.and_eq_true_iff.1 hn).1
  exact ⟨by omega, by omega⟩
theorem firstF_none : ∀ (l : List Lab) (i : Nat), firstF l i = none → ∀ x ∈ l, fault x = 0
 | [], _, _, x, hx => by cases hx
 | y :: l, i, h, x, hx => by
  by_cases h0 : fault y = 0
  ·rw [firstF_ok h0] at h
   rcases List.mem_cons.1 hx with rfl | hx
   ·exact h0
   ·exact firstF_none l _ h x hx
  ·rw [firstF_bad h0] at h; cases h
theorem firstF_some : ∀ (l : List Lab) (i : Nat) (c : Int) (j : Nat), firstF l i = some (c, j) → c ≠ 0
 | [], _, _, _, h => by cases h
 | y :: l, i, c, j, h => by
  by_cases h0 : fault y = 0
  ·rw [firstF_ok h0] at h
   exact firstF_some l _ c j h
  ·rw [firstF_bad h0] at h
   cases h
   exact h0
def Good (l : List Lab) : Prop := l.length ≤ 16 ∧ ∀ x ∈ l, LabOK x
theorem can_ok {l : List Lab} (h : (can l).2.1 = 0) : Good l := by
 by_cases h16 : 16 < l.length
 ·rw [can_many h16] at h; cases h
 ·cases hf : firstF l 0 with
  | none => exact ⟨by omega, fun x hx => fault_zero (firstF_none l 0 hf x hx)⟩
  | some cj =>
   obtain ⟨c, j⟩ := cj
   rw [can_fault h16 hf] at h
   exact absurd h (firstF_some l 0 c j hf)
theorem wr_list : ∀ (l : List Lab) (b : ByteArray), (wr b l).data.toList = b.data.toList ++ labsL l
 | [], b => by simp [wr, labsL]
 | x :: l, b => by
  unfold wr
  rw [wr_list l, app_, app_, show Key.s8 x.f0 = s8B x.f0 from rfl, show Key.s16 x.f1 = s16B x.f1 from rfl, s8B_list, s16B_list]
  simp only [labsL, List.flatMap_cons, labL, List.append_assoc]
def keyL (l : List Lab) : List UInt8 := nL 1 l.length ++ labsL l
theorem key_good (l : List Lab) (s : ByteArray) (h : (key l).toList = s.toList) (hs : ¬ s.toList = []) : Good l ∧ s = B (keyL l) := by
 have hne : ¬ (key l).toList = [] := fun e => hs (h.symm.trans e)
 have hks : key l = s := by
  apply ByteArray.ext
  apply Array.ext'
  rw [ByteArray.toList_eq, ByteArray.toList_eq] at h
  exact h
 unfold key at hks hne
 by_cases h0 : (can l).2.1 = 0
 ·rw [if_pos h0] at hks hne
  by_cases hsm : same (can l).1 l = true
  ·rw [if_pos hsm] at hks
   refine ⟨can_ok h0, ?_⟩
   rw [← hks]
   have := wr_list l (Num.bytes 1 (l.length : Int))
   rw [← B_list (wr _ l), this]
   rfl
  ·rw [if_neg hsm] at hne
   exact absurd (Can.size_zero.2 rfl) hne
 ·rw [if_neg h0] at hne
  exact absurd (Can.size_zero.2 rfl) hne
noncomputable def fin (s : ByteArray) (l : List Lab) : Out := if s.toList = [] then ([], false) else if (key l).toList = s.toList then (l, true) else ([], false)
theorem fin_ev (s : ByteArray) (l : List Lab) (E : Nat → List Lab → Option ByteArray) (h : Ev (fun k => E k l) (key l)) :
  Ev (fun k => if s.toList = ([] : List UInt8) then (some (([] : List Lab), false)) else ((E k l).bind fun t => (if t.toList = s.toList then (some (l, true)) else (some (([] : List Lab), false))))) (fin s l) := by
 unfold fin
 by_cases h0 : s.toList = []
 ·rw [if_pos h0]; exact Ev.ite_pos h0 (Ev.now _)
 ·rw [if_neg h0]
  refine Ev.ite_neg h0 (Ev.bind h ?_)
  by_cases h1 : (key l).toList = s.toList
  ·exact Ev.eq (Ev.ite_pos h1 (Ev.now _)) (if_pos h1).symm
  ·exact Ev.eq (Ev.ite_neg h1 (Ev.now _)) (if_neg h1).symm
theorem fit_snoc {l : List Lab} {t u : ByteArray} (h : Fit l) (h1 : t.size ≤ 1048576) (h2 : u.size ≤ 1048576) : Fit (l ++ [(⟨t, u⟩ : Lab)]) := by
 intro y hy
 rcases List.mem_append.1 hy with hy | hy
 ·exact h y hy
 ·rw [List.mem_singleton] at hy
  subst hy
  exact ⟨by show t.size ≤ _; omega, by show u.size ≤ _; omega⟩
/-! ### the program's reader -/
theorem impl_end (s : ByteArray) (n : Nat) (acc : List Lab) (rest : ByteArray) (ha : acc.length ≤ 1048576) (hf : Fit acc) : Ev (fun k => impl_DecodeKey.l0 k s acc n n rest) (fin s acc) := by
 refine Ev.step (fun k => ?_) (fin_ev s acc (fun k l => impl_EncodeKey.f k l) (impl_key acc ha hf))
 simp only [impl_DecodeKey.l0]
 rw [if_neg (by omega)]
theorem impl_any (s : ByteArray) (n : Nat) (hn : n ≤ 65535) : ∀ m i, i + m = n → ∀ (acc : List Lab) (rest : ByteArray), acc.length ≤ i → rest.size ≤ 1048576 → Fit acc → ∃ l, Ev (fun k => impl_DecodeKey.l0 k s acc n i rest) (fin s l) := by
 intro m
 induction m with
 | zero =>
  intro i hi acc rest ha hr hf
  obtain rfl : i = n := by omega
  exact ⟨acc, impl_end s i acc rest (by omega) hf⟩
 | succ m ih =>
  intro i hi acc rest ha hr hf
  obtain ⟨t, r1, ht, hr1, h1⟩ := s8_any rest (by omega)
  obtain ⟨u, r2, hu, hr2, h2⟩ := s16_any r1 (by omega)
  obtain ⟨l, hl⟩ := ih (i + 1) (by omega) (acc ++ [(⟨t, u⟩ : Lab)]) r2 (by simp; omega) (by omega) (fit_snoc hf (by omega) (by omega))
  refine ⟨l, Ev.step (fun k => ?_) hl⟩
  simp only [impl_DecodeKey.l0]
  rw [if_pos (by omega), h1, Option.bind_some, h2, Option.bind_some, if_pos (by omega), w_succ i (by omega)]
theorem fit_good {l : List Lab} (h : ∀ x ∈ l, LabOK x) : Fit l := fun x hx => by
 have := h x hx
 exact ⟨by have := this.1; omega, by have := this.2; omega⟩
theorem labL_len (x : Lab) (h : LabOK x) : (labL x).length ≤ 70000 := by
 unfold labL
 rw [List.length_append, s8L_length, s16L_length]
 have := h.1
 have := h.2
 omega
theorem labsL_len : ∀ (l : List Lab), (∀ x ∈ l, LabOK x) → (labsL l).length ≤ l.length * 70000
 | [], _ => Nat.zero_le _
 | x :: l, h => by
  have := labL_len x (h x List.mem_cons_self)
  have := labsL_len l (fun y hy => h y (List.mem_cons_of_mem _ hy))
  show (labL x ++ labsL l).length ≤ _
  rw [List.length_append, List.length_cons]; omega
theorem impl_rt (s : ByteArray) (n : Nat) (hn : n ≤ 16) : ∀ (ls done : List Lab), (∀ x ∈ done, LabOK x) → (∀ x ∈ ls, LabOK x) → done.length + ls.length = n → Ev (fun k => impl_DecodeKey.l0 k s done n done.length (B (labsL ls))) (fin s (done ++ ls)) := by
 intro ls
 induction ls with
 | nil =>
  intro done hd _ hl
  simp only [List.length_nil, Nat.add_zero] at hl
  rw [List.append_nil]
  have := impl_end s n done (B (labsL [])) (by omega) (fit_good hd)
  rw [← hl] at this ⊢
  exact this
 | cons y ls ih =>
  intro done hd hok hl
  have hy := hok y List.mem_cons_self
  have hrest := labsL_len ls (fun z hz => hok z (List.mem_cons_of_mem _ hz))
  simp only [List.length_cons] at hl
  have hle : ls.length * 70000 ≤ 16 * 70000 := Nat.mul_le_mul_right _ (by omega)
  have e : labsL (y :: ls) = s8L y.f0 ++ (s16L y.f1 ++ labsL ls) := by
   show labL y ++ labsL ls = _
   unfold labL
   simp only [List.append_assoc]
  have h16 : (s16L y.f1).length ≤ 65537 := by rw [s16L_length]; have := hy.2; omega
  have h := ih (done ++ [y]) (fun z hz => by
   rcases List.mem_append.1 hz with hz | hz
   ·exact hd z hz
   ·rw [List.mem_singleton] at hz; subst hz; exact hy) (fun z hz => hok z (List.mem_cons_of_mem _ hz)) (by simp; omega)
  rw [show (done ++ [y]).length = done.length + 1 by simp, List.append_assoc] at h
  refine Ev.step (fun k => ?_) h
  simp only [impl_DecodeKey.l0]
  rw [e, if_pos (by omega), s8_rt y.f0 _ hy.1 (by rw [List.length_append]; omega), Option.bind_some, s16_rt y.f1 _ hy.2 (by omega), Option.bind_some, if_pos (by omega), w_succ _ (by omega)]
theorem impl_total (s : ByteArray) (hs : s.size ≤ 1048576) : ∃ l, Ev (fun k => impl_DecodeKey.f k s) (fin s l) := by
 obtain ⟨v, hv, h⟩ := num_small s 1 (.inl rfl) (by omega)
 obtain ⟨l, hl⟩ := impl_any s v hv v 0 (by omega) [] _ (Nat.le_refl _) (show (s.extract (min 1 s.size) s.size).size ≤ 1048576 by rw [ByteArray.size_extract]; omega) (fun x hx => by cases hx)
 refine ⟨l, ?_⟩
 unfold impl_DecodeKey.f
 rw [show (1 : Int) = ((1 : Nat) : Int) from rfl, h]
 simp only [Option.bind_some]
 exact hl
theorem impl_back (l : List Lab) (hg : Good l) : Ev (fun k => impl_DecodeKey.f k (B (keyL l))) (fin (B (keyL l)) l) := by
 have hlen := labsL_len l hg.2
 have hle : l.length * 70000 ≤ 16 * 70000 := Nat.mul_le_mul_right _ hg.1
 have h := num1_rt (l.length : Int) (labsL l) (by omega) (by have := hg.1; omega) (by omega)
 have h2 := impl_rt (B (keyL l)) l.length hg.1 l [] (fun x hx => by cases hx) hg.2 (by simp)
 unfold impl_DecodeKey.f
 rw [show impl_source_num.f (B (keyL l)) 1 = some ((l.length : Int), B (labsL l)) from h]
 simp only [Option.bind_some]
 exact h2
/-! ### the reference's reader -/
theorem spec_step (k : Nat) (s : ByteArray) (acc : List Lab) (p : Int) : spec_DecodeKey.l0 (k + 1) s acc p = spec_DecodeKey.j1 k s acc p (decide (p > 0 ∧ p < (s.size : Int) ∧ (acc.length : Int) ≤ 16)) := by
 simp only [spec_DecodeKey.l0]
 by_cases h1 : p > 0
 ·by_cases h2 : p < (s.size : Int)
  ·rw [if_pos h1, if_pos h2]
   congr 1
   simp [h1, h2]
  ·rw [if_pos h1, if_neg h2, decide_eq_false (fun h => h2 h.2.1)]
 ·rw [if_neg h1, decide_eq_false (fun h => h1 h.1)]
theorem spec_end (s : ByteArray) (acc : List Lab) (p : Int) (hp : ¬ (p > 0 ∧ p < (s.size : Int) ∧ (acc.length : Int) ≤ 16)) (ha : acc.length ≤ 1048576) (hf : Fit acc) : Ev (fun k => spec_DecodeKey.l0 k s acc p) (fin s acc) := by
 refine Ev.step (f := fun k => spec_DecodeKey.j1 k s acc p false) (fun k => by rw [spec_step, decide_eq_false hp]) ?_
 refine Ev.step (fun k => ?_) (fin_ev s acc (fun k l => spec_EncodeKey.f k l) (spec_key acc ha hf))
 simp only [spec_DecodeKey.j1, Bool.false_eq_true, if_false]
theorem spec_any (s : ByteArray) (hs : s.size ≤ 1048576) : ∀ m (acc : List Lab) (p : Int), acc.length + m = 17 → At s p → Fit acc → ∃ l, Ev (fun k => spec_DecodeKey.l0 k s acc p) (fin s l) := by
 intro m
 induction m with
 | zero =>
  intro acc p ha hp hf
  exact ⟨acc, spec_end s acc p (fun h => by have := h.2.2; omega) (by omega) hf⟩
 | succ m ih =>
  intro acc p ha hp hf
  by_cases hc : p > 0 ∧ p < (s.size : Int) ∧ (acc.length : Int) ≤ 16
  ·obtain ⟨t, p1, h1, hp1, ht⟩ := l3_any s p 1 (.inl rfl) hp (by omega)
   obtain ⟨u, p2, h2, hp2, hu⟩ := l3_any s p1 2 (.inr rfl) hp1 (by omega)
   obtain ⟨l, hl⟩ := ih (acc ++ [(⟨t, u⟩ : Lab)]) p2 (by simp; omega) hp2 (fit_snoc hf (by omega) (by omega))
   refine ⟨l, Ev.step (f := fun k => spec_DecodeKey.j1 k s acc p true) (fun k => by rw [spec_step, decide_eq_true hc]) ?_⟩
   refine Ev.step (f := fun k => (spec_l3Part.f k s p ((1 : Nat) : Int)).bind fun bt266 => ((spec_l3Part.f k s bt266.2 ((2 : Nat) : Int)).bind fun bt268 => (spec_DecodeKey.l0 k s (acc ++ [(⟨bt266.1, bt268.1⟩ : Lab)]) bt268.2))) (fun k => ?_) (Ev.bind h1 (Ev.bind h2 hl))
   simp only [spec_DecodeKey.j1, if_true, if_pos (show acc.length < 4398046511104 by omega)]
   rfl
  ·exact ⟨acc, spec_end s acc p hc (by omega) hf⟩
theorem spec_rt (n : Nat) (hn : n ≤ 16) (all : List Lab) (hall : (keyL all).length ≤ 2000000) : ∀ (ls done : List Lab), (∀ x ∈ done, LabOK x) → (∀ x ∈ ls, LabOK x) → done ++ ls = all → done.length + ls.length = n →
  Ev (fun k => spec_DecodeKey.l0 k (B (keyL all)) done ((1 + (labsL done).length : Nat) : Int)) (fin (B (keyL all)) all) := by
 intro ls
 induction ls with
 | nil =>
  intro done hd _ he hl
  rw [List.append_nil] at he
  subst he
  simp only [List.length_nil, Nat.add_zero] at hl
  refine spec_end _ _ _ (fun h => ?_) (by omega) (fit_good hd)
  have h2 := h.2.1
  rw [B_size] at h2
  unfold keyL at h2
  rw [List.length_append, nL_length] at h2
  omega
 | cons y ls ih =>
  intro done hd hok he hl
  have hy := hok y List.mem_cons_self
  simp only [List.length_cons] at hl
  have ed : labsL (done ++ [y]) = labsL done ++ (s8L y.f0 ++ s16L y.f1) := by
   unfold labsL
   rw [List.flatMap_append]
   simp [labL]
  have ea : keyL all = (nL 1 all.length ++ labsL done) ++ s8L y.f0 ++ (s16L y.f1 ++ labsL ls) := by
   rw [← he]
   unfold keyL labsL
   rw [List.flatMap_append, List.flatMap_cons]
   simp only [labL, List.append_assoc]
  have eb : keyL all = (nL 1 all.length ++ labsL done ++ s8L y.f0) ++ s16L y.f1 ++ labsL ls := by
   rw [ea]; simp only [List.append_assoc]
  have h1 := l3_8 (nL 1 all.length ++ labsL done) (s16L y.f1 ++ labsL ls) y.f0 hy.1 (by rw [← ea]; omega)
  have h2 := l3_16 (nL 1 all.length ++ labsL done ++ s8L y.f0) (labsL ls) y.f1 hy.2 (by rw [← eb]; omega)
  rw [← ea] at h1
  rw [← eb] at h2
  have h := ih (done ++ [y]) (fun z hz => by
   rcases List.mem_append.1 hz with hz | hz
   ·exact hd z hz
   ·rw [List.mem_singleton] at hz; subst hz; exact hy) (fun z hz => hok z (List.mem_cons_of_mem _ hz)) (by rw [List.append_assoc]; exact he) (by simp; omega)
  have hp0 : (nL 1 all.length ++ labsL done).length = 1 + (labsL done).length := by rw [List.length_append, nL_length]
  have hp2 : (nL 1 all.length ++ labsL done ++ s8L y.f0 ++ s16L y.f1).length = 1 + (labsL (done ++ [y])).length := by
   rw [ed]; simp only [List.length_append, nL_length]; omega
  rw [hp0] at h1
  rw [hp2] at h2
  have hsz : (B (keyL all)).size = (keyL all).length := B_size _
  have hlt : 1 + (labsL done).length < (keyL all).length := by
   rw [ea]; simp only [List.length_append, nL_length, s8L_length]; omega
  have hc : ((1 + (labsL done).length : Nat) : Int) > 0 ∧ ((1 + (labsL done).length : Nat) : Int) < ((B (keyL all)).size : Int) ∧ (done.length : Int) ≤ 16 := ⟨by omega, by rw [hsz]; omega, by omega⟩
  refine Ev.step (f := fun k => spec_DecodeKey.j1 k (B (keyL all)) done ((1 + (labsL done).length : Nat) : Int) true) (fun k => by rw [spec_step, decide_eq_true hc]) ?_
  refine Ev.step (f := fun k => (spec_l3Part.f k (B (keyL all)) ((1 + (labsL done).length : Nat) : Int) 1).bind fun bt266 => ((spec_l3Part.f k (B (keyL all)) bt266.2 2).bind fun bt268 => (spec_DecodeKey.l0 k (B (keyL all)) (done ++ [(⟨bt266.1, bt268.1⟩ : Lab)]) bt268.2))) (fun k => ?_) (Ev.bind h1 (Ev.bind h2 h))
  simp only [spec_DecodeKey.j1, if_true, if_pos (show done.length < 4398046511104 by omega)]
theorem spec_total (s : ByteArray) (hs : s.size ≤ 1048576) : ∃ l, Ev (fun k => spec_DecodeKey.f k s) (fin s l) := by
 unfold spec_DecodeKey.f
 by_cases h0 : s.size = 0
 ·exact ⟨[], spec_end s [] 1 (fun h => by have := h.2.1; omega) (Nat.zero_le _) (fun x hx => by cases hx)⟩
 ·exact spec_any s hs 17 [] 1 (by simp) (.inr ⟨1, rfl, by omega⟩) (fun x hx => by cases hx)
theorem spec_back (l : List Lab) (hg : Good l) : Ev (fun k => spec_DecodeKey.f k (B (keyL l))) (fin (B (keyL l)) l) := by
 have hlen := labsL_len l hg.2
 have hle : l.length * 70000 ≤ 16 * 70000 := Nat.mul_le_mul_right _ hg.1
 unfold spec_DecodeKey.f
 exact spec_rt l.length hg.1 l (by unfold keyL; rw [List.length_append, nL_length]; omega) l [] (fun x hx => by cases hx) hg.2 rfl (by simp)
theorem same_dec (s : ByteArray) (hs : s.size ≤ 1048576) : ∃ l : List Lab, Ev (fun k => impl_DecodeKey.f k s) (fin s l) ∧ Ev (fun k => spec_DecodeKey.f k s) (fin s l) := by
 obtain ⟨a, ha⟩ := impl_total s hs
 obtain ⟨b, hb⟩ := spec_total s hs
 by_cases h0 : s.toList = []
 ·have e : fin s a = fin s b := by unfold fin; rw [if_pos h0, if_pos h0]
  exact ⟨b, e ▸ ha, hb⟩
 ·by_cases h1 : (key a).toList = s.toList
  ·obtain ⟨hg, rfl⟩ := key_good a s h1 h0
   exact ⟨a, impl_back a hg, spec_back a hg⟩
  ·by_cases h2 : (key b).toList = s.toList
   ·obtain ⟨hg, rfl⟩ := key_good b s h2 h0
    exact ⟨b, impl_back b hg, spec_back b hg⟩
   ·have e : fin s a = fin s b := by unfold fin; rw [if_neg h0, if_neg h0, if_neg h1, if_neg h2]
    exact ⟨b, e ▸ ha, hb⟩
theorem fin_len (s : ByteArray) (l : List Lab) : (fin s l).1.length ≤ 16 := by
 unfold fin
 by_cases h0 : s.toList = []
 ·rw [if_pos h0]; exact Nat.zero_le _
 ·rw [if_neg h0]
  by_cases h1 : (key l).toList = s.toList
  ·rw [if_pos h1]; exact (key_good l s h1 h0).1.1
  ·rw [if_neg h1]; exact Nat.zero_le _
end Go.Proofs.YtikbfjnbhogihaaGreatDoor.KeyDec
