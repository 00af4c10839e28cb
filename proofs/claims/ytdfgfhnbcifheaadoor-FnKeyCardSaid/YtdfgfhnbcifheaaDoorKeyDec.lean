/- Some of this seat's texts, joined by prune.py. -/
import Derived.Test.YtdfgfhnbcifheaaDoorDFnKey
import Derived.Test.YtdfgfhnbcifheaaDoorCanImp
import Derived.Test.YtdfgfhnbcifheaaDoorF23
import Derived.Test.YtdfgfhnbcifheaaDoorF22
import Derived.Test.YtdfgfhnbcifheaaDoorCanVal
import Derived.Test.YtdfgfhnbcifheaaDoorF10
/- Some of this seat's texts, joined by prune.py. -/
/- Keys read: both decoders accept just what EncodeKey writes, and give what was written. Plain. -/
namespace Go.Proofs.YtdfgfhnbcifheaaDoor.KeyDec
open Go.Proofs.YtdfgfhnbcifheaaDoor.M Go.Proofs.YtdfgfhnbcifheaaDoor.Loops Go.Proofs.YtdfgfhnbcifheaaDoor.Can Go.Proofs.YtdfgfhnbcifheaaDoor.Utf Go.Proofs.YtdfgfhnbcifheaaDoor.Key Go.Proofs.YtdfgfhnbcifheaaDoor.LabLaws Go.Proofs.YtdfgfhnbcifheaaDoor.DecLib Go.Proofs.YtdfgfhnbcifheaaDoor.M.Enc Go.Proofs.YtdfgfhnbcifheaaDoorW.PrintWords Go.Proofs.YtdfgfhnbcifheaaDoorW.PrintLast Go.Proofs.YtdfgfhnbcifheaaDoorW.PrintMore Go.RowKit
set_option linter.unusedVariables false
set_option linter.unusedSimpArgs false
abbrev Lab := S38
abbrev Out := List Lab × Bool
/-! ### what a key's labels are -/
theorem width4 (s : ByteArray) (pos : Nat) : (Utf8.decode s pos).2 ≤ 4 := by
  rw [Lib.decode_at]
  rcases Lib.decodeN_shape (s.size - pos) (s.get! pos).toNat (s.get! (pos + 1)).toNat (s.get! (pos + 2)).toNat (s.get! (pos + 3)).toNat with h | h | h | h | h
  · rw [h.2]; exact (by omega : 1 ≤ 4)
  · rw [h.2.2.2.2]; exact (by omega : 2 ≤ 4)
  · rw [h.2.2.2.2.2.2]; exact (by omega : 3 ≤ 4)
  · rw [h.2.2.2.2.2.2.2]; exact (by omega : 4 ≤ 4)
  · rw [h]; exact (by omega : 1 ≤ 4)
theorem scan_size (s : ByteArray) : ∀ (b pos : Nat) (rs : List Nat), s.size ≤ pos + b → scan s b pos = some rs → s.size ≤ pos + 4 * rs.length := by
  intro b
  induction b with
  | zero => intro pos rs h _; omega
  | succ b ih =>
    intro pos rs h hs
    by_cases hp : pos < s.size
    · by_cases hb : bad s pos
      · rw [scan_bad s b pos hp hb] at hs; cases hs
      · rw [scan_step s b pos hp hb] at hs
        obtain ⟨t, ht, rfl⟩ := Option.map_eq_some_iff.1 hs
        have hw := width_pos s pos hp
        have h4 := width4 s pos
        have := ih _ t (by omega) ht
        rw [List.length_cons]; omega
    · omega
theorem vf_size (s : ByteArray) (h : vf s = 0) : s.size ≤ 512 := by
  unfold vf at h
  cases hs : scan s s.size 0 with
  | none => rw [hs] at h; cases h
  | some rs =>
    rw [hs] at h
    have := scan_size s s.size 0 rs (by omega) hs
    unfold fin at h
    simp only [Nat.zero_add] at h
    by_cases h1 : 128 < rs.length
    · rw [if_pos h1] at h; cases h
    · omega
theorem fault_zero {x : Lab} (h : fault x = 0) : LabOK x := by
  unfold fault at h
  cases hn : nameOK x.f0 with
  | false => rw [hn] at h; cases h
  | true =>
    rw [hn] at h
    have hv := vf_size x.f1 h
    unfold nameOK at hn
    have := of_decide_eq_true (Bool.and_eq_true_iff.1 hn).1
    exact ⟨by omega, by omega⟩
theorem firstF_none : ∀ (l : List Lab) (i : Nat), firstF l i = none → ∀ x ∈ l, fault x = 0
  | [], _, _, x, hx => by cases hx
  | y :: l, i, h, x, hx => by
    by_cases h0 : fault y = 0
    · rw [firstF_ok h0] at h
      rcases List.mem_cons.1 hx with rfl | hx
      · exact h0
      · exact firstF_none l _ h x hx
    · rw [firstF_bad h0] at h; cases h
theorem firstF_some : ∀ (l : List Lab) (i : Nat) (c : Int) (j : Nat), firstF l i = some (c, j) → c ≠ 0
  | [], _, _, _, h => by cases h
  | y :: l, i, c, j, h => by
    by_cases h0 : fault y = 0
    · rw [firstF_ok h0] at h
      exact firstF_some l _ c j h
    · rw [firstF_bad h0] at h
      cases h
      exact h0
def Good (l : List Lab) : Prop := l.length ≤ 16 ∧ ∀ x ∈ l, LabOK x
theorem can_ok {l : List Lab} (h : (can l).2.1 = 0) : Good l := by
  by_cases h16 : 16 < l.length
  · rw [can_many h16] at h; cases h
  · cases hf : firstF l 0 with
    | none => exact ⟨by omega, fun x hx => fault_zero (firstF_none l 0 hf x hx)⟩
    | some cj =>
      obtain ⟨c, j⟩ := cj
      rw [can_fault h16 hf] at h
      exact absurd h (firstF_some l 0 c j hf)
theorem wr_list : ∀ (l : List Lab) (b : ByteArray), (wr b l).data.toList = b.data.toList ++ labsL l
  | [], b => by simp [wr, labsL]
  | x :: l, b => by
    unfold wr
    rw [wr_list l, app_, app_, show Key.s8 x.f0 = s8B x.f0 from rfl, show Key.s16 x.f1 = s16B x.f1 from rfl, s8B_list, s16B_list]
    simp only [labsL, List.flatMap_cons, labL, List.append_assoc]
/-- The bytes of a key. -/
def keyL (l : List Lab) : List UInt8 := nL 1 l.length ++ labsL l
/-- What both answer behind the reading. -/
noncomputable def fin (s : ByteArray) (l : List Lab) : Out := if s.toList = [] then ([], false) else if (key l).toList = s.toList then (l, true) else ([], false)
theorem fin_ev (s : ByteArray) (l : List Lab) (E : Nat → List Lab → Option ByteArray) (h : Ev (fun k => E k l) (key l)) :
    Ev (fun k => if s.toList = ([] : List UInt8) then (some (([] : List Lab), false)) else ((E k l).bind fun t => (if t.toList = s.toList then (some (l, true)) else (some (([] : List Lab), false))))) (fin s l) := by
  unfold fin
  by_cases h0 : s.toList = []
  · rw [if_pos h0]; exact Ev.ite_pos h0 (Ev.now _)
  · rw [if_neg h0]
    refine Ev.ite_neg h0 (Ev.bind h ?_)
    by_cases h1 : (key l).toList = s.toList
    · exact Ev.eq (Ev.ite_pos h1 (Ev.now _)) (if_pos h1).symm
    · exact Ev.eq (Ev.ite_neg h1 (Ev.now _)) (if_neg h1).symm
/-! ### the program's reader -/
theorem impl_end (s : ByteArray) (n : Nat) (acc : List Lab) (rest : ByteArray) (ha : acc.length ≤ 1048576) (hf : Fit acc) : Ev (fun k => impl_DecodeKey.l0 k s acc n n rest) (fin s acc) := by
  refine Ev.step (fun k => ?_) (fin_ev s acc (fun k l => impl_EncodeKey.f k l) (impl_key acc ha hf))
  simp only [impl_DecodeKey.l0]
  rw [if_neg (by omega)]
theorem fit_good {l : List Lab} (h : ∀ x ∈ l, LabOK x) : Fit l := fun x hx => by
  have := h x hx
  exact ⟨by have := this.1; omega, by have := this.2; omega⟩
theorem labL_len (x : Lab) (h : LabOK x) : (labL x).length ≤ 70000 := by
  unfold labL
  rw [List.length_append, s8L_length, s16L_length]
  have := h.1
  have := h.2
  omega
theorem labsL_len : ∀ (l : List Lab), (∀ x ∈ l, LabOK x) → (labsL l).length ≤ l.length * 70000
  | [], _ => Nat.zero_le _
  | x :: l, h => by
    have := labL_len x (h x List.mem_cons_self)
    have := labsL_len l (fun y hy => h y (List.mem_cons_of_mem _ hy))
    show (labL x ++ labsL l).length ≤ _
    rw [List.length_append, List.length_cons]; omega
theorem impl_rt (s : ByteArray) (n : Nat) (hn : n ≤ 16) : ∀ (ls done : List Lab), (∀ x ∈ done, LabOK x) → (∀ x ∈ ls, LabOK x) → done.length + ls.length = n → Ev (fun k => impl_DecodeKey.l0 k s done n done.length (B (labsL ls))) (fin s (done ++ ls)) := by
  intro ls
  induction ls with
  | nil =>
    intro done hd _ hl
    simp only [List.length_nil, Nat.add_zero] at hl
    rw [List.append_nil]
    have := impl_end s n done (B (labsL [])) (by omega) (fit_good hd)
    rw [← hl] at this ⊢
    exact this
  | cons y ls ih =>
    intro done hd hok hl
    have hy := hok y List.mem_cons_self
    have hrest := labsL_len ls (fun z hz => hok z (List.mem_cons_of_mem _ hz))
    simp only [List.length_cons] at hl
    have hle : ls.length * 70000 ≤ 16 * 70000 := Nat.mul_le_mul_right _ (by omega)
    have e : labsL (y :: ls) = s8L y.f0 ++ (s16L y.f1 ++ labsL ls) := by
      show labL y ++ labsL ls = _
      unfold labL
      simp only [List.append_assoc]
    have h16 : (s16L y.f1).length ≤ 65537 := by rw [s16L_length]; have := hy.2; omega
    have h := ih (done ++ [y]) (fun z hz => by
      rcases List.mem_append.1 hz with hz | hz
      · exact hd z hz
      · rw [List.mem_singleton] at hz; subst hz; exact hy) (fun z hz => hok z (List.mem_cons_of_mem _ hz)) (by simp; omega)
    rw [show (done ++ [y]).length = done.length + 1 by simp, List.append_assoc] at h
    refine Ev.step (fun k => ?_) h
    simp only [impl_DecodeKey.l0]
    rw [e, if_pos (by omega), s8_rt y.f0 _ hy.1 (by rw [List.length_append]; omega), Option.bind_some, s16_rt y.f1 _ hy.2 (by omega), Option.bind_some, if_pos (by omega), w_succ _ (by omega)]
theorem impl_back (l : List Lab) (hg : Good l) : Ev (fun k => impl_DecodeKey.f k (B (keyL l))) (fin (B (keyL l)) l) := by
  have hlen := labsL_len l hg.2
  have hle : l.length * 70000 ≤ 16 * 70000 := Nat.mul_le_mul_right _ hg.1
  have h := num1_rt (l.length : Int) (labsL l) (by omega) (by have := hg.1; omega) (by omega)
  have h2 := impl_rt (B (keyL l)) l.length hg.1 l [] (fun x hx => by cases hx) hg.2 (by simp)
  unfold impl_DecodeKey.f
  rw [show impl_source_num.f (B (keyL l)) 1 = some ((l.length : Int), B (labsL l)) from h]
  simp only [Option.bind_some]
  exact h2
/-! ### the reference's reader -/
end Go.Proofs.YtdfgfhnbcifheaaDoor.KeyDec
/- FnKey, what is plain: the canonical form hangs on the set alone; equal keys, equal lists. UNDER WAY. -/
namespace Go.Proofs.YtdfgfhnbcifheaaDoor.KeyLaw
open Go.Proofs.YtdfgfhnbcifheaaDoor.M Go.Proofs.YtdfgfhnbcifheaaDoor.DecLib Go.Proofs.YtdfgfhnbcifheaaDoor.Loops Go.Proofs.YtdfgfhnbcifheaaDoor.Can Go.Proofs.YtdfgfhnbcifheaaDoor.CanSort Go.Proofs.YtdfgfhnbcifheaaDoor.Key Go.Proofs.YtdfgfhnbcifheaaDoor.KeyDec Go.Proofs.YtdfgfhnbcifheaaDoor.LabLaws Go.Proofs.YtdfgfhnbcifheaaDoorW.PrintWords Go.Proofs.YtdfgfhnbcifheaaDoorW.PrintLast Go.Proofs.YtdfgfhnbcifheaaDoorW.PrintMore Go.RowKit
set_option linter.unusedVariables false
abbrev Lab := S38
theorem text_eq {a b : ByteArray} (h : a.toList = b.toList) : a = b := by
  apply ByteArray.ext
  apply Array.ext'
  rw [ByteArray.toList_eq, ByteArray.toList_eq] at h
  exact h
theorem sm_eq : ∀ x y : List Lab, x.length = y.length → sm x y = true → x = y
  | [], [], _, _ => rfl
  | [], _ :: _, h, _ => by simp at h
  | _ :: _, [], h, _ => by simp at h
  | a :: x, b :: y, h, hs => by
    unfold sm at hs
    by_cases hc : (!((a.f0.toList) == (b.f0.toList)) || (!((a.f1.toList) == (b.f1.toList)))) = true
    · rw [if_pos hc] at hs; cases hs
    · rw [if_neg hc] at hs
      have ih := sm_eq x y (by simpa using h) hs
      simp only [Bool.or_eq_true, Bool.not_eq_true', beq_eq_false_iff_ne, ne_eq, not_or, Decidable.not_not] at hc
      have h0 := text_eq hc.1
      have h1 := text_eq hc.2
      cases a; cases b
      simp only at h0 h1
      rw [h0, h1, ih]
theorem sm_refl : ∀ x : List Lab, sm x x = true
  | [] => rfl
  | a :: x => by unfold sm; simp [sm_refl x]
theorem same_iff (x y : List Lab) : same x y = true ↔ x = y := by
  constructor
  · intro h
    have hl := same_len h
    unfold same at h
    rw [if_pos (by omega)] at h
    exact sm_eq x y hl h
  · rintro rfl
    unfold same
    rw [if_pos rfl]
    exact sm_refl x
/-- Where the canonical form is one. -/
def Ok (l : List Lab) : Prop := ¬ 16 < l.length ∧ (∀ x ∈ l, fault x = 0) ∧ Once l ∧ l.any isMet = true
theorem firstF_all : ∀ (l : List Lab) (i : Nat), (∀ x ∈ l, fault x = 0) → firstF l i = none
  | [], _, _ => rfl
  | x :: l, i, h => by rw [firstF_ok (h x List.mem_cons_self)]; exact firstF_all l _ (fun y hy => h y (List.mem_cons_of_mem _ hy))
theorem firstT_once : ∀ (l b : List Lab), Once (b ++ l) → firstT b l = none
  | [], _, _ => rfl
  | x :: l, b, h => by
    have hx : b.any (named x) = false := by
      rw [List.any_eq_false]
      intro y hy
      unfold Once at h
      have := (List.pairwise_append.1 h).2.2 y hy x List.mem_cons_self
      unfold named
      simpa using this
    rw [firstT_no hx]
    exact firstT_once l (b ++ [x]) (by simpa using h)
theorem ok_can {l : List Lab} (h : Ok l) : can l = (order (l.filter keep), 0, 0) :=
  can_good h.1 (firstF_all l 0 h.2.1) (firstT_once l [] (by simpa using h.2.2.1)) h.2.2.2
theorem can_zero {l : List Lab} (h : (can l).2.1 = 0) : Ok l := by
  by_cases h16 : 16 < l.length
  · rw [can_many h16] at h; cases h
  · cases hf : firstF l 0 with
    | some cj =>
      obtain ⟨c, j⟩ := cj
      rw [can_fault h16 hf] at h
      exact absurd h (firstF_some l 0 c j hf)
    | none =>
      cases ht : firstT [] l with
      | some i => rw [can_twice h16 hf ht] at h; cases h
      | none =>
        cases hm : l.any isMet with
        | false => rw [can_none h16 hf ht hm] at h; cases h
        | true => exact ⟨h16, firstF_none l 0 hf, once_all ht, hm⟩
theorem ok_perm {a b : List Lab} (hp : a.Perm b) (h : Ok a) : Ok b := by
  refine ⟨by rw [← hp.length_eq]; exact h.1, fun x hx => h.2.1 x (hp.mem_iff.2 hx), ?_, ?_⟩
  · exact (hp.pairwise_iff (fun {x y} hxy => Ne.symm hxy)).1 h.2.2.1
  · rw [← h.2.2.2]
    exact (hp.any_eq).symm
theorem order_same {a b : List Lab} (hp : a.Perm b) (h : Once a) : order a = order b := by
  have hb : Once b := (hp.pairwise_iff (fun {x y} hxy => Ne.symm hxy)).1 h
  exact uniq ((order_perm a h).trans (hp.trans (order_perm b hb).symm)) (order_sorted a h) (order_sorted b hb)
/-- The order of the labels says nothing. -/
theorem can_perm {a b : List Lab} (hp : a.Perm b) (h : Ok a) : can b = can a := by
  rw [ok_can h, ok_can (ok_perm hp h), order_same (hp.filter keep) (once_filter keep h.2.2.1)]
/-- A canonical list is its own canonical form. -/
theorem can_idem {l : List Lab} (h : Ok l) : Ok (can l).1 ∧ (can (can l).1).1 = (can l).1 := by
  have ho := once_filter keep h.2.2.1
  have hp := order_perm (l.filter keep) ho
  have hc : (can l).1 = order (l.filter keep) := by rw [ok_can h]
  have hok : Ok (l.filter keep) := by
    refine ⟨fun hh => h.1 (Nat.lt_of_lt_of_le hh (List.length_filter_le _ _)), fun x hx => h.2.1 x (List.mem_filter.1 hx).1, ho, ?_⟩
    have hm := h.2.2.2
    rw [List.any_eq_true] at hm ⊢
    obtain ⟨x, hx, hxm⟩ := hm
    refine ⟨x, List.mem_filter.2 ⟨hx, ?_⟩, hxm⟩
    unfold isMet at hxm
    exact (Bool.and_eq_true_iff.1 hxm).1
  have hok2 := ok_perm hp.symm hok
  rw [hc]
  refine ⟨hok2, ?_⟩
  rw [ok_can hok2]
  show order ((order (l.filter keep)).filter keep) = order (l.filter keep)
  have e : (order (l.filter keep)).filter keep = order (l.filter keep) := by
    rw [List.filter_eq_self]
    intro x hx
    exact (List.mem_filter.1 (hp.mem_iff.1 hx)).2
  rw [e]
  exact order_same hp ((hp.symm.pairwise_iff (fun {x y} hxy => Ne.symm hxy)).1 ho)
theorem key_bytes {c : List Lab} (h : Ok c) (hc : (can c).1 = c) : key c = B (keyL c) := by
  unfold key
  have h0 : (can c).2.1 = 0 := by rw [ok_can h]
  rw [if_pos h0, if_pos ((same_iff _ _).2 hc)]
  have := wr_list c (Num.bytes 1 (c.length : Int))
  rw [← B_list (wr _ c), this]
  rfl
theorem keyL_ne (c : List Lab) : ¬ (B (keyL c)).toList = [] := by
  rw [Can.size_zero, B_size]
  unfold keyL
  rw [List.length_append, Enc.nL_length]
  omega
theorem ok_good {c : List Lab} (h : Ok c) : KeyDec.Good c := can_ok (by rw [ok_can h])
/-- A key is read again. -/
theorem key_back {c : List Lab} (h : Ok c) (hc : (can c).1 = c) : fin (B (keyL c)) c = (c, true) := by
  unfold fin
  rw [if_neg (keyL_ne c), if_pos (by rw [key_bytes h hc])]
/-- Equal keys, equal lists. -/
theorem key_inj {c d : List Lab} (hc : Ok c) (hc1 : (can c).1 = c) (hd : Ok d) (hd1 : (can d).1 = d) (e : key c = key d) : c = d := by
  rw [key_bytes hc hc1, key_bytes hd hd1] at e
  have h1 := impl_back c (ok_good hc)
  have h2 := impl_back d (ok_good hd)
  rw [← e] at h2
  have h3 := Ev.det h1 h2
  have h4 := key_back hd hd1
  rw [← e] at h4
  rw [key_back hc hc1, h4] at h3
  exact (Prod.mk.inj h3).1
theorem hLabels (x y : List Lab) (hn : x.length < 9223372036854775807) : Ev (fun k => laws_hLabels.f k x y) (same x y) := by
  unfold laws_hLabels.f same
  by_cases h : (x.length : Int) = (y.length : Int)
  · rw [if_pos h]
    exact Ev.ite_pos h (sm_loop laws_hLabels.l0 (fun k a b c d => by simp only [laws_hLabels.l0]) x y (by omega) hn x.length 0 (by omega))
  · rw [if_neg h]; exact Ev.ite_neg h (Ev.now _)
end Go.Proofs.YtdfgfhnbcifheaaDoor.KeyLaw
/- FnKey: what is left, plain. -/
namespace Go.Proofs.YtdfgfhnbcifheaaDoor.Pure
open Go.Proofs.YtdfgfhnbcifheaaDoor.M Go.Proofs.YtdfgfhnbcifheaaDoor.DecLib Go.Proofs.YtdfgfhnbcifheaaDoor.Loops Go.Proofs.YtdfgfhnbcifheaaDoor.Key Go.Proofs.YtdfgfhnbcifheaaDoor.KeyDec Go.Proofs.YtdfgfhnbcifheaaDoor.KeyLaw Go.Proofs.YtdfgfhnbcifheaaDoor.LabLaws Go.Proofs.YtdfgfhnbcifheaaDoorW.PrintWords Go.Proofs.YtdfgfhnbcifheaaDoorW.PrintLast Go.Proofs.YtdfgfhnbcifheaaDoorW.PrintMore Go.RowKit
set_option linter.unusedVariables false
theorem pick_at (l : List Int) (hb : ∀ x ∈ l, 0 ≤ x ∧ x ≤ 255) (n : Nat) (hn : 0 < n) : ∃ p : Nat, laws_hPick.f l 0 (n : Int) = some (p : Int) ∧ p < n := by
  unfold laws_hPick.f
  by_cases h0 : (l.length : Int) = 0
  · rw [if_pos h0]; exact ⟨0, rfl, hn⟩
  · rw [if_neg h0]
    by_cases h1 : (n : Int) ≤ 1
    · rw [if_pos h1]; exact ⟨0, rfl, hn⟩
    · rw [if_neg h1, Int.zero_tmod, if_pos (Int.le_refl 0), if_pos (by omega), if_neg (by omega)]
      have hx : 0 ≤ rd l 0 ∧ rd l 0 ≤ 255 := by
        unfold rd
        rw [List.getD_eq_getElem?_getD]
        by_cases hi : (0 : Int).toNat < l.length
        · rw [List.getElem?_eq_getElem hi]; exact hb _ (List.getElem_mem hi)
        · rw [List.getElem?_eq_none (by omega)]; decide
      have ht := Draw.tmod_in (rd l 0) (n : Int) hx.1 (by omega)
      obtain ⟨p, hp⟩ := Int.eq_ofNat_of_zero_le ht.1
      refine ⟨p, ?_, by omega⟩
      rw [w_id _ (by omega) (by omega), hp]
/-- The labels, turned by p. -/
def turn (l : List S38) (p : Nat) : List S38 := l.drop p ++ l.take p
theorem turn_len (l : List S38) (p : Nat) (hp : p < l.length) : (turn l p).length = l.length := by
  unfold turn
  rw [List.length_append, List.length_drop, List.length_take]; omega
theorem turn_perm (l : List S38) (p : Nat) : l.Perm (turn l p) := by
  have h := List.perm_append_comm (l₁ := l.take p) (l₂ := l.drop p)
  rw [List.take_append_drop] at h
  exact h
theorem turn_at (l : List S38) (p j : Nat) (hp : p < l.length) (hj : j < l.length) (hb : l.length ≤ 1000) :
    0 ≤ Int.tmod (wrap64 ((j : Int) + (p : Int))) (l.length : Int) ∧ Int.tmod (wrap64 ((j : Int) + (p : Int))) (l.length : Int) < (l.length : Int) ∧
      rd_T38 l (Int.tmod (wrap64 ((j : Int) + (p : Int))) (l.length : Int)) = (turn l p)[j]'(by rw [turn_len l p hp]; exact hj) := by
  have hw : wrap64 ((j : Int) + (p : Int)) = ((j + p : Nat) : Int) := (w_id _ (by omega) (by omega)).trans (by omega)
  rw [hw]
  have ht := Draw.tmod_in ((j + p : Nat) : Int) (l.length : Int) (by omega) (by omega)
  refine ⟨ht.1, ht.2, ?_⟩
  have hm : Int.tmod ((j + p : Nat) : Int) (l.length : Int) = (((j + p) % l.length : Nat) : Int) := by
    rw [Int.tmod_eq_emod_of_nonneg (by omega)]; exact (Int.natCast_emod _ _).symm
  have hlt : (j + p) % l.length < l.length := Nat.mod_lt _ (by omega)
  rw [hm, Can.rd_get l _ hlt]
  unfold turn
  by_cases hc : j < l.length - p
  · rw [List.getElem_append_left (by rw [List.length_drop]; omega), List.getElem_drop]
    congr 1
    rw [Nat.mod_eq_of_lt (by omega)]; omega
  · rw [List.getElem_append_right (by rw [List.length_drop]; omega), List.getElem_take]
    congr 1
    rw [List.length_drop, show j + p = (j - (l.length - p)) + l.length by omega, Nat.add_mod_right, Nat.mod_eq_of_lt (by omega)]
theorem last (l1 : List Int) (hc1 : Draw.Code l1) (form : List S38) (hok : Ok form) (hcan : (Can.can form).1 = form) :
    Ev (fun k => laws_FnKey.j3 k l1 form (B (keyL form)) false) true := by
  obtain ⟨m, hm, hmf, hml⟩ := Draw.draw_ok hc1
  have hsp : spec_Canon.f m = some (Can.can m) := by unfold spec_Canon.f; exact if_pos hmf
  refine Ev.step (f := fun k => (spec_DrawCanon.f k l1).bind fun t484 => ((spec_Canon.f t484).bind fun bt487 => (if bt487.2.1 = 0 then ((impl_EncodeKey.f k bt487.1).bind fun t492 => ((laws_hLabels.f k bt487.1 form).bind fun t493 => (some ((t492.toList == (B (keyL form)).toList) == t493)))) else (some true)))) (fun k => by
    simp only [laws_FnKey.j3, Bool.false_eq_true, if_false]) ?_
  refine Ev.bind hm ?_
  simp only [hsp, Option.bind_some]
  by_cases h0 : (Can.can m).2.1 = 0
  · obtain ⟨hom, hcm⟩ := can_idem (can_zero h0)
    have hlen := can_len m
    have hfm : Can.Fit (Can.can m).1 := fit_good (ok_good hom).2
    refine Ev.ite_pos h0 (Ev.bind (impl_key _ (by omega) hfm) (Ev.bind (hLabels _ form (by omega)) (Ev.eq (Ev.now _) ?_)))
    rw [← key_bytes hok hcan]
    by_cases he : (Can.can m).1 = form
    · rw [he, (same_iff form form).2 rfl]; simp
    · have h1 : same (Can.can m).1 form = false := by
        cases hs : same (Can.can m).1 form with
        | false => rfl
        | true => exact absurd ((same_iff _ _).1 hs) he
      have h2 : ¬ (key (Can.can m).1).toList = (key form).toList := fun e => he (key_inj hom hcm hok hcan (text_eq e))
      rw [h1, beq_eq_false_iff_ne.2 h2]; rfl
  · exact Ev.ite_neg h0 (Ev.now _)
theorem fin_turn (l1 : List Int) (hc1 : Draw.Code l1) (l : List S38) (hok : Ok l) (hf : Can.Fit l) (p : Nat) (hp : p < l.length) (p' : Int) :
    ∀ m j, p' = (p : Int) → j + m = l.length → Ev (fun k => laws_FnKey.l0 k l1 l (Can.can l).1 (Can.can l).1 ((turn l p).take j) p' (l.length : Int) (j : Int)) true := by
  have h16 : l.length ≤ 16 := by have := hok.1; omega
  have hT := turn_perm l p
  have hfT : Can.Fit (turn l p) := fun x hx => hf x (hT.mem_iff.2 hx)
  obtain ⟨hof, hcf⟩ := can_idem hok
  have hlen := can_len l
  have hff : Can.Fit (Can.can l).1 := fit_good (ok_good hof).2
  have hkey := key_bytes hof hcf
  have hback := impl_back (Can.can l).1 (ok_good hof)
  rw [key_back hof hcf] at hback
  have hsame : same (Can.can l).1 (Can.can l).1 = true := (same_iff _ _).2 rfl
  have hlab := hLabels (Can.can l).1 (Can.can l).1 (by omega)
  rw [hsame] at hlab
  have hcT : Can.can (turn l p) = Can.can l := can_perm hT hok
  have h0 : (Can.can l).2.1 = 0 := by rw [ok_can hok]
  intro m
  induction m with
  | zero =>
    intro j hp' hj
    obtain rfl : j = l.length := by omega
    subst hp'
    rw [List.take_of_length_le (by rw [turn_len l p hp]; omega)]
    refine Ev.step (f := fun k => (impl_Canon.f k (turn l p)).bind fun bt472 => ((impl_EncodeKey.f k (Can.can l).1).bind fun t477 => ((impl_DecodeKey.f k t477).bind fun bt478 => (if bt472.2.1 = 0 then ((laws_hLabels.f k bt472.1 (Can.can l).1).bind fun t482 => (if t482 = true then (if t477.toList = ([] : List UInt8) then (laws_FnKey.j3 k l1 (Can.can l).1 t477 true) else (if bt478.2 = true then ((laws_hLabels.f k bt478.1 (Can.can l).1).bind fun t483 => (laws_FnKey.j3 k l1 (Can.can l).1 t477 (!t483))) else (laws_FnKey.j3 k l1 (Can.can l).1 t477 true))) else (laws_FnKey.j3 k l1 (Can.can l).1 t477 true))) else (laws_FnKey.j3 k l1 (Can.can l).1 t477 true))))) (fun k => by
      conv => lhs; unfold laws_FnKey.l0
      rw [if_neg (by omega)]) ?_
    have hic := Can.impl_can (turn l p) hfT
    rw [hcT] at hic
    have hik := impl_key (Can.can l).1 (by omega) hff
    rw [hkey] at hik
    refine Ev.bind hic (Ev.bind hik (Ev.bind hback (Ev.ite_pos h0 (Ev.bind hlab (Ev.ite_pos rfl (Ev.ite_neg (keyL_ne _) (Ev.ite_pos rfl (Ev.bind hlab ?_))))))))
    exact last l1 hc1 _ hof hcf
  | succ m ih =>
    intro j hp' hj
    subst hp'
    have hjl : j < l.length := by omega
    obtain ⟨t0, t1, t2⟩ := turn_at l p j hp hjl (by omega)
    have htl := turn_len l p hp
    refine Ev.step (fun k => ?_) (ih (j + 1) rfl (by omega))
    conv => lhs; unfold laws_FnKey.l0
    rw [if_pos (by omega), if_neg (by omega), if_pos t0, if_pos t1, t2, if_pos (by rw [List.length_take]; omega), w_succ j (by omega), List.take_add_one, List.getElem?_eq_getElem (by omega)]
    rfl
theorem code_of {l : List Int} (hb : ∀ y ∈ l, (Lit.int .u8 y).wf = true) (hn : l.length ≤ 1048576) : Draw.Code l := by
  refine ⟨fun x hx => ?_, by omega⟩
  have := hb x hx
  simp [Lit.wf] at this
  have e0 : IntKind.u8.min = 0 := rfl
  have e1 : IntKind.u8.max = 255 := rfl
  omega
theorem FnKey : FnKeyPure := by
  rintro l0 l1 ⟨_, hb0⟩ ⟨_, hb1⟩
  refine Ev.rounds ?_
  have stop : ∀ c, c = true → Ev (fun k => laws_FnKey.j0 k l0 l1 c) true := by
    rintro c rfl
    exact Ev.step (f := fun _ => some true) (fun k => by simp only [laws_FnKey.j0, if_true]) (Ev.now _)
  unfold laws_FnKey.f
  by_cases h0 : (l0.length : Int) > 1048576
  · exact Ev.ite_pos h0 (stop _ rfl)
  refine Ev.ite_neg h0 ?_
  by_cases h1 : (l1.length : Int) > 1048576
  · exact stop _ (decide_eq_true h1)
  rw [decide_eq_false h1]
  have hc0 := code_of hb0 (by omega)
  have hc1 := code_of hb1 (by omega)
  obtain ⟨l, hl, hf, hlen⟩ := Draw.draw_ok hc0
  have hsp : spec_Canon.f l = some (Can.can l) := by unfold spec_Canon.f; exact if_pos hf
  have hcl := can_len l
  have hlab := hLabels (Can.can l).1 (Can.can l).1 (by omega)
  rw [(same_iff _ _).2 rfl] at hlab
  refine Ev.step (f := fun k => (spec_DrawCanon.f k l0).bind fun t449 => ((spec_Canon.f t449).bind fun bt452 => ((impl_Canon.f k t449).bind fun bt457 => (if bt457.2.1 = bt452.2.1 then (if bt457.2.2 = bt452.2.2 then ((laws_hLabels.f k bt457.1 bt452.1).bind fun t462 => (laws_FnKey.j1 k l1 t449 bt452.1 bt452.2.1 bt457.1 (!t462))) else (laws_FnKey.j1 k l1 t449 bt452.1 bt452.2.1 bt457.1 true)) else (laws_FnKey.j1 k l1 t449 bt452.1 bt452.2.1 bt457.1 true))))) (fun k => by
    simp only [laws_FnKey.j0, Bool.false_eq_true, if_false]) ?_
  refine Ev.bind hl ?_
  simp only [hsp, Option.bind_some]
  refine Ev.bind (Can.impl_can l hf) (Ev.ite_pos rfl (Ev.ite_pos rfl (Ev.bind hlab ?_)))
  refine Ev.step (f := fun k => if (Can.can l).2.1 = 0 then ((laws_hPick.f l1 0 (l.length : Int)).bind fun t467 => (laws_FnKey.l0 k l1 l (Can.can l).1 (Can.can l).1 ([] : List S38) t467 (l.length : Int) 0)) else ((impl_EncodeKey.f k l).bind fun t463 => (some (t463.toList == ([] : List UInt8))))) (fun k => by
    simp only [laws_FnKey.j1, Bool.not_true, Bool.false_eq_true, if_false]) ?_
  by_cases hz : (Can.can l).2.1 = 0
  · have hok := can_zero hz
    have hne : 0 < l.length := by
      cases l with
      | nil => have := hok.2.2.2; cases this
      | cons a l => simp
    obtain ⟨p, hp, hpl⟩ := pick_at l1 hc1.1 l.length hne
    refine Ev.ite_pos hz ?_
    rw [hp]
    simp only [Option.bind_some]
    exact fin_turn l1 hc1 l hok hf p hpl (p : Int) l.length 0 rfl (by omega)
  · refine Ev.ite_neg hz (Ev.bind (impl_key l (by omega) hf) (Ev.eq (Ev.now _) ?_))
    unfold key
    rw [if_neg hz, ByteArray.toList_eq]
    rfl
end Go.Proofs.YtdfgfhnbcifheaaDoor.Pure
