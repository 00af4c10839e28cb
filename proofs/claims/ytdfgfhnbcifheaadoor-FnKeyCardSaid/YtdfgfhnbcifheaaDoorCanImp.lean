/- Some of this seat's texts, joined by prune.py. -/
import Derived.Test.YtdfgfhnbcifheaaDoorF11
import Derived.Test.YtdfgfhnbcifheaaDoorF45
import Derived.Test.YtdfgfhnbcifheaaDoorF42
import Derived.Test.YtdfgfhnbcifheaaDoorF10
import Derived.Test.YtdfgfhnbcifheaaDoorF15
import Derived.Test.YtdfgfhnbcifheaaDoorF16
/- What impl.Canon's printed form answers. Plain. -/
namespace Go.Proofs.YtdfgfhnbcifheaaDoor.Can
open Go.Proofs.YtdfgfhnbcifheaaDoor.M Go.Proofs.YtdfgfhnbcifheaaDoor.Loops Go.Proofs.YtdfgfhnbcifheaaDoor.CanSort Go.Proofs.YtdfgfhnbcifheaaDoor.Utf Go.Proofs.YtdfgfhnbcifheaaDoorW.PrintWords Go.Proofs.YtdfgfhnbcifheaaDoorW.PrintLast Go.Proofs.YtdfgfhnbcifheaaDoorW.PrintMore Go.RowKit
set_option linter.unusedVariables false
theorem rd_get (l : List Lb) (j : Nat) (h : j < l.length) : rd_T38 l (j : Int) = l[j] := by
  unfold rd_T38
  rw [Int.toNat_natCast, List.getD_eq_getElem?_getD, List.getElem?_eq_getElem h]; rfl
theorem in_yes (l a : List Lb) (b : Bool) (i : Int) (u v : Int) (row : List Lb) (x : Lb) (hr : row.length ≤ 16) : ∀ m q, q + m = row.length → (row.drop q).any (named x) = true →
    Ev (fun k => impl_Canon.l2 k l a b i l u v row (row.length : Int) (q : Int) x.f0 x.f1) (([] : List Lb), (45 : Int), i) := by
  intro m
  induction m with
  | zero =>
    intro q hq h
    rw [List.drop_eq_nil_of_le (by omega)] at h
    cases h
  | succ m ih =>
    intro q hq h
    have hlt : q < row.length := by omega
    rw [List.drop_eq_getElem_cons hlt, List.any_cons] at h
    by_cases hn : row[q].f0.toList = x.f0.toList
    · refine Ev.step (f := fun _ => some _) (fun k => ?_) (Ev.now _)
      simp only [impl_Canon.l2]
      rw [if_pos (by omega), if_pos (by omega), if_pos (by omega), rd_get row q hlt, if_pos hn]
    · have hd : named x row[q] = false := by unfold named; exact decide_eq_false hn
      rw [hd, Bool.false_or] at h
      refine Ev.step (fun k => ?_) (ih (q + 1) (by omega) h)
      conv => lhs; unfold impl_Canon.l2
      rw [if_pos (by omega), if_pos (by omega), if_pos (by omega), rd_get row q hlt, if_neg hn, w_succ q (by omega)]
theorem in_no (l a : List Lb) (b : Bool) (i : Int) (u v : Int) (row : List Lb) (x : Lb) (hr : row.length ≤ 16) (ha : a.length ≤ 16) (R : List Lb × Int × Int)
    (hend : Ev (fun k => if x.f1.toList = ([] : List UInt8) then impl_Canon.l1 k l a b l u (wrap64 (v + 1)) else impl_Canon.l1 k l (a ++ [x]) (b || (x.f0.toList == ([95, 95, 110, 97, 109, 101, 95, 95] : List UInt8))) l u (wrap64 (v + 1))) R) :
    ∀ m q, q + m = row.length → (row.drop q).any (named x) = false → Ev (fun k => impl_Canon.l2 k l a b i l u v row (row.length : Int) (q : Int) x.f0 x.f1) R := by
  intro m
  induction m with
  | zero =>
    intro q hq h
    refine Ev.step (fun k => ?_) hend
    conv => lhs; unfold impl_Canon.l2
    rw [if_neg (by omega)]
    by_cases hv : x.f1.toList = ([] : List UInt8)
    · rw [if_pos hv, if_pos hv]
    · rw [if_neg hv, if_neg hv, if_pos (by omega)]
      cases b with
      | true => rfl
      | false => rfl
  | succ m ih =>
    intro q hq h
    have hlt : q < row.length := by omega
    rw [List.drop_eq_getElem_cons hlt, List.any_cons, Bool.or_eq_false_iff] at h
    have hn : ¬ row[q].f0.toList = x.f0.toList := by
      have := h.1
      unfold named at this
      exact of_decide_eq_false this
    refine Ev.step (fun k => ?_) (ih (q + 1) (by omega) h.2)
    conv => lhs; unfold impl_Canon.l2
    rw [if_pos (by omega), if_pos (by omega), if_pos (by omega), rd_get row q hlt, if_neg hn, w_succ q (by omega)]
theorem impl_second (l : List Lb) (h16 : ¬ 16 < l.length) (hf : firstF l 0 = none) : ∀ n j, j + n = l.length → firstT (l.take j) (l.drop j) = firstT [] l →
    Ev (fun k => impl_Canon.l1 k l ((l.take j).filter keep) ((l.take j).any isMet) l (l.length : Int) (j : Int)) (can l) := by
  intro n
  induction n with
  | zero =>
    intro j hj ht
    obtain rfl : j = l.length := by omega
    rw [List.drop_eq_nil_of_le (Nat.le_refl _)] at ht
    have ht0 : firstT [] l = none := ht.symm
    rw [List.take_of_length_le (Nat.le_refl _)]
    cases hm : l.any isMet with
    | true =>
      rw [can_good h16 hf ht0 hm]
      refine Ev.step (f := fun _ => some _) (fun k => ?_) (Ev.now _)
      simp only [impl_Canon.l1]
      rw [if_neg (by omega)]
      have hx : impl_Label_30.f (l.filter keep) = some (order (l.filter keep)) := by
        unfold impl_Label_30.f
        rw [if_pos ⟨once_filter keep (once_all ht0), Nat.lt_of_le_of_lt (List.length_filter_le _ _) (by omega)⟩]
      rw [hx]
      rfl
    | false =>
      rw [can_none h16 hf ht0 hm]
      refine Ev.step (f := fun _ => some _) (fun k => ?_) (Ev.now _)
      simp only [impl_Canon.l1]
      rw [if_neg (by omega), if_neg (by decide)]
  | succ n ih =>
    intro j hj ht
    have hlt : j < l.length := by omega
    obtain ⟨x, hx⟩ : ∃ x, x = l[j] := ⟨_, rfl⟩
    have htk : l.take (j + 1) = l.take j ++ [x] := by rw [List.take_add_one, List.getElem?_eq_getElem hlt, Option.toList_some, hx]
    rw [List.drop_eq_getElem_cons hlt, ← hx] at ht
    have hlen : (l.take j).length = j := by rw [List.length_take]; omega
    refine Ev.step (f := fun k => impl_Canon.l2 k l ((l.take j).filter keep) ((l.take j).any isMet) (j : Int) l (l.length : Int) (j : Int) (l.take j) ((l.take j).length : Int) ((0 : Nat) : Int) x.f0 x.f1) (fun k => by
      conv => lhs; unfold impl_Canon.l1
      rw [if_pos (by omega), if_pos (by omega), if_pos (by omega), if_pos (by omega), Option.bind_some, Int.toNat_natCast, rd_get l j hlt, ← hx]
      rfl) ?_
    cases hany : (l.take j).any (named x) with
    | true =>
      have htw : firstT [] l = some j := by rw [← ht, firstT_yes hany, hlen]
      rw [can_twice h16 hf htw]
      exact in_yes l _ _ _ _ _ (l.take j) x (by omega) j 0 (by omega) hany
    | false =>
      rw [firstT_no hany, ← htk] at ht
      have hn := ih (j + 1) (by omega) ht
      refine in_no l _ _ _ _ _ (l.take j) x (by omega) (Nat.le_trans (List.length_filter_le _ _) (by omega)) (can l) ?_ j 0 (by omega) hany
      rw [w_succ j (by omega)]
      rw [htk, List.filter_append, List.any_append] at hn
      by_cases hv : x.f1.toList = ([] : List UInt8)
      · refine Ev.ite_pos hv (Ev.congr (fun k => ?_) hn)
        have hk : keep x = false := by unfold keep; exact decide_eq_false (fun h => h hv)
        have h1 : [x].filter keep = [] := by simp [hk]
        have h2 : [x].any isMet = false := by simp [isMet, hk]
        rw [h1, h2, List.append_nil, Bool.or_false]
      · refine Ev.ite_neg hv (Ev.congr (fun k => ?_) hn)
        have hk : keep x = true := by unfold keep; exact decide_eq_true hv
        have h1 : [x].filter keep = [x] := by simp [hk]
        have h2 : [x].any isMet = (x.f0.toList == ([95, 95, 110, 97, 109, 101, 95, 95] : List UInt8)) := by
          simp only [List.any_cons, List.any_nil, Bool.or_false, isMet, hk, Bool.true_and]
          by_cases hq : x.f0.toList = [95, 95, 110, 97, 109, 101, 95, 95] <;> simp [hq]
        rw [h1, h2]
theorem impl_first (l : List Lb) (h16 : ¬ 16 < l.length) (hF : Fit l) : ∀ n j, j + n = l.length → firstF (l.drop j) j = firstF l 0 →
    Ev (fun k => impl_Canon.l0 k l l (l.length : Int) (j : Int)) (can l) := by
  intro n
  induction n with
  | zero =>
    intro j hj h
    obtain rfl : j = l.length := by omega
    rw [List.drop_eq_nil_of_le (Nat.le_refl _)] at h
    have hf : firstF l 0 = none := h.symm
    refine Ev.step (fun k => ?_) (impl_second l h16 hf l.length 0 (by omega) rfl)
    conv => lhs; unfold impl_Canon.l0
    rw [if_neg (by omega)]
    rfl
  | succ n ih =>
    intro j hj h
    have hlt : j < l.length := by omega
    obtain ⟨x, hx⟩ : ∃ x, x = l[j] := ⟨_, rfl⟩
    rw [List.drop_eq_getElem_cons hlt, ← hx] at h
    have hfx : x.f1.size ≤ 1073741824 := (hF x (by rw [hx]; exact List.getElem_mem _)).2
    have hv : impl_valueFault.f x.f1 = some (vf x.f1) := by unfold impl_valueFault.f; rw [if_pos (by omega)]
    have hl : ∀ k, impl_Canon.l0 (k + 1) l l (l.length : Int) (j : Int) = (impl_isName.f k x.f0).bind fun t => if t = true then (if vf x.f1 = 0 then impl_Canon.l0 k l l (l.length : Int) ((j + 1 : Nat) : Int) else some (([] : List Lb), vf x.f1, (j : Int))) else some (([] : List Lb), 41, (j : Int)) := by
      intro k
      conv => lhs; unfold impl_Canon.l0
      rw [if_pos (by omega), if_pos (by omega), if_pos (by omega), rd_get l j hlt, ← hx, hv, w_succ j (by omega)]
      rfl
    refine Ev.step hl (Ev.bind (impl_name x.f0) ?_)
    cases hn : nameOK x.f0 with
    | false =>
      have hq : fault x = 41 := by unfold fault; rw [hn]; rfl
      rw [firstF_bad (by rw [hq]; decide), hq] at h
      rw [can_fault h16 h.symm]
      exact Ev.now _
    | true =>
      have hq : fault x = vf x.f1 := by unfold fault; rw [hn]; rfl
      simp only [if_true]
      by_cases h0 : vf x.f1 = 0
      · refine Ev.ite_pos h0 (ih (j + 1) (by omega) ?_)
        rw [← h, firstF_ok (by rw [hq]; exact h0)]
      · refine Ev.ite_neg h0 ?_
        rw [firstF_bad (by rw [hq]; exact h0), hq] at h
        rw [can_fault h16 h.symm]
        exact Ev.now _
theorem impl_can (l : List Lb) (hF : Fit l) : Ev (fun k => impl_Canon.f k l) (can l) := by
  unfold impl_Canon.f
  by_cases h : 16 < l.length
  · refine Ev.ite_pos (by omega) ?_
    rw [can_many h]
    exact Ev.now _
  · exact Ev.ite_neg (by omega) (impl_first l h hF l.length 0 (by omega) rfl)
end Go.Proofs.YtdfgfhnbcifheaaDoor.Can
/- Keys written: both write the same bytes. Plain. -/
namespace Go.Proofs.YtdfgfhnbcifheaaDoor.Key
open Go.Proofs.YtdfgfhnbcifheaaDoor.M Go.Proofs.YtdfgfhnbcifheaaDoor.Loops Go.Proofs.YtdfgfhnbcifheaaDoor.NumPlain Go.Proofs.YtdfgfhnbcifheaaDoor.LabLaws Go.Proofs.YtdfgfhnbcifheaaDoorW.PrintWords Go.Proofs.YtdfgfhnbcifheaaDoorW.PrintLast Go.RowKit
set_option linter.unusedVariables false
abbrev Lb := S38
/-! ### two lists of labels, compared -/
def sm : List Lb → List Lb → Bool
  | a :: x, b :: y => if (!((a.f0.toList) == (b.f0.toList)) || (!((a.f1.toList) == (b.f1.toList)))) = true then false else sm x y
  | _, _ => true
theorem sm_loop (L : Nat → List Lb → List Lb → Int → Int → Option Bool)
    (hL : ∀ k x0 x1 x12 x13, L (k + 1) x0 x1 x12 x13 = if x13 < x12 then (if 0 ≤ x13 then (if x13 < (x0.length : Int) then (if x13 < (x1.length : Int) then (if (!((((rd_T38 x0 x13).f0).toList) == (((rd_T38 x1 x13).f0).toList)) || (!((((rd_T38 x0 x13).f1).toList) == (((rd_T38 x1 x13).f1).toList)))) = true then (some false) else (L k x0 x1 x12 (wrap64 (x13 + 1)))) else (none)) else (none)) else (none)) else (some true))
    (x y : List Lb) (hxy : x.length = y.length) (hn : x.length < 9223372036854775807) : ∀ m j, j + m = x.length → Ev (fun k => L k x y (x.length : Int) (j : Int)) (sm (x.drop j) (y.drop j)) := by
  intro m
  induction m with
  | zero =>
    intro j hj
    refine Ev.step (f := fun _ => some true) (fun k => by rw [hL, if_neg (by omega)]) (Ev.eq (Ev.now _) ?_)
    rw [List.drop_eq_nil_of_le (by omega)]; rfl
  | succ m ih =>
    intro j hj
    have h1 : j < x.length := by omega
    have h2 : j < y.length := by omega
    rw [List.drop_eq_getElem_cons h1, List.drop_eq_getElem_cons h2]
    have hst : ∀ k, L (k + 1) x y (x.length : Int) (j : Int) = if (!((x[j].f0.toList) == (y[j].f0.toList)) || (!((x[j].f1.toList) == (y[j].f1.toList)))) = true then some false else L k x y (x.length : Int) ((j + 1 : Nat) : Int) := by
      intro k
      rw [hL, if_pos (by omega), if_pos (by omega), if_pos (by omega), if_pos (by omega), Can.rd_get x j h1, Can.rd_get y j h2, w_succ j (by omega)]
    refine Ev.step hst ?_
    unfold sm
    by_cases hc : (!((x[j].f0.toList) == (y[j].f0.toList)) || (!((x[j].f1.toList) == (y[j].f1.toList)))) = true
    · rw [if_pos hc]; exact Ev.ite_pos hc (Ev.now _)
    · rw [if_neg hc]; exact Ev.ite_neg hc (ih (j + 1) (by omega))
def same (x y : List Lb) : Bool := if (x.length : Int) = (y.length : Int) then sm x y else false
theorem impl_same (x y : List Lb) (hn : x.length < 9223372036854775807) : Ev (fun k => impl_Label_39.f k x y) (same x y) := by
  unfold impl_Label_39.f same
  by_cases h : (x.length : Int) = (y.length : Int)
  · rw [if_pos h]
    exact Ev.ite_pos h (sm_loop impl_Label_39.l0 (fun k a b c d => by simp only [impl_Label_39.l0]) x y (by omega) hn x.length 0 (by omega))
  · rw [if_neg h]; exact Ev.ite_neg h (Ev.now _)
/-! ### what is written -/
def s8 (s : ByteArray) : ByteArray := Num.bytes 1 s.size ++ s
def s16 (s : ByteArray) : ByteArray := Num.bytes 2 s.size ++ s
theorem impl_s8 (s : ByteArray) (h : s.size ≤ 9223372036854775000) : impl_s8.f s = some (s8 s) := by
  unfold impl_s8.f impl_num.f
  simp only [if_true, Option.bind_some]
  rw [if_pos (by rw [bytes_size]; omega)]; rfl
theorem impl_s16 (s : ByteArray) (h : s.size ≤ 9223372036854775000) : impl_s16.f s = some (s16 s) := by
  unfold impl_s16.f impl_num.f
  simp only [show ¬ ((2 : Int) = 1) by decide, if_false, if_true, Option.bind_some]
  rw [if_pos (by rw [bytes_size]; omega)]; rfl
theorem s8_size (s : ByteArray) : (s8 s).size = 1 + s.size := by unfold s8; rw [ByteArray.size_append, bytes_size]
theorem s16_size (s : ByteArray) : (s16 s).size = 2 + s.size := by unfold s16; rw [ByteArray.size_append, bytes_size]
/-- The labels of l, written behind b. -/
def wr (b : ByteArray) : List Lb → ByteArray
  | [] => b
  | x :: l => wr (b ++ (s8 x.f0 ++ s16 x.f1)) l
def wt (x : Lb) : Nat := 3 + x.f0.size + x.f1.size
theorem wr_cat : ∀ (l : List Lb) (b : ByteArray), (wr b l).data.toList = b.data.toList ++ Jn.cat (l.flatMap fun x => [s8 x.f0, s16 x.f1])
  | [], b => by simp [wr, Jn.cat]
  | x :: l, b => by
    unfold wr
    rw [wr_cat l]
    simp [Jn.cat, List.append_assoc]
theorem impl_write (l : List Lb) (hl : l.length ≤ 1048576) (hs : ∀ x ∈ l, x.f0.size ≤ 1073741824 ∧ x.f1.size ≤ 1073741824) (b : ByteArray) (hc : (wr b l).size ≤ 140737488355328) : ∀ m j (y : List ByteArray), j + m = l.length → y = b :: (l.take j).flatMap (fun x => [s8 x.f0, s16 x.f1]) →
    Ev (fun k => impl_EncodeKey.l0 k y l (l.length : Int) (j : Int)) (wr b l) := by
  intro m
  induction m with
  | zero =>
    intro j y hj hy
    obtain rfl : j = l.length := by omega
    rw [List.take_of_length_le (Nat.le_refl _)] at hy
    have hcat : Jn.cat y = (wr b l).data.toList := by rw [wr_cat, hy]; simp [Jn.cat]
    have hlen : y.length = 1 + 2 * l.length := by
      rw [hy]
      have : ∀ q : List Lb, (q.flatMap (fun x => [s8 x.f0, s16 x.f1])).length = 2 * q.length := by
        intro q
        induction q with
        | nil => rfl
        | cons a q ih => rw [List.flatMap_cons, List.length_append, ih]; simp; omega
      rw [List.length_cons, this]; omega
    refine Ev.step (f := fun _ => some (wr b l)) (fun k => ?_) (Ev.now _)
    simp only [impl_EncodeKey.l0]
    rw [if_neg (by omega)]
    unfold impl_join.f
    rw [hcat, if_pos ⟨hc, by omega⟩]
    simp only [Option.bind_some]
  | succ m ih =>
    intro j y hj hy
    have h1 : j < l.length := by omega
    obtain ⟨z0, z1⟩ := hs l[j] (List.getElem_mem h1)
    have hlen : y.length ≤ 1 + 2 * l.length := by
      rw [hy]
      have : ∀ q : List Lb, (q.flatMap (fun x => [s8 x.f0, s16 x.f1])).length = 2 * q.length := by
        intro q
        induction q with
        | nil => rfl
        | cons a q ih => rw [List.flatMap_cons, List.length_append, ih]; simp; omega
      rw [List.length_cons, this, List.length_take]; omega
    refine Ev.step (fun k => ?_) (ih (j + 1) (y ++ [s8 l[j].f0, s16 l[j].f1]) (by omega) ?_)
    · conv => lhs; unfold impl_EncodeKey.l0
      rw [if_pos (by omega), if_pos (by omega), if_pos (by omega), Can.rd_get l j h1, impl_s8 _ (by omega), impl_s16 _ (by omega), w_succ j (by omega)]
      simp only [Option.bind_some]
      rw [if_pos (by simp only [List.length_cons, List.length_nil]; omega)]
    · rw [hy, List.take_add_one, List.getElem?_eq_getElem h1]
      simp only [Option.toList_some, List.flatMap_append, List.flatMap_cons, List.flatMap_nil, List.append_nil, List.cons_append]
/-- The key of a set of labels. -/
noncomputable def key (l : List Lb) : ByteArray := if (Can.can l).2.1 = 0 then (if same (Can.can l).1 l = true then wr (Num.bytes 1 (l.length : Int)) l else ⟨#[]⟩) else ⟨#[]⟩
theorem wr_size : ∀ (l : List Lb) (b : ByteArray), (∀ x ∈ l, x.f0.size ≤ 1073741824 ∧ x.f1.size ≤ 1073741824) → (wr b l).size ≤ b.size + l.length * 2147483651
  | [], b, _ => by simp [wr]
  | x :: l, b, h => by
    have ih := wr_size l (b ++ (s8 x.f0 ++ s16 x.f1)) (fun y hy => h y (List.mem_cons_of_mem _ hy))
    obtain ⟨z0, z1⟩ := h x List.mem_cons_self
    unfold wr
    rw [ByteArray.size_append, ByteArray.size_append, s8_size, s16_size] at ih
    rw [List.length_cons]
    omega
theorem same_len {x y : List Lb} (h : same x y = true) : x.length = y.length := by
  unfold same at h
  by_cases e : (x.length : Int) = (y.length : Int)
  · omega
  · rw [if_neg e] at h; cases h
theorem impl_key (l : List Lb) (hl : l.length ≤ 1048576) (hF : Can.Fit l) : Ev (fun k => impl_EncodeKey.f k l) (key l) := by
  have hlen := can_len l
  have stop : Ev (fun k => impl_EncodeKey.j0 k l true) (⟨#[]⟩ : ByteArray) := Ev.step (f := fun _ => some (⟨#[]⟩ : ByteArray)) (fun k => by simp only [impl_EncodeKey.j0, if_true]) (Ev.now _)
  unfold impl_EncodeKey.f key
  refine Ev.bind (Can.impl_can l hF) ?_
  by_cases h0 : (Can.can l).2.1 = 0
  · rw [if_pos h0]
    refine Ev.ite_pos h0 (Ev.bind (impl_same _ l (by omega)) ?_)
    cases hsm : same (Can.can l).1 l with
    | false => exact stop
    | true =>
      have hle := same_len hsm
      have hz := wr_size l (Num.bytes 1 (l.length : Int)) hF
      rw [bytes_size] at hz
      refine Ev.step (f := fun k => impl_EncodeKey.l0 k [Num.bytes 1 (l.length : Int)] l (l.length : Int) 0) (fun k => by
        simp only [impl_EncodeKey.j0, Bool.not_true, Bool.false_eq_true, if_false, impl_num.f, if_true, Option.bind_some]) ?_
      exact impl_write l hl hF _ (by omega) l.length 0 _ (by omega) (by simp)
  · rw [if_neg h0]
    exact Ev.ite_neg h0 stop
end Go.Proofs.YtdfgfhnbcifheaaDoor.Key
