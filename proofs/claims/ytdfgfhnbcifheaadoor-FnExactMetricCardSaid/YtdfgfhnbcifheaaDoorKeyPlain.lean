/- Keys written: both write the same bytes. Plain. -/
import Derived.Test.YtdfgfhnbcifheaaDoorF5
import Derived.Test.YtdfgfhnbcifheaaDoorCanImp
import Derived.Test.YtdfgfhnbcifheaaDoorF15
import Derived.Test.YtdfgfhnbcifheaaDoorF16
namespace Go.Proofs.YtdfgfhnbcifheaaDoor.Key
open Go.Proofs.YtdfgfhnbcifheaaDoor.M Go.Proofs.YtdfgfhnbcifheaaDoor.Loops Go.Proofs.YtdfgfhnbcifheaaDoor.NumPlain Go.Proofs.YtdfgfhnbcifheaaDoor.LabLaws Go.Proofs.YtdfgfhnbcifheaaDoorW.PrintWords Go.Proofs.YtdfgfhnbcifheaaDoorW.PrintLast Go.RowKit
set_option linter.unusedVariables false
abbrev Lb := S38
/-! ### two lists of labels, compared -/
def sm : List Lb → List Lb → Bool
  | a :: x, b :: y => if (!((a.f0.toList) == (b.f0.toList)) || (!((a.f1.toList) == (b.f1.toList)))) = true then false else sm x y
  | _, _ => true
theorem sm_loop (L : Nat → List Lb → List Lb → Int → Int → Option Bool)
    (hL : ∀ k x0 x1 x12 x13, L (k + 1) x0 x1 x12 x13 = if x13 < x12 then (if 0 ≤ x13 then (if x13 < (x0.length : Int) then (if x13 < (x1.length : Int) then (if (!((((rd_T38 x0 x13).f0).toList) == (((rd_T38 x1 x13).f0).toList)) || (!((((rd_T38 x0 x13).f1).toList) == (((rd_T38 x1 x13).f1).toList)))) = true then (some false) else (L k x0 x1 x12 (wrap64 (x13 + 1)))) else (none)) else (none)) else (none)) else (some true))
    (x y : List Lb) (hxy : x.length = y.length) (hn : x.length < 9223372036854775807) : ∀ m j, j + m = x.length → Ev (fun k => L k x y (x.length : Int) (j : Int)) (sm (x.drop j) (y.drop j)) := by
  intro m
  induction m with
  | zero =>
    intro j hj
    refine Ev.step (f := fun _ => some true) (fun k => by rw [hL, if_neg (by omega)]) (Ev.eq (Ev.now _) ?_)
    rw [List.drop_eq_nil_of_le (by omega)]; rfl
  | succ m ih =>
    intro j hj
    have h1 : j < x.length := by omega
    have h2 : j < y.length := by omega
    rw [List.drop_eq_getElem_cons h1, List.drop_eq_getElem_cons h2]
    have hst : ∀ k, L (k + 1) x y (x.length : Int) (j : Int) = if (!((x[j].f0.toList) == (y[j].f0.toList)) || (!((x[j].f1.toList) == (y[j].f1.toList)))) = true then some false else L k x y (x.length : Int) ((j + 1 : Nat) : Int) := by
      intro k
      rw [hL, if_pos (by omega), if_pos (by omega), if_pos (by omega), if_pos (by omega), Can.rd_get x j h1, Can.rd_get y j h2, w_succ j (by omega)]
    refine Ev.step hst ?_
    unfold sm
    by_cases hc : (!((x[j].f0.toList) == (y[j].f0.toList)) || (!((x[j].f1.toList) == (y[j].f1.toList)))) = true
    · rw [if_pos hc]; exact Ev.ite_pos hc (Ev.now _)
    · rw [if_neg hc]; exact Ev.ite_neg hc (ih (j + 1) (by omega))
def same (x y : List Lb) : Bool := if (x.length : Int) = (y.length : Int) then sm x y else false
theorem spec_same (x y : List Lb) (hn : x.length < 9223372036854775807) : Ev (fun k => spec_l3Same.f k x y) (same x y) := by
  unfold spec_l3Same.f same
  by_cases h : (x.length : Int) = (y.length : Int)
  · rw [if_pos h]
    exact Ev.ite_pos h (sm_loop spec_l3Same.l0 (fun k a b c d => by simp only [spec_l3Same.l0]) x y (by omega) hn x.length 0 (by omega))
  · rw [if_neg h]; exact Ev.ite_neg h (Ev.now _)
theorem impl_same (x y : List Lb) (hn : x.length < 9223372036854775807) : Ev (fun k => impl_Label_39.f k x y) (same x y) := by
  unfold impl_Label_39.f same
  by_cases h : (x.length : Int) = (y.length : Int)
  · rw [if_pos h]
    exact Ev.ite_pos h (sm_loop impl_Label_39.l0 (fun k a b c d => by simp only [impl_Label_39.l0]) x y (by omega) hn x.length 0 (by omega))
  · rw [if_neg h]; exact Ev.ite_neg h (Ev.now _)
/-! ### what is written -/
def s8 (s : ByteArray) : ByteArray := Num.bytes 1 s.size ++ s
def s16 (s : ByteArray) : ByteArray := Num.bytes 2 s.size ++ s
theorem impl_s8 (s : ByteArray) (h : s.size ≤ 9223372036854775000) : impl_s8.f s = some (s8 s) := by
  unfold impl_s8.f impl_num.f
  simp only [if_true, Option.bind_some]
  rw [if_pos (by rw [bytes_size]; omega)]; rfl
theorem impl_s16 (s : ByteArray) (h : s.size ≤ 9223372036854775000) : impl_s16.f s = some (s16 s) := by
  unfold impl_s16.f impl_num.f
  simp only [show ¬ ((2 : Int) = 1) by decide, if_false, if_true, Option.bind_some]
  rw [if_pos (by rw [bytes_size]; omega)]; rfl
theorem spec_s8 (s : ByteArray) (h : s.size ≤ 9223372036854775000) : Ev (fun k => spec_l2S8.f k s) (s8 s) := by
  unfold spec_l2S8.f
  refine Ev.bind (spec_num (s.size : Int) 1 (by decide)) (Ev.ite_pos (by rw [bytes_size]; omega) (Ev.now _))
theorem spec_s16 (s : ByteArray) (h : s.size ≤ 9223372036854775000) : Ev (fun k => spec_l2S16.f k s) (s16 s) := by
  unfold spec_l2S16.f
  refine Ev.bind (spec_num (s.size : Int) 2 (by decide)) (Ev.ite_pos (by rw [bytes_size]; omega) (Ev.now _))
theorem s8_size (s : ByteArray) : (s8 s).size = 1 + s.size := by unfold s8; rw [ByteArray.size_append, bytes_size]
theorem s16_size (s : ByteArray) : (s16 s).size = 2 + s.size := by unfold s16; rw [ByteArray.size_append, bytes_size]
/-- The labels of l, written behind b. -/
def wr (b : ByteArray) : List Lb → ByteArray
  | [] => b
  | x :: l => wr (b ++ (s8 x.f0 ++ s16 x.f1)) l
def wt (x : Lb) : Nat := 3 + x.f0.size + x.f1.size
theorem wr_cat : ∀ (l : List Lb) (b : ByteArray), (wr b l).data.toList = b.data.toList ++ Jn.cat (l.flatMap fun x => [s8 x.f0, s16 x.f1])
  | [], b => by simp [wr, Jn.cat]
  | x :: l, b => by
    unfold wr
    rw [wr_cat l]
    simp [Jn.cat, List.append_assoc]
theorem spec_write (l : List Lb) (hl : l.length ≤ 1048576) (hs : ∀ x ∈ l, x.f0.size ≤ 1073741824 ∧ x.f1.size ≤ 1073741824) : ∀ m j (b : ByteArray), j + m = l.length → b.size ≤ 1 + j * 2147483651 →
    Ev (fun k => spec_EncodeKey.l0 k b l (l.length : Int) (j : Int)) (wr b (l.drop j)) := by
  intro m
  induction m with
  | zero =>
    intro j b hj hb
    refine Ev.step (f := fun _ => some b) (fun k => by simp only [spec_EncodeKey.l0]; rw [if_neg (by omega)]) (Ev.eq (Ev.now _) ?_)
    rw [List.drop_eq_nil_of_le (by omega)]; rfl
  | succ m ih =>
    intro j b hj hb
    have h1 : j < l.length := by omega
    rw [List.drop_eq_getElem_cons h1]
    obtain ⟨z0, z1⟩ := hs l[j] (List.getElem_mem h1)
    have a0 := s8_size l[j].f0
    have a1 := s16_size l[j].f1
    refine Ev.step (f := fun k => (spec_l2S8.f k l[j].f0).bind fun t220 => ((spec_l2S16.f k l[j].f1).bind fun t221 => (if t220.size + t221.size ≤ 9223372036854775807 then (if b.size + (t220 ++ t221).size ≤ 9223372036854775807 then (spec_EncodeKey.l0 k (b ++ (t220 ++ t221)) l (l.length : Int) ((j + 1 : Nat) : Int)) else (none)) else (none)))) (fun k => by
      conv => lhs; unfold spec_EncodeKey.l0
      rw [if_pos (by omega), if_pos (by omega), if_pos (by omega), Can.rd_get l j h1, w_succ j (by omega)]) ?_
    refine Ev.bind (spec_s8 _ (by omega)) (Ev.bind (spec_s16 _ (by omega)) (Ev.ite_pos (by omega) (Ev.ite_pos (by rw [ByteArray.size_append]; omega) ?_)))
    exact ih (j + 1) _ (by omega) (by rw [ByteArray.size_append, ByteArray.size_append]; omega)
theorem impl_write (l : List Lb) (hl : l.length ≤ 1048576) (hs : ∀ x ∈ l, x.f0.size ≤ 1073741824 ∧ x.f1.size ≤ 1073741824) (b : ByteArray) (hc : (wr b l).size ≤ 140737488355328) : ∀ m j (y : List ByteArray), j + m = l.length → y = b :: (l.take j).flatMap (fun x => [s8 x.f0, s16 x.f1]) →
    Ev (fun k => impl_EncodeKey.l0 k y l (l.length : Int) (j : Int)) (wr b l) := by
  intro m
  induction m with
  | zero =>
    intro j y hj hy
    obtain rfl : j = l.length := by omega
    rw [List.take_of_length_le (Nat.le_refl _)] at hy
    have hcat : Jn.cat y = (wr b l).data.toList := by rw [wr_cat, hy]; simp [Jn.cat]
    have hlen : y.length = 1 + 2 * l.length := by
      rw [hy]
      have : ∀ q : List Lb, (q.flatMap (fun x => [s8 x.f0, s16 x.f1])).length = 2 * q.length := by
        intro q
        induction q with
        | nil => rfl
        | cons a q ih => rw [List.flatMap_cons, List.length_append, ih]; simp; omega
      rw [List.length_cons, this]; omega
    refine Ev.step (f := fun _ => some (wr b l)) (fun k => ?_) (Ev.now _)
    simp only [impl_EncodeKey.l0]
    rw [if_neg (by omega)]
    unfold impl_join.f
    rw [hcat, if_pos ⟨hc, by omega⟩]
    simp only [Option.bind_some]
  | succ m ih =>
    intro j y hj hy
    have h1 : j < l.length := by omega
    obtain ⟨z0, z1⟩ := hs l[j] (List.getElem_mem h1)
    have hlen : y.length ≤ 1 + 2 * l.length := by
      rw [hy]
      have : ∀ q : List Lb, (q.flatMap (fun x => [s8 x.f0, s16 x.f1])).length = 2 * q.length := by
        intro q
        induction q with
        | nil => rfl
        | cons a q ih => rw [List.flatMap_cons, List.length_append, ih]; simp; omega
      rw [List.length_cons, this, List.length_take]; omega
    refine Ev.step (fun k => ?_) (ih (j + 1) (y ++ [s8 l[j].f0, s16 l[j].f1]) (by omega) ?_)
    · conv => lhs; unfold impl_EncodeKey.l0
      rw [if_pos (by omega), if_pos (by omega), if_pos (by omega), Can.rd_get l j h1, impl_s8 _ (by omega), impl_s16 _ (by omega), w_succ j (by omega)]
      simp only [Option.bind_some]
      rw [if_pos (by simp only [List.length_cons, List.length_nil]; omega)]
    · rw [hy, List.take_add_one, List.getElem?_eq_getElem h1]
      simp only [Option.toList_some, List.flatMap_append, List.flatMap_cons, List.flatMap_nil, List.append_nil, List.cons_append]
/-- The key of a set of labels. -/
noncomputable def key (l : List Lb) : ByteArray := if (Can.can l).2.1 = 0 then (if same (Can.can l).1 l = true then wr (Num.bytes 1 (l.length : Int)) l else ⟨#[]⟩) else ⟨#[]⟩
theorem spec_key (l : List Lb) (hl : l.length ≤ 1048576) (hF : Can.Fit l) : Ev (fun k => spec_EncodeKey.f k l) (key l) := by
  have hsp : spec_Canon.f l = some (Can.can l) := by unfold spec_Canon.f; exact if_pos hF
  have hlen := can_len l
  have stop : Ev (fun k => spec_EncodeKey.j0 k l true) (⟨#[]⟩ : ByteArray) := Ev.step (f := fun _ => some (⟨#[]⟩ : ByteArray)) (fun k => by simp only [spec_EncodeKey.j0, if_true]) (Ev.now _)
  unfold spec_EncodeKey.f key
  simp only [hsp, Option.bind_some]
  by_cases h0 : (Can.can l).2.1 = 0
  · rw [if_pos h0]
    refine Ev.ite_pos h0 (Ev.bind (spec_same _ l (by omega)) ?_)
    cases hsm : same (Can.can l).1 l with
    | false => exact stop
    | true =>
      refine Ev.step (f := fun k => (spec_l2Num.f k 1 (l.length : Int)).bind fun t217 => (spec_EncodeKey.l0 k t217 l (l.length : Int) 0)) (fun k => by simp only [spec_EncodeKey.j0, Bool.not_true, Bool.false_eq_true, if_false]) ?_
      exact Ev.bind (spec_num (l.length : Int) 1 (by decide)) (spec_write l hl hF l.length 0 _ (by omega) (by rw [bytes_size]; omega))
  · rw [if_neg h0]
    exact Ev.ite_neg h0 stop
theorem wr_size : ∀ (l : List Lb) (b : ByteArray), (∀ x ∈ l, x.f0.size ≤ 1073741824 ∧ x.f1.size ≤ 1073741824) → (wr b l).size ≤ b.size + l.length * 2147483651
  | [], b, _ => by simp [wr]
  | x :: l, b, h => by
    have ih := wr_size l (b ++ (s8 x.f0 ++ s16 x.f1)) (fun y hy => h y (List.mem_cons_of_mem _ hy))
    obtain ⟨z0, z1⟩ := h x List.mem_cons_self
    unfold wr
    rw [ByteArray.size_append, ByteArray.size_append, s8_size, s16_size] at ih
    rw [List.length_cons]
    omega
theorem same_len {x y : List Lb} (h : same x y = true) : x.length = y.length := by
  unfold same at h
  by_cases e : (x.length : Int) = (y.length : Int)
  · omega
  · rw [if_neg e] at h; cases h
theorem impl_key (l : List Lb) (hl : l.length ≤ 1048576) (hF : Can.Fit l) : Ev (fun k => impl_EncodeKey.f k l) (key l) := by
  have hlen := can_len l
  have stop : Ev (fun k => impl_EncodeKey.j0 k l true) (⟨#[]⟩ : ByteArray) := Ev.step (f := fun _ => some (⟨#[]⟩ : ByteArray)) (fun k => by simp only [impl_EncodeKey.j0, if_true]) (Ev.now _)
  unfold impl_EncodeKey.f key
  refine Ev.bind (Can.impl_can l hF) ?_
  by_cases h0 : (Can.can l).2.1 = 0
  · rw [if_pos h0]
    refine Ev.ite_pos h0 (Ev.bind (impl_same _ l (by omega)) ?_)
    cases hsm : same (Can.can l).1 l with
    | false => exact stop
    | true =>
      have hle := same_len hsm
      have hz := wr_size l (Num.bytes 1 (l.length : Int)) hF
      rw [bytes_size] at hz
      refine Ev.step (f := fun k => impl_EncodeKey.l0 k [Num.bytes 1 (l.length : Int)] l (l.length : Int) 0) (fun k => by
        simp only [impl_EncodeKey.j0, Bool.not_true, Bool.false_eq_true, if_false, impl_num.f, if_true, Option.bind_some]) ?_
      exact impl_write l hl hF _ (by omega) l.length 0 _ (by omega) (by simp)
  · rw [if_neg h0]
    exact Ev.ite_neg h0 stop
end Go.Proofs.YtdfgfhnbcifheaaDoor.Key
