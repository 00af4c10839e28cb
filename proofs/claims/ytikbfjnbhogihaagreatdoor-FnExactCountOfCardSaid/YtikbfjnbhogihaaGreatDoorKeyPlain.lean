import Derived.Test.YtikbfjnbhogihaaGreatDoorLabLen
import Derived.Test.YtikbfjnbhogihaaGreatDoorF17
import Derived.Test.YtikbfjnbhogihaaGreatDoorF136
import Derived.Test.YtikbfjnbhogihaaGreatDoorM0
import Derived.Test.YtikbfjnbhogihaaGreatDoorF104
/- Keys written: both write the same bytes. Plain. -/
namespace Go.Proofs.YtikbfjnbhogihaaGreatDoor.Key
open Go.Proofs.YtikbfjnbhogihaaGreatDoor.M Go.Proofs.YtikbfjnbhogihaaGreatDoor.Loops Go.Proofs.YtikbfjnbhogihaaGreatDoor.NumPlain Go.Proofs.YtikbfjnbhogihaaGreatDoor.LabLaws Go.Proofs.YtikbfjnbhogihaaGreatDoorW.PrintWords Go.Proofs.YtikbfjnbhogihaaGreatDoorW.PrintLast Go.RowKit
set_option linter.unusedVariables false
abbrev Lb := S141
/-! ### two lists of labels, compared -/
def sm : List Lb → List Lb → Bool
 | a :: x, b :: y => if (!((a.f0.toList) == (b.f0.toList)) || (!((a.f1.toList) == (b.f1.toList)))) = true then false else sm x y
 | _, _ => true
theorem sm_loop (L : Nat → List Lb → List Lb → Int → Int → Option Bool)
  (hL : ∀ k x0 x1 x12 x13, L (k + 1) x0 x1 x12 x13 = if x13 < x12 then (if 0 ≤ x13 then (if x13 < (x0.length : Int) then (if x13 < (x1.length : Int) then (if (!((((rd_T141 x0 x13).f0).toList) == (((rd_T141 x1 x13).f0).toList)) || (!((((rd_T141 x0 x13).f1).toList) == (((rd_T141 x1 x13).f1).toList)))) = true then (some false) else (L k x0 x1 x12 (wrap64 (x13 + 1)))) else (none)) else (none)) else (none)) else (some true))
  (x y : List Lb) (hxy : x.length = y.length) (hn : x.length < 9223372036854775807) : ∀ m j, j + m = x.length → Ev (fun k => L k x y (x.length : Int) (j : Int)) (sm (x.drop j) (y.drop j)) := by
 intro m
 induction m with
 | zero =>
  intro j hj
  refine Ev.step (f := fun _ => some true) (fun k => by rw [hL, if_neg (by omega)]) (Ev.eq (Ev.now _) ?_)
  rw [List.drop_eq_nil_of_le (by omega)]; rfl
 | succ m ih =>
  intro j hj
  have h1 : j < x.length := by omega
  have h2 : j < y.length := by omega
  rw [List.drop_eq_getElem_cons h1, List.drop_eq_getElem_cons h2]
  have hst : ∀ k, L (k + 1) x y (x.length : Int) (j : Int) = if (!((x[j].f0.toList) == (y[j].f0.toList)) || (!((x[j].f1.toList) == (y[j].f1.toList)))) = true then some false else L k x y (x.length : Int) ((j + 1 : Nat) : Int) := by
   intro k
   rw [hL, if_pos (by omega), if_pos (by omega), if_pos (by omega), if_pos (by omega), Can.rd_get x j h1, Can.rd_get y j h2, w_succ j (by omega)]
  refine Ev.step hst ?_
  unfold sm
  by_cases hc : (!((x[j].f0.toList) == (y[j].f0.toList)) || (!((x[j].f1.toList) == (y[j].f1.toList)))) = true
  ·rw [if_pos hc]; exact Ev.ite_pos hc (Ev.now _)
  ·rw [if_neg hc]; exact Ev.ite_neg hc (ih (j + 1) (by omega))
def same (x y : List Lb) : Bool := if (x.length : Int) = (y.length : Int) then sm x y else false
theorem spec_same (x y : List Lb) (hn : x.length < 9223372036854775807) : Ev (fun k => spec_l3Same.f k x y) (same x y) := by
 unfold spec_l3Same.f same
 by_cases h : (x.length : Int) = (y.length : Int)
 ·rw [if_pos h]
  exact Ev.ite_pos h (sm_loop spec_l3Same.l0 (fun k a b c d => by simp only [spec_l3Same.l0]) x y (by omega) hn x.length 0 (by omega))
 ·rw [if_neg h]; exact Ev.ite_neg h (Ev.now _)
theorem impl_same (x y : List Lb) (hn : x.length < 9223372036854775807) : Ev (fun k => impl_Label_159.f k x y) (same x y) := by
 unfold impl_Label_159.f same
 by_cases h : (x.length : Int) = (y.length : Int)
 ·rw [if_pos h]
  exact Ev.ite_pos h (sm_loop impl_Label_159.l0 (fun k a b c d => by simp only [impl_Label_159.l0]) x y (by omega) hn x.length 0 (by omega))
 ·rw [if_neg h]; exact Ev.ite_neg h (Ev.now _)
/-! ### what is written -/
def s8 (s : ByteArray) : ByteArray := Num.bytes 1 s.size ++ s
def s16 (s : ByteArray) : ByteArray := Num.bytes 2 s.size ++ s
theorem impl_s8 (s : ByteArray) (h : s.size ≤ 9223372036854775000) : impl_s8.f s = some (s8 s) := by
 unfold impl_s8.f impl_num.f
 simp only [if_true, Option.bind_some]
 rw [if_pos (by rw [bytes_size]; omega)]; rfl
theorem impl_s16 (s : ByteArray) (h : s.size ≤ 9223372036854775000) : impl_s16.f s = some (s16 s) := by
 unfold impl_s16.f impl_num.f
 simp only [show ¬ ((2 : Int) = 1) by decide, if_false, if_true, Option.bind_some]
 rw [if_pos (by rw [bytes_size]; omega)]; rfl
theorem spec_s8 (s : ByteArray) (h : s.size ≤ 9223372036854775000) : Ev (fun k => spec_l2S8.f k s) (s8 s) := by
 unfold spec_l2S8.f
 refine Ev.bind (spec_num (s.size : Int) 1 (by decide)) (Ev.ite_pos (by rw [bytes_size]; omega) (Ev.now _))
theorem spec_s16 (s : ByteArray) (h : s.size ≤ 9223372036854775000) : Ev (fun k => spec_l2S16.f k s) (s16 s) := by
 unfold spec_l2S16.f
 refine Ev.bind (spec_num (s.size : Int) 2 (by decide)) (Ev.ite_pos (by rw [bytes_size]; omega) (Ev.now _))
theorem s8_size (s : ByteArray) : (s8 s).size = 1 + s.size := by unfold s8; rw [ByteArray.size_append, bytes_size]
theorem s16_size (s : ByteArray) : (s16 s).size = 2 + s.size := by unfold s16; rw [ByteArray.size_append, bytes_size]
def wr (b : ByteArray) : List Lb → ByteArray
 | [] => b
 | x :: l => wr (b ++ (s8 x.f0 ++ s16 x.f1)) l
def wt (x : Lb) : Nat := 3 + x.f0.size + x.f1.size
theorem wr_cat : ∀ (l : List Lb) (b : ByteArray), (wr b l).data.toList = b.data.toList ++ Jn.cat (l.flatMap fun x => [s8 x.f0, s16 x.f1])
 | [], b => by simp [wr, Jn.cat]
 | x :: l, b => by
  unfold wr
  rw [wr_cat l]
  simp [Jn.cat, List.append_assoc]
theorem spec_write (l : List Lb) (hl : l.length ≤ 1048576) (hs : ∀ x ∈ l, x.f0.size ≤ 1073741824 ∧ x.f1.size ≤ 1073741824) : ∀ m j (b : ByteArray), j + m = l.length → b.size ≤ 1 + j * 2147483651 →
  Ev (fun k => spec_EncodeKey.l0 k b l (l.length : Int) (j : Int)) (wr b (l.drop j)) := by
 intro m
 induction m with
 | zero =>
  intro j b hj hb
  refine Ev.step (f := fun _ => some b) (fun k => by simp only [spec_EncodeKey.l0]; rw [if_neg (by omega)]) (Ev.eq (Ev.now _) ?_)
  rw [List.drop_eq_nil_of_le (by omega)]; rfl
 | succ m ih =>
  intro j b hj hb
  have h1 : j < l.length := by omega
  rw [List.drop_eq_getElem_cons h1]
  obtain ⟨z0, z1⟩ := hs l[j] (List.getElem_mem h1)
  have a0 := s8_size l[j].f0
  have a1 := s16_size l[j].f1
  refine Ev.step (f := fun k => (spec_l2S8.f k l[j].f0).bind fun t220 => ((spec_l2S16.f k l[j].f1).bind fun t221 => (if t220.size + t221.size ≤ 9223372036854775807 then (if b.size + (t220 ++ t221).size ≤ 9223372036854775807 then (spec_EncodeKey.l0 k (b ++ (t220 ++ t221)) l (l.length : Int) ((j + 1 : Nat) : Int)) else (none)) else (none)))) (fun k => by
   conv => lhs; unfold spec_EncodeKey.l0
   rw [if_pos (by omega), if_pos (by omega), if_pos (by omega), Can.rd_get l j h1, w_succ j (by omega)]) ?_
  refine Ev.bind (spec_s8 _ (by omega)) (Ev.bind (spec_s16 _ (by omega)) (Ev.ite_pos (by omega) (Ev.ite_pos (by rw [ByteArray.size_append]; omega) ?_)))
  exact ih (j + 1) _ (by omega) (by rw [ByteArray.size_append, ByteArray.size_append]; omega)
theorem impl_write (l : List Lb) (hl : l.length ≤ 1048576) (hs : ∀ x ∈ l, x.f0.size ≤ 1073741824 ∧ x.f1.size ≤ 1073741824) (b : ByteArray) (hc : (wr b l).size ≤ 140737488355328) : ∀ m j (y : List ByteArray), j + m = l.length → y = b :: (l.take j).flatMap (fun x => [s8 x.f0, s16 x.f1]) →
  Ev (fun k => impl_EncodeKey.l0 k y l (l.length : Int) (j : Int)) (wr b l) := by
 intro m
 induction m with
 | zero =>
  intro j y hj hy
  obtain rfl : j = l.length := by omega
  rw [List.take_of_length_le (Nat.le_refl _)] at hy
  have hcat : Jn.cat y = (wr b l).data.toList := by rw [wr_cat, hy]; simp [Jn.cat]
  have hlen : y.length = 1 + 2 * l.length := by
   rw [hy]
   have : ∀ q : List Lb, (q.flatMap (fun x => [s8 x.f0, s16 x.f1])).length = 2 * q.length := by
    intro q
    induction q with
    | nil => rfl
    | cons a q ih => rw [List.flatMap_cons, List.length_append, ih]; simp; omega
   rw [List.length_cons, this]; omega
  refine Ev.step (f := fun _ => some (wr b l)) (fun k => ?_) (Ev.now _)
  simp only [impl_EncodeKey.l0]
  rw [if_neg (by omega)]
  unfold impl_join.f
  rw [hcat, if_pos ⟨hc, by omega⟩]
  simp only [Option.bind_some]
 | succ m ih =>
  intro j y hj hy
  have h1 : j < l.length := by omega
  obtain ⟨z0, z1⟩ := hs l[j] (List.getElem_mem h1)
  have hlen : y.length ≤ 1 + 2 * l.length := by
   rw [hy]
   have : ∀ q : List Lb, (q.flatMap (fun x => [s8 x.f0, s16 x.f1])).length = 2 * q.length := by
    intro q
    induction q with
    | nil => rfl
    | cons a q ih => rw [List.flatMap_cons, List.length_append, ih]; simp; omega
   rw [List.length_cons, this, List.length_take]; omega
  refine Ev.step (fun k => ?_) (ih (j + 1) (y ++ [s8 l[j].f0, s16 l[j].f1]) (by omega) ?_)
  ·conv => lhs; unfold impl_EncodeKey.l0
   rw [if_pos (by omega), if_pos (by omega), if_pos (by omega), Can.rd_get l j h1, impl_s8 _ (by omega), impl_s16 _ (by omega), w_succ j (by omega)]
   simp only [Option.bind_some]
   rw [if_pos (by simp only [List.length_cons, List.length_nil]; omega)]
  ·rw [hy, List.take_add_one, List.getElem?_eq_getElem h1]
   simp only [Option.toList_some, List.flatMap_append, List.flatMap_cons, List.flatMap_nil, List.append_nil, List.cons_append]
noncomputable def key (l : List Lb) : ByteArray := if (Can.can l).2.1 = 0 then (if same (Can.can l).1 l = true then wr (Num.bytes 1 (l.length : Int)) l else ⟨#[]⟩) else ⟨#[]⟩
theorem spec_key (l : List Lb) (hl : l.length ≤ 1048576) (hF : Can.Fit l) : Ev (fun k => spec_EncodeKey.f k l) (key l) := by
 have hsp : spec_Canon.f l = some (Can.can l) := by unfold spec_Canon.f; exact if_pos hF
 have hlen := can_len l
 have stop : Ev (fun k => spec_EncodeKey.j0 k l true) (⟨#[]⟩ : ByteArray) := Ev.step (f := fun _ => some (⟨#[]⟩ : ByteArray)) (fun k => by simp only [spec_EncodeKey.j0, if_true]) (Ev.now _)
 unfold spec_EncodeKey.f key
 simp only [hsp, Option.bind_some]
 by_cases h0 : (Can.can l).2.1 = 0
 ·rw [if_pos h0]
  refine Ev.ite_pos h0 (Ev.bind (spec_same _ l (by omega)) ?_)
  cases hsm : same (Can.can l).1 l with
  | false => exact stop
  | true =>
   refine Ev.step (f := fun k => (spec_l2Num.f k 1 (l.length : Int)).bind fun t217 => (spec_EncodeKey.l0 k t217 l (l.length : Int) 0)) (fun k => by simp only [spec_EncodeKey.j0, Bool.not_true, Bool.false_eq_true, if_false]) ?_
   exact Ev.bind (spec_num (l.length : Int) 1 (by decide)) (spec_write l hl hF l.length 0 _ (by omega) (by rw [bytes_size]; omega))
 ·rw [if_neg h0]
  exact Ev.ite_neg h0 stop
theorem wr_size : ∀ (l : List Lb) (b : ByteArray), (∀ x ∈ l, x.f0.size ≤ 1073741824 ∧ x.f1.size ≤ 1073741824) → (wr b l).size ≤ b.size + l.length * 2147483651
 | [], b, _ => by simp [wr]
 | x :: l, b, h => by
  have ih := wr_size l (b ++ (s8 x.f0 ++ s16 x.f1)) (fun y hy => h y (List.mem_cons_of_mem _ hy))
  obtain ⟨z0, z1⟩ := h x List.mem_cons_self
  unfold wr
  rw [ByteArray.size_append, ByteArray.size_append, s8_size, s16_size] at ih
  rw [List.length_cons]
  omega
theorem same_len {x y : List Lb} (h : same x y = true) : x.length = y.length := by
 unfold same at h
 by_cases e : (x.length : Int) = (y.length : Int)
 ·omega
 ·rw [if_neg e] at h; cases h
theorem impl_key (l : List Lb) (hl : l.length ≤ 1048576) (hF : Can.Fit l) : Ev (fun k => impl_EncodeKey.f k l) (key l) := by
 have hlen := can_len l
 have stop : Ev (fun k => impl_EncodeKey.j0 k l true) (⟨#[]⟩ : ByteArray) := Ev.step (f := fun _ => some (⟨#[]⟩ : ByteArray)) (fun k => by simp only [impl_EncodeKey.j0, if_true]) (Ev.now _)
 unfold impl_EncodeKey.f key
 refine Ev.bind (Can.impl_can l hF) ?_
 by_cases h0 : (Can.can l).2.1 = 0
 ·rw [if_pos h0]
  refine Ev.ite_pos h0 (Ev.bind (impl_same _ l (by omega)) ?_)
  cases hsm : same (Can.can l).1 l with
  | false => exact stop
  | true =>
   have hle := same_len hsm
   have hz := wr_size l (Num.bytes 1 (l.length : Int)) hF
   rw [bytes_size] at hz
   refine Ev.step (f := fun k => impl_EncodeKey.l0 k [Num.bytes 1 (l.length : Int)] l (l.length : Int) 0) (fun k => by
    simp only [impl_EncodeKey.j0, Bool.not_true, Bool.false_eq_true, if_false, impl_num.f, if_true, Option.bind_some]) ?_
   exact impl_write l hl hF _ (by omega) l.length 0 _ (by omega) (by simp)
 ·rw [if_neg h0]
  exact Ev.ite_neg h0 stop
end Go.Proofs.YtikbfjnbhogihaaGreatDoor.Key
namespace Go.Proofs.YtikbfjnbhogihaaGreatDoor.M
open Go.RowKit Go.Proofs.YtikbfjnbhogihaaGreatDoorW.PrintWords Go.Proofs.YtikbfjnbhogihaaGreatDoorW.PrintLast Go.Proofs.YtikbfjnbhogihaaGreatDoorW.PrintMore
attribute [local go_sem] max2_int min2_int max_two min_two max_three min_three max_four min_four
set_option linter.unusedVariables false
set_option linter.unusedSimpArgs false
noncomputable section
/-! ### spec_l4Key: function 52 -/
def spec_l4Key.f (k : Nat) (a0 : ByteArray) : Option (Bool) := (spec_DecodeKey.f k a0).bind fun bt174 => (if bt174.2 = true then ((spec_Metric.f k a0).bind fun t178 => (some (t178.toList != ([] : List UInt8)))) else (some false))
theorem spec_l4Key.mono : ∀ a0 k, LeO (spec_l4Key.f k a0) (spec_l4Key.f (k + 1) a0) := by
 intro a0 k
 unfold spec_l4Key.f
 repeat' first
   | (with_reducible exact spec_DecodeKey.mono _ _)
   | (with_reducible exact spec_Metric.mono _ _)
   | (with_reducible exact LeO.refl _)
   | (with_reducible exact LeO.none _)
   | (with_reducible refine LeO.ite ?_ ?_)
   | (with_reducible refine LeO.bind ?_ (fun _ => ?_))
   | exact spec_DecodeKey.mono _ _
   | exact spec_Metric.mono _ _
   | exact LeO.none _
   | refine LeO.ite ?_ ?_
   | refine LeO.bind ?_ (fun _ => ?_)
set_option maxHeartbeats 8000000 in
set_option maxRecDepth 100000 in
theorem spec_l4Key.calls (k : Nat) (a0 : ByteArray) (r : Bool) (w : World) (h : spec_l4Key.f k a0 = some r) :
  Calls Tryz.prog 52 #[.string a0] w fun e w' => e = .returned (.bool r) ∧ Below w.heap.size w w' := by
 have HB := Aside0.mk (Below.refl w.heap.size w)
 have H : ((spec_DecodeKey.f k a0).bind fun bt174 => (if bt174.2 = true then ((spec_Metric.f k a0).bind fun t178 => (some (t178.toList != ([] : List UInt8)))) else (some false))) = some r := h
 clear h
 replace H := Option.bind_eq_some_iff.mp H
 obtain ⟨⟨t174, t175⟩, A20, H⟩ := H
 replace H : (if t175 = true then ((spec_Metric.f k a0).bind fun t178 => (some (t178.toList != ([] : List UInt8)))) else (some false)) = some r := H
 have A2 := Aside0.mk A20
 clear A20
 by_cases c3 : t175 = true
 ·subst c3
  have H1 : ((spec_Metric.f k a0).bind fun t178 => (some (t178.toList != ([] : List UInt8)))) = some r := by rw [if_pos rfl] at H; exact H
  clear H
  have H := H1
  clear H1
  replace H := Option.bind_eq_some_iff.mp H
  obtain ⟨t178, A40, H⟩ := H
  replace H : (some (t178.toList != ([] : List UInt8))) = some r := H
  have A4 := Aside0.mk A40
  clear A40
  obtain rfl := Option.some.inj H
  go_enter Tryz.func52, Tryz.ntmps52
  go_wp2_with (first | ((with_reducible refine gate_callee (f := 104) rfl ?_); refine goesL_ (some 7) rfl rfl Tryz.func104 (by kernel_rfl) rfl #[.string a0] rfl (by (try simp only [List.map_toArray, List.map_cons, List.map_nil]); first | done | rfl | (simp only [List.length_drop, List.length_take]; rfl)) ?_; (with_reducible refine (spec_DecodeKey.calls k a0 t174 true _ A2.out).mono ?_); rintro e w5 ⟨v176, rfl, ho0, hb⟩; refine ⟨_, rfl, ?_⟩; have n0_ := Aside0.mk (Kd.R_lower ho0 (below_size (by repeat (first | (with_reducible first | exact HB.out | apply below_alloc | apply pw_below_drewN | apply below_drew1) | exact HB.out)))); have n1_ := Aside0.mk (below_step (by repeat (first | (with_reducible first | exact HB.out | apply below_alloc | apply pw_below_drewN | apply below_drew1) | exact HB.out)) hb); clear HB; have HO177 := n0_; have HB := n1_; clear n0_ n1_; (try clear hb); (try clear hb2); (try clear hk); (try clear hi); (try clear ho0)) | (go_at_call 81; (with_reducible refine (spec_Metric.calls k a0 t178 _ A4.out).mono ?_); rintro e w6 ⟨rfl, hb⟩; have n0_ := Aside0.mk (Kd.R_below (by (with_reducible repeat (first | apply Kd.R_alloc | apply Kd.R_drewN | apply Kd.R_drew)); exact HO177.out) hb); have n1_ := Aside0.mk (below_step (by repeat (first | (with_reducible first | exact HB.out | apply below_alloc | apply pw_below_drewN | apply below_drew1) | exact HB.out)) hb); clear HO177; clear HB; have HO177 := n0_; have HB := n1_; clear n0_ n1_; (try clear hb); (try clear hb2); (try clear hk); (try clear hi)))
  go_ret
  exact ⟨by first | rfl | (simp [errW_none, errW_some] <;> rfl) | (simp [*, errW_none, errW_some] <;> rfl) | (simp [*, errW_none, errW_some]; generalize ByteArray.toList _ = q_; cases q_ <;> rfl), by repeat (first | (with_reducible first | exact HB.out | apply below_alloc | apply pw_below_drewN | apply below_drew1) | exact HB.out)⟩
 ·replace c3 := Bool.eq_false_iff.mpr c3
  subst c3
  have H1 : (some false) = some r := by rw [if_neg (show ¬ (false = true) by decide)] at H; exact H
  clear H
  have H := H1
  clear H1
  obtain rfl := Option.some.inj H
  go_enter Tryz.func52, Tryz.ntmps52
  go_wp2_with (first | ((with_reducible refine gate_callee (f := 104) rfl ?_); refine goesL_ (some 7) rfl rfl Tryz.func104 (by kernel_rfl) rfl #[.string a0] rfl (by (try simp only [List.map_toArray, List.map_cons, List.map_nil]); first | done | rfl | (simp only [List.length_drop, List.length_take]; rfl)) ?_; (with_reducible refine (spec_DecodeKey.calls k a0 t174 false _ A2.out).mono ?_); rintro e w7 ⟨v176, rfl, ho0, hb⟩; refine ⟨_, rfl, ?_⟩; have n0_ := Aside0.mk (Kd.R_lower ho0 (below_size (by repeat (first | (with_reducible first | exact HB.out | apply below_alloc | apply pw_below_drewN | apply below_drew1) | exact HB.out)))); have n1_ := Aside0.mk (below_step (by repeat (first | (with_reducible first | exact HB.out | apply below_alloc | apply pw_below_drewN | apply below_drew1) | exact HB.out)) hb); clear HB; have HO177 := n0_; have HB := n1_; clear n0_ n1_; (try clear hb); (try clear hb2); (try clear hk); (try clear hi); (try clear ho0)))
  go_ret
  exact ⟨by first | rfl | (simp [errW_none, errW_some] <;> rfl) | (simp [*, errW_none, errW_some] <;> rfl) | (simp [*, errW_none, errW_some]; generalize ByteArray.toList _ = q_; cases q_ <;> rfl), by repeat (first | (with_reducible first | exact HB.out | apply below_alloc | apply pw_below_drewN | apply below_drew1) | exact HB.out)⟩
end
end Go.Proofs.YtikbfjnbhogihaaGreatDoor.M
/- A binary heap in a list: what a push and a pop leave. Plain. -/
namespace Go.Proofs.YtikbfjnbhogihaaGreatDoor.Hp
set_option linter.unusedVariables false
def Ok (f : Nat → Int) (n : Nat) : Prop := ∀ j, 0 < j → j < n → f ((j - 1) / 2) ≤ f j
structure Hole (f : Nat → Int) (n i : Nat) : Prop where
 far : ∀ j, 0 < j → j < n → j ≠ i → (j - 1) / 2 ≠ i → f ((j - 1) / 2) ≤ f j
 by_ : ∀ j, 0 < j → j < n → (j - 1) / 2 = i → 0 < i → f ((i - 1) / 2) ≤ f j
structure Up (f : Nat → Int) (n i : Nat) : Prop extends Hole f n i where
 dn : ∀ j, 0 < j → j < n → (j - 1) / 2 = i → f i ≤ f j
structure Dn (f : Nat → Int) (n i : Nat) : Prop extends Hole f n i where
 up : 0 < i → f ((i - 1) / 2) ≤ f i
theorem Up.stop {f : Nat → Int} {n i : Nat} (h : Up f n i) (hi : i = 0 ∨ f ((i - 1) / 2) ≤ f i) : Ok f n := by
 intro j h0 hj
 by_cases e : j = i
 ·subst e
  rcases hi with rfl | hi
  ·omega
  ·exact hi
 ·by_cases e2 : (j - 1) / 2 = i
  ·rw [e2]; exact h.dn j h0 hj e2
  ·exact h.far j h0 hj e e2
theorem Up.step {f g : Nat → Int} {n i : Nat} (h : Up f n i) (hi : 0 < i) (hn : i < n) (hl : f i < f ((i - 1) / 2))
  (g1 : g i = f ((i - 1) / 2)) (g2 : g ((i - 1) / 2) = f i) (g3 : ∀ j, j ≠ i → j ≠ (i - 1) / 2 → g j = f j) : Up g n ((i - 1) / 2) := by
 obtain ⟨p, hp⟩ : ∃ p, p = (i - 1) / 2 := ⟨_, rfl⟩
 rw [← hp] at hl g1 g2 g3 ⊢
 have hpi : p < i := by omega
 refine ⟨⟨fun j h0 hj e1 e2 => ?_, fun j h0 hj e1 e2 => ?_⟩, fun j h0 hj e1 => ?_⟩
 ·have hji : j ≠ i := fun e => e2 (by rw [e, ← hp])
  rw [g3 j hji e1]
  by_cases e3 : (j - 1) / 2 = i
  ·rw [e3, g1]
   have := h.by_ j h0 hj e3 hi
   rw [← hp] at this
   exact this
  ·rw [g3 _ e3 e2]
   exact h.far j h0 hj hji e3
 ·have hpp : (p - 1) / 2 < p := by omega
  rw [g3 ((p - 1) / 2) (by omega) (by omega)]
  have h1 := h.far p e2 (by omega) (by omega) (by omega)
  by_cases e3 : j = i
  ·rw [e3, g1]; exact h1
  ·rw [g3 j e3 (by omega)]
   have h2 := h.far j h0 hj e3 (by omega)
   rw [e1] at h2
   omega
 ·rw [g2]
  by_cases e3 : j = i
  ·rw [e3, g1]; omega
  ·rw [g3 j e3 (by omega)]
   have h2 := h.far j h0 hj e3 (by omega)
   rw [e1] at h2
   omega
theorem Dn.stop {f : Nat → Int} {n i : Nat} (h : Dn f n i) (hi : ∀ j, 0 < j → j < n → (j - 1) / 2 = i → f i ≤ f j) : Ok f n := by
 intro j h0 hj
 by_cases e : j = i
 ·subst e; exact h.up h0
 ·by_cases e2 : (j - 1) / 2 = i
  ·rw [e2]; exact hi j h0 hj e2
  ·exact h.far j h0 hj e e2
theorem Dn.step {f g : Nat → Int} {n i k : Nat} (h : Dn f n i) (hk0 : 0 < k) (hk : k < n) (hp : (k - 1) / 2 = i) (hl : f k < f i) (hm : ∀ j, 0 < j → j < n → (j - 1) / 2 = i → f k ≤ f j)
  (g1 : g i = f k) (g2 : g k = f i) (g3 : ∀ j, j ≠ i → j ≠ k → g j = f j) : Dn g n k := by
 have hik : i < k := by omega
 refine ⟨⟨fun j h0 hj e1 e2 => ?_, fun j h0 hj e1 e2 => ?_⟩, fun _ => ?_⟩
 ·by_cases e3 : j = i
  ·subst e3
   have := h.by_ k hk0 hk hp h0
   rw [g1, g3 _ (by omega) (by omega)]
   exact this
  ·rw [g3 j e3 e1]
   by_cases e4 : (j - 1) / 2 = i
   ·rw [e4, g1]; exact hm j h0 hj e4
   ·rw [g3 _ e4 e2]
    exact h.far j h0 hj e3 e4
 ·rw [hp, g1, g3 j (by omega) (by omega)]
  have := h.far j h0 hj (by omega) (by omega)
  rw [e1] at this
  exact this
 ·rw [hp, g1, g2]; omega
section
variable {α : Type} (key : α → Int) (z : α)
def fn (l : List α) (j : Nat) : Int := key (l.getD j z)
def sw (l : List α) (i k : Nat) : List α := (l.set i (l.getD k z)).set k (l.getD i z)
theorem sw_len (l : List α) (i k : Nat) : (sw z l i k).length = l.length := by simp [sw]
theorem sw_perm (l : List α) (i k : Nat) (hi : i < l.length) (hk : k < l.length) : (sw z l i k).Perm l := by
 unfold sw
 rw [List.getD_eq_getElem?_getD, List.getD_eq_getElem?_getD, List.getElem?_eq_getElem hi, List.getElem?_eq_getElem hk]
 exact List.set_set_perm hi hk
theorem getD_set (l : List α) (i j : Nat) (x : α) (hi : i < l.length) : (l.set i x).getD j z = if i = j then x else l.getD j z := by
 rw [List.getD_eq_getElem?_getD, List.getElem?_set, List.getD_eq_getElem?_getD]
 by_cases h : i = j
 ·subst h; simp [hi]
 ·simp [h]
theorem sw_l (l : List α) (i k : Nat) (hi : i < l.length) (hk : k < l.length) (hne : i ≠ k) : fn key z (sw z l i k) i = fn key z l k := by
 unfold fn sw
 rw [getD_set z _ k i _ (by simpa using hk), if_neg (Ne.symm hne), getD_set z l i i _ hi, if_pos rfl]
theorem sw_r (l : List α) (i k : Nat) (hi : i < l.length) (hk : k < l.length) : fn key z (sw z l i k) k = fn key z l i := by
 unfold fn sw
 rw [getD_set z _ k k _ (by simpa using hk), if_pos rfl]
theorem sw_o (l : List α) (i k : Nat) (hi : i < l.length) (hk : k < l.length) (j : Nat) (h1 : j ≠ i) (h2 : j ≠ k) : fn key z (sw z l i k) j = fn key z l j := by
 unfold fn sw
 rw [getD_set z _ k j _ (by simpa using hk), if_neg (Ne.symm h2), getD_set z l i j _ hi, if_neg (Ne.symm h1)]
theorem fn_app (l : List α) (x : α) (j : Nat) (h : j < l.length) : fn key z (l ++ [x]) j = fn key z l j := by
 unfold fn
 rw [List.getD_eq_getElem?_getD, List.getElem?_append_left h, List.getD_eq_getElem?_getD]
theorem up_start (l : List α) (x : α) (h : Ok (fn key z l) l.length) : Up (fn key z (l ++ [x])) (l.length + 1) l.length := by
 refine ⟨⟨fun j h0 hj e1 e2 => ?_, fun j h0 hj e1 e2 => by omega⟩, fun j h0 hj e1 => by omega⟩
 rw [fn_app key z l x j (by omega), fn_app key z l x _ (by omega)]
 exact h j h0 (by omega)
theorem up_step (l : List α) (n i : Nat) (hn : l.length = n) (h : Up (fn key z l) n i) (hi : 0 < i) (hin : i < n) (hl : fn key z l i < fn key z l ((i - 1) / 2)) : Up (fn key z (sw z l i ((i - 1) / 2))) n ((i - 1) / 2) :=
 h.step hi hin hl (sw_l key z l i _ (by omega) (by omega) (by omega)) (sw_r key z l i _ (by omega) (by omega)) (sw_o key z l i _ (by omega) (by omega))
def cut (l : List α) : List α := (l.set 0 (l.getD (l.length - 1) z)).take (l.length - 1)
theorem cut_len (l : List α) : (cut z l).length = l.length - 1 := by simp [cut]
theorem cut_perm (l : List α) (h : 0 < l.length) : (l.getD 0 z :: cut z l).Perm l := by
 cases l with
 | nil => simp at h
 | cons a r =>
  unfold cut
  simp only [List.length_cons, Nat.add_sub_cancel, List.set_cons_zero, List.getD_cons_zero]
  rcases List.eq_nil_or_concat r with rfl | ⟨q, b, rfl⟩
  ·simp
  ·have e1 : (a :: q ++ [b]).getD (q.length + 1) z = b := by
    rw [List.getD_eq_getElem?_getD]; simp
   simp only [List.concat_eq_append, List.length_append, List.length_cons, List.length_nil] at *
   rw [show (a :: (q ++ [b])).getD (q.length + (0 + 1)) z = b from e1]
   simp only [Nat.zero_add, List.take_succ_cons]
   rw [List.take_left']
   ·exact (List.Perm.cons a (List.perm_append_singleton b q).symm)
   ·rfl
end
end Go.Proofs.YtikbfjnbhogihaaGreatDoor.Hp
