/- Some of this seat's texts, joined by prune.py. -/
import Derived.Test.YtikbfjnbhogihaaGreatDoorF106
import Derived.Test.YtikbfjnbhogihaaGreatDoorF168
import Derived.Test.YtikbfjnbhogihaaGreatDoorF38
import Derived.Test.YtikbfjnbhogihaaGreatDoorF136
import Derived.Test.YtikbfjnbhogihaaGreatDoorM0
import Derived.Test.YtikbfjnbhogihaaGreatDoorF104
/- Keys written: both write the same bytes. Plain. -/
namespace Go.Proofs.YtikbfjnbhogihaaGreatDoor.Key
open Go.Proofs.YtikbfjnbhogihaaGreatDoor.M Go.Proofs.YtikbfjnbhogihaaGreatDoor.Loops Go.Proofs.YtikbfjnbhogihaaGreatDoor.NumPlain Go.Proofs.YtikbfjnbhogihaaGreatDoor.LabLaws Go.Proofs.YtikbfjnbhogihaaGreatDoorW.PrintWords Go.Proofs.YtikbfjnbhogihaaGreatDoorW.PrintLast Go.RowKit
set_option linter.unusedVariables false
abbrev Lb := S141
/-! ### two lists of labels, compared -/
def sm : List Lb → List Lb → Bool
 | a :: x, b :: y => if (!((a.f0.toList) == (b.f0.toList)) || (!((a.f1.toList) == (b.f1.toList)))) = true then false else sm x y
 | _, _ => true
theorem sm_loop (L : Nat → List Lb → List Lb → Int → Int → Option Bool)
  (hL : ∀ k x0 x1 x12 x13, L (k + 1) x0 x1 x12 x13 = if x13 < x12 then (if 0 ≤ x13 then (if x13 < (x0.length : Int) then (if x13 < (x1.length : Int) then (if (!((((rd_T141 x0 x13).f0).toList) == (((rd_T141 x1 x13).f0).toList)) || (!((((rd_T141 x0 x13).f1).toList) == (((rd_T141 x1 x13).f1).toList)))) = true then (some false) else (L k x0 x1 x12 (wrap64 (x13 + 1)))) else (none)) else (none)) else (none)) else (some true))
  (x y : List Lb) (hxy : x.length = y.length) (hn : x.length < 9223372036854775807) : ∀ m j, j + m = x.length → Ev (fun k => L k x y (x.length : Int) (j : Int)) (sm (x.drop j) (y.drop j)) := by
 intro m
 induction m with
 | zero =>
  intro j hj
  refine Ev.step (f := fun _ => some true) (fun k => by rw [hL, if_neg (by omega)]) (Ev.eq (Ev.now _) ?_)
  rw [List.drop_eq_nil_of_le (by omega)]; rfl
 | succ m ih =>
  intro j hj
  have h1 : j < x.length := by omega
  have h2 : j < y.length := by omega
  rw [List.drop_eq_getElem_cons h1, List.drop_eq_getElem_cons h2]
  have hst : ∀ k, L (k + 1) x y (x.length : Int) (j : Int) = if (!((x[j].f0.toList) == (y[j].f0.toList)) || (!((x[j].f1.toList) == (y[j].f1.toList)))) = true then some false else L k x y (x.length : Int) ((j + 1 : Nat) : Int) := by
   intro k
   rw [hL, if_pos (by omega), if_pos (by omega), if_pos (by omega), if_pos (by omega), Can.rd_get x j h1, Can.rd_get y j h2, w_succ j (by omega)]
  refine Ev.step hst ?_
  unfold sm
  by_cases hc : (!((x[j].f0.toList) == (y[j].f0.toList)) || (!((x[j].f1.toList) == (y[j].f1.toList)))) = true
  ·rw [if_pos hc]; exact Ev.ite_pos hc (Ev.now _)
  ·rw [if_neg hc]; exact Ev.ite_neg hc (ih (j + 1) (by omega))
def same (x y : List Lb) : Bool := if (x.length : Int) = (y.length : Int) then sm x y else false
theorem spec_same (x y : List Lb) (hn : x.length < 9223372036854775807) : Ev (fun k => spec_l3Same.f k x y) (same x y) := by
 unfold spec_l3Same.f same
 by_cases h : (x.length : Int) = (y.length : Int)
 ·rw [if_pos h]
  exact Ev.ite_pos h (sm_loop spec_l3Same.l0 (fun k a b c d => by simp only [spec_l3Same.l0]) x y (by omega) hn x.length 0 (by omega))
 ·rw [if_neg h]; exact Ev.ite_neg h (Ev.now _)
theorem impl_same (x y : List Lb) (hn : x.length < 9223372036854775807) : Ev (fun k => impl_Label_159.f k x y) (same x y) := by
 unfold impl_Label_159.f same
 by_cases h : (x.length : Int) = (y.length : Int)
 ·rw [if_pos h]
  exact Ev.ite_pos h (sm_loop impl_Label_159.l0 (fun k a b c d => by simp only [impl_Label_159.l0]) x y (by omega) hn x.length 0 (by omega))
 ·rw [if_neg h]; exact Ev.ite_neg h (Ev.now _)
/-! ### what is written -/
def s8 (s : ByteArray) : ByteArray := Num.bytes 1 s.size ++ s
def s16 (s : ByteArray) : ByteArray := Num.bytes 2 s.size ++ s
theorem impl_s8 (s : ByteArray) (h : s.size ≤ 9223372036854775000) : impl_s8.f s = some (s8 s) := by
 unfold impl_s8.f impl_num.f
 simp only [if_true, Option.bind_some]
 rw [if_pos (by rw [bytes_size]; omega)]; rfl
theorem impl_s16 (s : ByteArray) (h : s.size ≤ 9223372036854775000) : impl_s16.f s = some (s16 s) := by
 unfold impl_s16.f impl_num.f
 simp only [show ¬ ((2 : Int) = 1) by decide, if_false, if_true, Option.bind_some]
 rw [if_pos (by rw [bytes_size]; omega)]; rfl
theorem spec_s8 (s : ByteArray) (h : s.size ≤ 9223372036854775000) : Ev (fun k => spec_l2S8.f k s) (s8 s) := by
 unfold spec_l2S8.f
 refine Ev.bind (spec_num (s.size : Int) 1 (by decide)) (Ev.ite_pos (by rw [bytes_size]; omega) (Ev.now _))
theorem spec_s16 (s : ByteArray) (h : s.size ≤ 9223372036854775000) : Ev (fun k => spec_l2S16.f k s) (s16 s) := by
 unfold spec_l2S16.f
 refine Ev.bind (spec_num (s.size : Int) 2 (by decide)) (Ev.ite_pos (by rw [bytes_size]; omega) (Ev.now _))
theorem s8_size (s : ByteArray) : (s8 s).size = 1 + s.size := by unfold s8; rw [ByteArray.size_append, bytes_size]
theorem s16_size (s : ByteArray) : (s16 s).size = 2 + s.size := by unfold s16; rw [ByteArray.size_append, bytes_size]
def wr (b : ByteArray) : List Lb → ByteArray
 | [] => b
 | x :: l => wr (b ++ (s8 x.f0 ++ s16 x.f1)) l
def wt (x : Lb) : Nat := 3 + x.f0.size + x.f1.size
theorem wr_cat : ∀ (l : List Lb) (b : ByteArray), (wr b l).data.toList = b.data.toList ++ Jn.cat (l.flatMap fun x => [s8 x.f0, s16 x.f1])
 | [], b => by simp [wr, Jn.cat]
 | x :: l, b => by
  unfold wr
  rw [wr_cat l]
  simp [Jn.cat, List.append_assoc]
theorem spec_write (l : List Lb) (hl : l.length ≤ 1048576) (hs : ∀ x ∈ l, x.f0.size ≤ 1073741824 ∧ x.f1.size ≤ 1073741824) : ∀ m j (b : ByteArray), j + m = l.length → b.size ≤ 1 + j * 2147483651 →
  Ev (fun k => spec_EncodeKey.l0 k b l (l.length : Int) (j : Int)) (wr b (l.drop j)) := by
 intro m
 induction m with
 | zero =>
  intro j b hj hb
  refine Ev.step (f := fun _ => some b) (fun k => by simp only [spec_EncodeKey.l0]; rw [if_neg (by omega)]) (Ev.eq (Ev.now _) ?_)
  rw [List.drop_eq_nil_of_le (by omega)]; rfl
 | succ m ih =>
  intro j b hj hb
  have h1 : j < l.length := by omega
  rw [List.drop_eq_getElem_cons h1]
  obtain ⟨z0, z1⟩ := hs l[j] (List.getElem_mem h1)
  have a0 := s8_size l[j].f0
  have a1 := s16_size l[j].f1
  refine Ev.step (f := fun k => (spec_l2S8.f k l[j].f0).bind fun t220 => ((spec_l2S16.f k l[j].f1).bind fun t221 => (if t220.size + t221.size ≤ 9223372036854775807 then (if b.size + (t220 ++ t221).size ≤ 9223372036854775807 then (spec_EncodeKey.l0 k (b ++ (t220 ++ t221)) l (l.length : Int) ((j + 1 : Nat) : Int)) else (none)) else (none)))) (fun k => by
   conv => lhs; unfold spec_EncodeKey.l0
   rw [if_pos (by omega), if_pos (by omega), if_pos (by omega), Can.rd_get l j h1, w_succ j (by omega)]) ?_
  refine Ev.bind (spec_s8 _ (by omega)) (Ev.bind (spec_s16 _ (by omega)) (Ev.ite_pos (by omega) (Ev.ite_pos (by rw [ByteArray.size_append]; omega) ?_)))
  exact ih (j + 1) _ (by omega) (by rw [ByteArray.size_append, ByteArray.size_append]; omega)
theorem impl_write (l : List Lb) (hl : l.length ≤ 1048576) (hs : ∀ x ∈ l, x.f0.size ≤ 1073741824 ∧ x.f1.size ≤ 1073741824) (b : ByteArray) (hc : (wr b l).size ≤ 140737488355328) : ∀ m j (y : List ByteArray), j + m = l.length → y = b :: (l.take j).flatMap (fun x => [s8 x.f0, s16 x.f1]) →
  Ev (fun k => impl_EncodeKey.l0 k y l (l.length : Int) (j : Int)) (wr b l) := by
 intro m
 induction m with
 | zero =>
  intro j y hj hy
  obtain rfl : j = l.length := by omega
  rw [List.take_of_length_le (Nat.le_refl _)] at hy
  have hcat : Jn.cat y = (wr b l).data.toList := by rw [wr_cat, hy]; simp [Jn.cat]
  have hlen : y.length = 1 + 2 * l.length := by
   rw [hy]
   have : ∀ q : List Lb, (q.flatMap (fun x => [s8 x.f0, s16 x.f1])).length = 2 * q.length := by
    intro q
    induction q with
    | nil => rfl
    | cons a q ih => rw [List.flatMap_cons, List.length_append, ih]; simp; omega
   rw [List.length_cons, this]; omega
  refine Ev.step (f := fun _ => some (wr b l)) (fun k => ?_) (Ev.now _)
  simp only [impl_EncodeKey.l0]
  rw [if_neg (by omega)]
  unfold impl_join.f
  rw [hcat, if_pos ⟨hc, by omega⟩]
  simp only [Option.bind_some]
 | succ m ih =>
  intro j y hj hy
  have h1 : j < l.length := by omega
  obtain ⟨z0, z1⟩ := hs l[j] (List.getElem_mem h1)
  have hlen : y.length ≤ 1 + 2 * l.length := by
   rw [hy]
   have : ∀ q : List Lb, (q.flatMap (fun x => [s8 x.f0, s16 x.f1])).length = 2 * q.length := by
    intro q
    induction q with
    | nil => rfl
    | cons a q ih => rw [List.flatMap_cons, List.length_append, ih]; simp; omega
   rw [List.length_cons, this, List.length_take]; omega
  refine Ev.step (fun k => ?_) (ih (j + 1) (y ++ [s8 l[j].f0, s16 l[j].f1]) (by omega) ?_)
  ·conv => lhs; unfold impl_EncodeKey.l0
   rw [if_pos (by omega), if_pos (by omega), if_pos (by omega), Can.rd_get l j h1, impl_s8 _ (by omega), impl_s16 _ (by omega), w_succ j (by omega)]
   simp only [Option.bind_some]
   rw [if_pos (by simp only [List.length_cons, List.length_nil]; omega)]
  ·rw [hy, List.take_add_one, List.getElem?_eq_getElem h1]
   simp only [Option.toList_some, List.flatMap_append, List.flatMap_cons, List.flatMap_nil, List.append_nil, List.cons_append]
noncomputable def key (l : List Lb) : ByteArray := if (Can.can l).2.1 = 0 then (if same (Can.can l).1 l = true then wr (Num.bytes 1 (l.length : Int)) l else ⟨#[]⟩) else ⟨#[]⟩
theorem spec_key (l : List Lb) (hl : l.length ≤ 1048576) (hF : Can.Fit l) : Ev (fun k => spec_EncodeKey.f k l) (key l) := by
 have hsp : spec_Canon.f l = some (Can.can l) := by unfold spec_Canon.f; exact if_pos hF
 have hlen := can_len l
 have stop : Ev (fun k => spec_EncodeKey.j0 k l true) (⟨#[]⟩ : ByteArray) := Ev.step (f := fun _ => some (⟨#[]⟩ : ByteArray)) (fun k => by simp only [spec_EncodeKey.j0, if_true]) (Ev.now _)
 unfold spec_EncodeKey.f key
 simp only [hsp, Option.bind_some]
 by_cases h0 : (Can.can l).2.1 = 0
 ·rw [if_pos h0]
  refine Ev.ite_pos h0 (Ev.bind (spec_same _ l (by omega)) ?_)
  cases hsm : same (Can.can l).1 l with
  | false => exact stop
  | true =>
   refine Ev.step (f := fun k => (spec_l2Num.f k 1 (l.length : Int)).bind fun t217 => (spec_EncodeKey.l0 k t217 l (l.length : Int) 0)) (fun k => by simp only [spec_EncodeKey.j0, Bool.not_true, Bool.false_eq_true, if_false]) ?_
   exact Ev.bind (spec_num (l.length : Int) 1 (by decide)) (spec_write l hl hF l.length 0 _ (by omega) (by rw [bytes_size]; omega))
 ·rw [if_neg h0]
  exact Ev.ite_neg h0 stop
theorem wr_size : ∀ (l : List Lb) (b : ByteArray), (∀ x ∈ l, x.f0.size ≤ 1073741824 ∧ x.f1.size ≤ 1073741824) → (wr b l).size ≤ b.size + l.length * 2147483651
 | [], b, _ => by simp [wr]
 | x :: l, b, h => by
  have ih := wr_size l (b ++ (s8 x.f0 ++ s16 x.f1)) (fun y hy => h y (List.mem_cons_of_mem _ hy))
  obtain ⟨z0, z1⟩ := h x List.mem_cons_self
  unfold wr
  rw [ByteArray.size_append, ByteArray.size_append, s8_size, s16_size] at ih
  rw [List.length_cons]
  omega
theorem same_len {x y : List Lb} (h : same x y = true) : x.length = y.length := by
 unfold same at h
 by_cases e : (x.length : Int) = (y.length : Int)
 ·omega
 ·rw [if_neg e] at h; cases h
theorem impl_key (l : List Lb) (hl : l.length ≤ 1048576) (hF : Can.Fit l) : Ev (fun k => impl_EncodeKey.f k l) (key l) := by
 have hlen := can_len l
 have stop : Ev (fun k => impl_EncodeKey.j0 k l true) (⟨#[]⟩ : ByteArray) := Ev.step (f := fun _ => some (⟨#[]⟩ : ByteArray)) (fun k => by simp only [impl_EncodeKey.j0, if_true]) (Ev.now _)
 unfold impl_EncodeKey.f key
 refine Ev.bind (Can.impl_can l hF) ?_
 by_cases h0 : (Can.can l).2.1 = 0
 ·rw [if_pos h0]
  refine Ev.ite_pos h0 (Ev.bind (impl_same _ l (by omega)) ?_)
  cases hsm : same (Can.can l).1 l with
  | false => exact stop
  | true =>
   have hle := same_len hsm
   have hz := wr_size l (Num.bytes 1 (l.length : Int)) hF
   rw [bytes_size] at hz
   refine Ev.step (f := fun k => impl_EncodeKey.l0 k [Num.bytes 1 (l.length : Int)] l (l.length : Int) 0) (fun k => by
    simp only [impl_EncodeKey.j0, Bool.not_true, Bool.false_eq_true, if_false, impl_num.f, if_true, Option.bind_some]) ?_
   exact impl_write l hl hF _ (by omega) l.length 0 _ (by omega) (by simp)
 ·rw [if_neg h0]
  exact Ev.ite_neg h0 stop
end Go.Proofs.YtikbfjnbhogihaaGreatDoor.Key
-- By pp.py, a program of this repo, with the kit's printer: Lean checks it.
namespace Go.Proofs.YtikbfjnbhogihaaGreatDoor.M
open Go.RowKit Go.Proofs.YtikbfjnbhogihaaGreatDoorW.PrintWords Go.Proofs.YtikbfjnbhogihaaGreatDoorW.PrintLast Go.Proofs.YtikbfjnbhogihaaGreatDoorW.PrintMore
attribute [local go_sem] max2_int min2_int max_two min_two max_three min_three max_four min_four
set_option linter.unusedVariables false
set_option linter.unusedSimpArgs false
noncomputable section
/-! ### spec_Metric: function 81 -/
def spec_Metric.l0 : Nat → List (S141) → Int → Int → Option (ByteArray)
 | 0, _, _, _ => none
 | k + 1, x12, x13, x14 => if x14 < x13 then (if 0 ≤ x14 then (if x14 < (x12.length : Int) then (if ((rd_T141 x12 x14).f0).toList = ([95, 95, 110, 97, 109, 101, 95, 95] : List UInt8) then (some ((rd_T141 x12 x14).f1)) else (spec_Metric.l0 k x12 x13 (wrap64 (x14 + 1)))) else (none)) else (none)) else (some (⟨#[]⟩ : ByteArray))
def spec_Metric.f (k : Nat) (a0 : ByteArray) : Option (ByteArray) := (spec_DecodeKey.f k a0).bind fun bt168 => (spec_Metric.l0 k bt168.1 (bt168.1.length : Int) 0)
theorem spec_Metric.mono_l : ∀ k, (∀ y0 y1 y2, LeO (spec_Metric.l0 k y0 y1 y2) (spec_Metric.l0 (k + 1) y0 y1 y2))
 | 0 => fun _ _ _ r h => by simp [spec_Metric.l0] at h
 | k + 1 => by
  have ih0 := spec_Metric.mono_l k
  ·intro y0 y1 y2
   unfold spec_Metric.l0
   repeat' first
   | (with_reducible exact ih0 _ _ _)
   | (with_reducible exact spec_DecodeKey.mono _ _)
   | (with_reducible exact LeO.refl _)
   | (with_reducible exact LeO.none _)
   | (with_reducible refine LeO.ite ?_ ?_)
   | (with_reducible refine LeO.bind ?_ (fun _ => ?_))
   | exact ih0 _ _ _
   | exact spec_DecodeKey.mono _ _
   | exact LeO.none _
   | refine LeO.ite ?_ ?_
   | refine LeO.bind ?_ (fun _ => ?_)
theorem spec_Metric.mono : ∀ a0 k, LeO (spec_Metric.f k a0) (spec_Metric.f (k + 1) a0) := by
 intro a0 k
 have ih0 := spec_Metric.mono_l k
 unfold spec_Metric.f
 repeat' first
   | (with_reducible exact ih0 _ _ _)
   | (with_reducible exact spec_DecodeKey.mono _ _)
   | (with_reducible exact LeO.refl _)
   | (with_reducible exact LeO.none _)
   | (with_reducible refine LeO.ite ?_ ?_)
   | (with_reducible refine LeO.bind ?_ (fun _ => ?_))
   | exact ih0 _ _ _
   | exact spec_DecodeKey.mono _ _
   | exact LeO.none _
   | refine LeO.ite ?_ ?_
   | refine LeO.bind ?_ (fun _ => ?_)
set_option maxHeartbeats 8000000 in
set_option maxRecDepth 100000 in
theorem spec_Metric.calls (k : Nat) (a0 : ByteArray) (r : ByteArray) (w : World) (h : spec_Metric.f k a0 = some r) :
  Calls Tryz.prog 81 #[.string a0] w fun e w' => e = .returned (.string r) ∧ Below w.heap.size w w' := by
 have hu141 := Tryz.underlying141
 have HB := Aside0.mk (Below.refl w.heap.size w)
 have H : ((spec_DecodeKey.f k a0).bind fun bt168 => (spec_Metric.l0 k bt168.1 (bt168.1.length : Int) 0)) = some r := h
 clear h
 replace H := Option.bind_eq_some_iff.mp H
 obtain ⟨⟨t168, t169⟩, A20, H⟩ := H
 replace H : (spec_Metric.l0 k t168 (t168.length : Int) 0) = some r := H
 have A2 := Aside0.mk A20
 clear A20
 have H' := Aside0.mk H
 clear H
 go_enter Tryz.func81, Tryz.ntmps81
 go_wp2_with (first | ((with_reducible refine gate_callee (f := 104) rfl ?_); refine goesL_ (some 9) rfl rfl Tryz.func104 (by kernel_rfl) rfl #[.string a0] rfl (by (try simp only [List.map_toArray, List.map_cons, List.map_nil]); first | done | rfl | (simp only [List.length_drop, List.length_take]; rfl)) ?_; (with_reducible refine (spec_DecodeKey.calls k a0 t168 t169 _ A2.out).mono ?_); rintro e w3 ⟨v170, rfl, ho0, hb⟩; refine ⟨_, rfl, ?_⟩; have n0_ := Aside0.mk (Kd.R_lower ho0 (below_size (by repeat (first | (with_reducible first | exact HB.out | apply below_alloc | apply pw_below_drewN | apply below_drew1) | exact HB.out)))); have n1_ := Aside0.mk (below_step (by repeat (first | (with_reducible first | exact HB.out | apply below_alloc | apply pw_below_drewN | apply below_drew1) | exact HB.out)) hb); clear HB; have HO171 := n0_; have HB := n1_; clear n0_ n1_; (try clear hb); (try clear hb2); (try clear hk); (try clear hi); (try clear ho0); obtain ⟨Ao4, co4, eo4⟩ := Kd.R_slice HO171.out; subst eo4))
 go_loopg [14] k (fun kq v14 w' => ∃ (x14_1 : Int), v14 = .int .i64 x14_1 ∧ Aside0 (spec_Metric.l0 kq t168 (t168.length : Int) x14_1 = some r) ∧ Aside0 (kq ≤ k) ∧ Aside0 (Kd.R k141 141 w' w.heap.size (fun _ => True) (.slice Ao4 t168.length co4) t168) ∧ Aside0 (Below w.heap.size w w'))
 case atStart => exact ⟨(0), (by first | rfl | (simp; done) | (simp [*]; done)), H', ⟨Nat.le_refl _⟩, ⟨by (with_reducible repeat (first | apply Kd.R_alloc | apply Kd.R_drewN | apply Kd.R_drew)); exact HO171.out⟩, ⟨by repeat (first | (with_reducible first | exact HB.out | apply below_alloc | apply pw_below_drewN | apply below_drew1) | exact HB.out)⟩⟩
 case round =>
  clear H'
  try clear c1
  try clear p2
  obtain ⟨x14_1, rfl, HA, HK1, HO_12, HB⟩ := hrel
  cases gk with
  | zero => exact absurd HA.out (by simp [spec_Metric.l0])
  | succ k1 =>
   have H := HA.out
   clear HA
   simp only [spec_Metric.l0] at H
   by_cases c5 : x14_1 < (t168.length : Int)
   ·rw [if_pos c5] at H
    have c5b0 : decide (x14_1 < (t168.length : Int)) = true := decide_eq_true c5
    clear c5
    by_cases c6 : 0 ≤ x14_1
    ·rw [if_pos c6] at H
     have c6b0 : decide (0 ≤ x14_1) = true := decide_eq_true c6
     clear c6
     by_cases c7 : x14_1 < (t168.length : Int)
     ·rw [if_pos c7] at H
      have c7b0 : decide (x14_1 < (t168.length : Int)) = true := decide_eq_true c7
      clear c7
      by_cases c8 : ((rd_T141 t168 x14_1).f0).toList = ([95, 95, 110, 97, 109, 101, 95, 95] : List UInt8)
      ·rw [if_pos c8] at H
       have c8b0 : (((rd_T141 t168 x14_1).f0).toList == ([95, 95, 110, 97, 109, 101, 95, 95] : List UInt8)) = true := beq_iff_eq.mpr c8
       have c8b1 : (((rd_T141 t168 x14_1).f0).toList != ([95, 95, 110, 97, 109, 101, 95, 95] : List UInt8)) = false := bne_eq_false_iff_eq.mpr c8
       clear c8
       obtain rfl := Option.some.inj H
       have p172 : 0 ≤ (x14_1 : Int) := of_decide_eq_true (by first | (with_reducible assumption) | assumption)
       have q172 : x14_1 < (t168.length : Int) := of_decide_eq_true (by first | (with_reducible assumption) | assumption)
       obtain ⟨ad172, e172, hx172_0, hx172_1⟩ := at_T141 (Kd.R_reads' HO_12.out).2.2 x14_1 p172 q172
       cases e172
       replace p172 := eq_true p172
       replace q172 := eq_true q172
       go_wp2_with (first | ((with_reducible refine gate_dst (N := 6) rfl ?_); refine box_event ?hg (N := 6) ?hd (cs := #[.string (⟨#[]⟩ : ByteArray), .string (⟨#[]⟩ : ByteArray)]) (t := 141) ?hr ?_; (case hd => rfl); (case hg => rfl); (case hr => first | (go_simp; done) | (go_simp; rfl)); intro gb173 hg w9 hbox hb; have n0_ := Aside0.mk (Kd.R_below (Kd.R_elderB (by (with_reducible repeat (first | apply Kd.R_alloc | apply Kd.R_drewN | apply Kd.R_drew)); exact HO_12.out) gb173 (Nat.le_of_eq hg.symm)) hb); have n1_ := Aside0.mk (below_step (by repeat (first | (with_reducible first | exact HB.out | apply below_alloc | apply pw_below_drewN | apply below_drew1) | exact HB.out)) hb); have n2_ := Aside0.mk (hbox); have n3_ := Aside0.mk ((by rw [hg]; exact (below_size (by repeat (first | (with_reducible first | exact HB.out | apply below_alloc | apply pw_below_drewN | apply below_drew1) | exact HB.out))) : w.heap.size ≤ gb173)); have n4_ := Aside0.mk ((by rw [hg]; exact (below_size (by repeat (first | (with_reducible first | exact HB.out | apply below_alloc | apply pw_below_drewN | apply below_drew1) | exact HB.out))) : w.heap.size ≤ gb173)); clear HO_12; clear HB; have HO_12 := n0_; have HB := n1_; have BK173 := n2_; have GW173 := n3_; have GE173 := n4_; clear n0_ n1_ n2_ n3_ n4_; clear hb hbox hg; have hcz10_0 : w9.cell? ⟨gb173, 0, none⟩ = some (.string (⟨#[]⟩ : ByteArray)) := (blk_cell BK173.out 0).trans rfl; have hcz10_1 : w9.cell? ⟨gb173, 1, none⟩ = some (.string (⟨#[]⟩ : ByteArray)) := (blk_cell BK173.out 1).trans rfl; have hfz10_0 := blk_frozen BK173.out 0; have hfz10_1 := blk_frozen BK173.out 1))
       go_ret
       exact ⟨by first | rfl | (simp [errW_none, errW_some] <;> rfl) | (simp [*, errW_none, errW_some] <;> rfl), by repeat (first | (with_reducible first | exact HB.out | apply below_alloc | apply pw_below_drewN | apply below_drew1 | refine below_set ?_ GE173.out) | exact HB.out)⟩
      ·rw [if_neg c8] at H
       have c8b0 : (((rd_T141 t168 x14_1).f0).toList == ([95, 95, 110, 97, 109, 101, 95, 95] : List UInt8)) = false := beq_eq_false_iff_ne.mpr c8
       have c8b1 : (((rd_T141 t168 x14_1).f0).toList != ([95, 95, 110, 97, 109, 101, 95, 95] : List UInt8)) = true := bne_iff_ne.mpr c8
       have H' := Aside0.mk H
       clear H
       have p172 : 0 ≤ (x14_1 : Int) := of_decide_eq_true (by first | (with_reducible assumption) | assumption)
       have q172 : x14_1 < (t168.length : Int) := of_decide_eq_true (by first | (with_reducible assumption) | assumption)
       obtain ⟨ad172, e172, hx172_0, hx172_1⟩ := at_T141 (Kd.R_reads' HO_12.out).2.2 x14_1 p172 q172
       cases e172
       replace p172 := eq_true p172
       replace q172 := eq_true q172
       go_wp2_with (first | ((with_reducible refine gate_dst (N := 6) rfl ?_); refine box_event ?hg (N := 6) ?hd (cs := #[.string (⟨#[]⟩ : ByteArray), .string (⟨#[]⟩ : ByteArray)]) (t := 141) ?hr ?_; (case hd => rfl); (case hg => rfl); (case hr => first | (go_simp; done) | (go_simp; rfl)); intro gb173 hg w11 hbox hb; have n0_ := Aside0.mk (Kd.R_below (Kd.R_elderB (by (with_reducible repeat (first | apply Kd.R_alloc | apply Kd.R_drewN | apply Kd.R_drew)); exact HO_12.out) gb173 (Nat.le_of_eq hg.symm)) hb); have n1_ := Aside0.mk (below_step (by repeat (first | (with_reducible first | exact HB.out | apply below_alloc | apply pw_below_drewN | apply below_drew1) | exact HB.out)) hb); have n2_ := Aside0.mk (hbox); have n3_ := Aside0.mk ((by rw [hg]; exact (below_size (by repeat (first | (with_reducible first | exact HB.out | apply below_alloc | apply pw_below_drewN | apply below_drew1) | exact HB.out))) : w.heap.size ≤ gb173)); have n4_ := Aside0.mk ((by rw [hg]; exact (below_size (by repeat (first | (with_reducible first | exact HB.out | apply below_alloc | apply pw_below_drewN | apply below_drew1) | exact HB.out))) : w.heap.size ≤ gb173)); clear HO_12; clear HB; have HO_12 := n0_; have HB := n1_; have BK173 := n2_; have GW173 := n3_; have GE173 := n4_; clear n0_ n1_ n2_ n3_ n4_; clear hb hbox hg; have hcz12_0 : w11.cell? ⟨gb173, 0, none⟩ = some (.string (⟨#[]⟩ : ByteArray)) := (blk_cell BK173.out 0).trans rfl; have hcz12_1 : w11.cell? ⟨gb173, 1, none⟩ = some (.string (⟨#[]⟩ : ByteArray)) := (blk_cell BK173.out 1).trans rfl; have hfz12_0 := blk_frozen BK173.out 0; have hfz12_1 := blk_frozen BK173.out 1))
       go_roundg k1
       case measure => have := HK1.out; omega
       case rel => exact ⟨(wrap64 (x14_1 + 1)), (by first | rfl | (simp; done) | (simp [*]; done)), H', ⟨by have := HK1.out; omega⟩, ⟨by (with_reducible repeat (first | apply Kd.R_alloc | apply Kd.R_drewN | apply Kd.R_drew)); exact Kd.R_mono (Kd.R_far (p := ⟨gb173, 1, none⟩) (Kd.R_far (p := ⟨gb173, 0, none⟩) (Kd.R_mono HO_12.out (fun k_ hk => (⟨hk, hk.2⟩ : _ ∧ k_ ≠ gb173))) (fun _ hk => hk.2) (.string ((rd_T141 t168 x14_1).f0))) (fun _ hk => hk.2) (.string ((rd_T141 t168 x14_1).f1))) (fun _ hk => trivial)⟩, ⟨by repeat (first | (with_reducible first | exact HB.out | apply below_alloc | apply pw_below_drewN | apply below_drew1 | refine below_set ?_ GE173.out) | exact HB.out)⟩⟩
     ·rw [if_neg c7] at H
      exact absurd H (by simp)
    ·rw [if_neg c6] at H
     exact absurd H (by simp)
   ·rw [if_neg c5] at H
    have c5b0 : decide (x14_1 < (t168.length : Int)) = false := decide_eq_false c5
    clear c5
    obtain rfl := Option.some.inj H
    go_wp2
    go_ret
    exact ⟨by first | rfl | (simp [errW_none, errW_some] <;> rfl) | (simp [*, errW_none, errW_some] <;> rfl), by repeat (first | (with_reducible first | exact HB.out | apply below_alloc | apply pw_below_drewN | apply below_drew1) | exact HB.out)⟩
end
end Go.Proofs.YtikbfjnbhogihaaGreatDoor.M
