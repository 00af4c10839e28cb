import Derived.Test.YtikbfjnbhogihaaGreatDoorKeyDec
import Derived.Test.YtikbfjnbhogihaaGreatDoorM0
import Derived.Test.YtikbfjnbhogihaaGreatDoorMarkSS
import Derived.Test.YtikbfjnbhogihaaGreatDoorCanSort
import Derived.Test.YtikbfjnbhogihaaGreatDoorCan
import Derived.Test.YtikbfjnbhogihaaGreatDoorCanImp
import Derived.Test.YtikbfjnbhogihaaGreatDoorSShelf
import Derived.Test.YtikbfjnbhogihaaGreatDoorKp
import Derived.Test.YtikbfjnbhogihaaGreatDoorF151
import Derived.Test.YtikbfjnbhogihaaGreatDoorF51
import Derived.Test.YtikbfjnbhogihaaGreatDoorF104
import Derived.Test.YtikbfjnbhogihaaGreatDoorMkT
import Derived.Test.YtikbfjnbhogihaaGreatDoorF157
import Derived.Test.YtikbfjnbhogihaaGreatDoorF38
import Derived.Test.YtikbfjnbhogihaaGreatDoorTie
import Derived.LaidLaws
import Derived.Lib.LaidU8
import Derived.Test.YtikbfjnbhogihaaGreatDoorF102
import Derived.Test.YtikbfjnbhogihaaGreatDoorMp
import Derived.Maps.OwnSet
/- FnKey, what is plain: the canonical form hangs on the set alone; equal keys, equal lists. UNDER WAY. -/
namespace Go.Proofs.YtikbfjnbhogihaaGreatDoor.KeyLaw
open Go.Proofs.YtikbfjnbhogihaaGreatDoor.M Go.Proofs.YtikbfjnbhogihaaGreatDoor.DecLib Go.Proofs.YtikbfjnbhogihaaGreatDoor.Loops Go.Proofs.YtikbfjnbhogihaaGreatDoor.Can Go.Proofs.YtikbfjnbhogihaaGreatDoor.CanSort Go.Proofs.YtikbfjnbhogihaaGreatDoor.Key Go.Proofs.YtikbfjnbhogihaaGreatDoor.KeyDec Go.Proofs.YtikbfjnbhogihaaGreatDoor.LabLaws Go.Proofs.YtikbfjnbhogihaaGreatDoorW.PrintWords Go.Proofs.YtikbfjnbhogihaaGreatDoorW.PrintLast Go.Proofs.YtikbfjnbhogihaaGreatDoorW.PrintMore Go.RowKit
set_option linter.unusedVariables false
abbrev Lab := S141
theorem text_eq {a b : ByteArray} (h : a.toList = b.toList) : a = b := by
 apply ByteArray.ext
 apply Array.ext'
 rw [ByteArray.toList_eq, ByteArray.toList_eq] at h
 exact h
theorem sm_eq : ∀ x y : List Lab, x.length = y.length → sm x y = true → x = y
 | [], [], _, _ => rfl
 | [], _ :: _, h, _ => by simp at h
 | _ :: _, [], h, _ => by simp at h
 | a :: x, b :: y, h, hs => by
  unfold sm at hs
  by_cases hc : (!((a.f0.toList) == (b.f0.toList)) || (!((a.f1.toList) == (b.f1.toList)))) = true
  ·rw [if_pos hc] at hs; cases hs
  ·rw [if_neg hc] at hs
   have ih := sm_eq x y (by simpa using h) hs
   simp only [Bool.or_eq_true, Bool.not_eq_true', beq_eq_false_iff_ne, ne_eq, not_or, Decidable.not_not] at hc
   have h0 := text_eq hc.1
   have h1 := text_eq hc.2
   cases a; cases b
   simp only at h0 h1
   rw [h0, h1, ih]
theorem sm_refl : ∀ x : List Lab, sm x x = true
 | [] => rfl
 | a :: x => by unfold sm; simp [sm_refl x]
theorem same_iff (x y : List Lab) : same x y = true ↔ x = y := by
 constructor
 ·intro h
  have hl := same_len h
  unfold same at h
  rw [if_pos (by omega)] at h
  exact sm_eq x y hl h
 ·rintro rfl
  unfold same
  rw [if_pos rfl]
  exact sm_refl x
def Ok (l : List Lab) : Prop := ¬ 16 < l.length ∧ (∀ x ∈ l, fault x = 0) ∧ Once l ∧ l.any isMet = true
theorem firstF_all : ∀ (l : List Lab) (i : Nat), (∀ x ∈ l, fault x = 0) → firstF l i = none
 | [], _, _ => rfl
 | x :: l, i, h => by rw [firstF_ok (h x List.mem_cons_self)]; exact firstF_all l _ (fun y hy => h y (List.mem_cons_of_mem _ hy))
theorem firstT_once : ∀ (l b : List Lab), Once (b ++ l) → firstT b l = none
 | [], _, _ => rfl
 | x :: l, b, h => by
  have hx : b.any (named x) = false := by
   rw [List.any_eq_false]
   intro y hy
   unfold Once at h
   have := (List.pairwise_append.1 h).2.2 y hy x List.mem_cons_self
   unfold named
   simpa using this
  rw [firstT_no hx]
  exact firstT_once l (b ++ [x]) (by simpa using h)
theorem ok_can {l : List Lab} (h : Ok l) : can l = (order (l.filter keep), 0, 0) :=
 can_good h.1 (firstF_all l 0 h.2.1) (firstT_once l [] (by simpa using h.2.2.1)) h.2.2.2
theorem can_zero {l : List Lab} (h : (can l).2.1 = 0) : Ok l := by
 by_cases h16 : 16 < l.length
 ·rw [can_many h16] at h; cases h
 ·cases hf : firstF l 0 with
  | some cj =>
   obtain ⟨c, j⟩ := cj
   rw [can_fault h16 hf] at h
   exact absurd h (firstF_some l 0 c j hf)
  | none =>
   cases ht : firstT [] l with
   | some i => rw [can_twice h16 hf ht] at h; cases h
   | none =>
    cases hm : l.any isMet with
    | false => rw [can_none h16 hf ht hm] at h; cases h
    | true => exact ⟨h16, firstF_none l 0 hf, once_all ht, hm⟩
end Go.Proofs.YtikbfjnbhogihaaGreatDoor.KeyLaw
namespace Go.Proofs.YtikbfjnbhogihaaGreatDoor.M
open Go.RowKit Go.Proofs.YtikbfjnbhogihaaGreatDoorW.PrintWords Go.Proofs.YtikbfjnbhogihaaGreatDoorW.PrintLast Go.Proofs.YtikbfjnbhogihaaGreatDoorW.PrintMore
attribute [local go_sem] max2_int min2_int max_two min_two max_three min_three max_four min_four
set_option linter.unusedVariables false
set_option linter.unusedSimpArgs false
/-! ### spec_Hash64: function 68 -/
def spec_Hash64.l0 : Nat → ByteArray → Int → Int → Option (Int)
 | 0, _, _, _ => none
 | k + 1, x0, x3, x4 => if x4 < (x0.size : Int) then (if 0 ≤ x4 then (spec_Hash64.l0 k x0 (wrap64 ((Go.bits .xor .i64 x3 (wrap64 (bt x0 x4))) * 1099511628211)) (wrap64 (x4 + 1))) else (none)) else (some x3)
def spec_Hash64.f (k : Nat) (a0 : ByteArray) : Option (Int) := spec_Hash64.l0 k a0 (-3750763034362895579) 0
set_option maxHeartbeats 8000000 in
set_option maxRecDepth 100000 in
theorem spec_Hash64.calls (k : Nat) (a0 : ByteArray) (r : Int) (w : World) (h : spec_Hash64.f k a0 = some r) :
  Calls Tryz.prog 68 #[.string a0] w fun e w' => e = .returned (.int .i64 r) ∧ Drawn0 w w' := by
 have H : (spec_Hash64.l0 k a0 (-3750763034362895579) 0) = some r := h
 clear h
 have H' := Aside0.mk H
 clear H
 go_enter Tryz.func68, Tryz.ntmps68
 go_wp2
 go_loopg [3, 4] k (fun kq v3 v4 w' => ∃ (x3_1 : Int) (x4_1 : Int), v3 = .int .i64 x3_1 ∧ v4 = .int .i64 x4_1 ∧ Aside0 (spec_Hash64.l0 kq a0 x3_1 x4_1 = some r) ∧ Aside0 (kq ≤ k) ∧ Drawn0 w w')
 case atStart => exact ⟨((-3750763034362895579)), (0), (by first | rfl | (simp; done) | (simp [*]; done)), (by first | rfl | (simp; done) | (simp [*]; done)), H', ⟨Nat.le_refl _⟩, by repeat (first | exact Drawn0.refl _ | apply Drawn0.step)⟩
 case round =>
  clear H'
  obtain ⟨x3_1, x4_1, rfl, rfl, HA, HK1, ⟨m1, rfl⟩⟩ := hrel
  cases gk with
  | zero => exact absurd HA.out (by simp [spec_Hash64.l0])
  | succ k1 =>
   have H := HA.out
   clear HA
   simp only [spec_Hash64.l0] at H
   by_cases c2 : x4_1 < (a0.size : Int)
   ·rw [if_pos c2] at H
    have c2b0 : decide (x4_1 < (a0.size : Int)) = true := decide_eq_true c2
    clear c2
    by_cases c3 : 0 ≤ x4_1
    ·rw [if_pos c3] at H
     have c3b0 : decide (0 ≤ x4_1) = true := decide_eq_true c3
     clear c3
     have H' := Aside0.mk H
     clear H
     have p4 : 0 ≤ (x4_1 : Int) := of_decide_eq_true (by first | (with_reducible assumption) | assumption)
     have q4 : x4_1 < (a0.size : Int) := of_decide_eq_true (by first | (with_reducible assumption) | assumption)
     have hx4 := bt_at a0 x4_1
     replace p4 := eq_true p4
     replace q4 := eq_true q4
     go_wp2
     go_roundg k1
     case measure => have := HK1.out; omega
     case rel => exact ⟨(wrap64 ((Go.bits .xor .i64 x3_1 (wrap64 (bt a0 x4_1))) * 1099511628211)), (wrap64 (x4_1 + 1)), (by first | rfl | (simp; done) | (simp [*]; done)), (by first | rfl | (simp; done) | (simp [*]; done)), H', ⟨by have := HK1.out; omega⟩, by repeat (first | exact Drawn0.refl _ | apply Drawn0.step)⟩
    ·rw [if_neg c3] at H
     exact absurd H (by simp)
   ·rw [if_neg c2] at H
    have c2b0 : decide (x4_1 < (a0.size : Int)) = false := decide_eq_false c2
    clear c2
    obtain rfl := Option.some.inj H
    go_wp2
    go_ret
    exact ⟨by first | rfl | (simp; done) | (simp [*]; done), by repeat (first | exact Drawn0.refl _ | apply Drawn0.step)⟩
/-! ### laws_szState: function 12 -/
def laws_szState.f (k : Nat) (a0_0 : Int) (l0_1 : List (S159)) (a1 : Int) : Option (Int) := (laws_szTenantS.f k l0_1 a1).bind fun t113 => (if t113 < 0 then (some (-1)) else (some t113))
set_option maxHeartbeats 8000000 in
set_option maxRecDepth 100000 in
theorem laws_szState.calls (k : Nat) (a0_0 : Int) (A0_1 : Option Addr) (c0_1 : Nat) (l0_1 : List (S159)) (a1 : Int) (r : Int) (w : World) (hr0_1 : Kd.C k159 w A0_1 l0_1.length l0_1) (hc0_1 : l0_1.length ≤ c0_1) (h : laws_szState.f k a0_0 l0_1 a1 = some r) :
  Calls Tryz.prog 12 #[.agg #[.int .i64 a0_0, .slice A0_1 l0_1.length c0_1], .int .i64 a1] w fun e w' => e = .returned (.int .i64 r) ∧ Below w.heap.size w w' := by
 have hu26 := Tryz.underlying26
 have HR0_1 := Aside0.mk hr0_1
 have HC0_1 := Aside0.mk hc0_1
 clear hr0_1 hc0_1
 have HB := Aside0.mk (Below.refl w.heap.size w)
 have H : ((laws_szTenantS.f k l0_1 a1).bind fun t113 => (if t113 < 0 then (some (-1)) else (some t113))) = some r := h
 clear h
 replace H := Option.bind_eq_some_iff.mp H
 obtain ⟨t113, A30, H⟩ := H
 replace H : (if t113 < 0 then (some (-1)) else (some t113)) = some r := H
 have A3 := Aside0.mk A30
 clear A30
 by_cases c4 : t113 < 0
 ·rw [if_pos c4] at H
  have c4b0 : decide (t113 < 0) = true := decide_eq_true c4
  clear c4
  obtain rfl := Option.some.inj H
  go_enter Tryz.func12, Tryz.ntmps12
  go_wp2_with (first | ((with_reducible refine gate_dst (N := 2) rfl ?_); refine box_event ?hg (N := 2) ?hd (cs := #[.int .i64 a0_0, .slice A0_1 l0_1.length c0_1]) (t := 26) ?hr ?_; (case hd => rfl); (case hg => rfl); (case hr => first | (go_simp; done) | (go_simp; rfl)); intro gb112 hg w5 hbox hb; have n0_ := Aside0.mk (below_step (by repeat (first | (with_reducible first | exact HB.out | apply below_alloc | apply pw_below_drewN | apply below_drew1) | exact HB.out)) hb); have n1_ := Aside0.mk (hbox); have n2_ := Aside0.mk ((by rw [hg]; exact (below_size (by repeat (first | (with_reducible first | exact HB.out | apply below_alloc | apply pw_below_drewN | apply below_drew1) | exact HB.out))) : w.heap.size ≤ gb112)); have n3_ := Aside0.mk ((by rw [hg]; exact (below_size (by repeat (first | (with_reducible first | exact HB.out | apply below_alloc | apply pw_below_drewN | apply below_drew1) | exact HB.out))) : w.heap.size ≤ gb112)); clear HB; have HB := n0_; have BK112 := n1_; have GW112 := n2_; have GE112 := n3_; clear n0_ n1_ n2_ n3_; clear hb hbox hg; have hcz6_0 : w5.cell? ⟨gb112, 0, none⟩ = some (.int .i64 a0_0) := (blk_cell BK112.out 0).trans rfl; have hcz6_1 : w5.cell? ⟨gb112, 1, none⟩ = some (.slice A0_1 l0_1.length c0_1) := (blk_cell BK112.out 1).trans rfl; have hfz6_0 := blk_frozen BK112.out 0; have hfz6_1 := blk_frozen BK112.out 1) | ((with_reducible refine gate_callee (f := 46) rfl ?_); refine goesL_ (some 8) rfl rfl Tryz.func46 (by kernel_rfl) rfl #[.slice A0_1 l0_1.length c0_1, .int .i64 a1] rfl (by (try simp only [List.map_toArray, List.map_cons, List.map_nil]); first | done | rfl | (simp only [List.length_drop, List.length_take]; rfl)) ?_; (with_reducible refine (laws_szTenantS.calls k _ _ l0_1 a1 t113 _ ?side1 ?side2 A3.out).mono ?_); (case side1 => repeat (first | exact (Kd.C_below HR0_1.out HB.out) | (with_reducible refine Kd.C_alloc ?_ _) | (with_reducible refine Kd.C_drewN ?_ _) | (with_reducible refine Kd.C_drew ?_))); (case side2 => exact HC0_1.out); rintro e w7 ⟨rfl, hb⟩; refine ⟨_, rfl, ?_⟩; have n0_ := Aside0.mk (blk_below (g := gb112) (o := .cells #[.int .i64 a0_0, .slice A0_1 l0_1.length c0_1] 26 (0, 0)) (by (with_reducible repeat (first | refine blk_drewN ?_ _ | refine blk_drew ?_ | refine blk_alloc ?_ _)); exact BK112.out) hb); have n1_ := Aside0.mk (below_step (by repeat (first | (with_reducible first | exact HB.out | apply below_alloc | apply pw_below_drewN | apply below_drew1 | refine below_set ?_ GE112.out) | exact HB.out)) hb); clear BK112; clear HB; have BK112 := n0_; have HB := n1_; clear n0_ n1_; (try clear hb); (try clear hb2); (try clear hk); (try clear hi)))
  go_ret
  exact ⟨by first | rfl | (simp [errW_none, errW_some] <;> rfl) | (simp [*, errW_none, errW_some] <;> rfl), by repeat (first | (with_reducible first | exact HB.out | apply below_alloc | apply pw_below_drewN | apply below_drew1 | refine below_set ?_ GE112.out) | exact HB.out)⟩
 ·rw [if_neg c4] at H
  have c4b0 : decide (t113 < 0) = false := decide_eq_false c4
  clear c4
  obtain rfl := Option.some.inj H
  go_enter Tryz.func12, Tryz.ntmps12
  go_wp2_with (first | ((with_reducible refine gate_dst (N := 2) rfl ?_); refine box_event ?hg (N := 2) ?hd (cs := #[.int .i64 a0_0, .slice A0_1 l0_1.length c0_1]) (t := 26) ?hr ?_; (case hd => rfl); (case hg => rfl); (case hr => first | (go_simp; done) | (go_simp; rfl)); intro gb112 hg w8 hbox hb; have n0_ := Aside0.mk (below_step (by repeat (first | (with_reducible first | exact HB.out | apply below_alloc | apply pw_below_drewN | apply below_drew1) | exact HB.out)) hb); have n1_ := Aside0.mk (hbox); have n2_ := Aside0.mk ((by rw [hg]; exact (below_size (by repeat (first | (with_reducible first | exact HB.out | apply below_alloc | apply pw_below_drewN | apply below_drew1) | exact HB.out))) : w.heap.size ≤ gb112)); have n3_ := Aside0.mk ((by rw [hg]; exact (below_size (by repeat (first | (with_reducible first | exact HB.out | apply below_alloc | apply pw_below_drewN | apply below_drew1) | exact HB.out))) : w.heap.size ≤ gb112)); clear HB; have HB := n0_; have BK112 := n1_; have GW112 := n2_; have GE112 := n3_; clear n0_ n1_ n2_ n3_; clear hb hbox hg; have hcz9_0 : w8.cell? ⟨gb112, 0, none⟩ = some (.int .i64 a0_0) := (blk_cell BK112.out 0).trans rfl; have hcz9_1 : w8.cell? ⟨gb112, 1, none⟩ = some (.slice A0_1 l0_1.length c0_1) := (blk_cell BK112.out 1).trans rfl; have hfz9_0 := blk_frozen BK112.out 0; have hfz9_1 := blk_frozen BK112.out 1) | ((with_reducible refine gate_callee (f := 46) rfl ?_); refine goesL_ (some 8) rfl rfl Tryz.func46 (by kernel_rfl) rfl #[.slice A0_1 l0_1.length c0_1, .int .i64 a1] rfl (by (try simp only [List.map_toArray, List.map_cons, List.map_nil]); first | done | rfl | (simp only [List.length_drop, List.length_take]; rfl)) ?_; (with_reducible refine (laws_szTenantS.calls k _ _ l0_1 a1 t113 _ ?side1 ?side2 A3.out).mono ?_); (case side1 => repeat (first | exact (Kd.C_below HR0_1.out HB.out) | (with_reducible refine Kd.C_alloc ?_ _) | (with_reducible refine Kd.C_drewN ?_ _) | (with_reducible refine Kd.C_drew ?_))); (case side2 => exact HC0_1.out); rintro e w10 ⟨rfl, hb⟩; refine ⟨_, rfl, ?_⟩; have n0_ := Aside0.mk (blk_below (g := gb112) (o := .cells #[.int .i64 a0_0, .slice A0_1 l0_1.length c0_1] 26 (0, 0)) (by (with_reducible repeat (first | refine blk_drewN ?_ _ | refine blk_drew ?_ | refine blk_alloc ?_ _)); exact BK112.out) hb); have n1_ := Aside0.mk (below_step (by repeat (first | (with_reducible first | exact HB.out | apply below_alloc | apply pw_below_drewN | apply below_drew1 | refine below_set ?_ GE112.out) | exact HB.out)) hb); clear BK112; clear HB; have BK112 := n0_; have HB := n1_; clear n0_ n1_; (try clear hb); (try clear hb2); (try clear hk); (try clear hi)))
  go_ret
  exact ⟨by first | rfl | (simp [errW_none, errW_some] <;> rfl) | (simp [*, errW_none, errW_some] <;> rfl), by repeat (first | (with_reducible first | exact HB.out | apply below_alloc | apply pw_below_drewN | apply below_drew1 | refine below_set ?_ GE112.out) | exact HB.out)⟩
end Go.Proofs.YtikbfjnbhogihaaGreatDoor.M
/- When a state is one: what both compute. Plain. -/
namespace Go.Proofs.YtikbfjnbhogihaaGreatDoor.StOK
open Go.Proofs.YtikbfjnbhogihaaGreatDoor.M Go.Proofs.YtikbfjnbhogihaaGreatDoor.Loops Go.Proofs.YtikbfjnbhogihaaGreatDoor.Can Go.Proofs.YtikbfjnbhogihaaGreatDoor.Utf Go.Proofs.YtikbfjnbhogihaaGreatDoor.Key Go.Proofs.YtikbfjnbhogihaaGreatDoor.KeyDec Go.Proofs.YtikbfjnbhogihaaGreatDoor.KeyLaw Go.Proofs.YtikbfjnbhogihaaGreatDoor.Metr Go.Proofs.YtikbfjnbhogihaaGreatDoorW.PrintWords Go.Proofs.YtikbfjnbhogihaaGreatDoorW.PrintLast Go.Proofs.YtikbfjnbhogihaaGreatDoorW.PrintMore Go.RowKit
set_option linter.unusedVariables false
set_option linter.unusedSimpArgs false
abbrev Tn := S87
abbrev Ml := S91
abbrev Sr := S93
/-! ### a loop that goes on while all is well -/
def allFrom (P : Nat → Bool) : Nat → Nat → Bool
 | _, 0 => true
 | j, m + 1 => P j && allFrom P (j + 1) m
theorem allFrom_all {α : Type} (A : α → Bool) (z : α) (l : List α) : ∀ m j, j + m = l.length → allFrom (fun i => A (l.getD i z)) j m = (l.drop j).all A := by
 intro m
 induction m with
 | zero => intro j hj; rw [List.drop_eq_nil_of_le (by omega)]; rfl
 | succ m ih =>
  intro j hj
  have hlt : j < l.length := by omega
  show (A (l.getD j z) && allFrom _ (j + 1) m) = _
  rw [ih (j + 1) (by omega), List.drop_eq_getElem_cons hlt, List.all_cons, List.getD_eq_getElem?_getD, List.getElem?_eq_getElem hlt]
  rfl
theorem allFrom_and (P Q : Nat → Bool) : ∀ m j, allFrom (fun i => P i && Q i) j m = (allFrom P j m && allFrom Q j m) := by
 intro m
 induction m with
 | zero => intro j; rfl
 | succ m ih =>
  intro j
  show ((P j && Q j) && allFrom _ (j + 1) m) = ((P j && allFrom P (j + 1) m) && (Q j && allFrom Q (j + 1) m))
  rw [ih]
  cases P j <;> cases Q j <;> simp
def riseAt {α : Type} (g : α → ByteArray) (z : α) (l : List α) (i : Nat) : Bool := decide (i = 0) || Op.bytesLess (g (l.getD (i - 1) z)).toList (g (l.getD i z)).toList
theorem rise_from {α : Type} (g : α → ByteArray) (z : α) (l : List α) : ∀ m j, 1 ≤ j → j + m = l.length → allFrom (riseAt g z l) j m = Rise.up ((l.map g).drop (j - 1)) := by
 intro m
 induction m with
 | zero => intro j h1 hj; rw [Rise.up_short _ (by rw [List.length_drop, List.length_map]; omega)]; rfl
 | succ m ih =>
  intro j h1 hj
  obtain ⟨i, rfl⟩ : ∃ i, j = i + 1 := ⟨j - 1, by omega⟩
  have h := Rise.up_step g z l i (i + 1) rfl (by omega)
  rw [h]
  show (riseAt g z l (i + 1) && allFrom _ (i + 1 + 1) m) = _
  rw [ih (i + 1 + 1) (by omega) (by omega)]
  rfl
theorem rise_all {α : Type} (g : α → ByteArray) (z : α) (l : List α) : allFrom (riseAt g z l) 0 l.length = Rise.up (l.map g) := by
 cases hl : l.length with
 | zero => rw [List.length_eq_zero_iff.1 hl]; rfl
 | succ m =>
  show (riseAt g z l 0 && allFrom _ 1 m) = _
  rw [rise_from g z l m 1 (Nat.le_refl _) (by omega)]
  rfl
/-! ### small ones -/
theorem spec_between (a b c : Int) : spec_l1Between.f a b c = some (decide (b ≤ a ∧ a ≤ c)) := by
 unfold spec_l1Between.f
 by_cases h : b ≤ a
 ·rw [if_pos h]; simp [h]
 ·rw [if_neg h]; simp [h]
theorem spec_ten_chars (s : ByteArray) (hz : s.size ≤ 32) : ∀ n j, j + n = s.size → Ev (fun k => spec_l4TenantName.l0 k s (j : Int)) (TenN.chars s n) := by
 intro n
 induction n with
 | zero =>
  intro j hj
  exact Ev.step (f := fun _ => some true) (fun k => by simp only [spec_l4TenantName.l0]; rw [if_neg (by omega)]) (Ev.now _)
 | succ n ih =>
  intro j hj
  have hn := ih (j + 1) (by omega)
  have e : s.size - (n + 1) = j := by omega
  have hw : wrap64 ((j : Int) + 1) = ((j + 1 : Nat) : Int) := w_succ j (by omega)
  have ht : TenN.chars s (n + 1) = (TenN.okB (bt s (j : Int)) && TenN.chars s n) := by
   show (TenN.okB (bt s ((s.size - (n + 1) : Nat) : Int)) && TenN.chars s n) = _
   rw [e]
  rw [ht]
  cases hc : TenN.okB (bt s (j : Int)) with
  | true =>
   refine Ev.step (fun k => ?_) hn
   have hc := of_decide_eq_true hc
   simp only [spec_l4TenantName.l0]
   rw [hw, if_pos (by omega), if_pos (by omega)]
   generalize bt s (j : Int) = c at hc ⊢
   repeat' split
   all_goals first | rfl | (exfalso; omega)
  | false =>
   refine Ev.step (f := fun _ => some false) (fun k => ?_) (Ev.now _)
   have hc := of_decide_eq_false hc
   simp only [spec_l4TenantName.l0]
   rw [hw, if_pos (by omega), if_pos (by omega)]
   generalize bt s (j : Int) = c at hc ⊢
   repeat' split
   all_goals first | rfl | (exfalso; omega)
theorem spec_ten (s : ByteArray) : Ev (fun k => spec_l4TenantName.f k s) (TenN.ok s) := by
 unfold spec_l4TenantName.f TenN.ok
 simp only [spec_between, Option.bind_some]
 by_cases h : 1 ≤ s.size ∧ s.size ≤ 32
 ·rw [decide_eq_true h, decide_eq_true (show (1 : Int) ≤ (s.size : Int) ∧ (s.size : Int) ≤ 32 by omega), Bool.true_and]
  exact Ev.ite_pos rfl (spec_ten_chars s h.2 s.size 0 (by omega))
 ·rw [decide_eq_false h, decide_eq_false (show ¬ ((1 : Int) ≤ (s.size : Int) ∧ (s.size : Int) ≤ 32) by omega), Bool.false_and]
  exact Ev.ite_neg (by decide) (Ev.now _)
def metB (s : ByteArray) : Bool := decide (¬ s.toList = []) && (vf s == 0)
theorem spec_met (s : ByteArray) (h : s.size ≤ 1073741824) : Ev (fun k => spec_l4MetricName.f k s) (metB s) := by
 unfold spec_l4MetricName.f metB
 by_cases h0 : s.toList = []
 ·rw [decide_eq_false (fun h => h h0)]
  exact Ev.ite_pos h0 (Ev.now _)
 ·rw [decide_eq_true h0, Bool.true_and]
  exact Ev.ite_neg h0 (Ev.bind (spec_value s h) (Ev.now _))
theorem impl_met (s : ByteArray) (h : s.size ≤ 1073741824) : impl_isMetric.f s = some (metB s) := by
 unfold impl_isMetric.f metB
 by_cases h0 : s.toList = []
 ·rw [decide_eq_false (fun h => h h0), if_pos h0]; rfl
 ·rw [decide_eq_true h0, Bool.true_and, if_neg h0]
  unfold impl_valueFault.f
  rw [if_pos (by omega)]
  rfl
def idleB (a : Int) (m : List Ml) (s : List Sr) : Bool := decide (a = -1) && (decide (m.length = 0) && decide (s.length = 0))
theorem spec_idle (n : ByteArray) (a : Int) (m : List Ml) (s : List Sr) : spec_l4Idle.f n a m s = some (idleB a m s) := by
 unfold spec_l4Idle.f idleB
 by_cases h1 : a = -1
 ·rw [if_pos h1, decide_eq_true h1, Bool.true_and]
  by_cases h2 : m.length = 0
  ·rw [if_pos (by omega), decide_eq_true h2, Bool.true_and]
   by_cases h3 : s.length = 0
   ·rw [decide_eq_true h3, h3]; rfl
   ·rw [decide_eq_false h3, beq_eq_false_iff_ne.2 (by omega)]
  ·rw [if_neg (by omega), decide_eq_false h2]; rfl
 ·rw [if_neg h1, decide_eq_false h1]; rfl
theorem impl_idl (n : ByteArray) (a : Int) (m : List Ml) (s : List Sr) : impl_idle.f n a m s = some (idleB a m s) :=
 (show impl_idle.f n a m s = spec_l4Idle.f n a m s from rfl).trans (spec_idle n a m s)
/-! ### keys -/
noncomputable def dec (s : ByteArray) : List S141 × Bool := if h : s.size ≤ 1048576 then KeyDec.fin s (Classical.choose (same_dec s h)) else ([], false)
theorem dec_is (s : ByteArray) (h : s.size ≤ 1048576) : ∃ l, dec s = KeyDec.fin s l ∧ Ev (fun k => impl_DecodeKey.f k s) (dec s) ∧ Ev (fun k => spec_DecodeKey.f k s) (dec s) := by
 have e : dec s = KeyDec.fin s (Classical.choose (same_dec s h)) := by unfold dec; rw [dif_pos h]
 have hs := Classical.choose_spec (same_dec s h)
 rw [← e] at hs
 exact ⟨_, e, hs⟩
noncomputable def keyB (s : ByteArray) : Bool := (dec s).2
noncomputable def metS (s : ByteArray) : ByteArray := metr (dec s).1
theorem spec_metric (s : ByteArray) (h : s.size ≤ 1048576) : Ev (fun k => spec_Metric.f k s) (metS s) := by
 obtain ⟨l, e, h1, h2⟩ := dec_is s h
 have hlen : (dec s).1.length ≤ 16 := by rw [e]; exact fin_len s l
 unfold spec_Metric.f metS
 exact Ev.bind h2 (metr_loop spec_Metric.l0 (fun k a b c => by simp only [spec_Metric.l0]) (dec s).1 (by omega) (dec s).1.length 0 (by omega))
theorem metr_ne : ∀ l : List S141, (∀ x ∈ l, keep x = true) → l.any isMet = true → ¬ (metr l).toList = []
 | [], _, h => by cases h
 | x :: l, hk, h => by
  unfold metr
  by_cases hc : x.f0.toList = ([95, 95, 110, 97, 109, 101, 95, 95] : List UInt8)
  ·rw [if_pos hc]
   have := hk x List.mem_cons_self
   unfold keep at this
   exact of_decide_eq_true this
  ·rw [if_neg hc]
   refine metr_ne l (fun y hy => hk y (List.mem_cons_of_mem _ hy)) ?_
   rw [List.any_cons, Bool.or_eq_true] at h
   rcases h with h | h
   ·unfold isMet at h
    exact absurd (of_decide_eq_true (Bool.and_eq_true_iff.1 h).2) hc
   ·exact h
theorem key_can {l : List S141} (h : ¬ (key l).toList = []) : Ok l ∧ (can l).1 = l := by
 unfold key at h
 by_cases h0 : (can l).2.1 = 0
 ·rw [if_pos h0] at h
  by_cases h1 : same (can l).1 l = true
  ·exact ⟨can_zero h0, (same_iff _ _).1 h1⟩
  ·rw [if_neg h1, ByteArray.toList_eq] at h
   exact absurd rfl h
 ·rw [if_neg h0, ByteArray.toList_eq] at h
  exact absurd rfl h
theorem keyB_met (s : ByteArray) (h : s.size ≤ 1048576) (hk : keyB s = true) : ¬ (metS s).toList = [] := by
 obtain ⟨l, e, _, _⟩ := dec_is s h
 unfold keyB at hk
 unfold metS
 rw [e] at hk ⊢
 unfold KeyDec.fin at hk ⊢
 by_cases h0 : s.toList = []
 ·rw [if_pos h0] at hk; cases hk
 ·rw [if_neg h0] at hk ⊢
  by_cases h1 : (key l).toList = s.toList
  ·rw [if_pos h1]
   obtain ⟨hok, hcan⟩ := key_can (l := l) (by rw [h1]; exact h0)
   refine metr_ne l (fun x hx => ?_) hok.2.2.2
   rw [← hcan, ok_can hok] at hx
   have hp := CanSort.order_perm (l.filter keep) (once_filter keep hok.2.2.1)
   exact (List.mem_filter.1 (hp.mem_iff.1 hx)).2
  ·rw [if_neg h1] at hk; cases hk
theorem spec_key4 (s : ByteArray) (h : s.size ≤ 1048576) : Ev (fun k => spec_l4Key.f k s) (keyB s) := by
 obtain ⟨l, e, h1, h2⟩ := dec_is s h
 unfold spec_l4Key.f
 refine Ev.bind h2 ?_
 cases hk : keyB s with
 | true =>
  refine Ev.ite_pos hk (Ev.bind (spec_metric s h) (Ev.eq (Ev.now _) ?_))
  have := keyB_met s h hk
  simpa using this
 | false => exact Ev.ite_neg (by rw [show (dec s).2 = false from hk]; decide) (Ev.now _)
theorem getD_mem {α : Type} (l : List α) (z : α) (j : Nat) (h : j < l.length) : l.getD j z ∈ l := by
 rw [List.getD_eq_getElem?_getD, List.getElem?_eq_getElem h]
 exact List.getElem_mem h
noncomputable def mlB (m : Ml) : Bool := metB m.f0 && decide (0 ≤ m.f1 ∧ m.f1 ≤ 1000000)
noncomputable def srB (win now : Int) (x : Sr) : Bool := decide (0 ≤ x.f1 ∧ x.f1 ≤ now) && (decide (now - x.f1 < win) && keyB x.f0)
noncomputable def tnB (win now : Int) (t : Tn) : Bool := TenN.ok t.f0 && (decide (-1 ≤ t.f1 ∧ t.f1 ≤ 1000000) && (!(idleB t.f1 t.f2 t.f3) && (t.f2.all mlB && (t.f3.all (srB win now) && (Rise.up (t.f2.map (·.f0)) && Rise.up (t.f3.map (·.f0)))))))
noncomputable def stB (a b c d e f now : Int) (ts : List Tn) : Bool := St.cfgB a b c d e f && (decide (0 ≤ now ∧ now ≤ 1000000000000) && (decide (ts.length ≤ 10000) && (Rise.up (ts.map (·.f0)) && ts.all (tnB a now))))
structure Sm (t : Tn) : Prop where
 n2 : t.f2.length ≤ 1048576
 n3 : t.f3.length ≤ 1048576
 z0 : t.f0.size ≤ 1048576
 z2 : ∀ m ∈ t.f2, m.f0.size ≤ 1048576
 z3 : ∀ x ∈ t.f3, x.f0.size ≤ 1048576
/-! ### the same at the calls -/
theorem ten_c (s : ByteArray) (w : World) : Calls Tryz.prog 49 #[.string s] w fun e w' => ∃ b, e = .returned (.bool b) ∧ TenN.ok s = b ∧ Drawn0 w w' := by
 obtain ⟨k, hk⟩ := (spec_ten s).rounds
 refine (spec_l4TenantName.calls k s _ w hk).mono ?_
 rintro e w' ⟨rfl, h⟩
 exact ⟨_, rfl, rfl, h⟩
theorem met_c (s : ByteArray) (hs : s.size ≤ 1048576) (w : World) : Calls Tryz.prog 51 #[.string s] w fun e w' => ∃ b, e = .returned (.bool b) ∧ metB s = b ∧ Below w.heap.size w w' := by
 obtain ⟨k, hk⟩ := (spec_met s (by omega)).rounds
 refine (spec_l4MetricName.calls k s _ w hk).mono ?_
 rintro e w' ⟨rfl, h⟩
 exact ⟨_, rfl, rfl, h⟩
theorem key_c (s : ByteArray) (hs : s.size ≤ 1048576) (w : World) : Calls Tryz.prog 52 #[.string s] w fun e w' => ∃ b, e = .returned (.bool b) ∧ keyB s = b ∧ Below w.heap.size w w' := by
 obtain ⟨k, hk⟩ := (spec_key4 s hs).rounds
 refine (spec_l4Key.calls k s _ w hk).mono ?_
 rintro e w' ⟨rfl, h⟩
 exact ⟨_, rfl, rfl, h⟩
end Go.Proofs.YtikbfjnbhogihaaGreatDoor.StOK
/- Shards, plain: a key's shard is the same to the reference and to the program; the lists. -/
namespace Go.Proofs.YtikbfjnbhogihaaGreatDoor.Shd
open Go.RowKit Go.Proofs.YtikbfjnbhogihaaGreatDoor.M Go.Proofs.YtikbfjnbhogihaaGreatDoor.Loops Go.Proofs.YtikbfjnbhogihaaGreatDoorW.PrintWords Go.Proofs.YtikbfjnbhogihaaGreatDoorW.PrintLast Go.Proofs.YtikbfjnbhogihaaGreatDoorW.PrintMore
set_option linter.unusedVariables false
theorem u64_mod (z : Int) : IntKind.u64.wrap z = z % 18446744073709551616 := by simp [IntKind.wrap, IntKind.bits, IntKind.signed]
theorem wrap64_congr {a b : Int} (h : a % 18446744073709551616 = b % 18446744073709551616) : wrap64 a = wrap64 b := by
 unfold wrap64; omega
theorem wrap64_mod (n : Int) : wrap64 n % 18446744073709551616 = n % 18446744073709551616 := by unfold wrap64; omega
theorem ofInt_wrap64 (n : Int) : BitVec.ofInt 64 (wrap64 n) = BitVec.ofInt 64 n := by
 apply BitVec.eq_of_toInt_eq
 rw [BitVec.toInt_ofInt, BitVec.toInt_ofInt]
 unfold wrap64
 rw [Int.bmod_def, Int.bmod_def]
 have : ((2 ^ 64 : Nat) : Int) = 18446744073709551616 := rfl
 rw [this]
 have e : (n + 9223372036854775808) % 18446744073709551616 - 9223372036854775808 = n - 18446744073709551616 * ((n + 9223372036854775808) / 18446744073709551616) := by omega
 rw [e, Int.sub_mul_emod_self_left]
theorem hash_step (h b : Int) (hb0 : 0 ≤ b) (hb : b ≤ 255) :
  wrap64 (Go.bits .xor .i64 (wrap64 h) (wrap64 b) * 1099511628211) = wrap64 (IntKind.u64.wrap (Go.bits .xor .u64 h (IntKind.u64.wrap b) * 1099511628211)) := by
 have e1 : wrap64 b = b := by unfold wrap64; omega
 have e2 : IntKind.u64.wrap b = b := by rw [u64_mod]; omega
 rw [e1, e2]
 have e3 : Go.bits .xor .i64 (wrap64 h) b = wrap64 ((BitVec.ofInt 64 (wrap64 h) ^^^ BitVec.ofInt 64 b).toNat : Int) := by
  show IntKind.i64.wrap _ = _; rw [IntKind.wrap_i64]; unfold wrap64; rfl
 have e4 : Go.bits .xor .u64 h b = ((BitVec.ofInt 64 h ^^^ BitVec.ofInt 64 b).toNat : Int) % 18446744073709551616 := by
  show IntKind.u64.wrap _ = _; rw [u64_mod]; rfl
 rw [e3, e4, ofInt_wrap64]
 generalize ((BitVec.ofInt 64 h ^^^ BitVec.ofInt 64 b).toNat : Int) = n
 rw [u64_mod]
 apply wrap64_congr
 rw [Int.emod_emod, Int.mul_emod, wrap64_mod, ← Int.mul_emod, Int.mul_emod (n % _), Int.emod_emod, ← Int.mul_emod]
theorem hash_loop (s : ByteArray) (hn : s.size ≤ 1048576) (d : Nat) : ∀ (i : Int) (h : Int), 0 ≤ i → i ≤ s.size → (s.size : Int) - i = d →
  ∃ r, (-9223372036854775808 ≤ r ∧ r ≤ 9223372036854775807) ∧ ∀ k : Nat, d < k → spec_Hash64.l0 k s (wrap64 h) i = some r ∧ impl_Hash64.l0 k s h (s.size : Int) i = some r := by
 induction d with
 | zero =>
  intro i h h0 h1 hd
  refine ⟨wrap64 h, by unfold wrap64; omega, fun k hk => ?_⟩
  obtain ⟨k, rfl⟩ : ∃ m, k = m + 1 := ⟨k - 1, by omega⟩
  refine ⟨?_, ?_⟩
  ·simp only [spec_Hash64.l0]; rw [if_neg (by omega)]
  ·simp only [impl_Hash64.l0]; rw [if_neg (by omega)]
 | succ d ih =>
  intro i h h0 h1 hd
  have hlt : i < (s.size : Int) := by omega
  have hw : wrap64 (i + 1) = i + 1 := by unfold wrap64; omega
  obtain ⟨b0, b1⟩ := bt_range s i
  have st := hash_step h (bt s i) b0 b1
  obtain ⟨r, hr0, hr⟩ := ih (i + 1) (IntKind.u64.wrap (Go.bits .xor .u64 h (IntKind.u64.wrap (bt s i)) * 1099511628211)) (by omega) (by omega) (by omega)
  refine ⟨r, hr0, fun k hk => ?_⟩
  obtain ⟨k, rfl⟩ : ∃ m, k = m + 1 := ⟨k - 1, by omega⟩
  obtain ⟨hr1, hr2⟩ := hr k (by omega)
  refine ⟨?_, ?_⟩
  ·simp only [spec_Hash64.l0]; rw [if_pos hlt, if_pos h0, hw, st]; exact hr1
  ·simp only [impl_Hash64.l0]; rw [if_pos hlt, if_pos h0, if_pos hlt, hw]; exact hr2
theorem hash_same (s : ByteArray) (hn : s.size ≤ 1048576) : ∃ r, (-9223372036854775808 ≤ r ∧ r ≤ 9223372036854775807) ∧ Ev (fun k => spec_Hash64.f k s) r ∧ Ev (fun k => impl_Hash64.f k s) r := by
 obtain ⟨r, h0, h⟩ := hash_loop s hn s.size 0 14695981039346656037 (by omega) (by omega) (by omega)
 refine ⟨r, h0, ⟨s.size + 1, fun k hk => ?_⟩, ⟨s.size + 1, fun k hk => ?_⟩⟩
 ·have e := (h k (by omega)).1
  rw [show wrap64 14695981039346656037 = -3750763034362895579 by unfold wrap64; omega] at e
  exact e
 ·exact (h k (by omega)).2
theorem uns (h n : Int) (h0 : -9223372036854775808 ≤ h ∧ h ≤ 9223372036854775807) (hn : 1 ≤ n ∧ n ≤ 64) : spec_l4Unsigned.f h n = some ((h % 18446744073709551616) % n) ∧ (if IntKind.u64.wrap n = 0 then none else some (wrap64 (Int.tmod (IntKind.u64.wrap h) (IntKind.u64.wrap n)))) = some ((h % 18446744073709551616) % n) := by
 have hnn : n % 18446744073709551616 = n := Int.emod_eq_of_lt (by omega) (by omega)
 have hp : 0 ≤ (h % 18446744073709551616) % n ∧ (h % 18446744073709551616) % n < n := ⟨Int.emod_nonneg _ (by omega), Int.emod_lt_of_pos _ (by omega)⟩
 constructor
 ·unfold spec_l4Unsigned.f
  by_cases hh : h ≥ 0
  ·rw [if_pos hh, if_neg (by omega), Int.tmod_eq_emod_of_nonneg hh, show h % 18446744073709551616 = h from Int.emod_eq_of_lt hh (by omega)]
  ·rw [if_neg hh, if_neg (by omega)]
   refine congrArg some ?_
   obtain ⟨hi, ehi⟩ : ∃ x, x = (h / 4294967296) % 4294967296 := ⟨_, rfl⟩
   obtain ⟨lo, elo⟩ : ∃ x, x = h % 4294967296 := ⟨_, rfl⟩
   have e : h % 18446744073709551616 = hi * 4294967296 + lo := by omega
   have hlo : 0 ≤ lo ∧ lo < 4294967296 := by omega
   rw [← ehi, ← elo, e]
   have p1 : 0 ≤ hi % n ∧ hi % n < 64 := ⟨Int.emod_nonneg _ (by omega), by have := Int.emod_lt_of_pos hi (show 0 < n by omega); omega⟩
   have p2 : 0 ≤ (4294967296 : Int) % n ∧ (4294967296 : Int) % n < 64 := ⟨Int.emod_nonneg _ (by omega), by have := Int.emod_lt_of_pos 4294967296 (show 0 < n by omega); omega⟩
   have p3 : 0 ≤ (hi % n) * ((4294967296 : Int) % n) ∧ (hi % n) * ((4294967296 : Int) % n) ≤ 4096 := by
    refine ⟨Int.mul_nonneg p1.1 p2.1, ?_⟩
    have := Int.mul_le_mul (show hi % n ≤ 64 by omega) (show (4294967296 : Int) % n ≤ 64 by omega) p2.1 (by decide)
    omega
   rw [w_id ((hi % n) * ((4294967296 : Int) % n)) (by omega) (by omega), w_id _ (by omega) (by omega), Int.tmod_eq_emod_of_nonneg (by omega), Int.add_emod, ← Int.mul_emod, ← Int.add_emod]
 ·rw [u64_mod, u64_mod, hnn, if_neg (by omega), Int.tmod_eq_emod_of_nonneg (Int.emod_nonneg _ (by decide)), w_id _ (by omega) (by omega)]
end Go.Proofs.YtikbfjnbhogihaaGreatDoor.Shd
namespace Go.Proofs.YtikbfjnbhogihaaGreatDoor.M
open Go.RowKit Go.Proofs.YtikbfjnbhogihaaGreatDoorW.PrintWords Go.Proofs.YtikbfjnbhogihaaGreatDoorW.PrintLast Go.Proofs.YtikbfjnbhogihaaGreatDoorW.PrintMore
attribute [local go_sem] max2_int min2_int max_two min_two max_three min_three max_four min_four
set_option linter.unusedVariables false
set_option linter.unusedSimpArgs false
noncomputable section
/-! ### impl_Metric: function 35 -/
end
end Go.Proofs.YtikbfjnbhogihaaGreatDoor.M
/- The metric of a key: what impl.Metric answers, and how long it is. -/
namespace Go.Proofs.YtikbfjnbhogihaaGreatDoor.Bk
open Go.RowKit Go.Proofs.YtikbfjnbhogihaaGreatDoor.M Go.Proofs.YtikbfjnbhogihaaGreatDoor.StOK Go.Proofs.YtikbfjnbhogihaaGreatDoor.Key Go.Proofs.YtikbfjnbhogihaaGreatDoor.KeyDec Go.Proofs.YtikbfjnbhogihaaGreatDoor.Metr Go.Proofs.YtikbfjnbhogihaaGreatDoorW.PrintWords
end Go.Proofs.YtikbfjnbhogihaaGreatDoor.Bk
/- The two tables of unicode/utf8, as the rows list them: what a walk reads; a world that holds them. -/
namespace Go.Proofs.YtikbfjnbhogihaaGreatDoor.Laid
open Go Go.Lib Go.Proofs Go.Proofs.YtikbfjnbhogihaaGreatDoor.M
theorem extra : U8Extra Tryz.prog Tryz.lays260_ren where
 n3 := by kernel_rfl
 n4 := by kernel_rfl
 y3 := by kernel_rfl
 y4 := by kernel_rfl
 c5 := by kernel_rfl
 c119 := by kernel_rfl
 c138 := by kernel_rfl
theorem first_eq : Rows.laid_unicode_utf8_first = firstData := by kernel_rfl
theorem accept_eq : (Rows.laid_unicode_utf8_acceptRanges : DataW Unit) = acceptData := by kernel_rfl
theorem tabs {W : World} (h : laidMet Tryz.prog [("unicode/utf8.acceptRanges", Rows.laid_unicode_utf8_acceptRanges), ("unicode/utf8.first", Rows.laid_unicode_utf8_first)] W) : Tabs W := by
 rw [first_eq, accept_eq] at h
 exact utf8Tabs_of_reads Tryz.lays260 extra (laidMet.reads h (by simp)) (laidMet.reads h (by simp))
def firstCells : Array Value := (firstTab.map fun z => Value.int .u8 z).toArray
def acceptCells : Array Value := ((List.range 16).flatMap fun i => [Value.int .u8 (accLo i), Value.int .u8 (accHi i)]).toArray
def putRow_ (cs : Array Value) : Obj → Obj
 | .cells _ t frozen => .cells cs t frozen
 | o => o
noncomputable def laidWorld (os : Os) : World :=
 { World.holding Tryz.prog os ⟨#[], #[], []⟩ with heap := ((World.holding Tryz.prog os ⟨#[], #[], []⟩).heap.modify (Tryz.lays260_ren.g 3) (putRow_ firstCells)).modify (Tryz.lays260_ren.g 4) (putRow_ acceptCells) }
end Go.Proofs.YtikbfjnbhogihaaGreatDoor.Laid
namespace Go.Proofs.YtikbfjnbhogihaaGreatDoor.M
open Go.RowKit Go.Proofs.YtikbfjnbhogihaaGreatDoorW.PrintWords Go.Proofs.YtikbfjnbhogihaaGreatDoorW.PrintLast Go.Proofs.YtikbfjnbhogihaaGreatDoorW.PrintMore
attribute [local go_sem] max2_int min2_int max_two min_two max_three min_three max_four min_four
set_option linter.unusedVariables false
set_option linter.unusedSimpArgs false
open Go.Proofs.YtikbfjnbhogihaaGreatDoor.Opn
theorem opensP23 : Opens Tryz.prog 23 (Kd.pair (Kd.int .i64) (Kd.pair (Kd.int .i64) (Kd.pair (Kd.int .i64) (Kd.pair (Kd.int .i64) (Kd.pair (Kd.int .i64) (Kd.int .i64)))))) (fun x => (Lit.int .i64 x.1).wf = true ∧ (Lit.int .i64 x.2.1).wf = true ∧ (Lit.int .i64 x.2.2.1).wf = true ∧ (Lit.int .i64 x.2.2.2.1).wf = true ∧ (Lit.int .i64 x.2.2.2.2.1).wf = true ∧ (Lit.int .i64 x.2.2.2.2.2).wf = true) := Opens.struct Tryz.underlying23 (by kernel_rfl) (OpensFrom.cons rfl (by kernel_rfl) (Opens.int Tryz.underlying3) (OpensFrom.cons rfl (by kernel_rfl) (Opens.int Tryz.underlying3) (OpensFrom.cons rfl (by kernel_rfl) (Opens.int Tryz.underlying3) (OpensFrom.cons rfl (by kernel_rfl) (Opens.int Tryz.underlying3) (OpensFrom.cons rfl (by kernel_rfl) (Opens.int Tryz.underlying3) (OpensFrom.one rfl (by kernel_rfl) (Opens.int Tryz.underlying3)))))))
instance : Inhabited S223 := ⟨z223⟩
def b223 (x : S223) : Prop := x.f0.size ≤ maxLen ∧ (Lit.int .i64 x.f1).wf = true
theorem opens223 : Opens Tryz.prog 223 k223 b223 := Opens.iso (Opens.struct Tryz.underlying223 (by kernel_rfl) (OpensFrom.cons rfl (by kernel_rfl) (Opens.string Tryz.underlying9) (OpensFrom.one rfl (by kernel_rfl) (Opens.int Tryz.underlying3)))) (fun x : S223 => (x.f0, x.f1)) (fun a => (⟨a.1, a.2⟩ : S223)) (fun _ => rfl)
instance : Inhabited S225 := ⟨z225⟩
def b225 (x : S225) : Prop := x.f0.size ≤ maxLen ∧ (Lit.int .i64 x.f1).wf = true
theorem opens225 : Opens Tryz.prog 225 k225 b225 := Opens.iso (Opens.struct Tryz.underlying225 (by kernel_rfl) (OpensFrom.cons rfl (by kernel_rfl) (Opens.string Tryz.underlying9) (OpensFrom.one rfl (by kernel_rfl) (Opens.int Tryz.underlying3)))) (fun x : S225 => (x.f0, x.f1)) (fun a => (⟨a.1, a.2⟩ : S225)) (fun _ => rfl)
instance : Inhabited S159 := ⟨z159⟩
def b159 (x : S159) : Prop := x.f0.size ≤ maxLen ∧ (Lit.int .i64 x.f1).wf = true ∧ (x.f2.length ≤ maxLen ∧ ∀ y_ ∈ x.f2, b223 y_) ∧ (x.f3.length ≤ maxLen ∧ ∀ y_ ∈ x.f3, b225 y_)
theorem opens159 : Opens Tryz.prog 159 k159 b159 := Opens.iso (Opens.struct Tryz.underlying159 (by kernel_rfl) (OpensFrom.cons rfl (by kernel_rfl) (Opens.string Tryz.underlying9) (OpensFrom.cons rfl (by kernel_rfl) (Opens.int Tryz.underlying3) (OpensFrom.cons rfl (by kernel_rfl) (Opens.slice Tryz.underlying156 (by kernel_rfl) opens223) (OpensFrom.one rfl (by kernel_rfl) (Opens.slice Tryz.underlying157 (by kernel_rfl) opens225)))))) (fun x : S159 => (x.f0, x.f1, x.f2, x.f3)) (fun a => (⟨a.1, a.2.1, a.2.2.1, a.2.2.2⟩ : S159)) (fun _ => rfl)
theorem opensP26 : Opens Tryz.prog 26 (Kd.pair (Kd.int .i64) (Kd.slice 159 k159)) (fun x => (Lit.int .i64 x.1).wf = true ∧ (x.2.length ≤ maxLen ∧ ∀ y_ ∈ x.2, b159 y_)) := Opens.struct Tryz.underlying26 (by kernel_rfl) (OpensFrom.cons rfl (by kernel_rfl) (Opens.int Tryz.underlying3) (OpensFrom.one rfl (by kernel_rfl) (Opens.slice Tryz.underlying24 (by kernel_rfl) opens159)))
end Go.Proofs.YtikbfjnbhogihaaGreatDoor.M
/- An account of the book: what holds of it between two calls. Plain. -/
namespace Go.Proofs.YtikbfjnbhogihaaGreatDoor.Mp
theorem find_hit {p : ByteArray × Value → Bool} {x : ByteArray × Value} (hx : p x = true) : ∀ l : Al, (∀ y ∈ l, p y = false) → (ins x l).find? p = some x
 | [], _ => by simp [ins, hx]
 | y :: r, h => by
  unfold ins
  split
  ·simp [hx]
  ·rw [List.find?_cons_of_neg (by rw [h y List.mem_cons_self]; simp), find_hit hx r fun z hz => h z (List.mem_cons_of_mem _ hz)]
theorem find_miss {p : ByteArray × Value → Bool} {x : ByteArray × Value} (hx : p x = false) : ∀ l : Al, (ins x l).find? p = l.find? p
 | [] => by simp [ins, hx]
 | y :: r => by
  unfold ins
  split
  ·rw [List.find?_cons_of_neg (by rw [hx]; simp)]
  ·rw [List.find?_cons, List.find?_cons, find_miss hx r]
theorem get_put_same (l : Al) (s : ByteArray) (v : Value) : get (put l s v) s = some v := by
 unfold get put
 rw [find_hit (by simp) _ fun y hy => by
  have := (List.mem_filter.1 hy).2
  simpa using this]
 rfl
theorem get_put_other (l : Al) (s t : ByteArray) (v : Value) (h : t ≠ s) : get (put l s v) t = get l t := by
 unfold get put
 rw [find_miss (by rw [beq_eq_false_iff_ne]; exact fun e => h (key_inj e).symm)]
 unfold del
 rw [List.find?_filter]
 congr 1
 congr 1
 funext p
 by_cases e : p.1.data.toList == t.data.toList
 ·have e2 : (p.1.data.toList == s.data.toList) = false := by
   rw [beq_eq_false_iff_ne]
   exact fun e3 => h (key_inj ((eq_of_beq e).symm.trans e3))
  simp [e, e2]
 ·simp [e]
end Go.Proofs.YtikbfjnbhogihaaGreatDoor.Mp
namespace Go.Proofs.YtikbfjnbhogihaaGreatDoor.Bk
open Go.RowKit Go.Proofs.YtikbfjnbhogihaaGreatDoor.M
set_option linter.unusedVariables false
noncomputable def nOf (l : List Sx) (m : ByteArray) : Nat := (l.filter fun x => decide (StOK.metS x.k = m)).length
theorem nOf_perm {l l' : List Sx} (h : l.Perm l') (m : ByteArray) : nOf l m = nOf l' m := (h.filter _).length_eq
theorem nOf_cons (x : Sx) (l : List Sx) (m : ByteArray) : nOf (x :: l) m = nOf l m + if StOK.metS x.k = m then 1 else 0 := by
 unfold nOf
 rw [List.filter_cons]
 by_cases h : StOK.metS x.k = m <;> simp [h]
structure Inv (A : Ac) (now : Int) (N : Nat) : Prop where
 ok : Hp.Ok (Hp.fn (·.f1) z93 A.its) A.its.length
 cov : ∀ x ∈ A.ser, ∃ y ∈ A.its, y.f0 = x.k ∧ y.f1 ≤ x.last
 cnt : ∀ m, (Mp.get A.cnt m).getD (.int .i64 0) = .int .i64 (nOf A.ser m : Nat)
 le : ∀ y ∈ A.its, y.f1 ≤ now ∧ y.f0.size ≤ 1048576
 key : ∀ x ∈ A.ser, x.k.size ≤ 1048576 ∧ x.last ≤ now
 n1 : A.ser.length ≤ N
 n2 : A.cnt.length ≤ N
 n3 : A.its.length ≤ N
theorem Inv.add {A : Ac} {now : Int} {N : Nat} (h : Inv A now N) (k : ByteArray) (g : Nat) (last : Int) (hk : k.size ≤ 1048576) (hl : last ≤ now) {v : Value} {its : List Sg} (hp : its.Perm (A.its ++ [⟨k, last⟩])) (ho : Hp.Ok (Hp.fn (·.f1) z93 its) its.length) :
  Inv { A with ser := gins (·.k) ⟨k, g, last⟩ A.ser, cnt := Mp.put A.cnt (StOK.metS k) (.int .i64 ((nOf A.ser (StOK.metS k) : Nat) + 1)), v := v, its := its } now (N + 1) where
 ok := ho
 cov := fun x hx => by
  rcases gins_mem.1 hx with rfl | hx
  ·exact ⟨⟨k, last⟩, hp.mem_iff.2 (by simp), rfl, Int.le_refl _⟩
  ·obtain ⟨y, hy, h1⟩ := h.cov x hx
   exact ⟨y, hp.mem_iff.2 (by simp [hy]), h1⟩
 cnt := fun m => by
  show _ = Value.int .i64 (nOf (gins (·.k) ⟨k, g, last⟩ A.ser) m : Nat)
  rw [nOf_perm (gins_perm _ _), nOf_cons]
  by_cases e : StOK.metS k = m
  ·subst e
   show (Mp.get (Mp.put A.cnt (StOK.metS k) _) (StOK.metS k)).getD _ = _
   rw [Mp.get_put_same, if_pos rfl]
   simp
  ·show (Mp.get (Mp.put A.cnt (StOK.metS k) _) m).getD _ = _
   rw [Mp.get_put_other _ _ _ _ (Ne.symm e), if_neg e, h.cnt]
   simp
 le := fun y hy => by
  rcases List.mem_append.1 (hp.mem_iff.1 hy) with hy | hy
  ·exact h.le y hy
  ·obtain rfl := List.mem_singleton.1 hy
   exact ⟨hl, hk⟩
 key := fun x hx => by
  rcases gins_mem.1 hx with rfl | hx
  ·exact ⟨hk, hl⟩
  ·exact h.key x hx
 n1 := by
  show (gins (·.k) _ A.ser).length ≤ _
  rw [(gins_perm _ _).length_eq]
  have := h.n1
  simp; omega
 n2 := Nat.le_trans (Mp.put_len _ _ _) (Nat.succ_le_succ h.n2)
 n3 := by
  show its.length ≤ _
  rw [hp.length_eq]
  have := h.n3
  simp; omega
theorem before_ne {a b : ByteArray} (h : bytesBefore a.data.toList b.data.toList = true) : a ≠ b := fun e => by
 have : (Lit.string a.data.toList).before (Lit.string b.data.toList) = true := h
 rw [e, WideShapes.before_irrefl] at this
 cases this
section
variable {A : Ac} {now : Int} {N : Nat} {its' : List Sg}
theorem pop_perm (hp : 0 < A.its.length) (h : its'.Perm (Hp.cut z93 A.its)) : (A.its.getD 0 z93 :: its').Perm A.its := (h.cons _).trans (Hp.cut_perm z93 A.its hp)
theorem Inv.skip (h : Inv A now N) (hp : 0 < A.its.length) (hq : its'.Perm (Hp.cut z93 A.its)) (ho : Hp.Ok (Hp.fn (·.f1) z93 its') its'.length) (hn : ∀ x ∈ A.ser, x.k ≠ (A.its.getD 0 z93).f0) (v : Value) : Inv { A with v := v, its := its' } now N where
 ok := ho
 cov := fun x hx => by
  obtain ⟨y, hy, h1, h2⟩ := h.cov x hx
  rcases List.mem_cons.1 ((pop_perm hp hq).mem_iff.2 hy) with rfl | hy'
  ·exact absurd h1.symm (hn x hx)
  ·exact ⟨y, hy', h1, h2⟩
 cnt := h.cnt
 le := fun y hy => h.le y ((pop_perm hp hq).mem_iff.1 (List.mem_cons_of_mem _ hy))
 key := h.key
 n1 := h.n1
 n2 := h.n2
 n3 := by
  show its'.length ≤ N
  have := (pop_perm hp hq).length_eq
  have := h.n3
  simp at *; omega
end
end Go.Proofs.YtikbfjnbhogihaaGreatDoor.Bk
/- (*account).add, idle and expire: walked. -/
namespace Go.Proofs.YtikbfjnbhogihaaGreatDoor.Bk
open Go.RowKit Go.Proofs.YtikbfjnbhogihaaGreatDoor.M Go.Proofs.YtikbfjnbhogihaaGreatDoor.Loops Go.Proofs.YtikbfjnbhogihaaGreatDoorW.PrintWords Go.Proofs.YtikbfjnbhogihaaGreatDoorW.PrintLast Go.Proofs.YtikbfjnbhogihaaGreatDoorW.PrintMore
set_option linter.unusedVariables false
set_option linter.unusedSimpArgs false
theorem kept_turned {w w1 w2 : World} {S : Nat → Prop} {b : Nat} (h : Kept w w1 S) (ht : w1.mapTurned w2 b) (hb : S b ∨ w.heap.size ≤ b) : Kept w w2 S := h.of_grown ht.grown fun k hk => by injection hk with hk; exact hk ▸ hb
theorem below_turned {w0 w1 w2 : World} {b : Nat} (h : Below w0.heap.size w0 w1) (ht : w1.mapTurned w2 b) (hb : w0.heap.size ≤ b) : Below w0.heap.size w0 w2 := h.grown ht.grown h.size (fun j hj => by injection hj with hj; exact hj ▸ hb)
structure Ex (w0 w wr : World) (a : Nat) (A : Ac) (upto : Int) (B : Ac) : Prop where
 at_ : At wr w0.heap.size a B
 lim : B.lim = A.lim
 met : B.met = A.met
 ser : (B.ser.filter fun x => decide (upto < x.last)) = A.ser.filter fun x => decide (upto < x.last)
 bel : Below w0.heap.size w0 wr
 kep : Kept w wr (fp a A)
 own : ∀ i, fp a B i → fp a A i ∨ w.heap.size ≤ i
section
variable {w0 w wr w2 : World} {a : Nat} {A B : Ac} {upto now : Int} {N : Nat}
theorem Ex.hq (h : Ex w0 w wr a A upto B) (ho : Hp.Ok (Hp.fn (·.f1) z93 B.its) B.its.length) : Hq w0 wr a B.lim B.mb B.sb B.cb B.v B.its := ⟨h.at_.blk, h.at_.it, h.at_.lo a (.inl rfl), h.bel, ho⟩
theorem Ex.row (h : Ex w0 w wr a A upto B) {v : Value} {its : List Sg} (hq : Hq w0 w2 a B.lim B.mb B.sb B.cb v its) (hk : Kept wr w2 (fun i => i = a ∨ B.v.ownBlock = some i)) (ho : ∀ i, v.ownBlock = some i → B.v.ownBlock = some i ∨ wr.heap.size ≤ i) : Ex w0 w w2 a A upto { B with v := v, its := its } :=
 ⟨h.at_.row' hq.blk hq.row hk, h.lim, h.met, h.ser, hq.bel, h.kep.then_ hk fun i hi => h.own i (hi.elim (fun e => .inl e) (fun e => .inr (.inr (.inr (.inr (.inl e)))))), fun i hi => by
  rcases hi with hi | hi | hi | hi | hi | hi
  ·exact h.own i (.inl hi)
  ·exact h.own i (.inr (.inl hi))
  ·exact h.own i (.inr (.inr (.inl hi)))
  ·exact h.own i (.inr (.inr (.inr (.inl hi))))
  ·rcases ho i hi with h1 | h1
   ·exact h.own i (.inr (.inr (.inr (.inr (.inl h1)))))
   ·exact .inr (Nat.le_trans h.kep.1 h1)
  ·exact h.own i (.inr (.inr (.inr (.inr (.inr hi)))))⟩
theorem Ex.cnt (h : Ex w0 w wr a A upto B) {l : Mp.Al} (hl : Mp.Is Tryz.prog 9 w2 B.cb l) (ht : wr.mapTurned w2 B.cb) : Ex w0 w w2 a A upto { B with cnt := l } :=
 ⟨h.at_.cnt' hl ht, h.lim, h.met, h.ser, below_turned h.bel ht (h.at_.lo _ (.inr (.inr (.inr (.inl rfl))))), kept_turned h.kep ht (h.own _ (.inr (.inr (.inr (.inl rfl))))), h.own⟩
end
end Go.Proofs.YtikbfjnbhogihaaGreatDoor.Bk
/- A state that is right, and the book that tells it. Plain. -/
namespace Go.Proofs.YtikbfjnbhogihaaGreatDoor.Bk
open Go.RowKit Go.Proofs.YtikbfjnbhogihaaGreatDoor.M Go.Proofs.YtikbfjnbhogihaaGreatDoorW.PrintWords Go.Proofs.YtikbfjnbhogihaaGreatDoorW.PrintLast Go.Proofs.YtikbfjnbhogihaaGreatDoorW.PrintMore
set_option linter.unusedVariables false
abbrev bef (a b : ByteArray) : Prop := bytesBefore a.data.toList b.data.toList = true
structure GoodT (now : Int) (t : Tn) : Prop where
 m2 : t.f2.Pairwise fun x y => bef x.f0 y.f0
 m3 : t.f3.Pairwise fun x y => bef x.f0 y.f0
 n0 : t.f0.size ≤ 1048576
 n2 : t.f2.length ≤ 1048576
 n3 : t.f3.length ≤ 1048576
 z2 : ∀ m ∈ t.f2, m.f0.size ≤ 1048576
 z3 : ∀ x ∈ t.f3, x.f0.size ≤ 1048576 ∧ x.f1 ≤ now
structure Good (now : Int) (ts : List Tn) : Prop where
 up : ts.Pairwise fun x y => bef x.f0 y.f0
 len : ts.length ≤ 1048576
 all : ∀ t ∈ ts, GoodT now t
theorem bef_trans {a b c : ByteArray} (h : bef a b) (h2 : bef b c) : bef a c := WideShapes.before_trans (a := Lit.string a.data.toList) (b := Lit.string b.data.toList) (c := Lit.string c.data.toList) h h2
def fS (s : Sx) : Sr := ⟨s.k, s.last⟩
def Ac.tn (n : ByteArray) (A : Ac) : Tn := ⟨n, A.lim, A.met, A.ser.map fS⟩
theorem At.lower {w : World} {base base' a : Nat} {A : Ac} (h : At w base a A) (hb : base' ≤ base) : At w base' a A :=
 ⟨h.blk, h.mm, h.ms, h.mc, h.n1, h.n2, h.n3, h.sx, h.nd, Kd.R_lower h.it hb, fun i hi => Nat.le_trans hb (h.lo i hi)⟩
theorem Bk.enter {w0 w w' : World} {base tb : Nat} {l l' : List Tb} (h : Bk w0 base tb l) (hb : Below w0.heap.size w0 w) {n : ByteArray} {a : Nat} {A : Ac} (hA : At w w0.heap.size a A) (hbase : base ≤ w0.heap.size) (hp : l'.Perm (l ++ [⟨n, a, A⟩])) (hl : Mp.Is Tryz.prog 9 w' tb (tens l')) (ht : w.mapTurned w' tb) : Bk w' base tb l' := by
 have h1 := h.below hb
 have hlt := h.mp.lt
 have hnew : ∀ i, fp a A i → i ≠ tb := fun i hi e => by have := hA.lo i hi; omega
 have hlo : ∀ x ∈ l, ∀ i, fp x.a x.A i → i < w0.heap.size := fun x hx i hi => (h.at_ x hx).lt hi
 have hat : ∀ y, y ∈ l ++ [⟨n, a, A⟩] → At w base y.a y.A := fun y hy => by
  rcases List.mem_append.1 hy with hy | hy
  ·exact h1.at_ y hy
  ·obtain rfl := List.mem_singleton.1 hy
   exact hA.lower hbase
 have htn : ∀ y, y ∈ l ++ [⟨n, a, A⟩] → ¬ fp y.a y.A tb := fun y hy hi => by
  rcases List.mem_append.1 hy with hy | hy
  ·exact h.tn y hy hi
  ·obtain rfl := List.mem_singleton.1 hy
   exact hnew tb hi rfl
 refine ⟨hl, fun x hx => ?_, ?_, fun x hx => htn x (hp.mem_iff.1 hx)⟩
 ·have hx' := hp.mem_iff.1 hx
  exact (hat x hx').move fun i hi => turned_blk ht (fun e => htn x hx' (e ▸ hi)) ((hat x hx').lt hi)
 ·refine (hp.pairwise_iff fun {x y} hxy i hi hi2 => hxy i hi2 hi).2 ?_
  refine List.pairwise_append.2 ⟨h.dj, List.pairwise_singleton _ _, fun x hx y hy i hi hi2 => ?_⟩
  obtain rfl := List.mem_singleton.1 hy
  have := hlo x hx i hi
  have := hA.lo i hi2
  omega
end Go.Proofs.YtikbfjnbhogihaaGreatDoor.Bk
