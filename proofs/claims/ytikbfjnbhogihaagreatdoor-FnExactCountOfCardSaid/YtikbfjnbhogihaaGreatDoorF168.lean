import Derived.Test.YtikbfjnbhogihaaGreatDoorM0
import Derived.Test.YtikbfjnbhogihaaGreatDoorXJoin
import Derived.Laws.RangeAny
import Derived.Lib.MapLaws
import Derived.WalkKit
import Derived.Lib.SmallJoins
namespace Go.Proofs.YtikbfjnbhogihaaGreatDoor.M
open Go.RowKit Go.Proofs.YtikbfjnbhogihaaGreatDoorW.PrintWords Go.Proofs.YtikbfjnbhogihaaGreatDoorW.PrintLast Go.Proofs.YtikbfjnbhogihaaGreatDoorW.PrintMore
attribute [local go_sem] max2_int min2_int max_two min_two max_three min_three max_four min_four
set_option linter.unusedVariables false
set_option linter.unusedSimpArgs false
/-! ### spec_l2Get: function 168 -/
def spec_l2Get.l0 : Nat → ByteArray → Int → Int → Int → Int → Option (Int)
 | 0, _, _, _, _, _ => none
 | k + 1, x0, x1, x2, x7, x8 => if x8 < x2 then (if 0 ≤ (wrap64 (x1 + x8)) then (if (wrap64 (x1 + x8)) < (x0.size : Int) then (spec_l2Get.l0 k x0 x1 x2 (wrap64 ((wrap64 (x7 * 256)) + (wrap64 (bt x0 (wrap64 (x1 + x8)))))) (wrap64 (x8 + 1))) else (none)) else (none)) else (some x7)
def spec_l2Get.f (k : Nat) (a0 : ByteArray) (a1 : Int) (a2 : Int) : Option (Int) := spec_l2Get.l0 k a0 a1 a2 0 0
theorem spec_l2Get.mono_l : ∀ k, (∀ y0 y1 y2 y3 y4, LeO (spec_l2Get.l0 k y0 y1 y2 y3 y4) (spec_l2Get.l0 (k + 1) y0 y1 y2 y3 y4))
 | 0 => fun _ _ _ _ _ r h => by simp [spec_l2Get.l0] at h
 | k + 1 => by
  have ih0 := spec_l2Get.mono_l k
  ·intro y0 y1 y2 y3 y4
   unfold spec_l2Get.l0
   repeat' first
   | (with_reducible exact ih0 _ _ _ _ _)
   | (with_reducible exact LeO.refl _)
   | (with_reducible refine LeO.ite ?_ ?_)
theorem spec_l2Get.mono : ∀ a0 a1 a2 k, LeO (spec_l2Get.f k a0 a1 a2) (spec_l2Get.f (k + 1) a0 a1 a2) := by
 intro a0 a1 a2 k
 have ih0 := spec_l2Get.mono_l k
 unfold spec_l2Get.f
 repeat' (with_reducible exact ih0 _ _ _ _ _)
set_option maxHeartbeats 8000000 in
set_option maxRecDepth 100000 in
theorem spec_l2Get.calls (k : Nat) (a0 : ByteArray) (a1 : Int) (a2 : Int) (r : Int) (w : World) (h : spec_l2Get.f k a0 a1 a2 = some r) :
  Calls Tryz.prog 168 #[.string a0, .int .i64 a1, .int .i64 a2] w fun e w' => e = .returned (.int .i64 r) ∧ Drawn0 w w' := by
 have H : (spec_l2Get.l0 k a0 a1 a2 0 0) = some r := h
 clear h
 have H' := Aside0.mk H
 clear H
 go_enter Tryz.func168, Tryz.ntmps168
 go_wp2
 go_loopg [7, 8] k (fun kq v7 v8 w' => ∃ (x7_1 : Int) (x8_1 : Int), v7 = .int .i64 x7_1 ∧ v8 = .int .i64 x8_1 ∧ Aside0 (spec_l2Get.l0 kq a0 a1 a2 x7_1 x8_1 = some r) ∧ Aside0 (kq ≤ k) ∧ Drawn0 w w')
 case atStart => exact ⟨(0), (0), (by rfl), (by rfl), H', ⟨Nat.le_refl _⟩, by repeat (exact Drawn0.refl _)⟩
 case round =>
  clear H'
  obtain ⟨x7_1, x8_1, rfl, rfl, HA, HK1, ⟨m1, rfl⟩⟩ := hrel
  cases gk with
  | zero => exact absurd HA.out (by simp [spec_l2Get.l0])
  | succ k1 =>
   have H := HA.out
   clear HA
   simp only [spec_l2Get.l0] at H
   by_cases c4 : x8_1 < a2
   ·rw [if_pos c4] at H
    have c4b0 : decide (x8_1 < a2) = true := decide_eq_true c4
    clear c4
    obtain ⟨ji5, hji5⟩ : ∃ j_ : Int, (wrap64 (a1 + x8_1)) = j_ := ⟨_, rfl⟩
    replace H : (if 0 ≤ (ji5) then (if (ji5) < (a0.size : Int) then (spec_l2Get.l0 k1 a0 a1 a2 (wrap64 ((wrap64 (x7_1 * 256)) + (wrap64 (bt a0 (ji5))))) (wrap64 (x8_1 + 1))) else (none)) else (none)) = some r := by (rw [hji5] at H; exact H)
    have hji5w : (IntKind.i64.wrap (a1 + x8_1)) = ji5 := (i64_w _).trans hji5
    by_cases c6 : 0 ≤ (ji5)
    ·rw [if_pos c6] at H
     have c6b0 : decide (0 ≤ (ji5)) = true := decide_eq_true c6
     clear c6
     by_cases c7 : (ji5) < (a0.size : Int)
     ·rw [if_pos c7] at H
      have c7b0 : decide ((ji5) < (a0.size : Int)) = true := decide_eq_true c7
      clear c7
      have H' := Aside0.mk H
      clear H
      have p8 : 0 ≤ ((ji5) : Int) := of_decide_eq_true (by (with_reducible assumption))
      have q8 : (ji5) < (a0.size : Int) := of_decide_eq_true (by (with_reducible assumption))
      have hx8 := bt_at a0 (ji5)
      replace p8 := eq_true p8
      replace q8 := eq_true q8
      go_wp2
      go_roundg k1
      case measure => have := HK1.out; omega
      case rel => exact ⟨(wrap64 ((wrap64 (x7_1 * 256)) + (wrap64 (bt a0 (ji5))))), (wrap64 (x8_1 + 1)), (by rfl), (by rfl), H', ⟨by have := HK1.out; omega⟩, by repeat (first | exact Drawn0.refl _ | apply Drawn0.step)⟩
     ·rw [if_neg c7] at H
      exact absurd H (by simp)
    ·rw [if_neg c6] at H
     exact absurd H (by simp)
   ·rw [if_neg c4] at H
    have c4b0 : decide (x8_1 < a2) = false := decide_eq_false c4
    clear c4
    obtain rfl := Option.some.inj H
    go_wp2
    go_ret
    exact ⟨by rfl, by repeat (first | exact Drawn0.refl _ | apply Drawn0.step)⟩
/-! ### impl_s8: function 161 -/
def impl_s8.f (a0 : ByteArray) : Option (ByteArray) := (impl_num.f 1 (a0.size : Int)).bind fun t262 => (if t262.size + a0.size ≤ 9223372036854775807 then (some (t262 ++ a0)) else (none))
set_option maxHeartbeats 8000000 in
set_option maxRecDepth 100000 in
theorem impl_s8.calls (a0 : ByteArray) (r : ByteArray) (w : World) (h : impl_s8.f a0 = some r) :
  Calls Tryz.prog 161 #[.string a0] w fun e w' => e = .returned (.string r) ∧ Below w.heap.size w w' := by
 have HB := Aside0.mk (Below.refl w.heap.size w)
 have H : ((impl_num.f 1 (a0.size : Int)).bind fun t262 => (if t262.size + a0.size ≤ 9223372036854775807 then (some (t262 ++ a0)) else (none))) = some r := h
 clear h
 replace H := Option.bind_eq_some_iff.mp H
 obtain ⟨t262, A20, H⟩ := H
 replace H : (if t262.size + a0.size ≤ 9223372036854775807 then (some (t262 ++ a0)) else (none)) = some r := H
 have A2 := Aside0.mk A20
 clear A20
 by_cases c3 : t262.size + a0.size ≤ 9223372036854775807
 ·rw [if_pos c3] at H
  try have c3b2 : (9223372036854775807 < t262.size + a0.size) = False := eq_false (Nat.not_lt.2 c3)
  obtain rfl := Option.some.inj H
  go_enter Tryz.func161, Tryz.ntmps161
  go_wp2_with (((with_reducible refine gate_callee (f := 160) rfl ?_); refine goesL_ (some 5) rfl rfl Tryz.func160 (by kernel_rfl) rfl #[.int .i64 1, .int .i64 (a0.size : Int)] rfl (by (try simp only [List.map_toArray, List.map_cons, List.map_nil]); first | done | rfl) ?_; (with_reducible refine (impl_num.calls 1 (a0.size : Int) t262 _ A2.out).mono ?_); rintro e w4 ⟨rfl, hb⟩; refine ⟨_, rfl, ?_⟩; have n0_ := Aside0.mk (below_step (by repeat ((with_reducible exact HB.out))) hb); clear HB; have HB := n0_; clear n0_; (try clear hb)))
  go_ret
  exact ⟨by rfl, by repeat ((with_reducible exact HB.out))⟩
 ·rw [if_neg c3] at H
  exact absurd H (by simp)
end Go.Proofs.YtikbfjnbhogihaaGreatDoor.M
/- A text's runes, one by one, as the model decodes them; what a value's fault is. Plain. -/
namespace Go.Proofs.YtikbfjnbhogihaaGreatDoor.Utf
open Go
def bad (s : ByteArray) (pos : Nat) : Prop := (Utf8.decode s pos).1 = 65533 ∧ (Utf8.decode s pos).2 = 1
instance (s : ByteArray) (pos : Nat) : Decidable (bad s pos) := by unfold bad; infer_instance
def scan (s : ByteArray) : Nat → Nat → Option (List Nat)
 | 0, _ => some []
 | b + 1, pos => if pos < s.size then (if bad s pos then none else (scan s b (pos + (Utf8.decode s pos).2)).map ((Utf8.decode s pos).1 :: ·)) else some []
def ctl (r : Nat) : Bool := decide (r < 32) || (decide (127 ≤ r) && decide (r ≤ 159))
def fin (n : Nat) (c : Bool) : Option (List Nat) → Int
 | none => 42
 | some rs => if 128 < n + rs.length then 43 else if (c || rs.any ctl) = true then 44 else 0
def vf (s : ByteArray) : Int := fin 0 false (scan s s.size 0)
theorem width_pos (s : ByteArray) (pos : Nat) (h : pos < s.size) : 1 ≤ (Utf8.decode s pos).2 := by
 by_cases ha : (s[pos]'h).toNat < 128
 ·rw [decode_ascii s pos h ha]
  exact Nat.le_refl _
 ·exact (decode_high s pos h (by omega)).2
theorem scan_end (s : ByteArray) (b pos : Nat) (h : s.size ≤ pos) : scan s b pos = some [] := by
 cases b with
 | zero => rfl
 | succ b => unfold scan; rw [if_neg (by omega)]
theorem scan_bad (s : ByteArray) (b pos : Nat) (h : pos < s.size) (hb : bad s pos) : scan s (b + 1) pos = none := by
 unfold scan; rw [if_pos h, if_pos hb]
theorem scan_step (s : ByteArray) (b pos : Nat) (h : pos < s.size) (hb : ¬ bad s pos) : scan s (b + 1) pos = (scan s b (pos + (Utf8.decode s pos).2)).map ((Utf8.decode s pos).1 :: ·) := by
 conv => lhs; unfold scan
 rw [if_pos h, if_neg hb]
theorem fin_none (n : Nat) (c : Bool) : fin n c none = 42 := rfl
theorem fin_map (n : Nat) (c : Bool) (r : Nat) (o : Option (List Nat)) : fin n c (o.map (r :: ·)) = fin (n + 1) (c || ctl r) o := by
 cases o with
 | none => rfl
 | some rs =>
  simp only [Option.map_some, fin, List.length_cons, List.any_cons, Bool.or_assoc]
  have e : (128 < n + (rs.length + 1)) = (128 < n + 1 + rs.length) := by rw [show n + (rs.length + 1) = n + 1 + rs.length by omega]
  by_cases h : 128 < n + 1 + rs.length
  ·rw [if_pos h, if_pos (e ▸ h)]
  ·rw [if_neg h, if_neg (e ▸ h)]; rfl
end Go.Proofs.YtikbfjnbhogihaaGreatDoor.Utf
namespace Go.Proofs.YtikbfjnbhogihaaGreatDoor.M
open Go.RowKit Go.Proofs.YtikbfjnbhogihaaGreatDoorW.PrintWords Go.Proofs.YtikbfjnbhogihaaGreatDoorW.PrintLast Go.Proofs.YtikbfjnbhogihaaGreatDoorW.PrintMore
attribute [local go_sem] max2_int min2_int max_two min_two max_three min_three max_four min_four
set_option linter.unusedVariables false
set_option linter.unusedSimpArgs false
/-! ### spec_l3Part: function 148 -/
def spec_l3Part.j0 : Nat → ByteArray → Int → Int → Bool → Option (ByteArray × Int)
 | 0, _, _, _, _ => none
 | k + 1, x0, x1, x2, x18 => if x18 = true then (some ((⟨#[]⟩ : ByteArray), (-1))) else ((spec_l2Get.f k x0 x1 x2).bind fun t150 => (if (wrap64 ((wrap64 (x1 + x2)) + t150)) > (x0.size : Int) then (some ((⟨#[]⟩ : ByteArray), (-1))) else (if 0 ≤ (wrap64 (x1 + x2)) then (if (wrap64 (x1 + x2)) ≤ (wrap64 ((wrap64 (x1 + x2)) + t150)) then (if (wrap64 ((wrap64 (x1 + x2)) + t150)) ≤ (x0.size : Int) then (some (x0.extract ((wrap64 (x1 + x2)) : Int).toNat ((wrap64 ((wrap64 (x1 + x2)) + t150)) : Int).toNat, wrap64 ((wrap64 (x1 + x2)) + t150))) else (none)) else (none)) else (none))))
def spec_l3Part.f (k : Nat) (a0 : ByteArray) (a1 : Int) (a2 : Int) : Option (ByteArray × Int) := if a1 < 0 then (spec_l3Part.j0 k a0 a1 a2 true) else (spec_l3Part.j0 k a0 a1 a2 (decide ((wrap64 (a1 + a2)) > (a0.size : Int))))
theorem spec_l3Part.mono_l : ∀ k, (∀ y0 y1 y2 y3, LeO (spec_l3Part.j0 k y0 y1 y2 y3) (spec_l3Part.j0 (k + 1) y0 y1 y2 y3))
 | 0 => fun _ _ _ _ r h => by simp [spec_l3Part.j0] at h
 | k + 1 => by
  have ih0 := spec_l3Part.mono_l k
  ·intro y0 y1 y2 y3
   unfold spec_l3Part.j0
   repeat' first
   | (with_reducible exact ih0 _ _ _ _)
   | (with_reducible exact spec_l2Get.mono _ _ _ _)
   | (with_reducible exact LeO.refl _)
   | (with_reducible exact LeO.none _)
   | (with_reducible refine LeO.ite ?_ ?_)
   | (with_reducible refine LeO.bind ?_ (fun _ => ?_))
   | exact ih0 _ _ _ _
   | exact spec_l2Get.mono _ _ _ _
   | exact LeO.none _
   | refine LeO.ite ?_ ?_
   | refine LeO.bind ?_ (fun _ => ?_)
theorem spec_l3Part.mono : ∀ a0 a1 a2 k, LeO (spec_l3Part.f k a0 a1 a2) (spec_l3Part.f (k + 1) a0 a1 a2) := by
 intro a0 a1 a2 k
 have ih0 := spec_l3Part.mono_l k
 unfold spec_l3Part.f
 repeat' first
   | (with_reducible exact ih0 _ _ _ _)
   | (with_reducible exact spec_l2Get.mono _ _ _ _)
   | (with_reducible exact LeO.refl _)
   | (with_reducible exact LeO.none _)
   | (with_reducible refine LeO.ite ?_ ?_)
   | (with_reducible refine LeO.bind ?_ (fun _ => ?_))
   | exact ih0 _ _ _ _
   | exact spec_l2Get.mono _ _ _ _
   | exact LeO.none _
   | refine LeO.ite ?_ ?_
   | refine LeO.bind ?_ (fun _ => ?_)
set_option maxHeartbeats 8000000 in
set_option maxRecDepth 100000 in
theorem spec_l3Part.calls (k : Nat) (a0 : ByteArray) (a1 : Int) (a2 : Int) (r1 : ByteArray) (r2 : Int) (w : World) (h : spec_l3Part.f k a0 a1 a2 = some (r1, r2)) :
  Calls Tryz.prog 148 #[.string a0, .int .i64 a1, .int .i64 a2] w fun e w' => e = .returned (.tuple #[.string r1, .int .i64 r2]) ∧ Drawn0 w w' := by
 have H : (if a1 < 0 then (spec_l3Part.j0 k a0 a1 a2 true) else (spec_l3Part.j0 k a0 a1 a2 (decide ((wrap64 (a1 + a2)) > (a0.size : Int))))) = some (r1, r2) := h
 clear h
 have HC4 := Aside0.mk H
 clear H
 go_enter Tryz.func148, Tryz.ntmps148
 go_upto_region 1 with (fail)
 go_cut [18] (fun v18 wc => ∃ (kq : Nat) (x18_3 : Bool), v18 = .bool x18_3 ∧ Aside0 (spec_l3Part.j0 kq a0 a1 a2 x18_3 = some (r1, r2)) ∧ Aside0 (kq ≤ k) ∧ Drawn0 w wc)
 case first =>
  have H := HC4.out
  clear HC4
  by_cases c5 : a1 < 0
  ·rw [if_pos c5] at H
   have c5b0 : decide (a1 < 0) = true := decide_eq_true c5
   clear c5
   (first | rw [c5b0] | (simp only [i64_w, i32_w]; rw [c5b0]) | skip)
   have H' := Aside0.mk H
   clear H
   go_wp2
   go_meet
   case rel => exact ⟨_, (true), (by first | rfl | (simp; done) | (simp [*]; done)), H', ⟨by first | omega | exact Nat.le_refl _⟩, by repeat (first | exact Drawn0.refl _ | apply Drawn0.step)⟩
  ·rw [if_neg c5] at H
   have c5b0 : decide (a1 < 0) = false := decide_eq_false c5
   clear c5
   (first | rw [c5b0] | (simp only [i64_w, i32_w]; rw [c5b0]) | skip)
   have H' := Aside0.mk H
   clear H
   go_wp2
   go_meet
   case rel => exact ⟨_, (decide ((wrap64 (a1 + a2)) > (a0.size : Int))), (by first | rfl | (simp; done) | (simp [*]; done)), H', ⟨by first | omega | exact Nat.le_refl _⟩, by repeat (first | exact Drawn0.refl _ | apply Drawn0.step)⟩
 case rest =>
  clear HC4
  try clear c1
  try clear p2
  try clear c5
  try clear c5b0
  obtain ⟨kq, x18_3, rfl, HA, HJ3, ⟨mc3, rfl⟩⟩ := hcut
  cases kq with
  | zero => exact absurd HA.out (by simp [spec_l3Part.j0])
  | succ kj3 =>
   have H := HA.out
   clear HA
   simp only [spec_l3Part.j0] at H
   by_cases c6 : x18_3 = true
   ·subst c6
    have H1 : (some ((⟨#[]⟩ : ByteArray), (-1))) = some (r1, r2) := by rw [if_pos rfl] at H; exact H
    clear H
    have H := H1
    clear H1
    simp only [Option.some.injEq, Prod.mk.injEq] at H
    obtain ⟨rfl, rfl⟩ := H
    go_wp2
    go_ret2
    exact ⟨by first | rfl | (simp; done) | (simp [*]; done), by repeat (first | exact Drawn0.refl _ | apply Drawn0.step)⟩
   ·replace c6 := Bool.eq_false_iff.mpr c6
    subst c6
    have H1 : ((spec_l2Get.f kj3 a0 a1 a2).bind fun t150 => (if (wrap64 ((wrap64 (a1 + a2)) + t150)) > (a0.size : Int) then (some ((⟨#[]⟩ : ByteArray), (-1))) else (if 0 ≤ (wrap64 (a1 + a2)) then (if (wrap64 (a1 + a2)) ≤ (wrap64 ((wrap64 (a1 + a2)) + t150)) then (if (wrap64 ((wrap64 (a1 + a2)) + t150)) ≤ (a0.size : Int) then (some (a0.extract ((wrap64 (a1 + a2)) : Int).toNat ((wrap64 ((wrap64 (a1 + a2)) + t150)) : Int).toNat, wrap64 ((wrap64 (a1 + a2)) + t150))) else (none)) else (none)) else (none)))) = some (r1, r2) := by rw [if_neg (show ¬ (false = true) by decide)] at H; exact H
    clear H
    have H := H1
    clear H1
    replace H := Option.bind_eq_some_iff.mp H
    obtain ⟨t150, A70, H⟩ := H
    replace H : (if (wrap64 ((wrap64 (a1 + a2)) + t150)) > (a0.size : Int) then (some ((⟨#[]⟩ : ByteArray), (-1))) else (if 0 ≤ (wrap64 (a1 + a2)) then (if (wrap64 (a1 + a2)) ≤ (wrap64 ((wrap64 (a1 + a2)) + t150)) then (if (wrap64 ((wrap64 (a1 + a2)) + t150)) ≤ (a0.size : Int) then (some (a0.extract ((wrap64 (a1 + a2)) : Int).toNat ((wrap64 ((wrap64 (a1 + a2)) + t150)) : Int).toNat, wrap64 ((wrap64 (a1 + a2)) + t150))) else (none)) else (none)) else (none))) = some (r1, r2) := H
    have A7 := Aside0.mk A70
    clear A70
    by_cases c8 : (wrap64 ((wrap64 (a1 + a2)) + t150)) > (a0.size : Int)
    ·rw [if_pos c8] at H
     have c8b0 : decide ((a0.size : Int) < (wrap64 ((wrap64 (a1 + a2)) + t150))) = true := decide_eq_true c8
     clear c8
     simp only [Option.some.injEq, Prod.mk.injEq] at H
     obtain ⟨rfl, rfl⟩ := H
     go_wp2_with (first | ((with_reducible refine gate_callee (f := 168) rfl ?_); refine goesL_ (some 22) rfl rfl Tryz.func168 (by kernel_rfl) rfl #[.string a0, .int .i64 a1, .int .i64 a2] rfl (by (try simp only [List.map_toArray, List.map_cons, List.map_nil]); first | done | rfl | (simp only [List.length_drop, List.length_take]; rfl)) ?_; (with_reducible refine (spec_l2Get.calls kj3 a0 a1 a2 t150 _ A7.out).mono ?_); rintro e w' ⟨rfl, ⟨nd, rfl⟩⟩; refine ⟨_, rfl, ?_⟩))
     go_ret2
     exact ⟨by first | rfl | (simp; done) | (simp [*]; done), by repeat (first | exact Drawn0.refl _ | apply Drawn0.step)⟩
    ·rw [if_neg c8] at H
     have c8b0 : decide ((a0.size : Int) < (wrap64 ((wrap64 (a1 + a2)) + t150))) = false := decide_eq_false c8
     clear c8
     obtain ⟨ji9, hji9⟩ : ∃ j_ : Int, (wrap64 (a1 + a2)) = j_ := ⟨_, rfl⟩
     replace H : (if 0 ≤ (ji9) then (if (ji9) ≤ (wrap64 ((ji9) + t150)) then (if (wrap64 ((ji9) + t150)) ≤ (a0.size : Int) then (some (a0.extract ((ji9) : Int).toNat ((wrap64 ((ji9) + t150)) : Int).toNat, wrap64 ((ji9) + t150))) else (none)) else (none)) else (none)) = some (r1, r2) := by first | (rw [hji9] at H; exact H) | (simp only [hji9] at H ⊢; exact H)
     (try rw [hji9] at c8b0)
     (try rw [hji9] at A7)
     have hji9w : (IntKind.i64.wrap (a1 + a2)) = ji9 := (i64_w _).trans hji9
     by_cases c10 : 0 ≤ (ji9)
     ·rw [if_pos c10] at H
      have c10b0 := eq_true c10
      have c10b1 : decide (0 ≤ (ji9)) = true := decide_eq_true c10
      clear c10
      by_cases c11 : (ji9) ≤ (wrap64 ((ji9) + t150))
      ·rw [if_pos c11] at H
       have c11b0 := eq_true c11
       have c11b1 : decide ((ji9) ≤ (wrap64 ((ji9) + t150))) = true := decide_eq_true c11
       by_cases c12 : (wrap64 ((ji9) + t150)) ≤ (a0.size : Int)
       ·rw [if_pos c12] at H
        have c12b0 := eq_true c12
        have c12b1 : decide ((wrap64 ((ji9) + t150)) ≤ (a0.size : Int)) = true := decide_eq_true c12
        simp only [Option.some.injEq, Prod.mk.injEq] at H
        obtain ⟨rfl, rfl⟩ := H
        go_wp2_with (first | ((with_reducible refine gate_callee (f := 168) rfl ?_); refine goesL_ (some 22) rfl rfl Tryz.func168 (by kernel_rfl) rfl #[.string a0, .int .i64 a1, .int .i64 a2] rfl (by (try simp only [List.map_toArray, List.map_cons, List.map_nil]); first | done | rfl | (simp only [List.length_drop, List.length_take]; rfl)) ?_; (with_reducible refine (spec_l2Get.calls kj3 a0 a1 a2 t150 _ A7.out).mono ?_); rintro e w' ⟨rfl, ⟨nd, rfl⟩⟩; refine ⟨_, rfl, ?_⟩))
        go_ret2
        exact ⟨by first | rfl | (simp; done) | (simp only [← hji9] <;> (first | rfl | simp)) | (simp [*]; done), by repeat (first | exact Drawn0.refl _ | apply Drawn0.step)⟩
       ·rw [if_neg c12] at H
        exact absurd H (by simp)
      ·rw [if_neg c11] at H
       exact absurd H (by simp)
     ·rw [if_neg c10] at H
      exact absurd H (by simp)
end Go.Proofs.YtikbfjnbhogihaaGreatDoor.M
/- impl.valueFault: a range over a text's runes. -/
namespace Go.Proofs.YtikbfjnbhogihaaGreatDoor.M
open Go.RowKit Go.Proofs.YtikbfjnbhogihaaGreatDoorW.PrintWords Go.Proofs.YtikbfjnbhogihaaGreatDoorW.PrintLast Go.Proofs.YtikbfjnbhogihaaGreatDoorW.PrintMore
set_option linter.unusedVariables false
set_option linter.unusedSimpArgs false
def Tabs (w : World) : Prop := Lib.Utf8Tabs (Tryz.lays197_ren.g 3) (Tryz.lays197_ren.g 4) w
theorem Tabs.below {w w' : World} (h : Tabs w) (hb : Below w.heap.size w w') : Tabs w' := by
 have up : ∀ {a : Addr} {v : Value}, w.cell? a = some v → w'.cell? a = some v := fun hc => (hb.cell (World.block_lt_of_cell? w _ hc)).trans hc
 exact ⟨fun c hc => up (h.1 c hc), fun i hi => ⟨up (h.2 i hi).1, up (h.2 i hi).2⟩⟩
namespace Vf
open Utf
theorem get_cut (s : ByteArray) (pos k : Nat) (h : pos ≤ s.size) : (s.extract pos s.size).get! k = s.get! (pos + k) := by
 have hz : (s.extract pos s.size).size = s.size - pos := by rw [ByteArray.size_extract]; omega
 by_cases hk : pos + k < s.size
 ·rw [Utf8W.get!_of_lt _ k (by omega), Utf8W.get!_of_lt s (pos + k) hk, ByteArray.getElem_extract]
 ·have e1 : (s.extract pos s.size).get! k = default := by
   cases hs : s.extract pos s.size with
   | mk d =>
    have : ¬ k < d.size := by rw [hs] at hz; have : d.size = s.size - pos := hz; omega
    exact getElem!_neg d k this
  have e2 : s.get! (pos + k) = default := by
   cases s with
   | mk d => exact getElem!_neg d (pos + k) hk
  rw [e1, e2]
theorem decode_cut (s : ByteArray) (pos : Nat) (h : pos < s.size) : Lib.decodeGo (s.extract pos s.size) = Utf8.decode s pos := by
 have hz : (s.extract pos s.size).size = s.size - pos := by rw [ByteArray.size_extract]; omega
 unfold Lib.decodeGo
 rw [if_neg (by omega), Lib.decode_at, Lib.decode_at, hz, get_cut s pos _ (by omega), get_cut s pos _ (by omega), get_cut s pos _ (by omega), get_cut s pos _ (by omega), Nat.sub_zero, Nat.add_zero]
section
variable {P : Program}
theorem next_at (W : World) (g : Nat) (s : ByteArray) (pos : Nat) (hb : W.heap[g]? = some (.stringIter s pos)) (h : pos < s.size) (ty : TypeId) :
  (Instr.next (.pointer (some ⟨g, 0, none⟩)) true ty).run P W = .ok (.tuple #[.bool true, .int .i64 pos, .int .i32 (Utf8.decode s pos).1]) { W with heap := W.heap.setIfInBounds g (.stringIter s (pos + (Utf8.decode s pos).2)) } := by
 simp only [Instr.next, getObj, setObj, Sem.run_bind, Sem.run, hb, Result.andThen, h, if_true]
 simp [goInt]
theorem next_end (W : World) (g : Nat) (s : ByteArray) (pos : Nat) (hb : W.heap[g]? = some (.stringIter s pos)) (h : ¬ pos < s.size) (ty : TypeId) :
  (Instr.next (.pointer (some ⟨g, 0, none⟩)) true ty).run P W = .ok (.tuple #[.bool false]) W := by
 simp [Instr.next, getObj, Sem.run, hb, h]
end
theorem ctl_int (r : Nat) : ctl r = (decide ((r : Int) < 32) || (decide ((127 : Int) ≤ (r : Int)) && decide ((r : Int) ≤ 159))) := by
 unfold ctl
 rw [Bool.eq_iff_iff]
 simp only [Bool.or_eq_true, Bool.and_eq_true, decide_eq_true_eq]
 omega
theorem moved {w W : World} {g : Nat} {o o' : Obj} (hb : W.heap[g]? = some o) (hB : Below w.heap.size w W) (hg : w.heap.size ≤ g) :
  ({ W with heap := W.heap.setIfInBounds g o' } : World).heap[g]? = some o' ∧ Below w.heap.size w { W with heap := W.heap.setIfInBounds g o' } := by
 have hlt := blk_lt hb
 refine ⟨by simp [Array.getElem?_setIfInBounds, hlt], ⟨hB.os, hB.tape, hB.output, by simpa using hB.size, fun k hk => ?_⟩⟩
 show (W.heap.setIfInBounds g o')[k]? = _
 rw [Array.getElem?_setIfInBounds, if_neg (by omega)]
 exact hB.block k hk
set_option maxHeartbeats 8000000 in
set_option maxRecDepth 100000 in
theorem walk (s : ByteArray) (w : World) (hz : s.size ≤ 4611686018427387904) (hT : Tabs w) :
  Calls Tryz.prog 112 #[.string s] w fun e w' => e = .returned (.int .i64 (vf s)) ∧ Below w.heap.size w w' := by
 have HT := Aside0.mk hT
 clear hT
 go_enter Tryz.func112, Tryz.ntmps112
 go_wp2
 have hx0 : Aside0 ((w.iter s 0).heap[w.heap.size]? = some (.stringIter s 0)) := ⟨World.iter_heap w s 0⟩
 have hB0 : Aside0 (Below w.heap.size w (w.iter s 0)) := ⟨below_alloc (Below.refl _ w) _⟩
 go_loopw [3, 4] (fun n c wr => ∃ (pos b k : Nat) (cc : Bool), n = .int .i64 k ∧ c = .bool cc ∧ Aside0 (wr.heap[w.heap.size]? = some (.stringIter s pos)) ∧ Aside0 (Below w.heap.size w wr) ∧ Aside0 (fin k cc (scan s b pos) = vf s) ∧ Aside0 (s.size ≤ pos + b) ∧ Aside0 (k ≤ pos))
  (fun _ _ wr => s.size - wr.iterPos w.heap.size)
 case atStart => exact ⟨0, s.size, 0, false, rfl, rfl, hx0, hB0, ⟨rfl⟩, ⟨by omega⟩, ⟨Nat.le_refl _⟩⟩
 case round =>
  obtain ⟨pos, b, k, cc, rfl, rfl, HX, HB, HV, HS, HK⟩ := hrel
  by_cases hp : pos < s.size
  ·have hw := width_pos s pos hp
   obtain ⟨r, hr⟩ : ∃ r, r = (Utf8.decode s pos).1 := ⟨_, rfl⟩
   obtain ⟨d, hd⟩ : ∃ d, d = (Utf8.decode s pos).2 := ⟨_, rfl⟩
   obtain ⟨hx1, hb1⟩ := moved (o' := .stringIter s (pos + d)) HX.out HB.out (Nat.le_refl _)
   obtain ⟨W1, hW1⟩ : ∃ W1, ({ wr with heap := wr.heap.setIfInBounds w.heap.size (.stringIter s (pos + d)) } : World) = W1 := ⟨_, rfl⟩
   rw [hW1] at hx1 hb1
   have hnx : ∀ ty, (Instr.next (.pointer (some ⟨w.heap.size, 0, none⟩)) true ty).run Tryz.prog wr = .ok (.tuple #[.bool true, .int .i64 pos, .int .i32 r]) W1 := fun ty => by
    have := next_at (P := Tryz.prog) wr w.heap.size s pos HX.out hp ty
    rw [← hr, ← hd, hW1] at this
    exact this
   rw [← hd] at hw
   have hip : wr.iterPos w.heap.size = pos := by unfold World.iterPos; rw [HX.out]
   have HX1 := Aside0.mk hx1
   have HB1 := Aside0.mk hb1
   have HR := Aside0.mk hr
   have HD := Aside0.mk hd
   have HIP := Aside0.mk hip
   have HW := Aside0.mk hw
   clear hx1 hb1 hr hd hip hw hW1
   obtain ⟨b, rfl⟩ : ∃ b', b = b' + 1 := ⟨b - 1, by have := HS.out; omega⟩
   have hkw : wrap64 ((k : Int) + 1) = ((k + 1 : Nat) : Int) := by have := HK.out; unfold wrap64; omega
   have HKW := Aside0.mk hkw
   clear hkw
   have h0 : (0 : Int) ≤ (pos : Int) := Int.natCast_nonneg pos
   have h1 : (pos : Int) ≤ (s.size : Int) := by omega
   have done : ∀ (W2 : World) (cc' : Bool), W2.heap[w.heap.size]? = some (.stringIter s (pos + d)) → Below w.heap.size w W2 → cc' = (cc || ctl r) → ¬ bad s pos →
     (∃ (pos' b' k' : Nat) (c2 : Bool), Value.int .i64 (wrap64 ((k : Int) + 1)) = .int .i64 k' ∧ Value.bool cc' = .bool c2 ∧ Aside0 (W2.heap[w.heap.size]? = some (.stringIter s pos')) ∧ Aside0 (Below w.heap.size w W2) ∧ Aside0 (fin k' c2 (scan s b' pos') = vf s) ∧ Aside0 (s.size ≤ pos' + b') ∧ Aside0 (k' ≤ pos')) ∧ s.size - W2.iterPos w.heap.size < s.size - wr.iterPos w.heap.size := by
    intro W2 cc' hx hb hc hbad
    have hv := HV.out
    rw [scan_step s b pos hp hbad, fin_map, ← HR.out, ← HD.out, ← hc] at hv
    refine ⟨⟨pos + d, b, k + 1, cc', by rw [HKW.out], rfl, ⟨hx⟩, ⟨hb⟩, ⟨hv⟩, ⟨by have := HS.out; have := HW.out; omega⟩, ⟨by have := HK.out; have := HW.out; omega⟩⟩, ?_⟩
    rw [HIP.out, show W2.iterPos w.heap.size = pos + d by unfold World.iterPos; rw [hx]]
    have := HW.out
    omega
   have HDone := Aside0.mk done
   clear done
   by_cases hr5 : r = 65533
   ·have hr5' : (r : Int) = 65533 := by omega
    have HR5 := Aside0.mk hr5
    clear hr5
    go_wp2_with fail
    refine (Tryz.utf8_DecodeRuneInString (s.extract pos s.size) W1 (Tabs.below HT.out HB1.out)).mono ?_
    rintro e w2 ⟨rfl, hb2⟩
    rw [decode_cut s pos hp, ← HR.out, ← HD.out]
    have HX2 := Aside0.mk ((hb2.block _ (blk_lt HX1.out)).trans HX1.out)
    have HB2 := Aside0.mk (below_then HB1.out HB1.out.size hb2)
    clear hb2
    by_cases hd1 : d = 1
    ·have hd1' : (d : Int) = 1 := by omega
     have hv := HV.out
     rw [scan_bad s b pos hp ⟨by rw [← HR.out]; exact HR5.out, by rw [← HD.out]; exact hd1⟩, fin_none] at hv
     have HV2 := Aside0.mk hv
     clear hv hd1
     go_wp2
     go_ret
     exact ⟨by rw [← HV2.out]; rfl, HB2.out⟩
    ·have hd1' : ¬ (d : Int) = 1 := by omega
     have hbad : ¬ bad s pos := fun h => hd1 (HD.out.trans h.2)
     have hctl : ctl r = false := by rw [HR5.out]; rfl
     cases cc with
     | true =>
      go_wp2
      go_round
      case rel => exact (HDone.out _ _ HX2.out HB2.out rfl hbad).1
      case measure => exact (HDone.out _ true HX2.out HB2.out rfl hbad).2
     | false =>
      have HC := Aside0.mk hctl
      clear hctl
      go_wp2
      go_round
      case rel => exact (HDone.out _ _ HX2.out HB2.out (by rw [HC.out]; rfl) hbad).1
      case measure => exact (HDone.out _ false HX2.out HB2.out (by rw [HC.out]; rfl) hbad).2
   ·have hr5' : ¬ (r : Int) = 65533 := by omega
    have hbad : ¬ bad s pos := fun h => hr5 (HR.out.trans h.1)
    have HBad := Aside0.mk hbad
    clear hbad hr5
    cases cc with
    | true =>
     obtain h32 | h32 : (r : Int) < 32 ∨ ¬ (r : Int) < 32 := by omega
     all_goals obtain h127 | h127 : (127 : Int) ≤ (r : Int) ∨ ¬ (127 : Int) ≤ (r : Int) := by omega
     all_goals obtain h159 | h159 : (r : Int) ≤ 159 ∨ ¬ (r : Int) ≤ 159 := by omega
     all_goals first | (exfalso; omega) | skip
     all_goals go_wp2
     all_goals go_round
     all_goals first | exact (HDone.out _ true HX1.out HB1.out rfl HBad.out).1 | exact (HDone.out _ true HX1.out HB1.out rfl HBad.out).2
    | false =>
     obtain h32 | h32 : (r : Int) < 32 ∨ ¬ (r : Int) < 32 := by omega
     all_goals obtain h127 | h127 : (127 : Int) ≤ (r : Int) ∨ ¬ (127 : Int) ≤ (r : Int) := by omega
     all_goals obtain h159 | h159 : (r : Int) ≤ 159 ∨ ¬ (r : Int) ≤ 159 := by omega
     all_goals first | (exfalso; omega) | skip
     all_goals (have hctl := ctl_int r)
     all_goals (have HC := Aside0.mk hctl; clear hctl)
     all_goals go_wp2
     all_goals go_round
     all_goals first | exact (HDone.out _ (false || ctl r) HX1.out HB1.out rfl HBad.out).2 | exact (HDone.out _ _ HX1.out HB1.out (by rw [HC.out]; simp [h32, h127, h159]) HBad.out).1
  ·have hnx : ∀ ty, (Instr.next (.pointer (some ⟨w.heap.size, 0, none⟩)) true ty).run Tryz.prog wr = _ := fun ty => next_end wr w.heap.size s pos HX.out hp ty
   have hv := HV.out
   rw [scan_end s b pos (by omega)] at hv
   have hv2 : (if 128 < k then (43 : Int) else if cc = true then 44 else 0) = vf s := by rw [← hv]; simp [fin]
   have HV2 := Aside0.mk hv2
   clear hv hv2
   by_cases hk : 128 < k
   ·go_wp2
    go_ret
    exact ⟨by rw [← HV2.out, if_pos hk]; rfl, HB.out⟩
   ·cases cc
    ·go_wp2
     go_ret
     exact ⟨by rw [← HV2.out, if_neg hk]; rfl, HB.out⟩
    ·go_wp2
     go_ret
     exact ⟨by rw [← HV2.out, if_neg hk]; rfl, HB.out⟩
end Vf
def impl_valueFault.f (a0 : ByteArray) : Option Int := if a0.size ≤ 4611686018427387904 then some (Utf.vf a0) else none
theorem impl_valueFault.calls (a0 : ByteArray) (r : Int) (w : World) (h : impl_valueFault.f a0 = some r) (hT : Tabs w) :
  Calls Tryz.prog 112 #[.string a0] w fun e w' => e = .returned (.int .i64 r) ∧ Below w.heap.size w w' := by
 unfold impl_valueFault.f at h
 by_cases hz : a0.size ≤ 4611686018427387904
 ·rw [if_pos hz] at h
  obtain rfl := Option.some.inj h
  exact Vf.walk a0 w hz hT
 ·rw [if_neg hz] at h; cases h
end Go.Proofs.YtikbfjnbhogihaaGreatDoor.M
namespace Go.Proofs.YtikbfjnbhogihaaGreatDoor.M
open Go.RowKit Go.Proofs.YtikbfjnbhogihaaGreatDoorW.PrintWords Go.Proofs.YtikbfjnbhogihaaGreatDoorW.PrintLast Go.Proofs.YtikbfjnbhogihaaGreatDoorW.PrintMore
attribute [local go_sem] max2_int min2_int max_two min_two max_three min_three max_four min_four
set_option linter.unusedVariables false
set_option linter.unusedSimpArgs false
/-! ### impl_s16: function 162 -/
def impl_s16.f (a0 : ByteArray) : Option (ByteArray) := (impl_num.f 2 (a0.size : Int)).bind fun t263 => (if t263.size + a0.size ≤ 9223372036854775807 then (some (t263 ++ a0)) else (none))
set_option maxHeartbeats 8000000 in
set_option maxRecDepth 100000 in
theorem impl_s16.calls (a0 : ByteArray) (r : ByteArray) (w : World) (h : impl_s16.f a0 = some r) :
  Calls Tryz.prog 162 #[.string a0] w fun e w' => e = .returned (.string r) ∧ Below w.heap.size w w' := by
 have HB := Aside0.mk (Below.refl w.heap.size w)
 have H : ((impl_num.f 2 (a0.size : Int)).bind fun t263 => (if t263.size + a0.size ≤ 9223372036854775807 then (some (t263 ++ a0)) else (none))) = some r := h
 clear h
 replace H := Option.bind_eq_some_iff.mp H
 obtain ⟨t263, A20, H⟩ := H
 replace H : (if t263.size + a0.size ≤ 9223372036854775807 then (some (t263 ++ a0)) else (none)) = some r := H
 have A2 := Aside0.mk A20
 clear A20
 by_cases c3 : t263.size + a0.size ≤ 9223372036854775807
 ·rw [if_pos c3] at H
  have c3b0 := eq_true c3
  have c3b1 : decide (t263.size + a0.size ≤ 9223372036854775807) = true := decide_eq_true c3
  try have c3b2 : (9223372036854775807 < t263.size + a0.size) = False := eq_false (Nat.not_lt.2 c3)
  obtain rfl := Option.some.inj H
  go_enter Tryz.func162, Tryz.ntmps162
  go_wp2_with (first | ((with_reducible refine gate_callee (f := 160) rfl ?_); refine goesL_ (some 5) rfl rfl Tryz.func160 (by kernel_rfl) rfl #[.int .i64 2, .int .i64 (a0.size : Int)] rfl (by (try simp only [List.map_toArray, List.map_cons, List.map_nil]); first | done | rfl | (simp only [List.length_drop, List.length_take]; rfl)) ?_; (with_reducible refine (impl_num.calls 2 (a0.size : Int) t263 _ A2.out).mono ?_); rintro e w4 ⟨rfl, hb⟩; refine ⟨_, rfl, ?_⟩; have n0_ := Aside0.mk (below_step (by repeat (first | (with_reducible first | exact HB.out | apply below_alloc | apply pw_below_drewN | apply below_drew1) | exact HB.out)) hb); clear HB; have HB := n0_; clear n0_; (try clear hb); (try clear hb2); (try clear hk); (try clear hi)))
  go_ret
  exact ⟨by first | rfl | (simp [errW_none, errW_some] <;> rfl) | (simp [*, errW_none, errW_some] <;> rfl), by repeat (first | (with_reducible first | exact HB.out | apply below_alloc | apply pw_below_drewN | apply below_drew1) | exact HB.out)⟩
 ·rw [if_neg c3] at H
  exact absurd H (by simp)
/-! ### impl_isMetric: function 63 -/
def impl_isMetric.f (a0 : ByteArray) : Option (Bool) := if a0.toList = ([] : List UInt8) then (some false) else ((impl_valueFault.f a0).bind fun t230 => (some (t230 == 0)))
set_option maxHeartbeats 8000000 in
set_option maxRecDepth 100000 in
theorem impl_isMetric.calls (a0 : ByteArray) (r : Bool) (w : World) (h : impl_isMetric.f a0 = some r) (hT_ : Tabs w) :
  Calls Tryz.prog 63 #[.string a0] w fun e w' => e = .returned (.bool r) ∧ Below w.heap.size w w' := by
 have HT := Aside0.mk hT_
 clear hT_
 have HB := Aside0.mk (Below.refl w.heap.size w)
 have H : (if a0.toList = ([] : List UInt8) then (some false) else ((impl_valueFault.f a0).bind fun t230 => (some (t230 == 0)))) = some r := h
 clear h
 by_cases c2 : a0.toList = ([] : List UInt8)
 ·rw [if_pos c2] at H
  have c2b0 : (a0.toList == ([] : List UInt8)) = true := beq_iff_eq.mpr c2
  have c2b1 : (a0.toList != ([] : List UInt8)) = false := bne_eq_false_iff_eq.mpr c2
  clear c2
  obtain rfl := Option.some.inj H
  go_enter Tryz.func63, Tryz.ntmps63
  go_wp2
  go_ret
  exact ⟨by first | rfl | (simp [errW_none, errW_some] <;> rfl) | (simp [*, errW_none, errW_some] <;> rfl) | (simp [*, errW_none, errW_some]; generalize ByteArray.toList _ = q_; cases q_ <;> rfl), by repeat (first | (with_reducible first | exact HB.out | apply below_alloc | apply pw_below_drewN | apply below_drew1) | exact HB.out)⟩
 ·rw [if_neg c2] at H
  have c2b0 : (a0.toList == ([] : List UInt8)) = false := beq_eq_false_iff_ne.mpr c2
  have c2b1 : (a0.toList != ([] : List UInt8)) = true := bne_iff_ne.mpr c2
  replace H := Option.bind_eq_some_iff.mp H
  obtain ⟨t230, A30, H⟩ := H
  replace H : (some (t230 == 0)) = some r := H
  have A3 := Aside0.mk A30
  clear A30
  obtain rfl := Option.some.inj H
  go_enter Tryz.func63, Tryz.ntmps63
  go_wp2_with (first | (go_at_call 112; (with_reducible refine (impl_valueFault.calls a0 t230 _ A3.out (Tabs.below HT.out (by repeat (first | (with_reducible first | exact HB.out | apply below_alloc | apply pw_below_drewN | apply below_drew1) | exact HB.out | refine below_set ?_ (Aside0.out (by assumption)))))).mono ?_); rintro e w4 ⟨rfl, hb⟩; have n0_ := Aside0.mk (below_step (by repeat (first | (with_reducible first | exact HB.out | apply below_alloc | apply pw_below_drewN | apply below_drew1) | exact HB.out)) hb); clear HB; have HB := n0_; clear n0_; (try clear hb); (try clear hb2); (try clear hk); (try clear hi)))
  go_ret
  exact ⟨by first | rfl | (simp [errW_none, errW_some] <;> rfl) | (simp [*, errW_none, errW_some] <;> rfl) | (simp [*, errW_none, errW_some]; generalize ByteArray.toList _ = q_; cases q_ <;> rfl), by repeat (first | (with_reducible first | exact HB.out | apply below_alloc | apply pw_below_drewN | apply below_drew1) | exact HB.out)⟩
end Go.Proofs.YtikbfjnbhogihaaGreatDoor.M
/- (*source).num: the number that the next bytes give, high byte first; what is missing is short. -/
namespace Go.Proofs.YtikbfjnbhogihaaGreatDoor.M
open Go.RowKit Go.Proofs.YtikbfjnbhogihaaGreatDoorW.PrintWords Go.Proofs.YtikbfjnbhogihaaGreatDoorW.PrintLast Go.Proofs.YtikbfjnbhogihaaGreatDoorW.PrintMore
set_option linter.unusedVariables false
set_option linter.unusedSimpArgs false
namespace SrcNum
def upto (t : ByteArray) : Nat → Int
 | 0 => 0
 | k + 1 => Go.bits .or .i64 (wrap64 (upto t k * 256)) (wrap64 (bt t (k : Int)))
end SrcNum
def impl_source_num.f (s0_0 : ByteArray) (a1 : Int) : Option (Int × ByteArray) := (impl_source_text.f s0_0 a1).bind fun t => if t.1.size ≤ 9223372036854775807 then some (SrcNum.upto t.1 t.1.size, t.2) else none
open SrcNum in
set_option maxHeartbeats 2000000 in
set_option maxRecDepth 100000 in
theorem impl_source_num.calls (g : Nat) (s0_0 : ByteArray) (a1 : Int) (r1 : Int) (r2 : ByteArray) (w0 w : World) (hI : IsS189 w0 w g s0_0) (hB : Below w0.heap.size w0 w) (h : impl_source_num.f s0_0 a1 = some (r1, r2)) :
  Calls Tryz.prog 133 #[.pointer (some ⟨g, 0, none⟩), .int .i64 a1] w fun e w' => e = .returned (.int .i64 r1) ∧ IsS189 w0 w' g r2 ∧ Below w0.heap.size w0 w' ∧ KeepBut w w' g none := by
 unfold impl_source_num.f at h
 obtain ⟨⟨t1, t2⟩, ht, h⟩ := Option.bind_eq_some_iff.mp h
 have hz : t1.size ≤ 9223372036854775807 := by
  by_cases hz : t1.size ≤ 9223372036854775807
  ·exact hz
  ·rw [if_neg hz] at h; cases h
 rw [if_pos hz] at h
 obtain ⟨hr1, hr2⟩ := Prod.mk.inj (Option.some.inj h)
 have HR1 := Aside0.mk hr1
 dsimp only at hr2
 subst hr2
 clear h hr1
 have HT := Aside0.mk ht
 clear ht
 have HIw := Aside0.mk hI
 have HBw := Aside0.mk hB
 clear hI hB
 go_enter Tryz.func133, Tryz.ntmps133
 go_wp2_with fail
 refine (impl_source_text.calls g s0_0 a1 t1 t2 w0 w HIw.out HBw.out HT.out).mono ?_
 rintro e w1 ⟨rfl, hi, hb, hk⟩
 have HI := Aside0.mk hi
 have HB := Aside0.mk hb
 have HK := Aside0.mk hk
 clear hi hb hk
 have hcv := Lib.run_convert_string_bytes (P := Tryz.prog) w1 9 53 5 t1 Tryz.underlying9 Tryz.underlying53 Tryz.underlying5
 go_wp2_with fail
 have HC := Aside0.mk (bytes_reads w1 5 t1 hz)
 have HB2 := Aside0.mk (Joins.below_bytesWorld w1.heap.size w1 5 t1 (Nat.le_refl _))
 clear hcv
 generalize Lib.bytesWorld w1 5 t1 = W2 at HC HB2 ⊢
 go_loop [5, 13] (fun v i => ∃ k : Nat, k ≤ t1.size ∧ i = .int .i64 k ∧ v = .int .i64 (upto t1 k)) (fun _ i => t1.size - (intOf i).toNat)
 case atStart => exact ⟨0, by omega, by simp, rfl⟩
 case round =>
  obtain ⟨k, hk, rfl, rfl⟩ := hrel
  obtain hk5 | hk6 : t1.size ≤ k ∨ k < t1.size := by omega
  ·obtain rfl : k = t1.size := by omega
   go_wp2
   go_ret
   exact ⟨by rw [← HR1.out]; rfl, HI.out.below HB2.out, below_then HB.out HB.out.size HB2.out, KeepBut.trans HK.out (KeepBut.of_below HB2.out g none) (.inl rfl)⟩
  ·obtain ⟨ad, e, hcell⟩ := HC.out.at_ (k : Int) (by omega) (by omega)
   obtain rfl : (⟨w1.heap.size, 0, none⟩ : Addr) = ad := by injection e
   rw [rd_bytesOf, add_plain, Int.toNat_natCast] at hcell
   clear e
   go_wp2
   go_round
   case rel => exact ⟨k + 1, by omega, by go_num, rfl⟩
   case measure => simp [intOf]; omega
end Go.Proofs.YtikbfjnbhogihaaGreatDoor.M
/- Texts as bytes: plain. -/
namespace Go.Proofs.YtikbfjnbhogihaaGreatDoor.M
open Go.RowKit Go.Proofs.YtikbfjnbhogihaaGreatDoorW.PrintWords Go.Proofs.YtikbfjnbhogihaaGreatDoorW.PrintLast Go.Proofs.YtikbfjnbhogihaaGreatDoorW.PrintMore
namespace Enc
def nL (m : Nat) (v : Int) : List UInt8 := (Num.bytes m v).data.toList
theorem num_size (m : Nat) (v : Int) : (Num.bytes m v).size = m := by
 unfold Num.bytes
 rw [strOfNums_size]
 simp [Num.nums8]
theorem nL_length (m : Nat) (v : Int) : (nL m v).length = m := num_size m v
def s8L (s : ByteArray) : List UInt8 := nL 1 s.size ++ s.data.toList
def s16L (s : ByteArray) : List UInt8 := nL 2 s.size ++ s.data.toList
theorem len_ (s : ByteArray) : s.data.toList.length = s.size := rfl
theorem s8L_length (s : ByteArray) : (s8L s).length = 1 + s.size := by unfold s8L; rw [List.length_append, nL_length, len_]
theorem s16L_length (s : ByteArray) : (s16L s).length = 2 + s.size := by unfold s16L; rw [List.length_append, nL_length, len_]
def s8B (s : ByteArray) : ByteArray := Num.bytes 1 s.size ++ s
def s16B (s : ByteArray) : ByteArray := Num.bytes 2 s.size ++ s
theorem app_ (a b : ByteArray) : (a ++ b).data.toList = a.data.toList ++ b.data.toList := by
 rw [show (a ++ b).data = a.data ++ b.data from ByteArray.data_append]; simp
theorem s8B_list (s : ByteArray) : (s8B s).data.toList = s8L s := app_ _ _
theorem s16B_list (s : ByteArray) : (s16B s).data.toList = s16L s := app_ _ _
end Enc
end Go.Proofs.YtikbfjnbhogihaaGreatDoor.M
namespace Go.Proofs.YtikbfjnbhogihaaGreatDoor.M
open Go.RowKit Go.Proofs.YtikbfjnbhogihaaGreatDoorW.PrintWords Go.Proofs.YtikbfjnbhogihaaGreatDoorW.PrintLast Go.Proofs.YtikbfjnbhogihaaGreatDoorW.PrintMore
attribute [local go_sem] max2_int min2_int max_two min_two max_three min_three max_four min_four
set_option linter.unusedVariables false
set_option linter.unusedSimpArgs false
/-! ### impl_between: function 55 -/
def impl_between.f (a0 : Int) (a1 : Int) (a2 : Int) : Option (Bool) := if a0 ≥ a1 then (some (decide (a0 ≤ a2))) else (some false)
set_option maxHeartbeats 8000000 in
set_option maxRecDepth 100000 in
theorem impl_between.calls (a0 : Int) (a1 : Int) (a2 : Int) (r : Bool) (w : World) (h : impl_between.f a0 a1 a2 = some r) :
  Calls Tryz.prog 55 #[.int .i64 a0, .int .i64 a1, .int .i64 a2] w fun e w' => e = .returned (.bool r) ∧ Drawn0 w w' := by
 have H : (if a0 ≥ a1 then (some (decide (a0 ≤ a2))) else (some false)) = some r := h
 clear h
 by_cases c4 : a0 ≥ a1
 ·rw [if_pos c4] at H
  have c4b0 : decide (a1 ≤ a0) = true := decide_eq_true c4
  clear c4
  obtain rfl := Option.some.inj H
  go_enter Tryz.func55, Tryz.ntmps55
  go_wp2
  go_ret
  exact ⟨by first | rfl | (simp; done) | (simp [*]; done), by repeat (first | exact Drawn0.refl _ | apply Drawn0.step)⟩
 ·rw [if_neg c4] at H
  have c4b0 : decide (a1 ≤ a0) = false := decide_eq_false c4
  clear c4
  obtain rfl := Option.some.inj H
  go_enter Tryz.func55, Tryz.ntmps55
  go_wp2
  go_ret
  exact ⟨by first | rfl | (simp; done) | (simp [*]; done), by repeat (first | exact Drawn0.refl _ | apply Drawn0.step)⟩
end Go.Proofs.YtikbfjnbhogihaaGreatDoor.M
