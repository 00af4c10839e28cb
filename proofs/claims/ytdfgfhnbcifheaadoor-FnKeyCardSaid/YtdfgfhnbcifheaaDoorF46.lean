-- By pp.py, a program of this repo, with the kit's printer: Lean checks it.
import Derived.Test.YtdfgfhnbcifheaaDoorM0
import Derived.Test.YtdfgfhnbcifheaaDoorF45
import Derived.Test.YtdfgfhnbcifheaaDoorF24
import Derived.Test.YtdfgfhnbcifheaaDoorF61
namespace Go.Proofs.YtdfgfhnbcifheaaDoor.M
open Go.RowKit Go.Proofs.YtdfgfhnbcifheaaDoorW.PrintWords Go.Proofs.YtdfgfhnbcifheaaDoorW.PrintLast Go.Proofs.YtdfgfhnbcifheaaDoorW.PrintMore
attribute [local go_sem] max2_int min2_int max_two min_two max_three min_three max_four min_four
set_option linter.unusedVariables false
set_option linter.unusedSimpArgs false

/-! ### spec_l3SpoilLabels: function 46 -/
mutual
def spec_l3SpoilLabels.j0 : Nat → List (S38) → Int → Int → Bool → List Int → Int → Int → Option ((List (S38)) × Int × Int)
  | 0, _, _, _, _, _, _, _ => none
  | k + 1, x1, x5, x15, x29, x1000, x1001, x1002 => if x29 = true then ((spec_l3BadValue.f k x1000 x1001 x1002).bind fun bt403 => (if 0 ≤ x5 then (if x5 < (x1.length : Int) then (some ((x1.set (x5 : Int).toNat (⟨(rd_T38 x1 x5).f0, bt403.1⟩ : S38)), bt403.2.1, bt403.2.2)) else (none)) else (none))) else (if x15 = 3 then (if 0 ≤ x5 then (if x5 < (x1.length : Int) then (if x1.length < 4398046511104 then (some ((x1 ++ [(⟨(rd_T38 x1 x5).f0, (⟨#[119]⟩ : ByteArray)⟩ : S38)]), x1001, x1002)) else (none)) else (none)) else (none)) else (if x15 = 4 then (if 0 ≤ x5 then (if x5 < (x1.length : Int) then (some ((x1.set (x5 : Int).toNat (⟨(rd_T38 x1 x5).f0, (⟨#[]⟩ : ByteArray)⟩ : S38)), x1001, x1002)) else (none)) else (none)) else (if x15 = 5 then (if 0 ≤ x5 then (if x5 ≤ (x1.length : Int) then (if 0 ≤ (wrap64 (x5 + 1)) then (if (wrap64 (x5 + 1)) ≤ (x1.length : Int) then (some ((x1.eraseIdx (x5 : Int).toNat), x1001, x1002)) else (none)) else (none)) else (none)) else (none)) else (if x15 = 6 then ((spec_l1Cur_pick.f x1000 x1001 x1002 2).bind fun bt423 => (spec_l3SpoilLabels.l0 k x1 (wrap64 (16 + bt423.1)) x1000 bt423.2.1 bt423.2.2)) else (some (x1, x1001, x1002))))))
def spec_l3SpoilLabels.l0 : Nat → List (S38) → Int → List Int → Int → Int → Option ((List (S38)) × Int × Int)
  | 0, _, _, _, _, _ => none
  | k + 1, x1, x6, x1000, x1001, x1002 => if (x1.length : Int) < x6 then ((some (([(wrap64 (97 + (x1.length : Int))) % 256] : List Int) : List Int)).bind fun y426 => (if 1 + (strOfNums y426).size ≤ 9223372036854775807 then (if x1.length < 4398046511104 then (spec_l3SpoilLabels.l0 k (x1 ++ [(⟨(⟨#[110]⟩ : ByteArray) ++ (strOfNums y426), (⟨#[118]⟩ : ByteArray)⟩ : S38)]) x6 x1000 x1001 x1002) else (none)) else (none))) else (some (x1, x1001, x1002))
end
def spec_l3SpoilLabels.f (k : Nat) (s0_0 : List Int) (s0_1 : Int) (s0_2 : Int) (l1 : List (S38)) : Option ((List (S38)) × Int × Int) := (some (([] : List (S38)) : List (S38))).bind fun y381 => (if y381.length + l1.length < 4398046511104 then ((some (y381 ++ l1 : List (S38))).bind fun y384 => ((spec_l1Cur_pick.f s0_0 s0_1 s0_2 (y384.length : Int)).bind fun bt387 => ((spec_l1Cur_pick.f s0_0 bt387.2.1 bt387.2.2 7).bind fun bt390 => (if bt390.1 = 0 then ((spec_l1Times.f k (⟨#[110]⟩ : ByteArray) 64).bind fun t393 => ((spec_l1Times.f k (⟨#[110]⟩ : ByteArray) 65).bind fun t394 => ((some (([(⟨#[]⟩ : ByteArray), (⟨#[57, 97]⟩ : ByteArray), (⟨#[97, 45, 98]⟩ : ByteArray), (⟨#[106, 111, 98]⟩ : ByteArray), t393, t394, (⟨#[195, 169]⟩ : ByteArray)] : List ByteArray) : List ByteArray)).bind fun y395 => ((spec_l1Cur_pick.f s0_0 bt390.2.1 bt390.2.2 7).bind fun bt398 => (if 0 ≤ bt398.1 then (if bt398.1 < (y395.length : Int) then (if 0 ≤ bt387.1 then (if bt387.1 < (y384.length : Int) then (some ((y384.set (bt387.1 : Int).toNat (⟨rdOf ByteArray.empty y395 bt398.1, (rd_T38 y384 bt387.1).f1⟩ : S38)), bt398.2.1, bt398.2.2)) else (none)) else (none)) else (none)) else (none)))))) else (if bt390.1 = 1 then (spec_l3SpoilLabels.j0 k y384 bt387.1 bt390.1 (bt390.1 == 1) s0_0 bt390.2.1 bt390.2.2) else (spec_l3SpoilLabels.j0 k y384 bt387.1 bt390.1 (bt390.1 == 2) s0_0 bt390.2.1 bt390.2.2)))))) else (none))
theorem spec_l3SpoilLabels.mono_l : ∀ k, (∀ y0 y1 y2 y3 y4 y5 y6, LeO (spec_l3SpoilLabels.j0 k y0 y1 y2 y3 y4 y5 y6) (spec_l3SpoilLabels.j0 (k + 1) y0 y1 y2 y3 y4 y5 y6)) ∧ (∀ y0 y1 y2 y3 y4, LeO (spec_l3SpoilLabels.l0 k y0 y1 y2 y3 y4) (spec_l3SpoilLabels.l0 (k + 1) y0 y1 y2 y3 y4))
  | 0 => ⟨fun _ _ _ _ _ _ _ r h => by simp [spec_l3SpoilLabels.j0] at h, fun _ _ _ _ _ r h => by simp [spec_l3SpoilLabels.l0] at h⟩
  | k + 1 => by
    obtain ⟨ih0, ih1⟩ := spec_l3SpoilLabels.mono_l k
    refine ⟨?_, ?_⟩
    · intro y0 y1 y2 y3 y4 y5 y6
      unfold spec_l3SpoilLabels.j0
      repeat' first
      | (with_reducible exact ih0 _ _ _ _ _ _ _)
      | (with_reducible exact ih1 _ _ _ _ _)
      | (with_reducible exact spec_l1Times.mono _ _ _)
      | (with_reducible exact spec_l3BadValue.mono _ _ _ _)
      | (with_reducible exact LeO.refl _)
      | (with_reducible exact LeO.none _)
      | (with_reducible refine LeO.ite ?_ ?_)
      | (with_reducible refine LeO.bind ?_ (fun _ => ?_))
      | exact ih0 _ _ _ _ _ _ _
      | exact ih1 _ _ _ _ _
      | exact spec_l1Times.mono _ _ _
      | exact spec_l3BadValue.mono _ _ _ _
      | exact LeO.none _
      | refine LeO.ite ?_ ?_
      | refine LeO.bind ?_ (fun _ => ?_)
    · intro y0 y1 y2 y3 y4
      unfold spec_l3SpoilLabels.l0
      repeat' first
      | (with_reducible exact ih0 _ _ _ _ _ _ _)
      | (with_reducible exact ih1 _ _ _ _ _)
      | (with_reducible exact spec_l1Times.mono _ _ _)
      | (with_reducible exact spec_l3BadValue.mono _ _ _ _)
      | (with_reducible exact LeO.refl _)
      | (with_reducible exact LeO.none _)
      | (with_reducible refine LeO.ite ?_ ?_)
      | (with_reducible refine LeO.bind ?_ (fun _ => ?_))
      | exact ih0 _ _ _ _ _ _ _
      | exact ih1 _ _ _ _ _
      | exact spec_l1Times.mono _ _ _
      | exact spec_l3BadValue.mono _ _ _ _
      | exact LeO.none _
      | refine LeO.ite ?_ ?_
      | refine LeO.bind ?_ (fun _ => ?_)
theorem spec_l3SpoilLabels.mono : ∀ a0 a1 a2 a3 k, LeO (spec_l3SpoilLabels.f k a0 a1 a2 a3) (spec_l3SpoilLabels.f (k + 1) a0 a1 a2 a3) := by
  intro a0 a1 a2 a3 k
  obtain ⟨ih0, ih1⟩ := spec_l3SpoilLabels.mono_l k
  unfold spec_l3SpoilLabels.f
  repeat' first
      | (with_reducible exact ih0 _ _ _ _ _ _ _)
      | (with_reducible exact ih1 _ _ _ _ _)
      | (with_reducible exact spec_l1Times.mono _ _ _)
      | (with_reducible exact spec_l3BadValue.mono _ _ _ _)
      | (with_reducible exact LeO.refl _)
      | (with_reducible exact LeO.none _)
      | (with_reducible refine LeO.ite ?_ ?_)
      | (with_reducible refine LeO.bind ?_ (fun _ => ?_))
      | exact ih0 _ _ _ _ _ _ _
      | exact ih1 _ _ _ _ _
      | exact spec_l1Times.mono _ _ _
      | exact spec_l3BadValue.mono _ _ _ _
      | exact LeO.none _
      | refine LeO.ite ?_ ?_
      | refine LeO.bind ?_ (fun _ => ?_)
def spec_l3SpoilLabels.T14 : Bool × List (List Nat × List Nat) := (true, [([], []), ([], []), ([0, 1], [0, 1]), ([], []), ([], []), ([4], [4]), ([3, 5], [3, 5]), ([2, 6], [2, 6]), ([7, 7, 0, 1, 2, 3, 4, 5, 6, 7], [0, 3, 7])])
def spec_l3SpoilLabels.B14 : List Nat := [0, 0, 3, 0, 0, 16, 56, 127, 255]
theorem spec_l3SpoilLabels.tab14 : rtab .any (opsOf Tryd.f46 14) = spec_l3SpoilLabels.T14 := by kernel_rfl
theorem spec_l3SpoilLabels.bits14 : waitsOk spec_l3SpoilLabels.T14.2 spec_l3SpoilLabels.B14 = true := by kernel_rfl
set_option maxHeartbeats 8000000 in
set_option maxRecDepth 100000 in
theorem spec_l3SpoilLabels.calls (k : Nat) (g : Nat) (s0_0 : List Int) (s0_1 : Int) (s0_2 : Int) (A1 : Option Addr) (c1 : Nat) (l1 : List (S38)) (r1 : List (S38)) (r2 : Int) (r3 : Int) (w0 w : World) (hI : IsS56 w0 w g s0_0 s0_1 s0_2) (hB : Below w0.heap.size w0 w) (hr1 : ∀ W_, KeepBut w W_ g none → Kd.C k38 W_ A1 l1.length l1) (hc1 : l1.length ≤ c1) (h : spec_l3SpoilLabels.f k s0_0 s0_1 s0_2 l1 = some (r1, r2, r3)) :
    Calls Tryd.prog 46 #[.pointer (some ⟨g, 0, none⟩), .slice A1 l1.length c1] w fun e w' => ∃ v0_ : Value, e = .returned (v0_) ∧ Kd.R k38 38 w' w.heap.size (fun _ => True) v0_ r1 ∧ IsS56 w0 w' g s0_0 r2 r3 ∧ Below w0.heap.size w0 w' ∧ KeepBut w w' g none := by
  have hu38 := Tryd.underlying38
  have HR1 := Aside0.mk hr1
  have HC1 := Aside0.mk hc1
  clear hr1 hc1
  have HI0 := Aside0.mk hI
  have HK := Aside0.mk (KeepBut.refl w g none)
  have HL := Aside0.mk hB.size
  clear hI
  have HW0 := Aside0.mk hB.size
  have HB := Aside0.mk hB
  clear hB
  have H : ((some (([] : List (S38)) : List (S38))).bind fun y381 => (if y381.length + l1.length < 4398046511104 then ((some (y381 ++ l1 : List (S38))).bind fun y384 => ((spec_l1Cur_pick.f s0_0 s0_1 s0_2 (y384.length : Int)).bind fun bt387 => ((spec_l1Cur_pick.f s0_0 bt387.2.1 bt387.2.2 7).bind fun bt390 => (if bt390.1 = 0 then ((spec_l1Times.f k (⟨#[110]⟩ : ByteArray) 64).bind fun t393 => ((spec_l1Times.f k (⟨#[110]⟩ : ByteArray) 65).bind fun t394 => ((some (([(⟨#[]⟩ : ByteArray), (⟨#[57, 97]⟩ : ByteArray), (⟨#[97, 45, 98]⟩ : ByteArray), (⟨#[106, 111, 98]⟩ : ByteArray), t393, t394, (⟨#[195, 169]⟩ : ByteArray)] : List ByteArray) : List ByteArray)).bind fun y395 => ((spec_l1Cur_pick.f s0_0 bt390.2.1 bt390.2.2 7).bind fun bt398 => (if 0 ≤ bt398.1 then (if bt398.1 < (y395.length : Int) then (if 0 ≤ bt387.1 then (if bt387.1 < (y384.length : Int) then (some ((y384.set (bt387.1 : Int).toNat (⟨rdOf ByteArray.empty y395 bt398.1, (rd_T38 y384 bt387.1).f1⟩ : S38)), bt398.2.1, bt398.2.2)) else (none)) else (none)) else (none)) else (none)))))) else (if bt390.1 = 1 then (spec_l3SpoilLabels.j0 k y384 bt387.1 bt390.1 (bt390.1 == 1) s0_0 bt390.2.1 bt390.2.2) else (spec_l3SpoilLabels.j0 k y384 bt387.1 bt390.1 (bt390.1 == 2) s0_0 bt390.2.1 bt390.2.2)))))) else (none))) = some (r1, r2, r3) := h
  clear h
  obtain ⟨y381, hy381⟩ : ∃ y_ : List (S38), y_ = (([] : List (S38))) := ⟨_, rfl⟩
  replace H : (if y381.length + l1.length < 4398046511104 then ((some (y381 ++ l1 : List (S38))).bind fun y384 => ((spec_l1Cur_pick.f s0_0 s0_1 s0_2 (y384.length : Int)).bind fun bt387 => ((spec_l1Cur_pick.f s0_0 bt387.2.1 bt387.2.2 7).bind fun bt390 => (if bt390.1 = 0 then ((spec_l1Times.f k (⟨#[110]⟩ : ByteArray) 64).bind fun t393 => ((spec_l1Times.f k (⟨#[110]⟩ : ByteArray) 65).bind fun t394 => ((some (([(⟨#[]⟩ : ByteArray), (⟨#[57, 97]⟩ : ByteArray), (⟨#[97, 45, 98]⟩ : ByteArray), (⟨#[106, 111, 98]⟩ : ByteArray), t393, t394, (⟨#[195, 169]⟩ : ByteArray)] : List ByteArray) : List ByteArray)).bind fun y395 => ((spec_l1Cur_pick.f s0_0 bt390.2.1 bt390.2.2 7).bind fun bt398 => (if 0 ≤ bt398.1 then (if bt398.1 < (y395.length : Int) then (if 0 ≤ bt387.1 then (if bt387.1 < (y384.length : Int) then (some ((y384.set (bt387.1 : Int).toNat (⟨rdOf ByteArray.empty y395 bt398.1, (rd_T38 y384 bt387.1).f1⟩ : S38)), bt398.2.1, bt398.2.2)) else (none)) else (none)) else (none)) else (none)))))) else (if bt390.1 = 1 then (spec_l3SpoilLabels.j0 k y384 bt387.1 bt390.1 (bt390.1 == 1) s0_0 bt390.2.1 bt390.2.2) else (spec_l3SpoilLabels.j0 k y384 bt387.1 bt390.1 (bt390.1 == 2) s0_0 bt390.2.1 bt390.2.2)))))) else (none)) = some (r1, r2, r3) := by first | (rw [hy381]; with_reducible exact H) | (have H2_ := (Option.bind_some _ _).symm.trans H; rw [hy381]; with_reducible exact H2_) | (have H2_ := (Option.bind_some _ _).symm.trans H; with_reducible exact H2_) | with_reducible exact H | (rw [hy381]; exact H) | exact H
  have Ny381 := Aside0.mk hy381
  clear hy381
  by_cases c3 : y381.length + l1.length < 4398046511104
  · rw [if_pos c3] at H
    have LMc3 := Aside0.mk c3
    clear c3
    obtain ⟨y384, hy384⟩ : ∃ y_ : List (S38), y_ = (y381 ++ l1) := ⟨_, rfl⟩
    replace H : ((spec_l1Cur_pick.f s0_0 s0_1 s0_2 (y384.length : Int)).bind fun bt387 => ((spec_l1Cur_pick.f s0_0 bt387.2.1 bt387.2.2 7).bind fun bt390 => (if bt390.1 = 0 then ((spec_l1Times.f k (⟨#[110]⟩ : ByteArray) 64).bind fun t393 => ((spec_l1Times.f k (⟨#[110]⟩ : ByteArray) 65).bind fun t394 => ((some (([(⟨#[]⟩ : ByteArray), (⟨#[57, 97]⟩ : ByteArray), (⟨#[97, 45, 98]⟩ : ByteArray), (⟨#[106, 111, 98]⟩ : ByteArray), t393, t394, (⟨#[195, 169]⟩ : ByteArray)] : List ByteArray) : List ByteArray)).bind fun y395 => ((spec_l1Cur_pick.f s0_0 bt390.2.1 bt390.2.2 7).bind fun bt398 => (if 0 ≤ bt398.1 then (if bt398.1 < (y395.length : Int) then (if 0 ≤ bt387.1 then (if bt387.1 < (y384.length : Int) then (some ((y384.set (bt387.1 : Int).toNat (⟨rdOf ByteArray.empty y395 bt398.1, (rd_T38 y384 bt387.1).f1⟩ : S38)), bt398.2.1, bt398.2.2)) else (none)) else (none)) else (none)) else (none)))))) else (if bt390.1 = 1 then (spec_l3SpoilLabels.j0 k y384 bt387.1 bt390.1 (bt390.1 == 1) s0_0 bt390.2.1 bt390.2.2) else (spec_l3SpoilLabels.j0 k y384 bt387.1 bt390.1 (bt390.1 == 2) s0_0 bt390.2.1 bt390.2.2))))) = some (r1, r2, r3) := by first | (rw [hy384]; with_reducible exact H) | (have H2_ := (Option.bind_some _ _).symm.trans H; rw [hy384]; with_reducible exact H2_) | (have H2_ := (Option.bind_some _ _).symm.trans H; with_reducible exact H2_) | with_reducible exact H | (rw [hy384]; exact H) | exact H
    have Ny384 := Aside0.mk hy384
    clear hy384
    replace H := Option.bind_eq_some_iff.mp H
    obtain ⟨⟨t387, t388, t389⟩, A40, H⟩ := H
    replace H : ((spec_l1Cur_pick.f s0_0 t388 t389 7).bind fun bt390 => (if bt390.1 = 0 then ((spec_l1Times.f k (⟨#[110]⟩ : ByteArray) 64).bind fun t393 => ((spec_l1Times.f k (⟨#[110]⟩ : ByteArray) 65).bind fun t394 => ((some (([(⟨#[]⟩ : ByteArray), (⟨#[57, 97]⟩ : ByteArray), (⟨#[97, 45, 98]⟩ : ByteArray), (⟨#[106, 111, 98]⟩ : ByteArray), t393, t394, (⟨#[195, 169]⟩ : ByteArray)] : List ByteArray) : List ByteArray)).bind fun y395 => ((spec_l1Cur_pick.f s0_0 bt390.2.1 bt390.2.2 7).bind fun bt398 => (if 0 ≤ bt398.1 then (if bt398.1 < (y395.length : Int) then (if 0 ≤ t387 then (if t387 < (y384.length : Int) then (some ((y384.set (t387 : Int).toNat (⟨rdOf ByteArray.empty y395 bt398.1, (rd_T38 y384 t387).f1⟩ : S38)), bt398.2.1, bt398.2.2)) else (none)) else (none)) else (none)) else (none)))))) else (if bt390.1 = 1 then (spec_l3SpoilLabels.j0 k y384 t387 bt390.1 (bt390.1 == 1) s0_0 bt390.2.1 bt390.2.2) else (spec_l3SpoilLabels.j0 k y384 t387 bt390.1 (bt390.1 == 2) s0_0 bt390.2.1 bt390.2.2)))) = some (r1, r2, r3) := H
    have A4 := Aside0.mk A40
    clear A40
    replace H := Option.bind_eq_some_iff.mp H
    obtain ⟨⟨t390, t391, t392⟩, A50, H⟩ := H
    replace H : (if t390 = 0 then ((spec_l1Times.f k (⟨#[110]⟩ : ByteArray) 64).bind fun t393 => ((spec_l1Times.f k (⟨#[110]⟩ : ByteArray) 65).bind fun t394 => ((some (([(⟨#[]⟩ : ByteArray), (⟨#[57, 97]⟩ : ByteArray), (⟨#[97, 45, 98]⟩ : ByteArray), (⟨#[106, 111, 98]⟩ : ByteArray), t393, t394, (⟨#[195, 169]⟩ : ByteArray)] : List ByteArray) : List ByteArray)).bind fun y395 => ((spec_l1Cur_pick.f s0_0 t391 t392 7).bind fun bt398 => (if 0 ≤ bt398.1 then (if bt398.1 < (y395.length : Int) then (if 0 ≤ t387 then (if t387 < (y384.length : Int) then (some ((y384.set (t387 : Int).toNat (⟨rdOf ByteArray.empty y395 bt398.1, (rd_T38 y384 t387).f1⟩ : S38)), bt398.2.1, bt398.2.2)) else (none)) else (none)) else (none)) else (none)))))) else (if t390 = 1 then (spec_l3SpoilLabels.j0 k y384 t387 t390 (t390 == 1) s0_0 t391 t392) else (spec_l3SpoilLabels.j0 k y384 t387 t390 (t390 == 2) s0_0 t391 t392))) = some (r1, r2, r3) := H
    have A5 := Aside0.mk A50
    clear A50
    by_cases c6 : t390 = 0
    · rw [if_pos c6] at H
      have c6b0 : (t390 == 0) = true := beq_iff_eq.mpr c6
      have c6b1 : (t390 != 0) = false := bne_eq_false_iff_eq.mpr c6
      clear c6
      replace H := Option.bind_eq_some_iff.mp H
      obtain ⟨t393, A70, H⟩ := H
      replace H : ((spec_l1Times.f k (⟨#[110]⟩ : ByteArray) 65).bind fun t394 => ((some (([(⟨#[]⟩ : ByteArray), (⟨#[57, 97]⟩ : ByteArray), (⟨#[97, 45, 98]⟩ : ByteArray), (⟨#[106, 111, 98]⟩ : ByteArray), t393, t394, (⟨#[195, 169]⟩ : ByteArray)] : List ByteArray) : List ByteArray)).bind fun y395 => ((spec_l1Cur_pick.f s0_0 t391 t392 7).bind fun bt398 => (if 0 ≤ bt398.1 then (if bt398.1 < (y395.length : Int) then (if 0 ≤ t387 then (if t387 < (y384.length : Int) then (some ((y384.set (t387 : Int).toNat (⟨rdOf ByteArray.empty y395 bt398.1, (rd_T38 y384 t387).f1⟩ : S38)), bt398.2.1, bt398.2.2)) else (none)) else (none)) else (none)) else (none))))) = some (r1, r2, r3) := H
      have A7 := Aside0.mk A70
      clear A70
      replace H := Option.bind_eq_some_iff.mp H
      obtain ⟨t394, A80, H⟩ := H
      replace H : ((some (([(⟨#[]⟩ : ByteArray), (⟨#[57, 97]⟩ : ByteArray), (⟨#[97, 45, 98]⟩ : ByteArray), (⟨#[106, 111, 98]⟩ : ByteArray), t393, t394, (⟨#[195, 169]⟩ : ByteArray)] : List ByteArray) : List ByteArray)).bind fun y395 => ((spec_l1Cur_pick.f s0_0 t391 t392 7).bind fun bt398 => (if 0 ≤ bt398.1 then (if bt398.1 < (y395.length : Int) then (if 0 ≤ t387 then (if t387 < (y384.length : Int) then (some ((y384.set (t387 : Int).toNat (⟨rdOf ByteArray.empty y395 bt398.1, (rd_T38 y384 t387).f1⟩ : S38)), bt398.2.1, bt398.2.2)) else (none)) else (none)) else (none)) else (none)))) = some (r1, r2, r3) := H
      have A8 := Aside0.mk A80
      clear A80
      obtain ⟨y395, hy395⟩ : ∃ y_ : List ByteArray, y_ = (([(⟨#[]⟩ : ByteArray), (⟨#[57, 97]⟩ : ByteArray), (⟨#[97, 45, 98]⟩ : ByteArray), (⟨#[106, 111, 98]⟩ : ByteArray), t393, t394, (⟨#[195, 169]⟩ : ByteArray)] : List ByteArray)) := ⟨_, rfl⟩
      replace H : ((spec_l1Cur_pick.f s0_0 t391 t392 7).bind fun bt398 => (if 0 ≤ bt398.1 then (if bt398.1 < (y395.length : Int) then (if 0 ≤ t387 then (if t387 < (y384.length : Int) then (some ((y384.set (t387 : Int).toNat (⟨rdOf ByteArray.empty y395 bt398.1, (rd_T38 y384 t387).f1⟩ : S38)), bt398.2.1, bt398.2.2)) else (none)) else (none)) else (none)) else (none))) = some (r1, r2, r3) := by first | (rw [hy395]; with_reducible exact H) | (have H2_ := (Option.bind_some _ _).symm.trans H; rw [hy395]; with_reducible exact H2_) | (have H2_ := (Option.bind_some _ _).symm.trans H; with_reducible exact H2_) | with_reducible exact H | (rw [hy395]; exact H) | exact H
      have Ny395 := Aside0.mk hy395
      clear hy395
      replace H := Option.bind_eq_some_iff.mp H
      obtain ⟨⟨t398, t399, t400⟩, A90, H⟩ := H
      replace H : (if 0 ≤ t398 then (if t398 < (y395.length : Int) then (if 0 ≤ t387 then (if t387 < (y384.length : Int) then (some ((y384.set (t387 : Int).toNat (⟨rdOf ByteArray.empty y395 t398, (rd_T38 y384 t387).f1⟩ : S38)), t399, t400)) else (none)) else (none)) else (none)) else (none)) = some (r1, r2, r3) := H
      have A9 := Aside0.mk A90
      clear A90
      by_cases c10 : 0 ≤ t398
      · rw [if_pos c10] at H
        have c10b0 : decide (0 ≤ t398) = true := decide_eq_true c10
        clear c10
        by_cases c11 : t398 < (y395.length : Int)
        · rw [if_pos c11] at H
          have c11b0 : decide (t398 < (y395.length : Int)) = true := decide_eq_true c11
          clear c11
          by_cases c12 : 0 ≤ t387
          · rw [if_pos c12] at H
            have c12b0 : decide (0 ≤ t387) = true := decide_eq_true c12
            clear c12
            by_cases c13 : t387 < (y384.length : Int)
            · rw [if_pos c13] at H
              have c13b0 : decide (t387 < (y384.length : Int)) = true := decide_eq_true c13
              clear c13
              obtain ⟨y402, hy402⟩ : ∃ y_ : List (S38), y_ = (y384.set (t387 : Int).toNat (⟨rdOf ByteArray.empty y395 t398, (rd_T38 y384 t387).f1⟩ : S38)) := ⟨_, rfl⟩
              replace H : (some (y402, t399, t400)) = some (r1, r2, r3) := by first | (rw [hy402]; with_reducible exact H) | (have H2_ := (Option.bind_some _ _).symm.trans H; rw [hy402]; with_reducible exact H2_) | (have H2_ := (Option.bind_some _ _).symm.trans H; with_reducible exact H2_) | with_reducible exact H | (rw [hy402]; exact H) | exact H
              have Ny402 := Aside0.mk hy402
              clear hy402
              simp only [Option.some.injEq, Prod.mk.injEq] at H
              obtain ⟨rfl, rfl, rfl⟩ := H
              go_enter Tryd.func46, Tryd.ntmps46
              go_wp2_with (first | ((with_reducible refine gate_dst (N := 7) rfl ?_); refine Kd.R_lit k38 _ 38 ?hg (N := 7) ?hd (xs := ([] : List (S38))) (inner := []) (ok := fun _ => True) (okp := fun _ => True) ?hr ?hp (fun _ hk => hk) trivial (Below.refl _ _) (Nat.le_refl _) (by simp) ?_; (case hd => rfl); (case hg => rfl); (case hr => first | (go_simp; done) | (go_simp; rfl)); (case hp => exact (Reps.none _ _)); intro v382 w15 ho16 hb hg_ hnew_; clear hg_ hnew_; (first | rw [← Ny381.out] at ho16 | (simp only [Int.reduceToNat] at ho16; rw [← Ny381.out] at ho16)); have n0_ := Aside0.mk (Kd.R_lower ho16 (keep_size (w := w) (g := g) (row := none) (by repeat (first | (with_reducible first | exact HK.out | apply KeepBut.set_ | apply keep_drewN | apply keep_drew | apply keep_alloc) | exact HK.out)))); have n1_ := Aside0.mk (IsS56.below (by repeat (first | (with_reducible first | exact HI0.out | apply IsS56.alloc | apply IsS56.drewN | apply IsS56.drew | apply IsS56.set_1 | apply IsS56.set_2) | exact HI0.out)) hb); have n2_ := Aside0.mk (KeepBut.trans (by repeat (first | (with_reducible first | exact HK.out | apply KeepBut.set_ | apply keep_drewN | apply keep_drew | apply keep_alloc) | exact HK.out)) (KeepBut.of_below hb g none) (.inl rfl)); have n3_ := Aside0.mk (below_step (by repeat (first | (with_reducible first | exact HB.out | apply below_alloc | apply pw_below_drewN | apply below_drew1 | refine below_set ?_ (IsS56.ge HI0.out)) | exact HB.out)) hb); clear HI0; clear HK; clear HB; have HO383 := n0_; have HI0 := n1_; have HK := n2_; have HB := n3_; clear n0_ n1_ n2_ n3_; clear hb ho16) | ((with_reducible refine gate_builtin (b := .append) (xs := #[.tmp 7, .tmp 8]) rfl ?_); at_builtin; refine Kd.R_append_rows k38 w.heap.size rfl (.tmp 7) (.tmp 8) 24 38 (.agg #[(.string ⟨#[]⟩), (.string ⟨#[]⟩)]) 32 rfl Tryd.underlying24 info38 rfl (by decide) (by omega) v382 y381 l1 _ _ _ (fun _ => True) (fun _ => False) rfl rfl ?aO ?aR (fun _ _ h => h) (fun _ h => h.elim) ?aF (Below.refl _ _) ?aS ?aL ?_; (case aR => exact Kd.C_foot_now HR1.out (by repeat (first | (with_reducible first | exact HK.out | apply KeepBut.set_ | apply keep_drewN | apply keep_drew | apply keep_alloc) | exact HK.out))); (case aF => exact (fun _ _ => trivial)); (case aO => exact (by (with_reducible repeat (first | apply Kd.R_alloc | apply Kd.R_drewN | apply Kd.R_drew)); exact HO383.out)); (case aS => exact (keep_size (w := w) (g := g) (row := none) (by repeat (first | (with_reducible first | exact HK.out | apply KeepBut.set_ | apply keep_drewN | apply keep_drew | apply keep_alloc) | exact HK.out)))); (case aL => have := LMc3.out; omega); intro v385 w17 ho hb hg hat; rw [← Ny384.out] at ho; have n0_ := Aside0.mk (IsS56.grown (by repeat (first | (with_reducible first | exact HI0.out | apply IsS56.alloc | apply IsS56.drewN | apply IsS56.drew | apply IsS56.set_1 | apply IsS56.set_2) | exact HI0.out)) hg (IsS56.own_ne HI0.out HO383.out (by decide))); have n1_ := Aside0.mk (below_weaken (by repeat (first | (with_reducible first | exact HB.out | apply below_alloc | apply pw_below_drewN | apply below_drew1 | refine below_set ?_ (IsS56.ge HI0.out)) | exact HB.out)) HL.out hb); have n2_ := Aside0.mk (KeepBut.trans (by repeat (first | (with_reducible first | exact HK.out | apply KeepBut.set_ | apply keep_drewN | apply keep_drew | apply keep_alloc) | exact HK.out)) (KeepBut.of_grown hg g) (Kd.R_base2 HO383.out)); have n3_ := Aside0.mk (ho); clear HI0; clear HB; clear HK; clear HO383; have HI0 := n0_; have HB := n1_; have HK := n2_; have HO386 := n3_; clear n0_ n1_ n2_ n3_; clear ho hb hg hat; obtain ⟨Ao18, co18, eo18⟩ := Kd.R_slice HO386.out; subst eo18) | ((with_reducible refine gate_callee (f := 45) rfl ?_); refine goesL_ (some 13) rfl rfl Tryd.func45 (by kernel_rfl) rfl #[.pointer (some ⟨g, 0, none⟩), .int .i64 (y384.length : Int)] rfl (by (try simp only [List.map_toArray, List.map_cons, List.map_nil]); first | done | rfl | (simp only [List.length_drop, List.length_take]; rfl)) ?_; (with_reducible refine (spec_l1Cur_pick.calls g s0_0 s0_1 s0_2 (y384.length : Int) t387 t388 t389 w0 _ ?side1 ?side2 A4.out).mono ?_); (case side1 => repeat (first | (with_reducible first | exact HI0.out | apply IsS56.alloc | apply IsS56.drewN | apply IsS56.drew | apply IsS56.set_1 | apply IsS56.set_2) | exact HI0.out)); (case side2 => repeat (first | (with_reducible first | exact HB.out | apply below_alloc | apply pw_below_drewN | apply below_drew1 | refine below_set ?_ (IsS56.ge HI0.out)) | exact HB.out)); rintro e w19 ⟨rfl, hi, hb, hk⟩; refine ⟨_, rfl, ?_⟩; have n0_ := Aside0.mk (Kd.R_mono (Kd.R_keep (IsS56.apart (show IsS56 w0 _ g s0_0 s0_1 s0_2 from by repeat (first | (with_reducible first | exact HI0.out | apply IsS56.alloc | apply IsS56.drewN | apply IsS56.drew | apply IsS56.set_1 | apply IsS56.set_2) | exact HI0.out)) (by (with_reducible repeat (first | apply Kd.R_alloc | apply Kd.R_drewN | apply Kd.R_drew)); exact HO386.out) (by decide)) hk (fun _ h => h.2)) (fun _ h => h.1)); have n1_ := Aside0.mk (KeepBut.trans (by repeat (first | (with_reducible first | exact HK.out | apply KeepBut.set_ | apply keep_drewN | apply keep_drew | apply keep_alloc) | exact HK.out)) hk (.inl rfl)); have n2_ := Aside0.mk (hb); have n3_ := Aside0.mk (hi); clear HO386; clear HK; clear HB; clear HI0; have HO386 := n0_; have HK := n1_; have HB := n2_; have HI0 := n3_; clear n0_ n1_ n2_ n3_; (try clear hb); (try clear hb2); (try clear hk); (try clear hi)) | ((with_reducible refine gate_callee (f := 45) rfl ?_); refine goesL_ (some 15) rfl rfl Tryd.func45 (by kernel_rfl) rfl #[.pointer (some ⟨g, 0, none⟩), .int .i64 7] rfl (by (try simp only [List.map_toArray, List.map_cons, List.map_nil]); first | done | rfl | (simp only [List.length_drop, List.length_take]; rfl)) ?_; (with_reducible refine (spec_l1Cur_pick.calls g s0_0 t388 t389 7 t390 t391 t392 w0 _ ?side1 ?side2 A5.out).mono ?_); (case side1 => repeat (first | (with_reducible first | exact HI0.out | apply IsS56.alloc | apply IsS56.drewN | apply IsS56.drew | apply IsS56.set_1 | apply IsS56.set_2) | exact HI0.out)); (case side2 => repeat (first | (with_reducible first | exact HB.out | apply below_alloc | apply pw_below_drewN | apply below_drew1 | refine below_set ?_ (IsS56.ge HI0.out)) | exact HB.out)); rintro e w20 ⟨rfl, hi, hb, hk⟩; refine ⟨_, rfl, ?_⟩; have n0_ := Aside0.mk (Kd.R_mono (Kd.R_keep (IsS56.apart (show IsS56 w0 _ g s0_0 t388 t389 from by repeat (first | (with_reducible first | exact HI0.out | apply IsS56.alloc | apply IsS56.drewN | apply IsS56.drew | apply IsS56.set_1 | apply IsS56.set_2) | exact HI0.out)) (by (with_reducible repeat (first | apply Kd.R_alloc | apply Kd.R_drewN | apply Kd.R_drew)); exact HO386.out) (by decide)) hk (fun _ h => h.2)) (fun _ h => h.1)); have n1_ := Aside0.mk (KeepBut.trans (by repeat (first | (with_reducible first | exact HK.out | apply KeepBut.set_ | apply keep_drewN | apply keep_drew | apply keep_alloc) | exact HK.out)) hk (.inl rfl)); have n2_ := Aside0.mk (hb); have n3_ := Aside0.mk (hi); clear HO386; clear HK; clear HB; clear HI0; have HO386 := n0_; have HK := n1_; have HB := n2_; have HI0 := n3_; clear n0_ n1_ n2_ n3_; (try clear hb); (try clear hb2); (try clear hk); (try clear hi)) | ((with_reducible refine gate_callee (f := 60) rfl ?_); refine goesL_ (some 20) rfl rfl Tryd.func60 (by kernel_rfl) rfl #[.string (⟨#[110]⟩ : ByteArray), .int .i64 64] rfl (by (try simp only [List.map_toArray, List.map_cons, List.map_nil]); first | done | rfl | (simp only [List.length_drop, List.length_take]; rfl)) ?_; (with_reducible refine (spec_l1Times.calls k (⟨#[110]⟩ : ByteArray) 64 t393 _ A7.out).mono ?_); rintro e w21 ⟨rfl, hb⟩; refine ⟨_, rfl, ?_⟩; have n0_ := Aside0.mk (Kd.R_below (by (with_reducible repeat (first | apply Kd.R_alloc | apply Kd.R_drewN | apply Kd.R_drew)); exact HO386.out) hb); have n1_ := Aside0.mk (IsS56.below (by repeat (first | (with_reducible first | exact HI0.out | apply IsS56.alloc | apply IsS56.drewN | apply IsS56.drew | apply IsS56.set_1 | apply IsS56.set_2) | exact HI0.out)) hb); have n2_ := Aside0.mk (KeepBut.trans (by repeat (first | (with_reducible first | exact HK.out | apply KeepBut.set_ | apply keep_drewN | apply keep_drew | apply keep_alloc) | exact HK.out)) (KeepBut.of_below hb g none) (.inl rfl)); have n3_ := Aside0.mk (below_step (by repeat (first | (with_reducible first | exact HB.out | apply below_alloc | apply pw_below_drewN | apply below_drew1 | refine below_set ?_ (IsS56.ge HI0.out)) | exact HB.out)) hb); clear HO386; clear HI0; clear HK; clear HB; have HO386 := n0_; have HI0 := n1_; have HK := n2_; have HB := n3_; clear n0_ n1_ n2_ n3_; (try clear hb); (try clear hb2); (try clear hk); (try clear hi)) | ((with_reducible refine gate_callee (f := 60) rfl ?_); refine goesL_ (some 21) rfl rfl Tryd.func60 (by kernel_rfl) rfl #[.string (⟨#[110]⟩ : ByteArray), .int .i64 65] rfl (by (try simp only [List.map_toArray, List.map_cons, List.map_nil]); first | done | rfl | (simp only [List.length_drop, List.length_take]; rfl)) ?_; (with_reducible refine (spec_l1Times.calls k (⟨#[110]⟩ : ByteArray) 65 t394 _ A8.out).mono ?_); rintro e w22 ⟨rfl, hb⟩; refine ⟨_, rfl, ?_⟩; have n0_ := Aside0.mk (Kd.R_below (by (with_reducible repeat (first | apply Kd.R_alloc | apply Kd.R_drewN | apply Kd.R_drew)); exact HO386.out) hb); have n1_ := Aside0.mk (IsS56.below (by repeat (first | (with_reducible first | exact HI0.out | apply IsS56.alloc | apply IsS56.drewN | apply IsS56.drew | apply IsS56.set_1 | apply IsS56.set_2) | exact HI0.out)) hb); have n2_ := Aside0.mk (KeepBut.trans (by repeat (first | (with_reducible first | exact HK.out | apply KeepBut.set_ | apply keep_drewN | apply keep_drew | apply keep_alloc) | exact HK.out)) (KeepBut.of_below hb g none) (.inl rfl)); have n3_ := Aside0.mk (below_step (by repeat (first | (with_reducible first | exact HB.out | apply below_alloc | apply pw_below_drewN | apply below_drew1 | refine below_set ?_ (IsS56.ge HI0.out)) | exact HB.out)) hb); clear HO386; clear HI0; clear HK; clear HB; have HO386 := n0_; have HI0 := n1_; have HK := n2_; have HB := n3_; clear n0_ n1_ n2_ n3_; (try clear hb); (try clear hb2); (try clear hk); (try clear hi)) | ((with_reducible refine gate_dst (N := 22) rfl ?_); refine Kd.R_lit Kd.string _ 9 ?hg (N := 22) ?hd (xs := ([(⟨#[]⟩ : ByteArray), (⟨#[57, 97]⟩ : ByteArray), (⟨#[97, 45, 98]⟩ : ByteArray), (⟨#[106, 111, 98]⟩ : ByteArray), t393, t394, (⟨#[195, 169]⟩ : ByteArray)] : List ByteArray)) (inner := [.string (⟨#[]⟩ : ByteArray), .string (⟨#[57, 97]⟩ : ByteArray), .string (⟨#[97, 45, 98]⟩ : ByteArray), .string (⟨#[106, 111, 98]⟩ : ByteArray), .string t393, .string t394, .string (⟨#[195, 169]⟩ : ByteArray)]) (ok := fun _ => True) (okp := fun _ => True) ?hr ?hp (fun _ hk => hk) trivial (Below.refl _ _) (Nat.le_refl _) (by simp) ?_; (case hd => rfl); (case hg => rfl); (case hr => first | (go_simp; done) | (go_simp; rfl)); (case hp => exact (Reps.one (show Kd.M Kd.string _ _ _ (⟨#[]⟩ : ByteArray) [.string (⟨#[]⟩ : ByteArray)] from rfl) (Reps.one (show Kd.M Kd.string _ _ _ (⟨#[57, 97]⟩ : ByteArray) [.string (⟨#[57, 97]⟩ : ByteArray)] from rfl) (Reps.one (show Kd.M Kd.string _ _ _ (⟨#[97, 45, 98]⟩ : ByteArray) [.string (⟨#[97, 45, 98]⟩ : ByteArray)] from rfl) (Reps.one (show Kd.M Kd.string _ _ _ (⟨#[106, 111, 98]⟩ : ByteArray) [.string (⟨#[106, 111, 98]⟩ : ByteArray)] from rfl) (Reps.one (show Kd.M Kd.string _ _ _ t393 [.string t393] from rfl) (Reps.one (show Kd.M Kd.string _ _ _ t394 [.string t394] from rfl) (Reps.one (show Kd.M Kd.string _ _ _ (⟨#[195, 169]⟩ : ByteArray) [.string (⟨#[195, 169]⟩ : ByteArray)] from rfl) (Reps.none _ _))))))))); intro v396 w23 ho24 hb hg_ hnew_; clear hg_ hnew_; (first | rw [← Ny395.out] at ho24 | (simp only [Int.reduceToNat] at ho24; rw [← Ny395.out] at ho24)); have n0_ := Aside0.mk (Kd.R_below (by (with_reducible repeat (first | apply Kd.R_alloc | apply Kd.R_drewN | apply Kd.R_drew)); exact HO386.out) hb); have n1_ := Aside0.mk (Kd.R_lower ho24 (keep_size (w := w) (g := g) (row := none) (by repeat (first | (with_reducible first | exact HK.out | apply KeepBut.set_ | apply keep_drewN | apply keep_drew | apply keep_alloc) | exact HK.out)))); have n2_ := Aside0.mk (IsS56.below (by repeat (first | (with_reducible first | exact HI0.out | apply IsS56.alloc | apply IsS56.drewN | apply IsS56.drew | apply IsS56.set_1 | apply IsS56.set_2) | exact HI0.out)) hb); have n3_ := Aside0.mk (KeepBut.trans (by repeat (first | (with_reducible first | exact HK.out | apply KeepBut.set_ | apply keep_drewN | apply keep_drew | apply keep_alloc) | exact HK.out)) (KeepBut.of_below hb g none) (.inl rfl)); have n4_ := Aside0.mk (below_step (by repeat (first | (with_reducible first | exact HB.out | apply below_alloc | apply pw_below_drewN | apply below_drew1 | refine below_set ?_ (IsS56.ge HI0.out)) | exact HB.out)) hb); clear HO386; clear HI0; clear HK; clear HB; have HO386 := n0_; have HO397 := n1_; have HI0 := n2_; have HK := n3_; have HB := n4_; clear n0_ n1_ n2_ n3_ n4_; clear hb ho24) | ((with_reducible refine gate_callee (f := 45) rfl ?_); refine goesL_ (some 24) rfl rfl Tryd.func45 (by kernel_rfl) rfl #[.pointer (some ⟨g, 0, none⟩), .int .i64 7] rfl (by (try simp only [List.map_toArray, List.map_cons, List.map_nil]); first | done | rfl | (simp only [List.length_drop, List.length_take]; rfl)) ?_; (with_reducible refine (spec_l1Cur_pick.calls g s0_0 t391 t392 7 t398 t399 t400 w0 _ ?side1 ?side2 A9.out).mono ?_); (case side1 => repeat (first | (with_reducible first | exact HI0.out | apply IsS56.alloc | apply IsS56.drewN | apply IsS56.drew | apply IsS56.set_1 | apply IsS56.set_2) | exact HI0.out)); (case side2 => repeat (first | (with_reducible first | exact HB.out | apply below_alloc | apply pw_below_drewN | apply below_drew1 | refine below_set ?_ (IsS56.ge HI0.out)) | exact HB.out)); rintro e w25 ⟨rfl, hi, hb, hk⟩; refine ⟨_, rfl, ?_⟩; have n0_ := Aside0.mk (Kd.R_mono (Kd.R_keep (IsS56.apart (show IsS56 w0 _ g s0_0 t391 t392 from by repeat (first | (with_reducible first | exact HI0.out | apply IsS56.alloc | apply IsS56.drewN | apply IsS56.drew | apply IsS56.set_1 | apply IsS56.set_2) | exact HI0.out)) (by (with_reducible repeat (first | apply Kd.R_alloc | apply Kd.R_drewN | apply Kd.R_drew)); exact HO386.out) (by decide)) hk (fun _ h => h.2)) (fun _ h => h.1)); have n1_ := Aside0.mk (Kd.R_mono (Kd.R_keep (IsS56.apart (show IsS56 w0 _ g s0_0 t391 t392 from by repeat (first | (with_reducible first | exact HI0.out | apply IsS56.alloc | apply IsS56.drewN | apply IsS56.drew | apply IsS56.set_1 | apply IsS56.set_2) | exact HI0.out)) (by (with_reducible repeat (first | apply Kd.R_alloc | apply Kd.R_drewN | apply Kd.R_drew)); exact HO397.out) (by decide)) hk (fun _ h => h.2)) (fun _ h => h.1)); have n2_ := Aside0.mk (KeepBut.trans (by repeat (first | (with_reducible first | exact HK.out | apply KeepBut.set_ | apply keep_drewN | apply keep_drew | apply keep_alloc) | exact HK.out)) hk (.inl rfl)); have n3_ := Aside0.mk (hb); have n4_ := Aside0.mk (hi); clear HO386; clear HO397; clear HK; clear HB; clear HI0; have HO386 := n0_; have HO397 := n1_; have HK := n2_; have HB := n3_; have HI0 := n4_; clear n0_ n1_ n2_ n3_ n4_; (try clear hb); (try clear hb2); (try clear hk); (try clear hi); obtain ⟨Ao26, co26, eo26⟩ := Kd.R_slice HO397.out; subst eo26; have p401 : 0 ≤ (t398 : Int) := of_decide_eq_true (by first | (with_reducible assumption) | assumption); have q401 : t398 < (y395.length : Int) := of_decide_eq_true (by first | (with_reducible assumption) | assumption); obtain ⟨ad401, e401, hx401_0⟩ := Kd.at_string (Kd.R_reads' HO397.out).2.2 t398 p401 q401; cases e401; replace p401 := eq_true p401; replace q401 := eq_true q401; have p14 : 0 ≤ (t387 : Int) := of_decide_eq_true (by first | (with_reducible assumption) | assumption); have q14 : (t387 : Int) < ((y384.length : Int) : Int) := of_decide_eq_true (by first | (with_reducible assumption) | assumption); obtain ⟨go14, co14, eo14, gb14, gl14, cl14, HG14⟩ := Kd.R_form HO386.out (by omega); (first | cases eo14 | (injection eo14 with ea_ en_ ec_; (first | subst ea_ | (injection ea_ with ea_; subst ea_)); subst ec_; clear en_)); have GB14 := Aside0.mk gb14; have GG14 := Aside0.mk HG14; clear gb14 gl14 HG14; obtain ⟨ce14, hcl14, hM14, hcc14, hfr14⟩ := Kd.R_elem HO386.out z38 (t387 : Int) p14 q14; obtain rfl := k38_openM hM14; have hx14_0 : w25.cell? ⟨go14, (t387 : Int).toNat * 2, none⟩ = some (.string ((rd_T38 y384 t387).f0)) := hcc14 0 _ rfl; have hx14_1 : w25.cell? ⟨go14, (t387 : Int).toNat * 2 + 1, none⟩ = some (.string ((rd_T38 y384 t387).f1)) := hcc14 1 _ rfl; have hf14_0 : w25.frozen? ⟨go14, (t387 : Int).toNat * 2, none⟩ = false := hfr14 0; have hf14_1 : w25.frozen? ⟨go14, (t387 : Int).toNat * 2 + 1, none⟩ = false := hfr14 1; clear hcl14 hcc14 hfr14 hM14; replace p14 := eq_true p14; replace q14 := eq_true q14; have HX27 := Aside0.mk (show Kd.R k38 38 w25 w.heap.size (fun _ => True) (.slice (some ⟨go14, 0, none⟩) y384.length co18) y384 from (by (with_reducible repeat (first | apply Kd.R_alloc | apply Kd.R_drewN | apply Kd.R_drew)); exact HO386.out)); obtain ⟨ce27, hcl27, hM27, hcc27, hfr27⟩ := Kd.R_elem HX27.out z38 (t387 : Int) (of_decide_eq_true (by first | (with_reducible assumption) | assumption)) (by have h_ : (t387 : Int) < ((y384.length : Int) : Int) := of_decide_eq_true (by first | (with_reducible assumption) | assumption); first | exact h_ | (have e_ := (Kd.R_reads' HO386.out).1; omega) | simpa using h_); obtain rfl := k38_openM hM27; have HP27 := Kd.R_seg HX27.out (t387 : Int) (of_decide_eq_true (by first | (with_reducible assumption) | assumption)) (by have h_ : (t387 : Int) < ((y384.length : Int) : Int) := of_decide_eq_true (by first | (with_reducible assumption) | assumption); first | exact h_ | (have e_ := (Kd.R_reads' HO386.out).1; omega) | simpa using h_) (seg := [.string (rdOf ByteArray.empty y395 t398)]) (j := 0) hcl27 hcc27 (show 1 ≤ 2 from by decide) (x' := (⟨rdOf ByteArray.empty y395 t398, (rd_T38 y384 t387).f1⟩ : S38)) (k38_mkM _ _ _ (⟨rdOf ByteArray.empty y395 t398, (rd_T38 y384 t387).f1⟩ : S38) ) (fun _ hk => hk); have hx27_0 := hcc27 0 _ rfl; (try simp only [show (k38).sz = 2 from rfl, Nat.mul_one, Nat.add_zero] at hx27_0); have hf27_0 := hfr27 0; (try simp only [show (k38).sz = 2 from rfl, Nat.mul_one, Nat.add_zero] at hf27_0); clear hcl27 hcc27 hfr27 hM27) | ((with_reducible refine gate_store (t := 9) (p := 28) rfl ?_); refine store_event (t := 9) (p := 28) (v := ?vo_w28) (w1 := (w25.setCell ⟨go14, (t387 : Int).toNat * 2, none⟩ (.string (rdOf ByteArray.empty y395 t398)))) ?hg ?ho ?hn ?hr ?_; (case ho => rfl); (case hg => rfl); (case hn => rfl); (case hr => first | (go_simp; done) | (go_simp; rfl)); intro w28 hw; have hg : w25.grownBy w28 (some go14) := (by rw [hw]; exact HP27.2); have hp_ : Kd.R k38 38 w28 w.heap.size (fun _ => True) (.slice (some ⟨go14, 0, none⟩) y384.length co18) y402 := (by rw [hw, Ny402.out]; exact HP27.1); clear HP27; have n0_ := Aside0.mk (IsS56.grown (by repeat (first | (with_reducible first | exact HI0.out | apply IsS56.alloc | apply IsS56.drewN | apply IsS56.drew | apply IsS56.set_1 | apply IsS56.set_2) | exact HI0.out)) hg (IsS56.own_ne HI0.out HO386.out (by decide))); have n1_ := Aside0.mk (hp_); have n2_ := Aside0.mk (Kd.R_over' (v := (.slice (some ⟨go14, 0, none⟩) y384.length co18)) (by (with_reducible repeat (first | apply Kd.R_alloc | apply Kd.R_drewN | apply Kd.R_drew)); exact HO397.out) (Kd.R_typed HO386.out) (by decide) hg); have n3_ := Aside0.mk ((by rw [hw]; exact below_set (HB.out) (Nat.le_trans HL.out GB14.out) : Below w0.heap.size w0 w28)); have n4_ := Aside0.mk (KeepBut.trans (by repeat (first | (with_reducible first | exact HK.out | apply KeepBut.set_ | apply keep_drewN | apply keep_drew | apply keep_alloc) | exact HK.out)) (KeepBut.of_grown hg g) (Kd.R_base2 HO386.out)); clear HI0; clear HO386; clear HO397; clear HB; clear HK; have HI0 := n0_; have HO386 := n1_; have HO397 := n2_; have HB := n3_; have HK := n4_; clear n0_ n1_ n2_ n3_ n4_; clear hg hw hp_))
              go_ret
              exact ⟨_, by first | rfl | (simp [errW_none, errW_some] <;> rfl) | (simp [*, errW_none, errW_some] <;> rfl), by (with_reducible repeat (first | apply Kd.R_alloc | apply Kd.R_drewN | apply Kd.R_drew)); exact HO386.out, by repeat (first | (with_reducible first | exact HI0.out | apply IsS56.alloc | apply IsS56.drewN | apply IsS56.drew | apply IsS56.set_1 | apply IsS56.set_2) | exact HI0.out), by repeat (first | (with_reducible first | exact HB.out | apply below_alloc | apply pw_below_drewN | apply below_drew1 | refine below_set ?_ (IsS56.ge HI0.out)) | exact HB.out), by repeat (first | (with_reducible first | exact HK.out | apply KeepBut.set_ | apply keep_drewN | apply keep_drew | apply keep_alloc) | exact HK.out)⟩
            · rw [if_neg c13] at H
              exact absurd H (by simp)
          · rw [if_neg c12] at H
            exact absurd H (by simp)
        · rw [if_neg c11] at H
          exact absurd H (by simp)
      · rw [if_neg c10] at H
        exact absurd H (by simp)
    · rw [if_neg c6] at H
      have c6b0 : (t390 == 0) = false := beq_eq_false_iff_ne.mpr c6
      have c6b1 : (t390 != 0) = true := bne_iff_ne.mpr c6
      have HC29 := Aside0.mk H
      clear H
      go_enter Tryd.func46, Tryd.ntmps46
      go_upto_if 29 with (first | ((with_reducible refine gate_dst (N := 7) rfl ?_); refine Kd.R_lit k38 _ 38 ?hg (N := 7) ?hd (xs := ([] : List (S38))) (inner := []) (ok := fun _ => True) (okp := fun _ => True) ?hr ?hp (fun _ hk => hk) trivial (Below.refl _ _) (Nat.le_refl _) (by simp) ?_; (case hd => rfl); (case hg => rfl); (case hr => first | (go_simp; done) | (go_simp; rfl)); (case hp => exact (Reps.none _ _)); intro v382 w30 ho31 hb hg_ hnew_; clear hg_ hnew_; (first | rw [← Ny381.out] at ho31 | (simp only [Int.reduceToNat] at ho31; rw [← Ny381.out] at ho31)); have n0_ := Aside0.mk (Kd.R_lower ho31 (keep_size (w := w) (g := g) (row := none) (by repeat (first | (with_reducible first | exact HK.out | apply KeepBut.set_ | apply keep_drewN | apply keep_drew | apply keep_alloc) | exact HK.out)))); have n1_ := Aside0.mk (IsS56.below (by repeat (first | (with_reducible first | exact HI0.out | apply IsS56.alloc | apply IsS56.drewN | apply IsS56.drew | apply IsS56.set_1 | apply IsS56.set_2) | exact HI0.out)) hb); have n2_ := Aside0.mk (KeepBut.trans (by repeat (first | (with_reducible first | exact HK.out | apply KeepBut.set_ | apply keep_drewN | apply keep_drew | apply keep_alloc) | exact HK.out)) (KeepBut.of_below hb g none) (.inl rfl)); have n3_ := Aside0.mk (below_step (by repeat (first | (with_reducible first | exact HB.out | apply below_alloc | apply pw_below_drewN | apply below_drew1 | refine below_set ?_ (IsS56.ge HI0.out)) | exact HB.out)) hb); clear HI0; clear HK; clear HB; have HO383 := n0_; have HI0 := n1_; have HK := n2_; have HB := n3_; clear n0_ n1_ n2_ n3_; clear hb ho31) | ((with_reducible refine gate_builtin (b := .append) (xs := #[.tmp 7, .tmp 8]) rfl ?_); at_builtin; refine Kd.R_append_rows k38 w.heap.size rfl (.tmp 7) (.tmp 8) 24 38 (.agg #[(.string ⟨#[]⟩), (.string ⟨#[]⟩)]) 32 rfl Tryd.underlying24 info38 rfl (by decide) (by omega) v382 y381 l1 _ _ _ (fun _ => True) (fun _ => False) rfl rfl ?aO ?aR (fun _ _ h => h) (fun _ h => h.elim) ?aF (Below.refl _ _) ?aS ?aL ?_; (case aR => exact Kd.C_foot_now HR1.out (by repeat (first | (with_reducible first | exact HK.out | apply KeepBut.set_ | apply keep_drewN | apply keep_drew | apply keep_alloc) | exact HK.out))); (case aF => exact (fun _ _ => trivial)); (case aO => exact (by (with_reducible repeat (first | apply Kd.R_alloc | apply Kd.R_drewN | apply Kd.R_drew)); exact HO383.out)); (case aS => exact (keep_size (w := w) (g := g) (row := none) (by repeat (first | (with_reducible first | exact HK.out | apply KeepBut.set_ | apply keep_drewN | apply keep_drew | apply keep_alloc) | exact HK.out)))); (case aL => have := LMc3.out; omega); intro v385 w32 ho hb hg hat; rw [← Ny384.out] at ho; have n0_ := Aside0.mk (IsS56.grown (by repeat (first | (with_reducible first | exact HI0.out | apply IsS56.alloc | apply IsS56.drewN | apply IsS56.drew | apply IsS56.set_1 | apply IsS56.set_2) | exact HI0.out)) hg (IsS56.own_ne HI0.out HO383.out (by decide))); have n1_ := Aside0.mk (below_weaken (by repeat (first | (with_reducible first | exact HB.out | apply below_alloc | apply pw_below_drewN | apply below_drew1 | refine below_set ?_ (IsS56.ge HI0.out)) | exact HB.out)) HL.out hb); have n2_ := Aside0.mk (KeepBut.trans (by repeat (first | (with_reducible first | exact HK.out | apply KeepBut.set_ | apply keep_drewN | apply keep_drew | apply keep_alloc) | exact HK.out)) (KeepBut.of_grown hg g) (Kd.R_base2 HO383.out)); have n3_ := Aside0.mk (ho); clear HI0; clear HB; clear HK; clear HO383; have HI0 := n0_; have HB := n1_; have HK := n2_; have HO386 := n3_; clear n0_ n1_ n2_ n3_; clear ho hb hg hat; obtain ⟨Ao33, co33, eo33⟩ := Kd.R_slice HO386.out; subst eo33) | ((with_reducible refine gate_callee (f := 45) rfl ?_); refine goesL_ (some 13) rfl rfl Tryd.func45 (by kernel_rfl) rfl #[.pointer (some ⟨g, 0, none⟩), .int .i64 (y384.length : Int)] rfl (by (try simp only [List.map_toArray, List.map_cons, List.map_nil]); first | done | rfl | (simp only [List.length_drop, List.length_take]; rfl)) ?_; (with_reducible refine (spec_l1Cur_pick.calls g s0_0 s0_1 s0_2 (y384.length : Int) t387 t388 t389 w0 _ ?side1 ?side2 A4.out).mono ?_); (case side1 => repeat (first | (with_reducible first | exact HI0.out | apply IsS56.alloc | apply IsS56.drewN | apply IsS56.drew | apply IsS56.set_1 | apply IsS56.set_2) | exact HI0.out)); (case side2 => repeat (first | (with_reducible first | exact HB.out | apply below_alloc | apply pw_below_drewN | apply below_drew1 | refine below_set ?_ (IsS56.ge HI0.out)) | exact HB.out)); rintro e w34 ⟨rfl, hi, hb, hk⟩; refine ⟨_, rfl, ?_⟩; have n0_ := Aside0.mk (Kd.R_mono (Kd.R_keep (IsS56.apart (show IsS56 w0 _ g s0_0 s0_1 s0_2 from by repeat (first | (with_reducible first | exact HI0.out | apply IsS56.alloc | apply IsS56.drewN | apply IsS56.drew | apply IsS56.set_1 | apply IsS56.set_2) | exact HI0.out)) (by (with_reducible repeat (first | apply Kd.R_alloc | apply Kd.R_drewN | apply Kd.R_drew)); exact HO386.out) (by decide)) hk (fun _ h => h.2)) (fun _ h => h.1)); have n1_ := Aside0.mk (KeepBut.trans (by repeat (first | (with_reducible first | exact HK.out | apply KeepBut.set_ | apply keep_drewN | apply keep_drew | apply keep_alloc) | exact HK.out)) hk (.inl rfl)); have n2_ := Aside0.mk (hb); have n3_ := Aside0.mk (hi); clear HO386; clear HK; clear HB; clear HI0; have HO386 := n0_; have HK := n1_; have HB := n2_; have HI0 := n3_; clear n0_ n1_ n2_ n3_; (try clear hb); (try clear hb2); (try clear hk); (try clear hi)) | ((with_reducible refine gate_callee (f := 45) rfl ?_); refine goesL_ (some 15) rfl rfl Tryd.func45 (by kernel_rfl) rfl #[.pointer (some ⟨g, 0, none⟩), .int .i64 7] rfl (by (try simp only [List.map_toArray, List.map_cons, List.map_nil]); first | done | rfl | (simp only [List.length_drop, List.length_take]; rfl)) ?_; (with_reducible refine (spec_l1Cur_pick.calls g s0_0 t388 t389 7 t390 t391 t392 w0 _ ?side1 ?side2 A5.out).mono ?_); (case side1 => repeat (first | (with_reducible first | exact HI0.out | apply IsS56.alloc | apply IsS56.drewN | apply IsS56.drew | apply IsS56.set_1 | apply IsS56.set_2) | exact HI0.out)); (case side2 => repeat (first | (with_reducible first | exact HB.out | apply below_alloc | apply pw_below_drewN | apply below_drew1 | refine below_set ?_ (IsS56.ge HI0.out)) | exact HB.out)); rintro e w35 ⟨rfl, hi, hb, hk⟩; refine ⟨_, rfl, ?_⟩; have n0_ := Aside0.mk (Kd.R_mono (Kd.R_keep (IsS56.apart (show IsS56 w0 _ g s0_0 t388 t389 from by repeat (first | (with_reducible first | exact HI0.out | apply IsS56.alloc | apply IsS56.drewN | apply IsS56.drew | apply IsS56.set_1 | apply IsS56.set_2) | exact HI0.out)) (by (with_reducible repeat (first | apply Kd.R_alloc | apply Kd.R_drewN | apply Kd.R_drew)); exact HO386.out) (by decide)) hk (fun _ h => h.2)) (fun _ h => h.1)); have n1_ := Aside0.mk (KeepBut.trans (by repeat (first | (with_reducible first | exact HK.out | apply KeepBut.set_ | apply keep_drewN | apply keep_drew | apply keep_alloc) | exact HK.out)) hk (.inl rfl)); have n2_ := Aside0.mk (hb); have n3_ := Aside0.mk (hi); clear HO386; clear HK; clear HB; clear HI0; have HO386 := n0_; have HK := n1_; have HB := n2_; have HI0 := n3_; clear n0_ n1_ n2_ n3_; (try clear hb); (try clear hb2); (try clear hk); (try clear hi)))
      (try simp only [Act.put, List.setIfInBounds_toArray, List.set_cons_zero, List.set_cons_succ])
      go_cut [29] (fun v29 wc => ∃ (kq : Nat) (x29_28 : Bool), v29 = .bool x29_28 ∧ Aside0 (spec_l3SpoilLabels.j0 kq y384 t387 t390 x29_28 s0_0 t391 t392 = some (r1, r2, r3)) ∧ Aside0 (kq ≤ k) ∧ Aside0 (Kd.R k38 38 wc w.heap.size (fun _ => True) (.slice Ao33 y384.length co33) y384) ∧ Aside0 (IsS56 w0 wc g s0_0 t391 t392) ∧ Aside0 (KeepBut w wc g none) ∧ Aside0 (Below w0.heap.size w0 wc))
      case first =>
        have H := HC29.out
        clear HC29
        by_cases c36 : t390 = 1
        · rw [if_pos c36] at H
          have c36b0 : (t390 == 1) = true := beq_iff_eq.mpr c36
          have c36b1 : (t390 != 1) = false := bne_eq_false_iff_eq.mpr c36
          clear c36
          (first | rw [c36b0] | (simp only [i64_w, i32_w]; rw [c36b0]) | skip)
          have H' := Aside0.mk H
          clear H
          go_wp2
          go_meet
          case rel => exact ⟨_, ((t390 == 1)), (by first | rfl | (simp; done) | (simp [*]; done)), H', ⟨by first | omega | exact Nat.le_refl _⟩, ⟨by (with_reducible repeat (first | apply Kd.R_alloc | apply Kd.R_drewN | apply Kd.R_drew)); exact HO386.out⟩, ⟨by repeat (first | (with_reducible first | exact HI0.out | apply IsS56.alloc | apply IsS56.drewN | apply IsS56.drew | apply IsS56.set_1 | apply IsS56.set_2) | exact HI0.out)⟩, ⟨by repeat (first | (with_reducible first | exact HK.out | apply KeepBut.set_ | apply keep_drewN | apply keep_drew | apply keep_alloc) | exact HK.out)⟩, ⟨by repeat (first | (with_reducible first | exact HB.out | apply below_alloc | apply pw_below_drewN | apply below_drew1 | refine below_set ?_ (IsS56.ge HI0.out)) | exact HB.out)⟩⟩
        · rw [if_neg c36] at H
          have c36b0 : (t390 == 1) = false := beq_eq_false_iff_ne.mpr c36
          have c36b1 : (t390 != 1) = true := bne_iff_ne.mpr c36
          (first | rw [c36b0] | (simp only [i64_w, i32_w]; rw [c36b0]) | skip)
          have H' := Aside0.mk H
          clear H
          go_wp2
          go_meet
          case rel => exact ⟨_, ((t390 == 2)), (by first | rfl | (simp; done) | (simp [*]; done)), H', ⟨by first | omega | exact Nat.le_refl _⟩, ⟨by (with_reducible repeat (first | apply Kd.R_alloc | apply Kd.R_drewN | apply Kd.R_drew)); exact HO386.out⟩, ⟨by repeat (first | (with_reducible first | exact HI0.out | apply IsS56.alloc | apply IsS56.drewN | apply IsS56.drew | apply IsS56.set_1 | apply IsS56.set_2) | exact HI0.out)⟩, ⟨by repeat (first | (with_reducible first | exact HK.out | apply KeepBut.set_ | apply keep_drewN | apply keep_drew | apply keep_alloc) | exact HK.out)⟩, ⟨by repeat (first | (with_reducible first | exact HB.out | apply below_alloc | apply pw_below_drewN | apply below_drew1 | refine below_set ?_ (IsS56.ge HI0.out)) | exact HB.out)⟩⟩
      case rest =>
        clear HC29
        try clear c1
        try clear p1
        try clear q1
        try clear hx1
        try clear c2
        try clear p2
        try clear hx2
        try clear hf2
        try clear c3
        try clear c4
        try clear p4
        try clear q4
        try clear hx4
        try clear c6
        try clear c6b0
        try clear c6b1
        try clear c10
        try clear c10b0
        try clear c11
        try clear c11b0
        try clear c12
        try clear c12b0
        try clear c13
        try clear c13b0
        try clear c14
        try clear p14
        try clear q14
        try clear hx14
        try clear hf14
        try clear c27
        try clear hx27
        try clear hf27
        try clear c36
        try clear c36b0
        try clear c36b1
        try clear hx14_0
        try clear hx14_1
        try clear hx27_0
        try clear hx401_0
        try clear p14
        try clear p401
        try clear q14
        try clear q401
        obtain ⟨kq, x29_28, rfl, HA, HJ28, HO_1, HI0, HK, HB⟩ := hcut
        cases kq with
        | zero => exact absurd HA.out (by simp [spec_l3SpoilLabels.j0])
        | succ kj28 =>
          have H := HA.out
          clear HA
          simp only [spec_l3SpoilLabels.j0] at H
          by_cases c37 : x29_28 = true
          · subst c37
            have H1 : ((spec_l3BadValue.f kj28 s0_0 t391 t392).bind fun bt403 => (if 0 ≤ t387 then (if t387 < (y384.length : Int) then (some ((y384.set (t387 : Int).toNat (⟨(rd_T38 y384 t387).f0, bt403.1⟩ : S38)), bt403.2.1, bt403.2.2)) else (none)) else (none))) = some (r1, r2, r3) := by rw [if_pos rfl] at H; exact H
            clear H
            have H := H1
            clear H1
            replace H := Option.bind_eq_some_iff.mp H
            obtain ⟨⟨t403, t404, t405⟩, A380, H⟩ := H
            replace H : (if 0 ≤ t387 then (if t387 < (y384.length : Int) then (some ((y384.set (t387 : Int).toNat (⟨(rd_T38 y384 t387).f0, t403⟩ : S38)), t404, t405)) else (none)) else (none)) = some (r1, r2, r3) := H
            have A38 := Aside0.mk A380
            clear A380
            by_cases c39 : 0 ≤ t387
            · rw [if_pos c39] at H
              have c39b0 : decide (0 ≤ t387) = true := decide_eq_true c39
              clear c39
              by_cases c40 : t387 < (y384.length : Int)
              · rw [if_pos c40] at H
                have c40b0 : decide (t387 < (y384.length : Int)) = true := decide_eq_true c40
                clear c40
                obtain ⟨y406, hy406⟩ : ∃ y_ : List (S38), y_ = (y384.set (t387 : Int).toNat (⟨(rd_T38 y384 t387).f0, t403⟩ : S38)) := ⟨_, rfl⟩
                replace H : (some (y406, t404, t405)) = some (r1, r2, r3) := by first | (rw [hy406]; with_reducible exact H) | (have H2_ := (Option.bind_some _ _).symm.trans H; rw [hy406]; with_reducible exact H2_) | (have H2_ := (Option.bind_some _ _).symm.trans H; with_reducible exact H2_) | with_reducible exact H | (rw [hy406]; exact H) | exact H
                have Ny406 := Aside0.mk hy406
                clear hy406
                simp only [Option.some.injEq, Prod.mk.injEq] at H
                obtain ⟨rfl, rfl, rfl⟩ := H
                go_wp2_with (first | ((with_reducible refine gate_callee (f := 61) rfl ?_); refine goesL_ (some 35) rfl rfl Tryd.func61 (by kernel_rfl) rfl #[.pointer (some ⟨g, 0, none⟩)] rfl (by (try simp only [List.map_toArray, List.map_cons, List.map_nil]); first | done | rfl | (simp only [List.length_drop, List.length_take]; rfl)) ?_; (with_reducible refine (spec_l3BadValue.calls kj28 g s0_0 t391 t392 t403 t404 t405 w0 _ ?side1 ?side2 A38.out).mono ?_); (case side1 => repeat (first | (with_reducible first | exact HI0.out | apply IsS56.alloc | apply IsS56.drewN | apply IsS56.drew | apply IsS56.set_1 | apply IsS56.set_2) | exact HI0.out)); (case side2 => repeat (first | (with_reducible first | exact HB.out | apply below_alloc | apply pw_below_drewN | apply below_drew1 | refine below_set ?_ (IsS56.ge HI0.out)) | exact HB.out)); rintro e w42 ⟨rfl, hi, hb, hk⟩; refine ⟨_, rfl, ?_⟩; have n0_ := Aside0.mk (Kd.R_mono (Kd.R_keep (IsS56.apart (show IsS56 w0 _ g s0_0 t391 t392 from by repeat (first | (with_reducible first | exact HI0.out | apply IsS56.alloc | apply IsS56.drewN | apply IsS56.drew | apply IsS56.set_1 | apply IsS56.set_2) | exact HI0.out)) (by (with_reducible repeat (first | apply Kd.R_alloc | apply Kd.R_drewN | apply Kd.R_drew)); exact HO_1.out) (by decide)) hk (fun _ h => h.2)) (fun _ h => h.1)); have n1_ := Aside0.mk (KeepBut.trans (by repeat (first | (with_reducible first | exact HK.out | apply KeepBut.set_ | apply keep_drewN | apply keep_drew | apply keep_alloc) | exact HK.out)) hk (.inl rfl)); have n2_ := Aside0.mk (hb); have n3_ := Aside0.mk (hi); clear HO_1; clear HK; clear HB; clear HI0; have HO_1 := n0_; have HK := n1_; have HB := n2_; have HI0 := n3_; clear n0_ n1_ n2_ n3_; (try clear hb); (try clear hb2); (try clear hk); (try clear hi); have p41 : 0 ≤ (t387 : Int) := of_decide_eq_true (by first | (with_reducible assumption) | assumption); have q41 : (t387 : Int) < ((y384.length : Int) : Int) := of_decide_eq_true (by first | (with_reducible assumption) | assumption); obtain ⟨go41, co41, eo41, gb41, gl41, cl41, HG41⟩ := Kd.R_form HO_1.out (by omega); (first | cases eo41 | (injection eo41 with ea_ en_ ec_; (first | subst ea_ | (injection ea_ with ea_; subst ea_)); subst ec_; clear en_)); have GB41 := Aside0.mk gb41; have GG41 := Aside0.mk HG41; clear gb41 gl41 HG41; obtain ⟨ce41, hcl41, hM41, hcc41, hfr41⟩ := Kd.R_elem HO_1.out z38 (t387 : Int) p41 q41; obtain rfl := k38_openM hM41; have hx41_0 : w42.cell? ⟨go41, (t387 : Int).toNat * 2, none⟩ = some (.string ((rd_T38 y384 t387).f0)) := hcc41 0 _ rfl; have hx41_1 : w42.cell? ⟨go41, (t387 : Int).toNat * 2 + 1, none⟩ = some (.string ((rd_T38 y384 t387).f1)) := hcc41 1 _ rfl; have hf41_0 : w42.frozen? ⟨go41, (t387 : Int).toNat * 2, none⟩ = false := hfr41 0; have hf41_1 : w42.frozen? ⟨go41, (t387 : Int).toNat * 2 + 1, none⟩ = false := hfr41 1; clear hcl41 hcc41 hfr41 hM41; replace p41 := eq_true p41; replace q41 := eq_true q41; have HX43 := Aside0.mk (show Kd.R k38 38 w42 w.heap.size (fun _ => True) (.slice (some ⟨go41, 0, none⟩) y384.length co33) y384 from (by (with_reducible repeat (first | apply Kd.R_alloc | apply Kd.R_drewN | apply Kd.R_drew)); exact HO_1.out)); obtain ⟨ce43, hcl43, hM43, hcc43, hfr43⟩ := Kd.R_elem HX43.out z38 (t387 : Int) (of_decide_eq_true (by first | (with_reducible assumption) | assumption)) (by have h_ : (t387 : Int) < ((y384.length : Int) : Int) := of_decide_eq_true (by first | (with_reducible assumption) | assumption); first | exact h_ | (have e_ := (Kd.R_reads' HO_1.out).1; omega) | simpa using h_); obtain rfl := k38_openM hM43; have HP43 := Kd.R_seg HX43.out (t387 : Int) (of_decide_eq_true (by first | (with_reducible assumption) | assumption)) (by have h_ : (t387 : Int) < ((y384.length : Int) : Int) := of_decide_eq_true (by first | (with_reducible assumption) | assumption); first | exact h_ | (have e_ := (Kd.R_reads' HO_1.out).1; omega) | simpa using h_) (seg := [.string t403]) (j := 1) hcl43 hcc43 (show 2 ≤ 2 from by decide) (x' := (⟨(rd_T38 y384 t387).f0, t403⟩ : S38)) (k38_mkM _ _ _ (⟨(rd_T38 y384 t387).f0, t403⟩ : S38) ) (fun _ hk => hk); have hx43_1 := hcc43 1 _ rfl; (try simp only [show (k38).sz = 2 from rfl, Nat.mul_one, Nat.add_zero] at hx43_1); have hf43_1 := hfr43 1; (try simp only [show (k38).sz = 2 from rfl, Nat.mul_one, Nat.add_zero] at hf43_1); clear hcl43 hcc43 hfr43 hM43) | ((with_reducible refine gate_store (t := 9) (p := 37) rfl ?_); refine store_event (t := 9) (p := 37) (v := ?vo_w44) (w1 := (w42.setCell ⟨go41, (t387 : Int).toNat * 2 + 1, none⟩ (.string t403))) ?hg ?ho ?hn ?hr ?_; (case ho => rfl); (case hg => rfl); (case hn => rfl); (case hr => first | (go_simp; done) | (go_simp; rfl)); intro w44 hw; have hg : w42.grownBy w44 (some go41) := (by rw [hw]; exact HP43.2); have hp_ : Kd.R k38 38 w44 w.heap.size (fun _ => True) (.slice (some ⟨go41, 0, none⟩) y384.length co33) y406 := (by rw [hw, Ny406.out]; exact HP43.1); clear HP43; have n0_ := Aside0.mk (hp_); have n1_ := Aside0.mk (IsS56.grown (by repeat (first | (with_reducible first | exact HI0.out | apply IsS56.alloc | apply IsS56.drewN | apply IsS56.drew | apply IsS56.set_1 | apply IsS56.set_2) | exact HI0.out)) hg (IsS56.own_ne HI0.out HO_1.out (by decide))); have n2_ := Aside0.mk ((by rw [hw]; exact below_set (HB.out) (Nat.le_trans HL.out GB41.out) : Below w0.heap.size w0 w44)); have n3_ := Aside0.mk (KeepBut.trans (by repeat (first | (with_reducible first | exact HK.out | apply KeepBut.set_ | apply keep_drewN | apply keep_drew | apply keep_alloc) | exact HK.out)) (KeepBut.of_grown hg g) (Kd.R_base2 HO_1.out)); clear HO_1; clear HI0; clear HB; clear HK; have HO_1 := n0_; have HI0 := n1_; have HB := n2_; have HK := n3_; clear n0_ n1_ n2_ n3_; clear hg hw hp_))
                go_ret
                exact ⟨_, by first | rfl | (simp [errW_none, errW_some] <;> rfl) | (simp [*, errW_none, errW_some] <;> rfl), by (with_reducible repeat (first | apply Kd.R_alloc | apply Kd.R_drewN | apply Kd.R_drew)); exact HO_1.out, by repeat (first | (with_reducible first | exact HI0.out | apply IsS56.alloc | apply IsS56.drewN | apply IsS56.drew | apply IsS56.set_1 | apply IsS56.set_2) | exact HI0.out), by repeat (first | (with_reducible first | exact HB.out | apply below_alloc | apply pw_below_drewN | apply below_drew1 | refine below_set ?_ (IsS56.ge HI0.out)) | exact HB.out), by repeat (first | (with_reducible first | exact HK.out | apply KeepBut.set_ | apply keep_drewN | apply keep_drew | apply keep_alloc) | exact HK.out)⟩
              · rw [if_neg c40] at H
                exact absurd H (by simp)
            · rw [if_neg c39] at H
              exact absurd H (by simp)
          · replace c37 := Bool.eq_false_iff.mpr c37
            subst c37
            have H1 : (if t390 = 3 then (if 0 ≤ t387 then (if t387 < (y384.length : Int) then (if y384.length < 4398046511104 then (some ((y384 ++ [(⟨(rd_T38 y384 t387).f0, (⟨#[119]⟩ : ByteArray)⟩ : S38)]), t391, t392)) else (none)) else (none)) else (none)) else (if t390 = 4 then (if 0 ≤ t387 then (if t387 < (y384.length : Int) then (some ((y384.set (t387 : Int).toNat (⟨(rd_T38 y384 t387).f0, (⟨#[]⟩ : ByteArray)⟩ : S38)), t391, t392)) else (none)) else (none)) else (if t390 = 5 then (if 0 ≤ t387 then (if t387 ≤ (y384.length : Int) then (if 0 ≤ (wrap64 (t387 + 1)) then (if (wrap64 (t387 + 1)) ≤ (y384.length : Int) then (some ((y384.eraseIdx (t387 : Int).toNat), t391, t392)) else (none)) else (none)) else (none)) else (none)) else (if t390 = 6 then ((spec_l1Cur_pick.f s0_0 t391 t392 2).bind fun bt423 => (spec_l3SpoilLabels.l0 kj28 y384 (wrap64 (16 + bt423.1)) s0_0 bt423.2.1 bt423.2.2)) else (some (y384, t391, t392)))))) = some (r1, r2, r3) := by rw [if_neg (show ¬ (false = true) by decide)] at H; exact H
            clear H
            have H := H1
            clear H1
            by_cases c45 : t390 = 3
            · rw [if_pos c45] at H
              have c45b0 : (t390 == 3) = true := beq_iff_eq.mpr c45
              have c45b1 : (t390 != 3) = false := bne_eq_false_iff_eq.mpr c45
              clear c45
              by_cases c46 : 0 ≤ t387
              · rw [if_pos c46] at H
                have c46b0 : decide (0 ≤ t387) = true := decide_eq_true c46
                clear c46
                by_cases c47 : t387 < (y384.length : Int)
                · rw [if_pos c47] at H
                  have c47b0 : decide (t387 < (y384.length : Int)) = true := decide_eq_true c47
                  clear c47
                  by_cases c48 : y384.length < 4398046511104
                  · rw [if_pos c48] at H
                    have LMc48 := Aside0.mk c48
                    clear c48
                    obtain ⟨y408, hy408⟩ : ∃ y_ : List (S38), y_ = (y384 ++ [(⟨(rd_T38 y384 t387).f0, (⟨#[119]⟩ : ByteArray)⟩ : S38)]) := ⟨_, rfl⟩
                    replace H : (some (y408, t391, t392)) = some (r1, r2, r3) := by first | (rw [hy408]; with_reducible exact H) | (have H2_ := (Option.bind_some _ _).symm.trans H; rw [hy408]; with_reducible exact H2_) | (have H2_ := (Option.bind_some _ _).symm.trans H; with_reducible exact H2_) | with_reducible exact H | (rw [hy408]; exact H) | exact H
                    have Ny408 := Aside0.mk hy408
                    clear hy408
                    simp only [Option.some.injEq, Prod.mk.injEq] at H
                    obtain ⟨rfl, rfl, rfl⟩ := H
                    have p407 : 0 ≤ (t387 : Int) := of_decide_eq_true (by first | (with_reducible assumption) | assumption)
                    have q407 : t387 < (y384.length : Int) := of_decide_eq_true (by first | (with_reducible assumption) | assumption)
                    obtain ⟨ad407, e407, hx407_0, hx407_1⟩ := at_T38 (Kd.R_reads' HO_1.out).2.2 t387 p407 q407
                    cases e407
                    replace p407 := eq_true p407
                    replace q407 := eq_true q407
                    go_wp2_with (first | ((with_reducible refine gate_builtin (b := .append) (xs := #[.tmp 40, .tmp 47]) rfl ?_); at_builtin; refine Kd.R_append k38 w.heap.size rfl (.tmp 40) (.tmp 47) 24 38 (.agg #[(.string ⟨#[]⟩), (.string ⟨#[]⟩)]) 32 rfl Tryd.underlying24 info38 rfl (by decide) (by omega) (.slice (some ad407) y384.length co33) y384 (⟨(rd_T38 y384 t387).f0, (⟨#[119]⟩ : ByteArray)⟩ : S38) [.string ((rd_T38 y384 t387).f0), .string (⟨#[119]⟩ : ByteArray)] (fun _ => True) (fun _ => False) rfl rfl ?aP (fun _ hk => hk.elim) ?aF ?aO (Below.refl _ _) ?aS ?aL ?_; (case aP => exact k38_mkM _ _ _ (⟨(rd_T38 y384 t387).f0, (⟨#[119]⟩ : ByteArray)⟩ : S38)); (case aF => exact (fun _ _ => trivial)); (case aO => exact (by (with_reducible repeat (first | apply Kd.R_alloc | apply Kd.R_drewN | apply Kd.R_drew)); exact HO_1.out)); (case aS => exact (keep_size (w := w) (g := g) (row := none) (by repeat (first | (with_reducible first | exact HK.out | apply KeepBut.set_ | apply keep_drewN | apply keep_drew | apply keep_alloc) | exact HK.out)))); (case aL => have := LMc48.out; omega); intro v409 w49 ho hb hg hat; rw [← Ny408.out] at ho; have n0_ := Aside0.mk (IsS56.grown (by repeat (first | (with_reducible first | exact HI0.out | apply IsS56.alloc | apply IsS56.drewN | apply IsS56.drew | apply IsS56.set_1 | apply IsS56.set_2) | exact HI0.out)) hg (IsS56.own_ne HI0.out HO_1.out (by decide))); have n1_ := Aside0.mk (below_weaken (by repeat (first | (with_reducible first | exact HB.out | apply below_alloc | apply pw_below_drewN | apply below_drew1 | refine below_set ?_ (IsS56.ge HI0.out)) | exact HB.out)) HL.out hb); have n2_ := Aside0.mk (KeepBut.trans (by repeat (first | (with_reducible first | exact HK.out | apply KeepBut.set_ | apply keep_drewN | apply keep_drew | apply keep_alloc) | exact HK.out)) (KeepBut.of_grown hg g) (Kd.R_base2 HO_1.out)); have n3_ := Aside0.mk (ho); clear HI0; clear HB; clear HK; clear HO_1; have HI0 := n0_; have HB := n1_; have HK := n2_; have HO410 := n3_; clear n0_ n1_ n2_ n3_; clear ho hb hg hat))
                    go_ret
                    exact ⟨_, by first | rfl | (simp [errW_none, errW_some] <;> rfl) | (simp [*, errW_none, errW_some] <;> rfl), by (with_reducible repeat (first | apply Kd.R_alloc | apply Kd.R_drewN | apply Kd.R_drew)); exact HO410.out, by repeat (first | (with_reducible first | exact HI0.out | apply IsS56.alloc | apply IsS56.drewN | apply IsS56.drew | apply IsS56.set_1 | apply IsS56.set_2) | exact HI0.out), by repeat (first | (with_reducible first | exact HB.out | apply below_alloc | apply pw_below_drewN | apply below_drew1 | refine below_set ?_ (IsS56.ge HI0.out)) | exact HB.out), by repeat (first | (with_reducible first | exact HK.out | apply KeepBut.set_ | apply keep_drewN | apply keep_drew | apply keep_alloc) | exact HK.out)⟩
                  · rw [if_neg c48] at H
                    exact absurd H (by simp)
                · rw [if_neg c47] at H
                  exact absurd H (by simp)
              · rw [if_neg c46] at H
                exact absurd H (by simp)
            · rw [if_neg c45] at H
              have c45b0 : (t390 == 3) = false := beq_eq_false_iff_ne.mpr c45
              have c45b1 : (t390 != 3) = true := bne_iff_ne.mpr c45
              by_cases c50 : t390 = 4
              · rw [if_pos c50] at H
                have c50b0 : (t390 == 4) = true := beq_iff_eq.mpr c50
                have c50b1 : (t390 != 4) = false := bne_eq_false_iff_eq.mpr c50
                clear c50
                by_cases c51 : 0 ≤ t387
                · rw [if_pos c51] at H
                  have c51b0 : decide (0 ≤ t387) = true := decide_eq_true c51
                  clear c51
                  by_cases c52 : t387 < (y384.length : Int)
                  · rw [if_pos c52] at H
                    have c52b0 : decide (t387 < (y384.length : Int)) = true := decide_eq_true c52
                    clear c52
                    obtain ⟨y411, hy411⟩ : ∃ y_ : List (S38), y_ = (y384.set (t387 : Int).toNat (⟨(rd_T38 y384 t387).f0, (⟨#[]⟩ : ByteArray)⟩ : S38)) := ⟨_, rfl⟩
                    replace H : (some (y411, t391, t392)) = some (r1, r2, r3) := by first | (rw [hy411]; with_reducible exact H) | (have H2_ := (Option.bind_some _ _).symm.trans H; rw [hy411]; with_reducible exact H2_) | (have H2_ := (Option.bind_some _ _).symm.trans H; with_reducible exact H2_) | with_reducible exact H | (rw [hy411]; exact H) | exact H
                    have Ny411 := Aside0.mk hy411
                    clear hy411
                    simp only [Option.some.injEq, Prod.mk.injEq] at H
                    obtain ⟨rfl, rfl, rfl⟩ := H
                    have p53 : 0 ≤ (t387 : Int) := of_decide_eq_true (by first | (with_reducible assumption) | assumption)
                    have q53 : (t387 : Int) < ((y384.length : Int) : Int) := of_decide_eq_true (by first | (with_reducible assumption) | assumption)
                    obtain ⟨go53, co53, eo53, gb53, gl53, cl53, HG53⟩ := Kd.R_form HO_1.out (by omega)
                    (first | cases eo53 | (injection eo53 with ea_ en_ ec_; (first | subst ea_ | (injection ea_ with ea_; subst ea_)); subst ec_; clear en_))
                    have GB53 := Aside0.mk gb53
                    have GG53 := Aside0.mk HG53
                    clear gb53 gl53 HG53
                    obtain ⟨ce53, hcl53, hM53, hcc53, hfr53⟩ := Kd.R_elem HO_1.out z38 (t387 : Int) p53 q53
                    obtain rfl := k38_openM hM53
                    have hx53_0 : wc.cell? ⟨go53, (t387 : Int).toNat * 2, none⟩ = some (.string ((rd_T38 y384 t387).f0)) := hcc53 0 _ rfl
                    have hx53_1 : wc.cell? ⟨go53, (t387 : Int).toNat * 2 + 1, none⟩ = some (.string ((rd_T38 y384 t387).f1)) := hcc53 1 _ rfl
                    have hf53_0 : wc.frozen? ⟨go53, (t387 : Int).toNat * 2, none⟩ = false := hfr53 0
                    have hf53_1 : wc.frozen? ⟨go53, (t387 : Int).toNat * 2 + 1, none⟩ = false := hfr53 1
                    clear hcl53 hcc53 hfr53 hM53
                    replace p53 := eq_true p53
                    replace q53 := eq_true q53
                    have HX54 := Aside0.mk (show Kd.R k38 38 wc w.heap.size (fun _ => True) (.slice (some ⟨go53, 0, none⟩) y384.length co33) y384 from (by (with_reducible repeat (first | apply Kd.R_alloc | apply Kd.R_drewN | apply Kd.R_drew)); exact HO_1.out))
                    obtain ⟨ce54, hcl54, hM54, hcc54, hfr54⟩ := Kd.R_elem HX54.out z38 (t387 : Int) (of_decide_eq_true (by first | (with_reducible assumption) | assumption)) (by have h_ : (t387 : Int) < ((y384.length : Int) : Int) := of_decide_eq_true (by first | (with_reducible assumption) | assumption); first | exact h_ | (have e_ := (Kd.R_reads' HO_1.out).1; omega) | simpa using h_)
                    obtain rfl := k38_openM hM54
                    have HP54 := Kd.R_seg HX54.out (t387 : Int) (of_decide_eq_true (by first | (with_reducible assumption) | assumption)) (by have h_ : (t387 : Int) < ((y384.length : Int) : Int) := of_decide_eq_true (by first | (with_reducible assumption) | assumption); first | exact h_ | (have e_ := (Kd.R_reads' HO_1.out).1; omega) | simpa using h_) (seg := [.string (⟨#[]⟩ : ByteArray)]) (j := 1) hcl54 hcc54 (show 2 ≤ 2 from by decide) (x' := (⟨(rd_T38 y384 t387).f0, (⟨#[]⟩ : ByteArray)⟩ : S38)) (k38_mkM _ _ _ (⟨(rd_T38 y384 t387).f0, (⟨#[]⟩ : ByteArray)⟩ : S38) ) (fun _ hk => hk)
                    have hx54_1 := hcc54 1 _ rfl
                    (try simp only [show (k38).sz = 2 from rfl, Nat.mul_one, Nat.add_zero] at hx54_1)
                    have hf54_1 := hfr54 1
                    (try simp only [show (k38).sz = 2 from rfl, Nat.mul_one, Nat.add_zero] at hf54_1)
                    clear hcl54 hcc54 hfr54 hM54
                    go_wp2_with (first | ((with_reducible refine gate_store (t := 9) (p := 54) rfl ?_); refine store_event (t := 9) (p := 54) (v := ?vo_w55) (w1 := (wc.setCell ⟨go53, (t387 : Int).toNat * 2 + 1, none⟩ (.string (⟨#[]⟩ : ByteArray)))) ?hg ?ho ?hn ?hr ?_; (case ho => rfl); (case hg => rfl); (case hn => rfl); (case hr => first | (go_simp; done) | (go_simp; rfl)); intro w55 hw; have hg : wc.grownBy w55 (some go53) := (by rw [hw]; exact HP54.2); have hp_ : Kd.R k38 38 w55 w.heap.size (fun _ => True) (.slice (some ⟨go53, 0, none⟩) y384.length co33) y411 := (by rw [hw, Ny411.out]; exact HP54.1); clear HP54; have n0_ := Aside0.mk (hp_); have n1_ := Aside0.mk (IsS56.grown (by repeat (first | (with_reducible first | exact HI0.out | apply IsS56.alloc | apply IsS56.drewN | apply IsS56.drew | apply IsS56.set_1 | apply IsS56.set_2) | exact HI0.out)) hg (IsS56.own_ne HI0.out HO_1.out (by decide))); have n2_ := Aside0.mk ((by rw [hw]; exact below_set (HB.out) (Nat.le_trans HL.out GB53.out) : Below w0.heap.size w0 w55)); have n3_ := Aside0.mk (KeepBut.trans (by repeat (first | (with_reducible first | exact HK.out | apply KeepBut.set_ | apply keep_drewN | apply keep_drew | apply keep_alloc) | exact HK.out)) (KeepBut.of_grown hg g) (Kd.R_base2 HO_1.out)); clear HO_1; clear HI0; clear HB; clear HK; have HO_1 := n0_; have HI0 := n1_; have HB := n2_; have HK := n3_; clear n0_ n1_ n2_ n3_; clear hg hw hp_))
                    go_ret
                    exact ⟨_, by first | rfl | (simp [errW_none, errW_some] <;> rfl) | (simp [*, errW_none, errW_some] <;> rfl), by (with_reducible repeat (first | apply Kd.R_alloc | apply Kd.R_drewN | apply Kd.R_drew)); exact HO_1.out, by repeat (first | (with_reducible first | exact HI0.out | apply IsS56.alloc | apply IsS56.drewN | apply IsS56.drew | apply IsS56.set_1 | apply IsS56.set_2) | exact HI0.out), by repeat (first | (with_reducible first | exact HB.out | apply below_alloc | apply pw_below_drewN | apply below_drew1 | refine below_set ?_ (IsS56.ge HI0.out)) | exact HB.out), by repeat (first | (with_reducible first | exact HK.out | apply KeepBut.set_ | apply keep_drewN | apply keep_drew | apply keep_alloc) | exact HK.out)⟩
                  · rw [if_neg c52] at H
                    exact absurd H (by simp)
                · rw [if_neg c51] at H
                  exact absurd H (by simp)
              · rw [if_neg c50] at H
                have c50b0 : (t390 == 4) = false := beq_eq_false_iff_ne.mpr c50
                have c50b1 : (t390 != 4) = true := bne_iff_ne.mpr c50
                by_cases c56 : t390 = 5
                · rw [if_pos c56] at H
                  have c56b0 : (t390 == 5) = true := beq_iff_eq.mpr c56
                  have c56b1 : (t390 != 5) = false := bne_eq_false_iff_eq.mpr c56
                  clear c56
                  by_cases c57 : 0 ≤ t387
                  · rw [if_pos c57] at H
                    have c57b0 := eq_true c57
                    have c57b1 : decide (0 ≤ t387) = true := decide_eq_true c57
                    clear c57
                    by_cases c58 : t387 ≤ (y384.length : Int)
                    · rw [if_pos c58] at H
                      have c58b0 := eq_true c58
                      have c58b1 : decide (t387 ≤ (y384.length : Int)) = true := decide_eq_true c58
                      clear c58
                      obtain ⟨y412, hy412⟩ : ∃ y_ : List (S38), y_ = (y384.take (t387 : Int).toNat) := ⟨_, rfl⟩
                      replace H : (if 0 ≤ (wrap64 (t387 + 1)) then (if (wrap64 (t387 + 1)) ≤ (y384.length : Int) then (some ((y384.eraseIdx (t387 : Int).toNat), t391, t392)) else (none)) else (none)) = some (r1, r2, r3) := by first | (rw [hy412]; with_reducible exact H) | (have H2_ := (Option.bind_some _ _).symm.trans H; rw [hy412]; with_reducible exact H2_) | (have H2_ := (Option.bind_some _ _).symm.trans H; with_reducible exact H2_) | with_reducible exact H | (rw [hy412]; exact H) | exact H
                      have Ny412 := Aside0.mk hy412
                      clear hy412
                      obtain ⟨ji59, hji59⟩ : ∃ j_ : Int, (wrap64 (t387 + 1)) = j_ := ⟨_, rfl⟩
                      replace H : (if 0 ≤ (ji59) then (if (ji59) ≤ (y384.length : Int) then (some ((y384.eraseIdx (t387 : Int).toNat), t391, t392)) else (none)) else (none)) = some (r1, r2, r3) := by first | (rw [hji59] at H; exact H) | (simp only [hji59] at H ⊢; exact H)
                      have hji59w : (IntKind.i64.wrap (t387 + 1)) = ji59 := (i64_w _).trans hji59
                      by_cases c60 : 0 ≤ (ji59)
                      · rw [if_pos c60] at H
                        have c60b0 := eq_true c60
                        have c60b1 : decide (0 ≤ (ji59)) = true := decide_eq_true c60
                        clear c60
                        by_cases c61 : (ji59) ≤ (y384.length : Int)
                        · rw [if_pos c61] at H
                          have c61b0 := eq_true c61
                          have c61b1 : decide ((ji59) ≤ (y384.length : Int)) = true := decide_eq_true c61
                          clear c61
                          obtain ⟨y416, hy416⟩ : ∃ y_ : List (S38), y_ = (y384.drop ((ji59) : Int).toNat) := ⟨_, rfl⟩
                          replace H : (some ((y384.eraseIdx (t387 : Int).toNat), t391, t392)) = some (r1, r2, r3) := by first | (rw [hy416]; with_reducible exact H) | (have H2_ := (Option.bind_some _ _).symm.trans H; rw [hy416]; with_reducible exact H2_) | (have H2_ := (Option.bind_some _ _).symm.trans H; with_reducible exact H2_) | with_reducible exact H | (rw [hy416]; exact H) | exact H
                          have Ny416 := Aside0.mk hy416
                          clear hy416
                          obtain ⟨y420, hy420⟩ : ∃ y_ : List (S38), y_ = (y384.eraseIdx (t387 : Int).toNat) := ⟨_, rfl⟩
                          replace H : (some (y420, t391, t392)) = some (r1, r2, r3) := by first | (rw [hy420]; with_reducible exact H) | (have H2_ := (Option.bind_some _ _).symm.trans H; rw [hy420]; with_reducible exact H2_) | (have H2_ := (Option.bind_some _ _).symm.trans H; with_reducible exact H2_) | with_reducible exact H | (rw [hy420]; exact H) | exact H
                          have Ny420 := Aside0.mk hy420
                          clear hy420
                          simp only [Option.some.injEq, Prod.mk.injEq] at H
                          obtain ⟨rfl, rfl, rfl⟩ := H
                          try go_wp2
                          have n0_ := Aside0.mk (Kd.R_drew HO_1.out)
                          have n1_ := Aside0.mk (IsS56.drew HI0.out)
                          have n2_ := Aside0.mk (keep_drew HK.out)
                          have n3_ := Aside0.mk (below_drew1 HB.out)
                          clear HO_1
                          clear HI0
                          clear HK
                          clear HB
                          have HO_1 := n0_
                          have HI0 := n1_
                          have HK := n2_
                          have HB := n3_
                          clear n0_ n1_ n2_ n3_
                          have q63 : (t387 : Int) ≤ ((y384.length : Int) : Int) := of_decide_eq_true (by first | (with_reducible assumption) | assumption)
                          obtain ⟨i063, hi063, _, hsz63, _⟩ := info_parts info38
                          have hroom63 : y384.length ≤ co33 := (Kd.R_reads' HO_1.out).2.1
                          have hC63 : Kd.C k38 _ Ao33 y384.length y384 := (Kd.R_reads' HO_1.out).2.2
                          have hcut63 := cut_to (P := Tryd.prog) 24 38 .i64 Tryd.underlying24 hi063 Ao33 y384.length co33 t387 (of_decide_eq_true (by first | (with_reducible assumption) | assumption)) q63 hroom63
                          have hr63 := Kd.C_take (m := (t387 : Int).toNat) hC63 (by omega)
                          have hy63 : y412.length = (t387 : Int).toNat := (by rw [Ny412.out, List.length_take]; omega)
                          rw [← Ny412.out] at hr63
                          rw [← hy63] at hcut63
                          have HR415 := Aside0.mk hr63
                          have HC415 := Aside0.mk (show y412.length ≤ co33 from by omega)
                          clear hr63 hC63 hroom63 hi063 hsz63
                          have KY63 := Aside0.mk hy63
                          clear hy63
                          have KL63 := Aside0.mk (show (t387 : Int).toNat ≤ y384.length from by omega)
                          replace q63 := eq_true q63
                          have q64 : ((ji59) : Int) ≤ ((y384.length : Int) : Int) := of_decide_eq_true (by first | (with_reducible assumption) | assumption)
                          obtain ⟨i064, hi064, _, hsz64, _⟩ := info_parts info38
                          have hroom64 : y384.length ≤ co33 := (Kd.R_reads' HO_1.out).2.1
                          have hC64 : Kd.C k38 _ Ao33 y384.length y384 := (Kd.R_reads' HO_1.out).2.2
                          have q064 : (0 : Int) ≤ ((ji59) : Int) := of_decide_eq_true (by first | (with_reducible assumption) | assumption)
                          have hcut64 := cut_from (P := Tryd.prog) 24 38 .i64 Tryd.underlying24 hi064 2 hsz64 Ao33 y384.length co33 (ji59) q064 q64
                          have hr64 := Kd.C_drop (m := ((ji59) : Int).toNat) (c := co33) hC64 (by omega) hroom64
                          obtain ⟨A64, hA64⟩ : ∃ A1, A1 = (if co33 = ((ji59) : Int).toNat then Ao33 else (Ao33 : Option Addr).map (·.add (((ji59) : Int).toNat * 2))) := ⟨_, rfl⟩
                          obtain ⟨c64, hc64⟩ : ∃ c1, c1 = co33 - ((ji59) : Int).toNat := ⟨_, rfl⟩
                          have hy64 : y416.length = y384.length - ((ji59) : Int).toNat := (by rw [Ny416.out, List.length_drop] <;> omega)
                          rw [show (y384).drop ((ji59) : Int).toNat = y416 from Ny416.out.symm] at hr64
                          replace hr64 : Kd.C k38 _ A64 y416.length y416 := (by rw [hA64]; exact hr64)
                          rw [← hy64, ← hA64, ← hc64] at hcut64
                          have HR419 := Aside0.mk hr64
                          have HC419 := Aside0.mk (show y416.length ≤ c64 from by rw [hy64, hc64]; exact Nat.sub_le_sub_right hroom64 _)
                          clear hr64 hC64 hroom64 hi064 hsz64 hc64
                          have KY64 := Aside0.mk hy64
                          have KA64 := Aside0.mk hA64
                          clear hy64 hA64
                          have KL64 := Aside0.mk (show ((ji59) : Int).toNat ≤ y384.length from by omega)
                          replace q64 := eq_true q64
                          obtain ⟨go66, co66, eo66, gb66, gl66, cl66, HG66⟩ := Kd.R_form HO_1.out (by have hj_ : 0 ≤ (t387 : Int) := of_decide_eq_true (by first | (with_reducible assumption) | assumption); have hl_ : (ji59 : Int) ≤ (y384.length : Int) := of_decide_eq_true (by first | (with_reducible assumption) | assumption); have hh_ : (t387 : Int) ≤ (y384.length : Int) := of_decide_eq_true (by first | (with_reducible assumption) | assumption); rw [← hji59] at hl_; unfold wrap64 at hl_; omega)
                          (first | cases eo66 | (injection eo66 with ea_ en_ ec_; (first | subst ea_ | (injection ea_ with ea_; subst ea_)); subst ec_; clear en_))
                          have GB66 := Aside0.mk gb66
                          have GG66 := Aside0.mk HG66
                          clear gb66 gl66 HG66
                          refine start_ (n := 9) (S := fun w' => True) (ds := []) #[false, false, false, false, false, false, false, false, false] (by kernel_rfl) rfl rfl trivial (fun hHeld => ?_); refine with_tabW spec_l3SpoilLabels.tab14 spec_l3SpoilLabels.bits14 (fun HT_ HW_ => ?_)
                          generalize wc.drew = w62 at HO_1 HI0 HK HB GG66 HR415 HR419 hHeld ⊢
                          refine pure_ (i := 0) (N := some 57) (v := ?_) (a' := ?_) #[true, false, false, false, false, false, false, false, false] rfl rfl (any_of HT_.out (by kernel_rfl)) (fun _ _ _ h => h) (Or.inl ⟨by rfl, ?_⟩) ?_ ?_
                          rotate_left
                          · intro w'
                            go_simp
                            with_reducible rfl
                          rotate_left
                          · simp only [Act.put, List.setIfInBounds_toArray, List.set_cons_zero, List.set_cons_succ, i64_w, i32_w]
                            rfl
                          refine pure_ (i := 1) (N := some 58) (v := ?_) (a' := ?_) #[true, true, false, false, false, false, false, false, false] rfl rfl (any_of HT_.out (by kernel_rfl)) (fun _ _ _ h => h) (Or.inl ⟨by rfl, ?_⟩) ?_ ?_
                          rotate_left
                          · intro w'
                            go_simp
                            with_reducible rfl
                          rotate_left
                          · simp only [Act.put, List.setIfInBounds_toArray, List.set_cons_zero, List.set_cons_succ, i64_w, i32_w]
                            rfl
                          refine pure_ (i := 2) (N := some 59) (v := ?_) (a' := ?_) #[true, true, true, false, false, false, false, false, false] rfl rfl (any_of HT_.out (by kernel_rfl)) (fun _ _ _ h => h) (Or.inl ⟨by rfl, ?_⟩) ?_ ?_
                          rotate_left
                          · intro w'
                            go_simp
                            with_reducible rfl
                          rotate_left
                          · simp only [Act.put, List.setIfInBounds_toArray, List.set_cons_zero, List.set_cons_succ, i64_w, i32_w]
                            rfl
                          refine pure_ (i := 3) (N := some 60) (v := ?_) (a' := ?_) #[true, true, true, true, false, false, false, false, false] rfl rfl (any_of HT_.out (by kernel_rfl)) (fun _ _ _ h => h) (Or.inl ⟨by rfl, ?_⟩) ?_ ?_
                          rotate_left
                          · intro w'
                            go_simp
                            with_reducible rfl
                          rotate_left
                          · simp only [Act.put, List.setIfInBounds_toArray, List.set_cons_zero, List.set_cons_succ, i64_w, i32_w]
                            rfl
                          refine pure_ (i := 4) (N := some 61) (v := ?_) (a' := ?_) #[true, true, true, true, true, false, false, false, false] rfl rfl (any_of HT_.out (by kernel_rfl)) (fun _ _ _ h => h) (Or.inl ⟨by rfl, ?_⟩) ?_ ?_
                          rotate_left
                          · intro w'
                            go_simp
                            with_reducible rfl
                          rotate_left
                          · simp only [Act.put, List.setIfInBounds_toArray, List.set_cons_zero, List.set_cons_succ, i64_w, i32_w]
                            rfl
                          refine pure_ (i := 5) (N := some 62) (v := ?_) (a' := ?_) #[true, true, true, true, true, true, false, false, false] rfl rfl (any_of HT_.out (by kernel_rfl)) (fun _ _ _ h => h) (Or.inl ⟨by rfl, ?_⟩) ?_ ?_
                          rotate_left
                          · intro w'
                            go_simp
                            with_reducible rfl
                          rotate_left
                          · simp only [Act.put, List.setIfInBounds_toArray, List.set_cons_zero, List.set_cons_succ, i64_w, i32_w]
                            rfl
                          refine pure_ (i := 6) (N := some 63) (v := ?_) (a' := ?_) #[true, true, true, true, true, true, true, false, false] rfl rfl (any_of HT_.out (by kernel_rfl)) (fun _ _ _ h => h) (Or.inl ⟨by rfl, ?_⟩) ?_ ?_
                          rotate_left
                          · intro w'
                            go_simp
                            with_reducible rfl
                          rotate_left
                          · simp only [Act.put, List.setIfInBounds_toArray, List.set_cons_zero, List.set_cons_succ, i64_w, i32_w]
                            rfl
                          refine one_ (i := 7) (N := some 64) #[true, true, true, true, true, true, true, true, false] rfl rfl (one_of HT_.out (by kernel_rfl)) (by decide) (fun K hK => ?_)
                          have hj_ : 0 ≤ (t387 : Int) := of_decide_eq_true (by first | (with_reducible assumption) | assumption)
                          have hl_ : (ji59 : Int) ≤ (y384.length : Int) := of_decide_eq_true (by first | (with_reducible assumption) | assumption)
                          have hh_ : (t387 : Int) ≤ (y384.length : Int) := of_decide_eq_true (by first | (with_reducible assumption) | assumption)
                          have hb_ := (Kd.R_reads' HO_1.out).2.2.2.1
                          have h0_ : (0 : Int) ≤ (ji59 : Int) := of_decide_eq_true (by first | (with_reducible assumption) | assumption)
                          have hy1_ := KY63.out
                          have hk_ : (ji59 : Int).toNat = y412.length + 1 := (by have hw_ : (ji59 : Int) = t387 + 1 := (by have h00_ := h0_; rw [← hji59] at h00_ ⊢; unfold wrap64 at h00_ ⊢; omega); rw [hw_]; omega)
                          refine Kd.R_delete_step k38 w.heap.size (by rfl) (.tmp 59) (.tmp 63) 24 38 rfl Tryd.underlying24 (by kernel_rfl) (g := go66) (n := y384.length) (c := co33) (k := y412.length) rfl rfl ?hA ?hm (by (with_reducible repeat (first | apply Kd.R_alloc | apply Kd.R_drewN | apply Kd.R_drew)); exact HO_1.out) ?hk (Below.refl _ _) (keep_size (w := w) (g := g) (row := none) (by repeat (first | (with_reducible first | exact HK.out | apply KeepBut.set_ | apply keep_drewN | apply keep_drew | apply keep_alloc) | exact HK.out))) ?_
                          (case hA => have ha_ := KA64.out; rw [hk_] at ha_; exact ha_)
                          (case hm => have ha_ := KY64.out; omega)
                          (case hk => omega)
                          intro w65 ho hb hg
                          clear hj_ hl_ hh_ hb_ hk_ h0_
                          rw [hy1_, ← Ny420.out] at ho
                          clear hy1_
                          have hn_ : y384.length - 1 = y420.length := (by have := (Kd.R_reads' ho).1; omega)
                          rw [hn_] at ho ⊢
                          clear hn_
                          have n0_ := Aside0.mk (ho)
                          have n1_ := Aside0.mk (IsS56.grown (by repeat (first | (with_reducible first | exact HI0.out | apply IsS56.alloc | apply IsS56.drewN | apply IsS56.drew | apply IsS56.set_1 | apply IsS56.set_2) | exact HI0.out)) hg (IsS56.own_ne HI0.out HO_1.out (by decide)))
                          have n2_ := Aside0.mk (below_weaken (by repeat (first | (with_reducible first | exact HB.out | apply below_alloc | apply pw_below_drewN | apply below_drew1 | refine below_set ?_ (IsS56.ge HI0.out)) | exact HB.out)) HL.out hb)
                          have n3_ := Aside0.mk (KeepBut.trans (by repeat (first | (with_reducible first | exact HK.out | apply KeepBut.set_ | apply keep_drewN | apply keep_drew | apply keep_alloc) | exact HK.out)) (KeepBut.of_grown hg g) (Kd.R_base2 HO_1.out))
                          clear HO_1
                          clear HI0
                          clear HB
                          clear HK
                          have HO_1 := n0_
                          have HI0 := n1_
                          have HB := n2_
                          have HK := n3_
                          clear n0_ n1_ n2_ n3_
                          clear ho hb hg
                          refine hK.out _ _ trivial (fun hHeld => ?_)
                          clear hK K
                          refine norm_ (a' := ?_) ?_ ?_
                          rotate_left
                          · show Act.put _ (some 64) _ = _
                            simp only [Act.put, List.setIfInBounds_toArray, List.set_cons_zero, List.set_cons_succ, i64_w, i32_w]
                            rfl
                          refine pure_ (i := 8) (N := some 1) (v := ?_) (a' := ?_) #[true, true, true, true, true, true, true, true, true] rfl rfl (any_of HT_.out (by kernel_rfl)) (fun _ _ _ h => h) (Or.inl ⟨by rfl, ?_⟩) ?_ ?_
                          rotate_left
                          · intro w'
                            go_simp
                            with_reducible rfl
                          rotate_left
                          · simp only [Act.put, List.setIfInBounds_toArray, List.set_cons_zero, List.set_cons_succ, i64_w, i32_w]
                            rfl
                          refine done_ (done_of HT_.out (by kernel_rfl)) ?_
                          try go_wp2
                          go_ret
                          exact ⟨_, by first | rfl | (simp [errW_none, errW_some] <;> rfl) | (simp only [← hji59]; first | rfl | (simp [errW_none, errW_some] <;> rfl)) | (simp [*, errW_none, errW_some] <;> rfl), by (with_reducible repeat (first | apply Kd.R_alloc | apply Kd.R_drewN | apply Kd.R_drew)); exact HO_1.out, by repeat (first | (with_reducible first | exact HI0.out | apply IsS56.alloc | apply IsS56.drewN | apply IsS56.drew | apply IsS56.set_1 | apply IsS56.set_2) | exact HI0.out), by repeat (first | (with_reducible first | exact HB.out | apply below_alloc | apply pw_below_drewN | apply below_drew1 | refine below_set ?_ (IsS56.ge HI0.out)) | exact HB.out), by repeat (first | (with_reducible first | exact HK.out | apply KeepBut.set_ | apply keep_drewN | apply keep_drew | apply keep_alloc) | exact HK.out)⟩
                        · rw [if_neg c61] at H
                          exact absurd H (by simp)
                      · rw [if_neg c60] at H
                        exact absurd H (by simp)
                    · rw [if_neg c58] at H
                      exact absurd H (by simp)
                  · rw [if_neg c57] at H
                    exact absurd H (by simp)
                · rw [if_neg c56] at H
                  have c56b0 : (t390 == 5) = false := beq_eq_false_iff_ne.mpr c56
                  have c56b1 : (t390 != 5) = true := bne_iff_ne.mpr c56
                  by_cases c67 : t390 = 6
                  · rw [if_pos c67] at H
                    have c67b0 : (t390 == 6) = true := beq_iff_eq.mpr c67
                    have c67b1 : (t390 != 6) = false := bne_eq_false_iff_eq.mpr c67
                    clear c67
                    replace H := Option.bind_eq_some_iff.mp H
                    obtain ⟨⟨t423, t424, t425⟩, A680, H⟩ := H
                    replace H : (spec_l3SpoilLabels.l0 kj28 y384 (wrap64 (16 + t423)) s0_0 t424 t425) = some (r1, r2, r3) := H
                    have A68 := Aside0.mk A680
                    clear A680
                    have H' := Aside0.mk H
                    clear H
                    go_wp2_with (first | ((with_reducible refine gate_callee (f := 45) rfl ?_); refine goesL_ (some 68) rfl rfl Tryd.func45 (by kernel_rfl) rfl #[.pointer (some ⟨g, 0, none⟩), .int .i64 2] rfl (by (try simp only [List.map_toArray, List.map_cons, List.map_nil]); first | done | rfl | (simp only [List.length_drop, List.length_take]; rfl)) ?_; (with_reducible refine (spec_l1Cur_pick.calls g s0_0 t391 t392 2 t423 t424 t425 w0 _ ?side1 ?side2 A68.out).mono ?_); (case side1 => repeat (first | (with_reducible first | exact HI0.out | apply IsS56.alloc | apply IsS56.drewN | apply IsS56.drew | apply IsS56.set_1 | apply IsS56.set_2) | exact HI0.out)); (case side2 => repeat (first | (with_reducible first | exact HB.out | apply below_alloc | apply pw_below_drewN | apply below_drew1 | refine below_set ?_ (IsS56.ge HI0.out)) | exact HB.out)); rintro e w69 ⟨rfl, hi, hb, hk⟩; refine ⟨_, rfl, ?_⟩; have n0_ := Aside0.mk (Kd.R_mono (Kd.R_keep (IsS56.apart (show IsS56 w0 _ g s0_0 t391 t392 from by repeat (first | (with_reducible first | exact HI0.out | apply IsS56.alloc | apply IsS56.drewN | apply IsS56.drew | apply IsS56.set_1 | apply IsS56.set_2) | exact HI0.out)) (by (with_reducible repeat (first | apply Kd.R_alloc | apply Kd.R_drewN | apply Kd.R_drew)); exact HO_1.out) (by decide)) hk (fun _ h => h.2)) (fun _ h => h.1)); have n1_ := Aside0.mk (KeepBut.trans (by repeat (first | (with_reducible first | exact HK.out | apply KeepBut.set_ | apply keep_drewN | apply keep_drew | apply keep_alloc) | exact HK.out)) hk (.inl rfl)); have n2_ := Aside0.mk (hb); have n3_ := Aside0.mk (hi); clear HO_1; clear HK; clear HB; clear HI0; have HO_1 := n0_; have HK := n1_; have HB := n2_; have HI0 := n3_; clear n0_ n1_ n2_ n3_; (try clear hb); (try clear hb2); (try clear hk); (try clear hi)))
                    go_loopg [1] kj28 (fun kq v1 w' => ∃ (x1_2 : List (S38)), Aside0 (spec_l3SpoilLabels.l0 kq x1_2 (wrap64 (16 + t423)) s0_0 t424 t425 = some (r1, r2, r3)) ∧ Aside0 (kq ≤ kj28) ∧ Aside0 (Kd.R k38 38 w' w.heap.size (fun _ => True) v1 x1_2) ∧ Aside0 (IsS56 w0 w' g s0_0 t424 t425) ∧ Aside0 (KeepBut w w' g none) ∧ Aside0 (Below w0.heap.size w0 w'))
                    case atStart => exact ⟨(y384), H', ⟨Nat.le_refl _⟩, ⟨by (with_reducible repeat (first | apply Kd.R_alloc | apply Kd.R_drewN | apply Kd.R_drew)); exact HO_1.out⟩, ⟨by repeat (first | (with_reducible first | exact HI0.out | apply IsS56.alloc | apply IsS56.drewN | apply IsS56.drew | apply IsS56.set_1 | apply IsS56.set_2) | exact HI0.out)⟩, ⟨by repeat (first | (with_reducible first | exact HK.out | apply KeepBut.set_ | apply keep_drewN | apply keep_drew | apply keep_alloc) | exact HK.out)⟩, ⟨by repeat (first | (with_reducible first | exact HB.out | apply below_alloc | apply pw_below_drewN | apply below_drew1 | refine below_set ?_ (IsS56.ge HI0.out)) | exact HB.out)⟩⟩
                    case round =>
                      clear H'
                      try clear c1
                      try clear p1
                      try clear q1
                      try clear hx1
                      try clear c2
                      try clear p2
                      try clear hx2
                      try clear hf2
                      try clear c3
                      try clear c4
                      try clear p4
                      try clear q4
                      try clear hx4
                      try clear hf4
                      try clear c5
                      try clear p5
                      try clear q5
                      try clear hx5
                      try clear hf5
                      try clear c6
                      try clear c6b0
                      try clear c6b1
                      try clear p6
                      try clear q6
                      try clear c10
                      try clear c10b0
                      try clear c11
                      try clear c11b0
                      try clear c12
                      try clear c12b0
                      try clear c13
                      try clear c13b0
                      try clear c14
                      try clear p14
                      try clear q14
                      try clear hx14
                      try clear hf14
                      try clear c27
                      try clear hx27
                      try clear hf27
                      try clear c36
                      try clear c36b0
                      try clear c36b1
                      try clear c37
                      try clear c39
                      try clear c39b0
                      try clear c40
                      try clear c40b0
                      try clear p40
                      try clear q40
                      try clear hx40
                      try clear c41
                      try clear p41
                      try clear q41
                      try clear hx41
                      try clear hf41
                      try clear c43
                      try clear hx43
                      try clear hf43
                      try clear c45
                      try clear c45b0
                      try clear c45b1
                      try clear c46
                      try clear c46b0
                      try clear c47
                      try clear c47b0
                      try clear c48
                      try clear c50
                      try clear c50b0
                      try clear c50b1
                      try clear c51
                      try clear c51b0
                      try clear c52
                      try clear c52b0
                      try clear c53
                      try clear p53
                      try clear q53
                      try clear hx53
                      try clear hf53
                      try clear c54
                      try clear hx54
                      try clear hf54
                      try clear c56
                      try clear c56b0
                      try clear c56b1
                      try clear c57
                      try clear c57b0
                      try clear c57b1
                      try clear c58
                      try clear c58b0
                      try clear c58b1
                      try clear c60
                      try clear c60b0
                      try clear c60b1
                      try clear c61
                      try clear c61b0
                      try clear c61b1
                      try clear q63
                      try clear c64
                      try clear p64
                      try clear q64
                      try clear c67
                      try clear c67b0
                      try clear c67b1
                      try clear hx14_0
                      try clear hx14_1
                      try clear hx27_0
                      try clear hx401_0
                      try clear hx407_0
                      try clear hx407_1
                      try clear hx41_0
                      try clear hx41_1
                      try clear hx43_1
                      try clear hx53_0
                      try clear hx53_1
                      try clear hx54_1
                      try clear p1
                      try clear p14
                      try clear p2
                      try clear p4
                      try clear p401
                      try clear p407
                      try clear p41
                      try clear p53
                      try clear q064
                      try clear q1
                      try clear q14
                      try clear q4
                      try clear q401
                      try clear q407
                      try clear q41
                      try clear q53
                      try clear q63
                      try clear q64
                      obtain ⟨x1_2, HA, HK2, HO_1, HI0, HK, HB⟩ := hrel
                      cases gk with
                      | zero => exact absurd HA.out (by simp [spec_l3SpoilLabels.l0])
                      | succ k2 =>
                        have H := HA.out
                        clear HA
                        simp only [spec_l3SpoilLabels.l0] at H
                        by_cases c70 : (x1_2.length : Int) < (wrap64 (16 + t423))
                        · rw [if_pos c70] at H
                          have c70b0 : decide ((x1_2.length : Int) < (wrap64 (16 + t423))) = true := decide_eq_true c70
                          clear c70
                          obtain ⟨y426, hy426⟩ : ∃ y_ : List Int, y_ = (([(wrap64 (97 + (x1_2.length : Int))) % 256] : List Int)) := ⟨_, rfl⟩
                          replace H : (if 1 + (strOfNums y426).size ≤ 9223372036854775807 then (if x1_2.length < 4398046511104 then (spec_l3SpoilLabels.l0 k2 (x1_2 ++ [(⟨(⟨#[110]⟩ : ByteArray) ++ (strOfNums y426), (⟨#[118]⟩ : ByteArray)⟩ : S38)]) (wrap64 (16 + t423)) s0_0 t424 t425) else (none)) else (none)) = some (r1, r2, r3) := by first | (rw [hy426]; with_reducible exact H) | (have H2_ := (Option.bind_some _ _).symm.trans H; rw [hy426]; with_reducible exact H2_) | (have H2_ := (Option.bind_some _ _).symm.trans H; with_reducible exact H2_) | with_reducible exact H | (rw [hy426]; exact H) | exact H
                          have Ny426 := Aside0.mk hy426
                          clear hy426
                          by_cases c71 : 1 + (strOfNums y426).size ≤ 9223372036854775807
                          · rw [if_pos c71] at H
                            have c71b0 := eq_true c71
                            have c71b1 : decide (1 + (strOfNums y426).size ≤ 9223372036854775807) = true := decide_eq_true c71
                            try have c71b2 : (9223372036854775807 < 1 + (strOfNums y426).size) = False := eq_false (Nat.not_lt.2 c71)
                            by_cases c72 : x1_2.length < 4398046511104
                            · rw [if_pos c72] at H
                              have LMc72 := Aside0.mk c72
                              clear c72
                              obtain ⟨y429, hy429⟩ : ∃ y_ : List (S38), y_ = (x1_2 ++ [(⟨(⟨#[110]⟩ : ByteArray) ++ (strOfNums y426), (⟨#[118]⟩ : ByteArray)⟩ : S38)]) := ⟨_, rfl⟩
                              replace H : (spec_l3SpoilLabels.l0 k2 y429 (wrap64 (16 + t423)) s0_0 t424 t425) = some (r1, r2, r3) := by first | (rw [hy429]; with_reducible exact H) | (have H2_ := (Option.bind_some _ _).symm.trans H; rw [hy429]; with_reducible exact H2_) | (have H2_ := (Option.bind_some _ _).symm.trans H; with_reducible exact H2_) | with_reducible exact H | (rw [hy429]; exact H) | exact H
                              have Ny429 := Aside0.mk hy429
                              clear hy429
                              have H' := Aside0.mk H
                              clear H
                              obtain ⟨Ao73, co73, eo73⟩ := Kd.R_slice HO_1.out
                              subst eo73
                              go_wp2_with (first | ((with_reducible refine gate_dst (N := 79) rfl ?_); refine Kd.R_lit (Kd.int .u8) _ 5 ?hg (N := 79) ?hd (xs := ([(wrap64 (97 + (x1_2.length : Int))) % 256] : List Int)) (inner := [.int .u8 ((wrap64 (97 + (x1_2.length : Int))) % 256)]) (ok := fun _ => True) (okp := fun _ => True) ?hr ?hp (fun _ hk => hk) trivial (Below.refl _ _) (Nat.le_refl _) (by simp) ?_; (case hd => rfl); (case hg => rfl); (case hr => first | (go_simp; done) | (go_simp; rfl)); (case hp => exact (Reps.one (show Kd.M (Kd.int .u8) _ _ _ ((wrap64 (97 + (x1_2.length : Int))) % 256) [.int .u8 ((wrap64 (97 + (x1_2.length : Int))) % 256)] from rfl) (Reps.none _ _))); intro v427 w74 ho75 hb hg_ hnew_; clear hg_ hnew_; (first | rw [← Ny426.out] at ho75 | (simp only [Int.reduceToNat] at ho75; rw [← Ny426.out] at ho75)); have n0_ := Aside0.mk (Kd.R_below (by (with_reducible repeat (first | apply Kd.R_alloc | apply Kd.R_drewN | apply Kd.R_drew)); exact HO_1.out) hb); have n1_ := Aside0.mk (Kd.R_lower ho75 (keep_size (w := w) (g := g) (row := none) (by repeat (first | (with_reducible first | exact HK.out | apply KeepBut.set_ | apply keep_drewN | apply keep_drew | apply keep_alloc) | exact HK.out)))); have n2_ := Aside0.mk (IsS56.below (by repeat (first | (with_reducible first | exact HI0.out | apply IsS56.alloc | apply IsS56.drewN | apply IsS56.drew | apply IsS56.set_1 | apply IsS56.set_2) | exact HI0.out)) hb); have n3_ := Aside0.mk (KeepBut.trans (by repeat (first | (with_reducible first | exact HK.out | apply KeepBut.set_ | apply keep_drewN | apply keep_drew | apply keep_alloc) | exact HK.out)) (KeepBut.of_below hb g none) (.inl rfl)); have n4_ := Aside0.mk (below_step (by repeat (first | (with_reducible first | exact HB.out | apply below_alloc | apply pw_below_drewN | apply below_drew1 | refine below_set ?_ (IsS56.ge HI0.out)) | exact HB.out)) hb); clear HO_1; clear HI0; clear HK; clear HB; have HO_1 := n0_; have HO428 := n1_; have HI0 := n2_; have HK := n3_; have HB := n4_; clear n0_ n1_ n2_ n3_ n4_; clear hb ho75; have hcv76 := own_string (P := Tryd.prog) Tryd.underlying34 Tryd.underlying5 Tryd.underlying9 (Kd.own_of_R HO428.out)) | ((with_reducible refine gate_builtin (b := .append) (xs := #[.tmp 74, .tmp 83]) rfl ?_); at_builtin; refine Kd.R_append k38 w.heap.size rfl (.tmp 74) (.tmp 83) 24 38 (.agg #[(.string ⟨#[]⟩), (.string ⟨#[]⟩)]) 32 rfl Tryd.underlying24 info38 rfl (by decide) (by omega) (.slice Ao73 x1_2.length co73) x1_2 (⟨(⟨#[110]⟩ : ByteArray) ++ (strOfNums y426), (⟨#[118]⟩ : ByteArray)⟩ : S38) [.string ((⟨#[110]⟩ : ByteArray) ++ (strOfNums y426)), .string (⟨#[118]⟩ : ByteArray)] (fun _ => True) (fun _ => False) rfl rfl ?aP (fun _ hk => hk.elim) ?aF ?aO (Below.refl _ _) ?aS ?aL ?_; (case aP => exact k38_mkM _ _ _ (⟨(⟨#[110]⟩ : ByteArray) ++ (strOfNums y426), (⟨#[118]⟩ : ByteArray)⟩ : S38)); (case aF => exact (fun _ _ => trivial)); (case aO => exact (by (with_reducible repeat (first | apply Kd.R_alloc | apply Kd.R_drewN | apply Kd.R_drew)); exact HO_1.out)); (case aS => exact (keep_size (w := w) (g := g) (row := none) (by repeat (first | (with_reducible first | exact HK.out | apply KeepBut.set_ | apply keep_drewN | apply keep_drew | apply keep_alloc) | exact HK.out)))); (case aL => have := LMc72.out; omega); intro v430 w77 ho hb hg hat; rw [← Ny429.out] at ho; have n0_ := Aside0.mk (IsS56.grown (by repeat (first | (with_reducible first | exact HI0.out | apply IsS56.alloc | apply IsS56.drewN | apply IsS56.drew | apply IsS56.set_1 | apply IsS56.set_2) | exact HI0.out)) hg (IsS56.own_ne HI0.out HO_1.out (by decide))); have n1_ := Aside0.mk (Kd.R_over' (by (with_reducible repeat (first | apply Kd.R_alloc | apply Kd.R_drewN | apply Kd.R_drew)); exact HO428.out) (Kd.R_typed (by (with_reducible repeat (first | apply Kd.R_alloc | apply Kd.R_drewN | apply Kd.R_drew)); exact HO_1.out)) (by decide) hg); have n2_ := Aside0.mk (below_weaken (by repeat (first | (with_reducible first | exact HB.out | apply below_alloc | apply pw_below_drewN | apply below_drew1 | refine below_set ?_ (IsS56.ge HI0.out)) | exact HB.out)) HL.out hb); have n3_ := Aside0.mk (KeepBut.trans (by repeat (first | (with_reducible first | exact HK.out | apply KeepBut.set_ | apply keep_drewN | apply keep_drew | apply keep_alloc) | exact HK.out)) (KeepBut.of_grown hg g) (Kd.R_base2 HO_1.out)); have n4_ := Aside0.mk (ho); clear HI0; clear HO428; clear HB; clear HK; clear HO_1; have HI0 := n0_; have HO428 := n1_; have HB := n2_; have HK := n3_; have HO431 := n4_; clear n0_ n1_ n2_ n3_ n4_; clear ho hb hg hat))
                              go_roundg k2
                              case measure => have := HJ28.out; have := HK2.out; omega
                              case rel => exact ⟨(y429), H', ⟨by have := HJ28.out; have := HK2.out; omega⟩, ⟨by (with_reducible repeat (first | apply Kd.R_alloc | apply Kd.R_drewN | apply Kd.R_drew)); exact HO431.out⟩, ⟨by repeat (first | (with_reducible first | exact HI0.out | apply IsS56.alloc | apply IsS56.drewN | apply IsS56.drew | apply IsS56.set_1 | apply IsS56.set_2) | exact HI0.out)⟩, ⟨by repeat (first | (with_reducible first | exact HK.out | apply KeepBut.set_ | apply keep_drewN | apply keep_drew | apply keep_alloc) | exact HK.out)⟩, ⟨by repeat (first | (with_reducible first | exact HB.out | apply below_alloc | apply pw_below_drewN | apply below_drew1 | refine below_set ?_ (IsS56.ge HI0.out)) | exact HB.out)⟩⟩
                            · rw [if_neg c72] at H
                              exact absurd H (by simp)
                          · rw [if_neg c71] at H
                            exact absurd H (by simp)
                        · rw [if_neg c70] at H
                          have c70b0 : decide ((x1_2.length : Int) < (wrap64 (16 + t423))) = false := decide_eq_false c70
                          clear c70
                          simp only [Option.some.injEq, Prod.mk.injEq] at H
                          obtain ⟨rfl, rfl, rfl⟩ := H
                          obtain ⟨Ao78, co78, eo78⟩ := Kd.R_slice HO_1.out
                          subst eo78
                          go_wp2
                          go_ret
                          exact ⟨_, by first | rfl | (simp [errW_none, errW_some] <;> rfl) | (simp [*, errW_none, errW_some] <;> rfl), by (with_reducible repeat (first | apply Kd.R_alloc | apply Kd.R_drewN | apply Kd.R_drew)); exact HO_1.out, by repeat (first | (with_reducible first | exact HI0.out | apply IsS56.alloc | apply IsS56.drewN | apply IsS56.drew | apply IsS56.set_1 | apply IsS56.set_2) | exact HI0.out), by repeat (first | (with_reducible first | exact HB.out | apply below_alloc | apply pw_below_drewN | apply below_drew1 | refine below_set ?_ (IsS56.ge HI0.out)) | exact HB.out), by repeat (first | (with_reducible first | exact HK.out | apply KeepBut.set_ | apply keep_drewN | apply keep_drew | apply keep_alloc) | exact HK.out)⟩
                  · rw [if_neg c67] at H
                    have c67b0 : (t390 == 6) = false := beq_eq_false_iff_ne.mpr c67
                    have c67b1 : (t390 != 6) = true := bne_iff_ne.mpr c67
                    simp only [Option.some.injEq, Prod.mk.injEq] at H
                    obtain ⟨rfl, rfl, rfl⟩ := H
                    go_wp2
                    go_ret
                    exact ⟨_, by first | rfl | (simp [errW_none, errW_some] <;> rfl) | (simp [*, errW_none, errW_some] <;> rfl), by (with_reducible repeat (first | apply Kd.R_alloc | apply Kd.R_drewN | apply Kd.R_drew)); exact HO_1.out, by repeat (first | (with_reducible first | exact HI0.out | apply IsS56.alloc | apply IsS56.drewN | apply IsS56.drew | apply IsS56.set_1 | apply IsS56.set_2) | exact HI0.out), by repeat (first | (with_reducible first | exact HB.out | apply below_alloc | apply pw_below_drewN | apply below_drew1 | refine below_set ?_ (IsS56.ge HI0.out)) | exact HB.out), by repeat (first | (with_reducible first | exact HK.out | apply KeepBut.set_ | apply keep_drewN | apply keep_drew | apply keep_alloc) | exact HK.out)⟩
  · rw [if_neg c3] at H
    exact absurd H (by simp)

end Go.Proofs.YtdfgfhnbcifheaaDoor.M
