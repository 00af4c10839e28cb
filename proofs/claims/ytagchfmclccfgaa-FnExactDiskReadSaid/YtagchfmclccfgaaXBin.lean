/- (*handle).find's search: slices.BinarySearchFunc over files by their names. -/
import Derived.Shelf.Small.Strs
import Derived.Tactics
import Derived.WalkKit
import Derived.Test.YtagchfmclccfgaaM0
import Derived.Test.YtagchfmclccfgaaLoops
namespace Go.Proofs
open Go.RowKit Go.Shelf
def Ytagchfmclccfgaa.M.lays106_ren : Go.Shelf.Ren := ⟨fun | 106 => 74 | 213 => 76 | 265 => 77 | n => n, fun | 9 => 9 | 3 => 3 | n => n, fun | n => n⟩
theorem Ytagchfmclccfgaa.M.lCompare : Go.Proofs.Lays.n106 Try.prog Ytagchfmclccfgaa.M.lays106_ren := {
  mixed := by kernel_rfl
  f106 := Try.func74.trans (congrArg some (by kernel_rfl))
  f213 := Try.func76.trans (congrArg some (by kernel_rfl))
  f265 := Try.func77.trans (congrArg some (by kernel_rfl))
  t3 := Try.underlying3
  a3 := Try.isAgg3
  z3 := Try.sizeOf3
  v3 := Try.zeroValue3
  t9 := Try.underlying9
  a9 := Try.isAgg9
  z9 := Try.sizeOf9
  v9 := Try.zeroValue9 }
theorem Ytagchfmclccfgaa.M.compare_calls (a b : ByteArray) (w : World) : Calls Try.prog 74 #[.string a, .string b] w fun e w' => e = .returned (.int .i64 (Lib.compareBytes a.data.toList b.data.toList)) ∧ w' = w := by
  have hc := Any.strings_Compare Ytagchfmclccfgaa.M.lCompare a b w
  exact hc
end Go.Proofs
namespace Go.Proofs.Ytagchfmclccfgaa.M
open Go.RowKit Go.Shelf Go.Proofs.YtagchfmclccfgaaW.PrintWords Go.Proofs.YtagchfmclccfgaaW.PrintLast Go.Proofs.YtagchfmclccfgaaW.PrintMore
set_option linter.unusedVariables false
set_option linter.unusedSimpArgs false
namespace Bin
def cmp (x : S71) (t : ByteArray) : Int := Lib.compareBytes x.f0.data.toList t.data.toList
set_option maxHeartbeats 1000000 in
set_option maxRecDepth 100000 in
theorem closure (x : S71) (t : ByteArray) (w : World) :
    Calls Try.prog 73 #[.agg #[.string x.f0, .string x.f1, .int .i64 x.f2], .string t] w fun e w' => e = .returned (.int .i64 (cmp x t)) ∧ Below w.heap.size w w' := by
  go_enter Try.func73, Try.ntmps73
  go_wp2_with fail
  refine (compare_calls x.f0 t _).mono ?_
  rintro e w' ⟨rfl, rfl⟩
  go_wp2_with fail
  go_ret
  exact ⟨rfl, (Below.refl _ w).alloc (Nat.le_refl _) _⟩
set_option maxHeartbeats 4000000 in
set_option maxRecDepth 100000 in
theorem search (A : Option Addr) (c : Nat) (l : List S71) (t : ByteArray) (w : World) (hr : Kd.C k71 w A l.length l) (hl : l.length ≤ 1048576)
    (hm : ∀ a b : Nat, a ≤ b → b < l.length → cmp (rd_T71 l b) t < 0 → cmp (rd_T71 l a) t < 0) :
    Calls Try.prog 72 #[.slice A l.length c, .string t, .func (.func 73) #[] #[]] w fun e w' => ∃ i : Nat, i ≤ l.length ∧ (∀ a : Nat, a < i → cmp (rd_T71 l a) t < 0) ∧ (∀ a : Nat, i ≤ a → a < l.length → 0 ≤ cmp (rd_T71 l a) t) ∧
      e = .returned (.tuple #[.int .i64 i, .bool (decide (i < l.length ∧ cmp (rd_T71 l i) t = 0))]) ∧ Below w.heap.size w w' := by
  have HR := Aside0.mk hr
  have HM := Aside0.mk hm
  clear hr hm
  go_enter Try.func72, Try.ntmps72
  go_wp2
  go_loopw [9, 10] (fun i j wr => ∃ i' j' : Nat, i' ≤ j' ∧ j' ≤ l.length ∧ i = .int .i64 i' ∧ j = .int .i64 j' ∧ Aside0 (∀ a : Nat, a < i' → cmp (rd_T71 l a) t < 0) ∧ Aside0 (∀ a : Nat, j' ≤ a → a < l.length → 0 ≤ cmp (rd_T71 l a) t) ∧ Aside0 (Below w.heap.size w wr))
    (fun i j _ => (intOf j).toNat - (intOf i).toNat)
  case atStart => exact ⟨0, l.length, Nat.zero_le _, Nat.le_refl _, rfl, rfl, ⟨fun a h => by omega⟩, ⟨fun a h h' => by omega⟩, ⟨Below.refl _ _⟩⟩
  case round =>
    obtain ⟨i, j, hij, hj, rfl, rfl, H1, H2, HB⟩ := hrel
    by_cases hlt : i < j
    · obtain ⟨h, hh⟩ : ∃ h : Nat, h = (i + j) / 2 := ⟨_, rfl⟩
      obtain ⟨ad, e, hc0, hc1, hc2⟩ := at_T71 (Kd.C_below HR.out HB.out) (h : Int) (by omega) (by omega)
      subst e
      have e3 : ((h : Int).toNat) = (i + j) / 2 := by rw [Int.toNat_natCast, hh]
      rw [e3] at hc0 hc1 hc2
      obtain ⟨x, hx⟩ : ∃ x, x = rd_T71 l (h : Int) := ⟨_, rfl⟩
      rw [← hx] at hc0 hc1 hc2
      have HX := Aside0.mk hx
      have HH := Aside0.mk hh
      clear hx e3
      by_cases hneg : cmp x t < 0
      · go_wp2_with fail
        refine (closure x t _).mono ?_
        rintro e w1 ⟨rfl, hb1⟩
        have HB1 := Aside0.mk hb1
        clear hb1
        go_wp2_with fail
        go_roundw
        case rel => exact ⟨(i + j) / 2 + 1, j, by omega, hj, by simp, rfl, ⟨fun a ha => HM.out a ((i + j) / 2) (by omega) (by omega) (by rw [← HH.out, ← HX.out]; exact hneg)⟩, H2, ⟨below_then HB.out HB.out.size HB1.out⟩⟩
        case measure => simp [intOf]; omega
      · have HG : Aside0 (¬ cmp x t < 0) := ⟨hneg⟩
        go_wp2_with fail
        refine (closure x t _).mono ?_
        rintro e w1 ⟨rfl, hb1⟩
        have HB1 := Aside0.mk hb1
        clear hb1
        go_wp2_with fail
        go_roundw
        case rel => exact ⟨i, (i + j) / 2, by omega, by omega, rfl, by simp, H1, ⟨fun a h1 h2 => Int.not_lt.1 fun h3 => Int.not_lt.2 HG.out (by rw [HX.out, HH.out]; exact HM.out ((i + j) / 2) a h1 h2 h3)⟩, ⟨below_then HB.out HB.out.size HB1.out⟩⟩
        case measure => simp [intOf]; omega
    · obtain rfl : i = j := by omega
      by_cases hil : i < l.length
      · obtain ⟨ad, e, hc0, hc1, hc2⟩ := at_T71 (Kd.C_below HR.out HB.out) (i : Int) (by omega) (by omega)
        subst e
        rw [Int.toNat_natCast] at hc0 hc1 hc2
        obtain ⟨x, hx⟩ : ∃ x, x = rd_T71 l (i : Int) := ⟨_, rfl⟩
        rw [← hx] at hc0 hc1 hc2
        have HX := Aside0.mk hx
        clear hx
        go_wp2_with fail
        refine (closure x t _).mono ?_
        rintro e w1 ⟨rfl, hb1⟩
        have HB1 := Aside0.mk hb1
        clear hb1
        have HE : Aside0 (decide (i < l.length ∧ cmp (rd_T71 l (i : Int)) t = 0) = decide (cmp x t = 0)) := ⟨by rw [HX.out]; simp [hil]⟩
        have HN : Aside0 (∀ a : Nat, i ≤ a → a < l.length → 0 ≤ cmp (rd_T71 l a) t) := H2
        go_wp2_with fail
        go_ret2
        refine ⟨i, hj, H1.out, HN.out, ?_, below_then HB.out HB.out.size HB1.out⟩
        have := HE.out
        simp_all
        by_cases h0 : cmp x t = 0 <;> simp [h0]
      · have HE : Aside0 (decide (i < l.length ∧ cmp (rd_T71 l (i : Int)) t = 0) = false) := ⟨by simp [hil]⟩
        have HN : Aside0 (∀ a : Nat, i ≤ a → a < l.length → 0 ≤ cmp (rd_T71 l a) t) := H2
        go_wp2_with fail
        go_ret2
        refine ⟨i, hj, H1.out, HN.out, ?_, HB.out⟩
        simp [hil]
end Bin
end Go.Proofs.Ytagchfmclccfgaa.M
