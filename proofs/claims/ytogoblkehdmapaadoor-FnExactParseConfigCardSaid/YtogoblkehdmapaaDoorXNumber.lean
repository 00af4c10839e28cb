/- impl.number: strings.Trim and strconv.Atoi by the shelf's contracts; its walk, case by case. -/
import Derived.Test.YtogoblkehdmapaaDoorTShelf
import Derived.Test.YtogoblkehdmapaaDoorM0
import Derived.Shelf.Strings.SlTrimAscii
import Derived.Deep.RegionHeld3
import Derived.StillTailTactics
import Derived.Deep.DeepCutAuto
import Derived.BigQuiet
import Derived.BigCall
import Derived.BigGuard
namespace Go.Proofs.YtogoblkehdmapaaDoor.M
open Go.RowKit Go.Proofs.YtogoblkehdmapaaDoorW.PrintWords Go.Proofs.YtogoblkehdmapaaDoorW.PrintLast Go.Proofs.YtogoblkehdmapaaDoorW.PrintMore
set_option linter.unusedVariables false
set_option linter.unusedSimpArgs false
namespace Num
def digs : List UInt8 := [48, 49, 50, 51, 52, 53, 54, 55, 56, 57]
/-- What is left when the digits at both ends are cut off. -/
def left (s : ByteArray) : List UInt8 := Lib.trimS s.data.toList digs
theorem trim_calls (s : ByteArray) (w : World) (hs : s.size ≤ 9223372036854775807) :
    Calls Tryd.prog 63 #[.string s, .string ⟨#[48, 49, 50, 51, 52, 53, 54, 55, 56, 57]⟩] w fun e w' => e = .returned (.string ⟨(left s).toArray⟩) ∧ Below w.heap.size w w' := by
  have hcon := Any.strings_Trim_laid Tryd.lays160 (by kernel_rfl) s ⟨#[48, 49, 50, 51, 52, 53, 54, 55, 56, 57]⟩ w hs (by decide) (ascii_of_all (by decide))
  change Calls Tryd.prog 63 _ _ (fun e w' => e = .returned (.string ⟨(left s).toArray⟩) ∧ Below w.heap.size w w') at hcon
  exact hcon
theorem atoi_calls (s : ByteArray) (n : Int) (hl : s.size ≤ 18) (h : Lib.atoi s.data.toList = some n) (w : World) :
    Calls Tryd.prog 64 #[.string s] w fun e w' => e = .returned (.tuple #[.int .i64 n, .nilIface]) ∧ Below w.heap.size w w' := by
  refine (Any.strconv_Atoi Tryd.lays172 s n hl h w).mono ?_
  rintro e w' ⟨he, t, rfl⟩
  exact ⟨he, rfl, rfl, rfl, by rw [Lib.bytesWorld_size]; omega, fun j hj => Lib.bytesWorld_at_old w _ t j hj⟩
end Num
def impl_number.f (s : ByteArray) : Option (Int × Bool) :=
  if s.toList = ([] : List UInt8) then some (0, false) else if (s.size : Int) > 13 then some (0, false) else if Num.left s = [] then
    (if s.data.toList.head? = some 48 then (if (s.size : Int) > 1 then some (0, false) else (Lib.atoi s.data.toList).bind fun n => some (n, true)) else (Lib.atoi s.data.toList).bind fun n => some (n, true))
  else some (0, false)
set_option maxHeartbeats 2000000 in
set_option maxRecDepth 100000 in
theorem impl_number.calls (a0 : ByteArray) (r1 : Int) (r2 : Bool) (w : World) (h : impl_number.f a0 = some (r1, r2)) :
    Calls Tryd.prog 56 #[.string a0] w fun e w' => e = .returned (.tuple #[.int .i64 r1, .bool r2]) ∧ Below w.heap.size w w' := by
  unfold impl_number.f at h
  by_cases h0 : a0.toList = ([] : List UInt8)
  · rw [if_pos h0] at h
    obtain ⟨rfl, rfl⟩ := Prod.mk.inj (Option.some.inj h)
    have b0 : (a0.toList == ([] : List UInt8)) = true := beq_iff_eq.2 h0
    have b1 : a0.toList.isEmpty = true := by rw [h0]; rfl
    clear h h0
    go_enter Tryd.func56, Tryd.ntmps56
    go_wp2_with fail
    go_ret2
    exact ⟨rfl, Below.refl _ _⟩
  · rw [if_neg h0] at h
    have b0 : (a0.toList == ([] : List UInt8)) = false := beq_eq_false_iff_ne.2 h0
    have b1 : a0.toList.isEmpty = false := by cases hh : a0.toList with | nil => exact absurd hh h0 | cons _ _ => rfl
    have hp : 0 < a0.size := by
      rcases Nat.eq_zero_or_pos a0.size with hh | hh
      · exact absurd (by rw [ByteArray.toList_eq]; exact List.length_eq_zero_iff.1 hh) h0
      · exact hh
    by_cases h1 : (a0.size : Int) > 13
    · rw [if_pos h1] at h
      obtain ⟨rfl, rfl⟩ := Prod.mk.inj (Option.some.inj h)
      have b2 : decide ((a0.size : Int) > 13) = true := decide_eq_true h1
      clear h h0
      go_enter Tryd.func56, Tryd.ntmps56
      go_wp2_with fail
      go_ret2
      exact ⟨rfl, Below.refl _ _⟩
    · rw [if_neg h1] at h
      have b2 : decide ((a0.size : Int) > 13) = false := decide_eq_false h1
      have hT := Num.trim_calls a0 w (by omega)
      by_cases h2 : Num.left a0 = []
      · rw [if_pos h2] at h
        rw [h2] at hT
        by_cases h3 : a0.data.toList.head? = some 48
        · rw [if_pos h3] at h
          have hc : a0[0]'hp = 48 := by
            have := Lib.getD_at a0 0 hp
            rw [List.getD_eq_getElem?_getD, ← List.head?_eq_getElem?, h3] at this
            exact this
          have b3 : (((a0[0]'hp).toNat : Int) == 48) = true := by rw [hc]; rfl
          by_cases h4 : (a0.size : Int) > 1
          · rw [if_pos h4] at h
            obtain ⟨rfl, rfl⟩ := Prod.mk.inj (Option.some.inj h)
            have b4 : decide ((a0.size : Int) > 1) = true := decide_eq_true h4
            clear h h0 h1 h2 h3 h4 hc
            go_enter Tryd.func56, Tryd.ntmps56
            go_wp2_with (go_at_call 63; refine hT.mono ?_; rintro e w' ⟨rfl, hB⟩)
            go_ret2
            exact ⟨rfl, hB⟩
          · rw [if_neg h4] at h
            obtain ⟨n, hn, h⟩ := Option.bind_eq_some_iff.1 h
            obtain ⟨rfl, rfl⟩ := Prod.mk.inj (Option.some.inj h)
            have b4 : decide ((a0.size : Int) > 1) = false := decide_eq_false h4
            have hA := Num.atoi_calls a0 n (by omega) hn
            clear h h0 h1 h2 h3 h4 hc hn
            go_enter Tryd.func56, Tryd.ntmps56
            go_wp2_with (first | (go_at_call 63; refine hT.mono ?_; rintro e w' ⟨rfl, hB⟩) | (go_at_call 64; refine (hA _).mono ?_; rintro e w2 ⟨rfl, hB2⟩))
            go_region_held3 (fun W' => True) (exact trivial) (fail)
            go_wp2_with fail
            go_ret2
            exact ⟨rfl, below_drew1 (below_step hB hB2)⟩
        · rw [if_neg h3] at h
          have b3 : (((a0[0]'hp).toNat : Int) == 48) = false := by
            refine beq_eq_false_iff_ne.2 fun hh => h3 ?_
            have hc : a0[0]'hp = 48 := UInt8.toNat_inj.1 (by exact_mod_cast hh)
            have := Lib.getD_at a0 0 hp
            rw [List.getD_eq_getElem?_getD, ← List.head?_eq_getElem?, hc] at this
            cases hd : a0.data.toList.head? with
            | none => rw [hd] at this; exact absurd this (by decide)
            | some b => rw [hd] at this; exact congrArg some this.symm
          obtain ⟨n, hn, h⟩ := Option.bind_eq_some_iff.1 h
          obtain ⟨rfl, rfl⟩ := Prod.mk.inj (Option.some.inj h)
          have hA := Num.atoi_calls a0 n (by omega) hn
          clear h h0 h1 h2 h3 hn
          go_enter Tryd.func56, Tryd.ntmps56
          go_wp2_with (first | (go_at_call 63; refine hT.mono ?_; rintro e w' ⟨rfl, hB⟩) | (go_at_call 64; refine (hA _).mono ?_; rintro e w2 ⟨rfl, hB2⟩))
          go_region_held3 (fun W' => True) (exact trivial) (fail)
          go_wp2_with fail
          go_ret2
          exact ⟨rfl, below_drew1 (below_step hB hB2)⟩
      · rw [if_neg h2] at h
        obtain ⟨rfl, rfl⟩ := Prod.mk.inj (Option.some.inj h)
        obtain ⟨t, ht⟩ : ∃ t : ByteArray, (⟨(Num.left a0).toArray⟩ : ByteArray) = t := ⟨_, rfl⟩
        have hne : ¬ t.toList = [] := by rw [← ht, ByteArray.toList_eq]; exact h2
        rw [ht] at hT
        have b5 : (t.toList == ([] : List UInt8)) = false := beq_eq_false_iff_ne.2 hne
        have b6 : (t.toList != ([] : List UInt8)) = true := bne_iff_ne.2 hne
        clear h h0 h1 h2 hne ht
        go_enter Tryd.func56, Tryd.ntmps56
        go_wp2_with (go_at_call 63; refine hT.mono ?_; rintro e w' ⟨rfl, hB⟩)
        go_ret2
        exact ⟨rfl, hB⟩
end Go.Proofs.YtogoblkehdmapaaDoor.M
