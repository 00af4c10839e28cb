/- impl.rising: texts in strictly rising order, by a closure that reads each element's first field. -/
import Derived.WalkKit
import Derived.Deep.RegionHeld3
import Derived.Deep.DeepCutAuto
import Derived.BigQuiet
import Derived.Test.YtikbfjnbhogihaaGreatDoorM0
import Derived.Test.YtikbfjnbhogihaaGreatDoorLoops
import Derived.Test.YtikbfjnbhogihaaGreatDoorS0
import Derived.Laws.Cover1
namespace Go.Proofs.YtikbfjnbhogihaaGreatDoor.M
open Go.RowKit Go.Proofs.YtikbfjnbhogihaaGreatDoorW.PrintWords Go.Proofs.YtikbfjnbhogihaaGreatDoorW.PrintLast Go.Proofs.YtikbfjnbhogihaaGreatDoorW.PrintMore
set_option linter.unusedVariables false
set_option linter.unusedSimpArgs false
namespace Rise
def up : List ByteArray → Bool
  | [] => true
  | [_] => true
  | a :: b :: l => Op.bytesLess a.toList b.toList && up (b :: l)
theorem up_short (l : List ByteArray) (h : l.length ≤ 1) : up l = true := by
  match l, h with
  | [], _ => rfl
  | [_], _ => rfl
  | _ :: _ :: _, h => simp at h
theorem up_two (l : List ByteArray) (i : Nat) (h : i + 1 < l.length) : up (l.drop i) = (Op.bytesLess l[i].toList l[i + 1].toList && up (l.drop (i + 1))) := by
  rw [List.drop_eq_getElem_cons (show i < l.length by omega), List.drop_eq_getElem_cons h]
  rfl
theorem le_not (a b : List UInt8) : (Op.bytesLess a b || a == b) = !(Op.bytesLess b a) := by
  cases h : Op.bytesLess b a with
  | true =>
    have h1 : Op.bytesLess a b = false := by
      cases h2 : Op.bytesLess a b with
      | false => rfl
      | true => have := CanSort.less_trans _ _ _ h h2; rw [CanSort.less_irrefl] at this; cases this
    have h3 : (a == b) = false := by
      cases h4 : a == b with
      | false => rfl
      | true => rw [eq_of_beq h4, CanSort.less_irrefl] at h; cases h
    rw [h1, h3]; rfl
  | false =>
    cases h2 : Op.bytesLess a b with
    | true => rfl
    | false => rw [CanSort.less_total a b h2 h, beq_self_eq_true]; rfl
theorem up_step {α : Type} (g : α → ByteArray) (z : α) (l : List α) (i j : Nat) (hij : j = i + 1) (h : j < l.length) : up ((l.map g).drop (j - 1)) = (Op.bytesLess (g (l.getD (i : Int).toNat z)).toList (g (l.getD (j : Int).toNat z)).toList && up ((l.map g).drop j)) := by
  subst hij
  have hi : i < l.length := by omega
  rw [Int.toNat_natCast, Int.toNat_natCast, Nat.add_sub_cancel, up_two (l.map g) i (by rw [List.length_map]; exact h), List.getD_eq_getElem?_getD, List.getD_eq_getElem?_getD, List.getElem?_eq_getElem h, List.getElem?_eq_getElem hi]
  simp
end Rise
set_option maxHeartbeats 1000000 in
theorem Rise.key_Series (s : ByteArray) (v1 : Value) (w : World) :
    Calls Tryz.prog 110 #[.agg #[.string s, v1]] w fun e w' => e = .returned (.string s) ∧ Below w.heap.size w w' := by
  have HB := Aside0.mk ((Below.refl w.heap.size w).alloc (Nat.le_refl _) (.cells #[.string s, v1] 93))
  have hx : (w.alloc (.cells #[.string s, v1] 93)).cell? ⟨w.heap.size, 0, none⟩ = some (.string s) := (blk_cell (blk_new w _) 0).trans rfl
  have hu := Tryz.underlying93
  go_enter Tryz.func110, Tryz.ntmps110
  go_wp2_with fail
  go_ret
  exact ⟨rfl, HB.out⟩
def impl_Series_string.f (l : List S93) : Option Bool := if l.length < 9223372036854775807 then some (Rise.up (l.map (·.f0))) else none
set_option maxHeartbeats 4000000 in
set_option maxRecDepth 100000 in
theorem impl_Series_string.calls (A0 : Option Addr) (c0 : Nat) (l0 : List S93) (r : Bool) (w : World) (hr0 : Kd.C k93 w A0 l0.length l0) (hc0 : l0.length ≤ c0) (h : impl_Series_string.f l0 = some r) :
    Calls Tryz.prog 109 #[.slice A0 l0.length c0, .func (.func 110) #[] #[]] w fun e w' => e = .returned (.bool r) ∧ Below w.heap.size w w' := by
  unfold impl_Series_string.f at h
  by_cases hn : l0.length < 9223372036854775807
  case neg => rw [if_neg hn] at h; cases h
  rw [if_pos hn] at h
  have H := Aside0.mk (Option.some.inj h)
  have HR := Aside0.mk hr0
  clear h hr0
  have HB := Aside0.mk (Below.refl w.heap.size w)
  have hu := Tryz.underlying93
  go_enter Tryz.func109, Tryz.ntmps109
  go_wp2_with fail
  go_loopw [5] (fun i wr => ∃ j : Nat, i = .int .i64 j ∧ 1 ≤ j ∧ Aside0 (Rise.up (l0.map (·.f0)) = Rise.up ((l0.map (·.f0)).drop (j - 1))) ∧ Aside0 (Below w.heap.size w wr)) (fun i _ => l0.length - (intOf i).toNat)
  case atStart => exact ⟨1, rfl, Nat.le_refl _, ⟨rfl⟩, HB⟩
  case round =>
    obtain ⟨j, rfl, h1, HU, HBr⟩ := hrel
    by_cases hlt : j < l0.length
    · obtain ⟨i, hij⟩ : ∃ i, j = i + 1 := ⟨j - 1, by omega⟩
      have hs := Rise.up_step (·.f0) z93 l0 i j hij hlt
      have hi : i < l0.length := by omega
      have hw : IntKind.i64.wrap ((j : Int) - 1) = (i : Int) := (IntWalk.i64_in _ (by omega)).trans (by omega)
      clear hij
      change _ = (Op.bytesLess (rd_T93 l0 (i : Int)).f0.toList (rd_T93 l0 (j : Int)).f0.toList && _) at hs
      obtain ⟨ad, eaa, xa0, xa1⟩ := at_T93 HR.out ((j : Int)) (by omega) (by omega)
      subst eaa
      obtain ⟨ad2, eab, xb0, xb1⟩ := at_T93 HR.out ((i : Int)) (by omega) (by omega)
      obtain rfl := Option.some.inj eab
      obtain ⟨a, ha⟩ : ∃ a, a = rd_T93 l0 (j : Int) := ⟨_, rfl⟩
      obtain ⟨b, hb⟩ : ∃ b, b = rd_T93 l0 (i : Int) := ⟨_, rfl⟩
      rw [← ha] at xa0 xa1
      rw [← hb] at xb0 xb1
      rw [← ha, ← hb] at hs
      clear ha hb
      simp only [Int.toNat_natCast] at xa0 xa1 xb0 xb1
      have HS := Aside0.mk hs
      clear hs
      have hle := Rise.le_not a.f0.toList b.f0.toList
      cases hc : Op.bytesLess b.f0.toList a.f0.toList with
      | true =>
        rw [hc] at hle
        change (Op.bytesLess a.f0.toList b.f0.toList || a.f0.toList == b.f0.toList) = false at hle
        go_wp2_with fail
        have ra0 := (HBr.out.cell (World.block_lt_of_cell? w _ xa0)).trans xa0
        have ra1 := (HBr.out.cell (World.block_lt_of_cell? w _ xa1)).trans xa1
        have rb0 := (HBr.out.cell (World.block_lt_of_cell? w _ xb0)).trans xb0
        have rb1 := (HBr.out.cell (World.block_lt_of_cell? w _ xb1)).trans xb1
        go_region_held3 (fun W' => W'.cell? (ad.add (j * 2)) = some (.string a.f0) ∧ W'.cell? (⟨(ad.add (j * 2)).block, (ad.add (j * 2)).off + 1, none⟩) = some (.int .i64 a.f1) ∧ W'.cell? (ad.add (i * 2)) = some (.string b.f0) ∧ W'.cell? (⟨(ad.add (i * 2)).block, (ad.add (i * 2)).off + 1, none⟩) = some (.int .i64 b.f1))
          (first | exact ⟨ra0, ra1, rb0, rb1⟩ | exact ⟨pa0, pa1, pb0, pb1⟩ | exact ⟨qa0, qa1, qb0, qb1⟩)
          (first | (go_at_call 110; have _t := HBr; clear _t; refine (Rise.key_Series _ _ _).mono ?_; rintro e Wa ⟨rfl, hba⟩; have HBa := Aside0.mk (below_step (below_drew1 HBr.out) hba); have pa0 := (HBa.out.cell (World.block_lt_of_cell? w _ xa0)).trans xa0; have pa1 := (HBa.out.cell (World.block_lt_of_cell? w _ xa1)).trans xa1; have pb0 := (HBa.out.cell (World.block_lt_of_cell? w _ xb0)).trans xb0; have pb1 := (HBa.out.cell (World.block_lt_of_cell? w _ xb1)).trans xb1; clear hba HBr)
                 | (go_at_call 110; have _t := HBa; clear _t; refine (Rise.key_Series _ _ _).mono ?_; rintro e Wb ⟨rfl, hbb⟩; have HBb := Aside0.mk (below_step HBa.out hbb); have qa0 := (HBb.out.cell (World.block_lt_of_cell? w _ xa0)).trans xa0; have qa1 := (HBb.out.cell (World.block_lt_of_cell? w _ xa1)).trans xa1; have qb0 := (HBb.out.cell (World.block_lt_of_cell? w _ xb0)).trans xb0; have qb1 := (HBb.out.cell (World.block_lt_of_cell? w _ xb1)).trans xb1; clear hbb HBa))
        go_wp2_with fail
        go_roundw
        case rel => exact ⟨j + 1, by go_num, by omega, ⟨by rw [HU.out, HS.out, hc, Bool.true_and, Nat.add_sub_cancel]⟩, HBb⟩
        case measure => simp [intOf]; omega
      | false =>
        rw [hc] at hle
        change (Op.bytesLess a.f0.toList b.f0.toList || a.f0.toList == b.f0.toList) = true at hle
        go_wp2_with fail
        have ra0 := (HBr.out.cell (World.block_lt_of_cell? w _ xa0)).trans xa0
        have ra1 := (HBr.out.cell (World.block_lt_of_cell? w _ xa1)).trans xa1
        have rb0 := (HBr.out.cell (World.block_lt_of_cell? w _ xb0)).trans xb0
        have rb1 := (HBr.out.cell (World.block_lt_of_cell? w _ xb1)).trans xb1
        go_region_held3 (fun W' => W'.cell? (ad.add (j * 2)) = some (.string a.f0) ∧ W'.cell? (⟨(ad.add (j * 2)).block, (ad.add (j * 2)).off + 1, none⟩) = some (.int .i64 a.f1) ∧ W'.cell? (ad.add (i * 2)) = some (.string b.f0) ∧ W'.cell? (⟨(ad.add (i * 2)).block, (ad.add (i * 2)).off + 1, none⟩) = some (.int .i64 b.f1))
          (first | exact ⟨ra0, ra1, rb0, rb1⟩ | exact ⟨pa0, pa1, pb0, pb1⟩ | exact ⟨qa0, qa1, qb0, qb1⟩)
          (first | (go_at_call 110; have _t := HBr; clear _t; refine (Rise.key_Series _ _ _).mono ?_; rintro e Wa ⟨rfl, hba⟩; have HBa := Aside0.mk (below_step (below_drew1 HBr.out) hba); have pa0 := (HBa.out.cell (World.block_lt_of_cell? w _ xa0)).trans xa0; have pa1 := (HBa.out.cell (World.block_lt_of_cell? w _ xa1)).trans xa1; have pb0 := (HBa.out.cell (World.block_lt_of_cell? w _ xb0)).trans xb0; have pb1 := (HBa.out.cell (World.block_lt_of_cell? w _ xb1)).trans xb1; clear hba HBr)
                 | (go_at_call 110; have _t := HBa; clear _t; refine (Rise.key_Series _ _ _).mono ?_; rintro e Wb ⟨rfl, hbb⟩; have HBb := Aside0.mk (below_step HBa.out hbb); have qa0 := (HBb.out.cell (World.block_lt_of_cell? w _ xa0)).trans xa0; have qa1 := (HBb.out.cell (World.block_lt_of_cell? w _ xa1)).trans xa1; have qb0 := (HBb.out.cell (World.block_lt_of_cell? w _ xb0)).trans xb0; have qb1 := (HBb.out.cell (World.block_lt_of_cell? w _ xb1)).trans xb1; clear hbb HBa))
        go_wp2_with fail
        go_ret
        exact ⟨by rw [← H.out, HU.out, HS.out, hc, Bool.false_and]; rfl, HBb.out⟩
    · have hfin := Aside0.mk (Rise.up_short ((l0.map (·.f0)).drop (j - 1)) (by rw [List.length_drop, List.length_map]; omega))
      go_wp2_with fail
      go_ret
      exact ⟨by rw [← H.out, HU.out, hfin.out]; rfl, HBr.out⟩
set_option maxHeartbeats 1000000 in
theorem Rise.key_MetricLimit (s : ByteArray) (v1 : Value) (w : World) :
    Calls Tryz.prog 108 #[.agg #[.string s, v1]] w fun e w' => e = .returned (.string s) ∧ Below w.heap.size w w' := by
  have HB := Aside0.mk ((Below.refl w.heap.size w).alloc (Nat.le_refl _) (.cells #[.string s, v1] 91))
  have hx : (w.alloc (.cells #[.string s, v1] 91)).cell? ⟨w.heap.size, 0, none⟩ = some (.string s) := (blk_cell (blk_new w _) 0).trans rfl
  have hu := Tryz.underlying91
  go_enter Tryz.func108, Tryz.ntmps108
  go_wp2_with fail
  go_ret
  exact ⟨rfl, HB.out⟩
def impl_MetricLimit_string.f (l : List S91) : Option Bool := if l.length < 9223372036854775807 then some (Rise.up (l.map (·.f0))) else none
set_option maxHeartbeats 4000000 in
set_option maxRecDepth 100000 in
theorem impl_MetricLimit_string.calls (A0 : Option Addr) (c0 : Nat) (l0 : List S91) (r : Bool) (w : World) (hr0 : Kd.C k91 w A0 l0.length l0) (hc0 : l0.length ≤ c0) (h : impl_MetricLimit_string.f l0 = some r) :
    Calls Tryz.prog 107 #[.slice A0 l0.length c0, .func (.func 108) #[] #[]] w fun e w' => e = .returned (.bool r) ∧ Below w.heap.size w w' := by
  unfold impl_MetricLimit_string.f at h
  by_cases hn : l0.length < 9223372036854775807
  case neg => rw [if_neg hn] at h; cases h
  rw [if_pos hn] at h
  have H := Aside0.mk (Option.some.inj h)
  have HR := Aside0.mk hr0
  clear h hr0
  have HB := Aside0.mk (Below.refl w.heap.size w)
  have hu := Tryz.underlying91
  go_enter Tryz.func107, Tryz.ntmps107
  go_wp2_with fail
  go_loopw [5] (fun i wr => ∃ j : Nat, i = .int .i64 j ∧ 1 ≤ j ∧ Aside0 (Rise.up (l0.map (·.f0)) = Rise.up ((l0.map (·.f0)).drop (j - 1))) ∧ Aside0 (Below w.heap.size w wr)) (fun i _ => l0.length - (intOf i).toNat)
  case atStart => exact ⟨1, rfl, Nat.le_refl _, ⟨rfl⟩, HB⟩
  case round =>
    obtain ⟨j, rfl, h1, HU, HBr⟩ := hrel
    by_cases hlt : j < l0.length
    · obtain ⟨i, hij⟩ : ∃ i, j = i + 1 := ⟨j - 1, by omega⟩
      have hs := Rise.up_step (·.f0) z91 l0 i j hij hlt
      have hi : i < l0.length := by omega
      have hw : IntKind.i64.wrap ((j : Int) - 1) = (i : Int) := (IntWalk.i64_in _ (by omega)).trans (by omega)
      clear hij
      change _ = (Op.bytesLess (rd_T91 l0 (i : Int)).f0.toList (rd_T91 l0 (j : Int)).f0.toList && _) at hs
      obtain ⟨ad, eaa, xa0, xa1⟩ := at_T91 HR.out ((j : Int)) (by omega) (by omega)
      subst eaa
      obtain ⟨ad2, eab, xb0, xb1⟩ := at_T91 HR.out ((i : Int)) (by omega) (by omega)
      obtain rfl := Option.some.inj eab
      obtain ⟨a, ha⟩ : ∃ a, a = rd_T91 l0 (j : Int) := ⟨_, rfl⟩
      obtain ⟨b, hb⟩ : ∃ b, b = rd_T91 l0 (i : Int) := ⟨_, rfl⟩
      rw [← ha] at xa0 xa1
      rw [← hb] at xb0 xb1
      rw [← ha, ← hb] at hs
      clear ha hb
      simp only [Int.toNat_natCast] at xa0 xa1 xb0 xb1
      have HS := Aside0.mk hs
      clear hs
      have hle := Rise.le_not a.f0.toList b.f0.toList
      cases hc : Op.bytesLess b.f0.toList a.f0.toList with
      | true =>
        rw [hc] at hle
        change (Op.bytesLess a.f0.toList b.f0.toList || a.f0.toList == b.f0.toList) = false at hle
        go_wp2_with fail
        have ra0 := (HBr.out.cell (World.block_lt_of_cell? w _ xa0)).trans xa0
        have ra1 := (HBr.out.cell (World.block_lt_of_cell? w _ xa1)).trans xa1
        have rb0 := (HBr.out.cell (World.block_lt_of_cell? w _ xb0)).trans xb0
        have rb1 := (HBr.out.cell (World.block_lt_of_cell? w _ xb1)).trans xb1
        go_region_held3 (fun W' => W'.cell? (ad.add (j * 2)) = some (.string a.f0) ∧ W'.cell? (⟨(ad.add (j * 2)).block, (ad.add (j * 2)).off + 1, none⟩) = some (.int .i64 a.f1) ∧ W'.cell? (ad.add (i * 2)) = some (.string b.f0) ∧ W'.cell? (⟨(ad.add (i * 2)).block, (ad.add (i * 2)).off + 1, none⟩) = some (.int .i64 b.f1))
          (first | exact ⟨ra0, ra1, rb0, rb1⟩ | exact ⟨pa0, pa1, pb0, pb1⟩ | exact ⟨qa0, qa1, qb0, qb1⟩)
          (first | (go_at_call 108; have _t := HBr; clear _t; refine (Rise.key_MetricLimit _ _ _).mono ?_; rintro e Wa ⟨rfl, hba⟩; have HBa := Aside0.mk (below_step (below_drew1 HBr.out) hba); have pa0 := (HBa.out.cell (World.block_lt_of_cell? w _ xa0)).trans xa0; have pa1 := (HBa.out.cell (World.block_lt_of_cell? w _ xa1)).trans xa1; have pb0 := (HBa.out.cell (World.block_lt_of_cell? w _ xb0)).trans xb0; have pb1 := (HBa.out.cell (World.block_lt_of_cell? w _ xb1)).trans xb1; clear hba HBr)
                 | (go_at_call 108; have _t := HBa; clear _t; refine (Rise.key_MetricLimit _ _ _).mono ?_; rintro e Wb ⟨rfl, hbb⟩; have HBb := Aside0.mk (below_step HBa.out hbb); have qa0 := (HBb.out.cell (World.block_lt_of_cell? w _ xa0)).trans xa0; have qa1 := (HBb.out.cell (World.block_lt_of_cell? w _ xa1)).trans xa1; have qb0 := (HBb.out.cell (World.block_lt_of_cell? w _ xb0)).trans xb0; have qb1 := (HBb.out.cell (World.block_lt_of_cell? w _ xb1)).trans xb1; clear hbb HBa))
        go_wp2_with fail
        go_roundw
        case rel => exact ⟨j + 1, by go_num, by omega, ⟨by rw [HU.out, HS.out, hc, Bool.true_and, Nat.add_sub_cancel]⟩, HBb⟩
        case measure => simp [intOf]; omega
      | false =>
        rw [hc] at hle
        change (Op.bytesLess a.f0.toList b.f0.toList || a.f0.toList == b.f0.toList) = true at hle
        go_wp2_with fail
        have ra0 := (HBr.out.cell (World.block_lt_of_cell? w _ xa0)).trans xa0
        have ra1 := (HBr.out.cell (World.block_lt_of_cell? w _ xa1)).trans xa1
        have rb0 := (HBr.out.cell (World.block_lt_of_cell? w _ xb0)).trans xb0
        have rb1 := (HBr.out.cell (World.block_lt_of_cell? w _ xb1)).trans xb1
        go_region_held3 (fun W' => W'.cell? (ad.add (j * 2)) = some (.string a.f0) ∧ W'.cell? (⟨(ad.add (j * 2)).block, (ad.add (j * 2)).off + 1, none⟩) = some (.int .i64 a.f1) ∧ W'.cell? (ad.add (i * 2)) = some (.string b.f0) ∧ W'.cell? (⟨(ad.add (i * 2)).block, (ad.add (i * 2)).off + 1, none⟩) = some (.int .i64 b.f1))
          (first | exact ⟨ra0, ra1, rb0, rb1⟩ | exact ⟨pa0, pa1, pb0, pb1⟩ | exact ⟨qa0, qa1, qb0, qb1⟩)
          (first | (go_at_call 108; have _t := HBr; clear _t; refine (Rise.key_MetricLimit _ _ _).mono ?_; rintro e Wa ⟨rfl, hba⟩; have HBa := Aside0.mk (below_step (below_drew1 HBr.out) hba); have pa0 := (HBa.out.cell (World.block_lt_of_cell? w _ xa0)).trans xa0; have pa1 := (HBa.out.cell (World.block_lt_of_cell? w _ xa1)).trans xa1; have pb0 := (HBa.out.cell (World.block_lt_of_cell? w _ xb0)).trans xb0; have pb1 := (HBa.out.cell (World.block_lt_of_cell? w _ xb1)).trans xb1; clear hba HBr)
                 | (go_at_call 108; have _t := HBa; clear _t; refine (Rise.key_MetricLimit _ _ _).mono ?_; rintro e Wb ⟨rfl, hbb⟩; have HBb := Aside0.mk (below_step HBa.out hbb); have qa0 := (HBb.out.cell (World.block_lt_of_cell? w _ xa0)).trans xa0; have qa1 := (HBb.out.cell (World.block_lt_of_cell? w _ xa1)).trans xa1; have qb0 := (HBb.out.cell (World.block_lt_of_cell? w _ xb0)).trans xb0; have qb1 := (HBb.out.cell (World.block_lt_of_cell? w _ xb1)).trans xb1; clear hbb HBa))
        go_wp2_with fail
        go_ret
        exact ⟨by rw [← H.out, HU.out, HS.out, hc, Bool.false_and]; rfl, HBb.out⟩
    · have hfin := Aside0.mk (Rise.up_short ((l0.map (·.f0)).drop (j - 1)) (by rw [List.length_drop, List.length_map]; omega))
      go_wp2_with fail
      go_ret
      exact ⟨by rw [← H.out, HU.out, hfin.out]; rfl, HBr.out⟩
set_option maxHeartbeats 1000000 in
theorem Rise.key_Tenant (s : ByteArray) (v1 v2 v3 : Value) (w : World) :
    Calls Tryz.prog 57 #[.agg #[.string s, v1, v2, v3]] w fun e w' => e = .returned (.string s) ∧ Below w.heap.size w w' := by
  have HB := Aside0.mk ((Below.refl w.heap.size w).alloc (Nat.le_refl _) (.cells #[.string s, v1, v2, v3] 87))
  have hx : (w.alloc (.cells #[.string s, v1, v2, v3] 87)).cell? ⟨w.heap.size, 0, none⟩ = some (.string s) := (blk_cell (blk_new w _) 0).trans rfl
  have hu := Tryz.underlying87
  go_enter Tryz.func57, Tryz.ntmps57
  go_wp2_with fail
  go_ret
  exact ⟨rfl, HB.out⟩
def impl_Tenant_string.f (l : List S87) : Option Bool := if l.length < 9223372036854775807 then some (Rise.up (l.map (·.f0))) else none
set_option maxHeartbeats 4000000 in
set_option maxRecDepth 100000 in
theorem impl_Tenant_string.calls (A0 : Option Addr) (c0 : Nat) (l0 : List S87) (r : Bool) (w : World) (hr0 : Kd.C k87 w A0 l0.length l0) (hc0 : l0.length ≤ c0) (h : impl_Tenant_string.f l0 = some r) :
    Calls Tryz.prog 56 #[.slice A0 l0.length c0, .func (.func 57) #[] #[]] w fun e w' => e = .returned (.bool r) ∧ Below w.heap.size w w' := by
  unfold impl_Tenant_string.f at h
  by_cases hn : l0.length < 9223372036854775807
  case neg => rw [if_neg hn] at h; cases h
  rw [if_pos hn] at h
  have H := Aside0.mk (Option.some.inj h)
  have HR := Aside0.mk hr0
  clear h hr0
  have HB := Aside0.mk (Below.refl w.heap.size w)
  have hu := Tryz.underlying87
  go_enter Tryz.func56, Tryz.ntmps56
  go_wp2_with fail
  go_loopw [5] (fun i wr => ∃ j : Nat, i = .int .i64 j ∧ 1 ≤ j ∧ Aside0 (Rise.up (l0.map (·.f0)) = Rise.up ((l0.map (·.f0)).drop (j - 1))) ∧ Aside0 (Below w.heap.size w wr)) (fun i _ => l0.length - (intOf i).toNat)
  case atStart => exact ⟨1, rfl, Nat.le_refl _, ⟨rfl⟩, HB⟩
  case round =>
    obtain ⟨j, rfl, h1, HU, HBr⟩ := hrel
    by_cases hlt : j < l0.length
    · obtain ⟨i, hij⟩ : ∃ i, j = i + 1 := ⟨j - 1, by omega⟩
      have hs := Rise.up_step (·.f0) z87 l0 i j hij hlt
      have hi : i < l0.length := by omega
      have hw : IntKind.i64.wrap ((j : Int) - 1) = (i : Int) := (IntWalk.i64_in _ (by omega)).trans (by omega)
      clear hij
      change _ = (Op.bytesLess (rd_T87 l0 (i : Int)).f0.toList (rd_T87 l0 (j : Int)).f0.toList && _) at hs
      obtain ⟨ad, A2a, c2a, A3a, c3a, eaa, xa0, xa1, xa2, xa3, _, _, _, _⟩ := at_T87 HR.out ((j : Int)) (by omega) (by omega)
      subst eaa
      obtain ⟨ad2, A2b, c2b, A3b, c3b, eab, xb0, xb1, xb2, xb3, _, _, _, _⟩ := at_T87 HR.out ((i : Int)) (by omega) (by omega)
      obtain rfl := Option.some.inj eab
      obtain ⟨a, ha⟩ : ∃ a, a = rd_T87 l0 (j : Int) := ⟨_, rfl⟩
      obtain ⟨b, hb⟩ : ∃ b, b = rd_T87 l0 (i : Int) := ⟨_, rfl⟩
      rw [← ha] at xa0 xa1 xa2 xa3
      rw [← hb] at xb0 xb1 xb2 xb3
      rw [← ha, ← hb] at hs
      clear ha hb
      simp only [Int.toNat_natCast] at xa0 xa1 xa2 xa3 xb0 xb1 xb2 xb3
      have HS := Aside0.mk hs
      clear hs
      have hle := Rise.le_not a.f0.toList b.f0.toList
      cases hc : Op.bytesLess b.f0.toList a.f0.toList with
      | true =>
        rw [hc] at hle
        change (Op.bytesLess a.f0.toList b.f0.toList || a.f0.toList == b.f0.toList) = false at hle
        go_wp2_with fail
        have ra0 := (HBr.out.cell (World.block_lt_of_cell? w _ xa0)).trans xa0
        have ra1 := (HBr.out.cell (World.block_lt_of_cell? w _ xa1)).trans xa1
        have ra2 := (HBr.out.cell (World.block_lt_of_cell? w _ xa2)).trans xa2
        have ra3 := (HBr.out.cell (World.block_lt_of_cell? w _ xa3)).trans xa3
        have rb0 := (HBr.out.cell (World.block_lt_of_cell? w _ xb0)).trans xb0
        have rb1 := (HBr.out.cell (World.block_lt_of_cell? w _ xb1)).trans xb1
        have rb2 := (HBr.out.cell (World.block_lt_of_cell? w _ xb2)).trans xb2
        have rb3 := (HBr.out.cell (World.block_lt_of_cell? w _ xb3)).trans xb3
        go_region_held3 (fun W' => W'.cell? (ad.add (j * 4)) = some (.string a.f0) ∧ W'.cell? (⟨(ad.add (j * 4)).block, (ad.add (j * 4)).off + 1, none⟩) = some (.int .i64 a.f1) ∧ W'.cell? (⟨(ad.add (j * 4)).block, (ad.add (j * 4)).off + 2, none⟩) = some (.slice A2a a.f2.length c2a) ∧ W'.cell? (⟨(ad.add (j * 4)).block, (ad.add (j * 4)).off + 3, none⟩) = some (.slice A3a a.f3.length c3a) ∧ W'.cell? (ad.add (i * 4)) = some (.string b.f0) ∧ W'.cell? (⟨(ad.add (i * 4)).block, (ad.add (i * 4)).off + 1, none⟩) = some (.int .i64 b.f1) ∧ W'.cell? (⟨(ad.add (i * 4)).block, (ad.add (i * 4)).off + 2, none⟩) = some (.slice A2b b.f2.length c2b) ∧ W'.cell? (⟨(ad.add (i * 4)).block, (ad.add (i * 4)).off + 3, none⟩) = some (.slice A3b b.f3.length c3b))
          (first | exact ⟨ra0, ra1, ra2, ra3, rb0, rb1, rb2, rb3⟩ | exact ⟨pa0, pa1, pa2, pa3, pb0, pb1, pb2, pb3⟩ | exact ⟨qa0, qa1, qa2, qa3, qb0, qb1, qb2, qb3⟩)
          (first | (go_at_call 57; have _t := HBr; clear _t; refine (Rise.key_Tenant _ _ _ _ _).mono ?_; rintro e Wa ⟨rfl, hba⟩; have HBa := Aside0.mk (below_step (below_drew1 HBr.out) hba); have pa0 := (HBa.out.cell (World.block_lt_of_cell? w _ xa0)).trans xa0; have pa1 := (HBa.out.cell (World.block_lt_of_cell? w _ xa1)).trans xa1; have pa2 := (HBa.out.cell (World.block_lt_of_cell? w _ xa2)).trans xa2; have pa3 := (HBa.out.cell (World.block_lt_of_cell? w _ xa3)).trans xa3; have pb0 := (HBa.out.cell (World.block_lt_of_cell? w _ xb0)).trans xb0; have pb1 := (HBa.out.cell (World.block_lt_of_cell? w _ xb1)).trans xb1; have pb2 := (HBa.out.cell (World.block_lt_of_cell? w _ xb2)).trans xb2; have pb3 := (HBa.out.cell (World.block_lt_of_cell? w _ xb3)).trans xb3; clear hba HBr)
                 | (go_at_call 57; have _t := HBa; clear _t; refine (Rise.key_Tenant _ _ _ _ _).mono ?_; rintro e Wb ⟨rfl, hbb⟩; have HBb := Aside0.mk (below_step HBa.out hbb); have qa0 := (HBb.out.cell (World.block_lt_of_cell? w _ xa0)).trans xa0; have qa1 := (HBb.out.cell (World.block_lt_of_cell? w _ xa1)).trans xa1; have qa2 := (HBb.out.cell (World.block_lt_of_cell? w _ xa2)).trans xa2; have qa3 := (HBb.out.cell (World.block_lt_of_cell? w _ xa3)).trans xa3; have qb0 := (HBb.out.cell (World.block_lt_of_cell? w _ xb0)).trans xb0; have qb1 := (HBb.out.cell (World.block_lt_of_cell? w _ xb1)).trans xb1; have qb2 := (HBb.out.cell (World.block_lt_of_cell? w _ xb2)).trans xb2; have qb3 := (HBb.out.cell (World.block_lt_of_cell? w _ xb3)).trans xb3; clear hbb HBa))
        go_wp2_with fail
        go_roundw
        case rel => exact ⟨j + 1, by go_num, by omega, ⟨by rw [HU.out, HS.out, hc, Bool.true_and, Nat.add_sub_cancel]⟩, HBb⟩
        case measure => simp [intOf]; omega
      | false =>
        rw [hc] at hle
        change (Op.bytesLess a.f0.toList b.f0.toList || a.f0.toList == b.f0.toList) = true at hle
        go_wp2_with fail
        have ra0 := (HBr.out.cell (World.block_lt_of_cell? w _ xa0)).trans xa0
        have ra1 := (HBr.out.cell (World.block_lt_of_cell? w _ xa1)).trans xa1
        have ra2 := (HBr.out.cell (World.block_lt_of_cell? w _ xa2)).trans xa2
        have ra3 := (HBr.out.cell (World.block_lt_of_cell? w _ xa3)).trans xa3
        have rb0 := (HBr.out.cell (World.block_lt_of_cell? w _ xb0)).trans xb0
        have rb1 := (HBr.out.cell (World.block_lt_of_cell? w _ xb1)).trans xb1
        have rb2 := (HBr.out.cell (World.block_lt_of_cell? w _ xb2)).trans xb2
        have rb3 := (HBr.out.cell (World.block_lt_of_cell? w _ xb3)).trans xb3
        go_region_held3 (fun W' => W'.cell? (ad.add (j * 4)) = some (.string a.f0) ∧ W'.cell? (⟨(ad.add (j * 4)).block, (ad.add (j * 4)).off + 1, none⟩) = some (.int .i64 a.f1) ∧ W'.cell? (⟨(ad.add (j * 4)).block, (ad.add (j * 4)).off + 2, none⟩) = some (.slice A2a a.f2.length c2a) ∧ W'.cell? (⟨(ad.add (j * 4)).block, (ad.add (j * 4)).off + 3, none⟩) = some (.slice A3a a.f3.length c3a) ∧ W'.cell? (ad.add (i * 4)) = some (.string b.f0) ∧ W'.cell? (⟨(ad.add (i * 4)).block, (ad.add (i * 4)).off + 1, none⟩) = some (.int .i64 b.f1) ∧ W'.cell? (⟨(ad.add (i * 4)).block, (ad.add (i * 4)).off + 2, none⟩) = some (.slice A2b b.f2.length c2b) ∧ W'.cell? (⟨(ad.add (i * 4)).block, (ad.add (i * 4)).off + 3, none⟩) = some (.slice A3b b.f3.length c3b))
          (first | exact ⟨ra0, ra1, ra2, ra3, rb0, rb1, rb2, rb3⟩ | exact ⟨pa0, pa1, pa2, pa3, pb0, pb1, pb2, pb3⟩ | exact ⟨qa0, qa1, qa2, qa3, qb0, qb1, qb2, qb3⟩)
          (first | (go_at_call 57; have _t := HBr; clear _t; refine (Rise.key_Tenant _ _ _ _ _).mono ?_; rintro e Wa ⟨rfl, hba⟩; have HBa := Aside0.mk (below_step (below_drew1 HBr.out) hba); have pa0 := (HBa.out.cell (World.block_lt_of_cell? w _ xa0)).trans xa0; have pa1 := (HBa.out.cell (World.block_lt_of_cell? w _ xa1)).trans xa1; have pa2 := (HBa.out.cell (World.block_lt_of_cell? w _ xa2)).trans xa2; have pa3 := (HBa.out.cell (World.block_lt_of_cell? w _ xa3)).trans xa3; have pb0 := (HBa.out.cell (World.block_lt_of_cell? w _ xb0)).trans xb0; have pb1 := (HBa.out.cell (World.block_lt_of_cell? w _ xb1)).trans xb1; have pb2 := (HBa.out.cell (World.block_lt_of_cell? w _ xb2)).trans xb2; have pb3 := (HBa.out.cell (World.block_lt_of_cell? w _ xb3)).trans xb3; clear hba HBr)
                 | (go_at_call 57; have _t := HBa; clear _t; refine (Rise.key_Tenant _ _ _ _ _).mono ?_; rintro e Wb ⟨rfl, hbb⟩; have HBb := Aside0.mk (below_step HBa.out hbb); have qa0 := (HBb.out.cell (World.block_lt_of_cell? w _ xa0)).trans xa0; have qa1 := (HBb.out.cell (World.block_lt_of_cell? w _ xa1)).trans xa1; have qa2 := (HBb.out.cell (World.block_lt_of_cell? w _ xa2)).trans xa2; have qa3 := (HBb.out.cell (World.block_lt_of_cell? w _ xa3)).trans xa3; have qb0 := (HBb.out.cell (World.block_lt_of_cell? w _ xb0)).trans xb0; have qb1 := (HBb.out.cell (World.block_lt_of_cell? w _ xb1)).trans xb1; have qb2 := (HBb.out.cell (World.block_lt_of_cell? w _ xb2)).trans xb2; have qb3 := (HBb.out.cell (World.block_lt_of_cell? w _ xb3)).trans xb3; clear hbb HBa))
        go_wp2_with fail
        go_ret
        exact ⟨by rw [← H.out, HU.out, HS.out, hc, Bool.false_and]; rfl, HBb.out⟩
    · have hfin := Aside0.mk (Rise.up_short ((l0.map (·.f0)).drop (j - 1)) (by rw [List.length_drop, List.length_map]; omega))
      go_wp2_with fail
      go_ret
      exact ⟨by rw [← H.out, HU.out, hfin.out]; rfl, HBr.out⟩
end Go.Proofs.YtikbfjnbhogihaaGreatDoor.M
