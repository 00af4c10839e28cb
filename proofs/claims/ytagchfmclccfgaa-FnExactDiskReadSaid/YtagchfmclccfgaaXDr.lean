/- impl.DiskRead: grab, find, the file's text. -/
import Derived.Deep.RegionHeld3
import Derived.Deep.DeepCutAuto
import Derived.Test.YtagchfmclccfgaaXClone
import Derived.Test.YtagchfmclccfgaaS0
import Derived.Test.YtagchfmclccfgaaOrd
import Derived.Test.YtagchfmclccfgaaXBin
import Derived.Test.YtagchfmclccfgaaF27
namespace Go.Proofs.Ytagchfmclccfgaa.M
open Go.RowKit Go.Shelf Go.Proofs.YtagchfmclccfgaaW.PrintWords Go.Proofs.YtagchfmclccfgaaW.PrintLast Go.Proofs.YtagchfmclccfgaaW.PrintMore
set_option linter.unusedVariables false
set_option linter.unusedSimpArgs false
set_option maxHeartbeats 4000000 in
set_option maxRecDepth 100000 in
theorem grab_calls (k : Nat) (A : Option Addr) (c : Nat) (l : List S71) (n1 n2 n3 n4 : Int) (dn v : Bool) (w : World) (hr : Kd.C k71 w A l.length l) (hc : l.length ≤ c) (hl : l.length ≤ 1048576)
    (hk : impl_DiskValid.f k l n1 n2 n3 n4 dn = some v) :
    Calls Try.prog 58 #[.agg #[.slice A l.length c, .int .i64 n1, .int .i64 n2, .int .i64 n3, .int .i64 n4, .bool dn]] w fun e w' =>
      ∃ (g : Nat) (w3 : World) (u : Int), e = .returned (.pointer (some ⟨g, 0, none⟩)) ∧ IsS84 w3 w' g n2 n3 n4 dn l n1 u (!v) ∧ Below w3.heap.size w3 w' ∧ Below w.heap.size w w3 := by
  have HR := Aside0.mk hr
  have HK := Aside0.mk hk
  clear hr hk
  go_enter Try.func58, Try.ntmps58
  go_wp2
  obtain ⟨W1, hW1⟩ : ∃ W1, w.alloc (.cells #[.slice A l.length c, .int .i64 n1, .int .i64 n2, .int .i64 n3, .int .i64 n4, .bool dn] 41) = W1 := ⟨_, rfl⟩
  have hb1 : W1.heap[w.heap.size]? = some (.cells #[.slice A l.length c, .int .i64 n1, .int .i64 n2, .int .i64 n3, .int .i64 n4, .bool dn] 41 (0, 0)) := by rw [← hW1]; exact blk_new w _
  have HB1 : Aside0 (Below w.heap.size w W1) := ⟨by rw [← hW1]; exact (Below.refl _ w).alloc (Nat.le_refl _) _⟩
  rw [hW1]
  have c0 : W1.cell? ⟨w.heap.size, 0, none⟩ = some (.slice A l.length c) := (blk_cell hb1 0).trans rfl
  have c1 : W1.cell? ⟨w.heap.size, 1, none⟩ = some (.int .i64 n1) := (blk_cell hb1 1).trans rfl
  have c2 : W1.cell? ⟨w.heap.size, 2, none⟩ = some (.int .i64 n2) := (blk_cell hb1 2).trans rfl
  have c3 : W1.cell? ⟨w.heap.size, 3, none⟩ = some (.int .i64 n3) := (blk_cell hb1 3).trans rfl
  have c4 : W1.cell? ⟨w.heap.size, 4, none⟩ = some (.int .i64 n4) := (blk_cell hb1 4).trans rfl
  have c5 : W1.cell? ⟨w.heap.size, 5, none⟩ = some (.bool dn) := (blk_cell hb1 5).trans rfl
  have hlt : w.heap.size < W1.heap.size := by rw [← hW1]; simp
  clear hb1 hW1
  go_region_held3 (fun W' => W'.cell? ⟨w.heap.size, 0, none⟩ = some (.slice A l.length c) ∧ W'.cell? ⟨w.heap.size, 1, none⟩ = some (.int .i64 n1) ∧ W'.cell? ⟨w.heap.size, 2, none⟩ = some (.int .i64 n2) ∧ W'.cell? ⟨w.heap.size, 3, none⟩ = some (.int .i64 n3) ∧ W'.cell? ⟨w.heap.size, 4, none⟩ = some (.int .i64 n4) ∧ W'.cell? ⟨w.heap.size, 5, none⟩ = some (.bool dn))
    (first | exact ⟨c0, c1, c2, c3, c4, c5⟩ | exact ⟨d0, d1, d2, d3, d4, d5⟩ | exact ⟨e0, e1, e2, e3, e4, e5⟩ | exact ⟨Lib.cell?_alloc_some _ e0, Lib.cell?_alloc_some _ e1, Lib.cell?_alloc_some _ e2, Lib.cell?_alloc_some _ e3, Lib.cell?_alloc_some _ e4, Lib.cell?_alloc_some _ e5⟩)
    (first | (go_at_call 71; refine (clone_File.calls A c l _ (Kd.C_below HR.out (HB1.out.drew)) hc hl).mono ?_; rintro e w2 ⟨v0, rfl, hvr, hb2⟩; obtain ⟨A', c', rfl, hcc, hv0⟩ := Kd.R_reads hvr; clear hvr; have HB2 := Aside0.mk (below_then HB1.out.drew HB1.out.size hb2); have HV0 := Aside0.mk hv0; have hlt2 : w.heap.size < w2.heap.size := Nat.lt_of_lt_of_le hlt hb2.size; have d0 := (hb2.cell (p := ⟨w.heap.size, 0, none⟩) hlt).trans c0; have d1 := (hb2.cell (p := ⟨w.heap.size, 1, none⟩) hlt).trans c1; have d2 := (hb2.cell (p := ⟨w.heap.size, 2, none⟩) hlt).trans c2; have d3 := (hb2.cell (p := ⟨w.heap.size, 3, none⟩) hlt).trans c3; have d4 := (hb2.cell (p := ⟨w.heap.size, 4, none⟩) hlt).trans c4; have d5 := (hb2.cell (p := ⟨w.heap.size, 5, none⟩) hlt).trans c5; clear hb2 hv0)
           | (go_at_call 27; refine (impl_DiskValid.calls k A c l n1 n2 n3 n4 dn v _ (Kd.C_below HR.out HB2.out) hc HK.out).mono ?_; rintro e w3 ⟨rfl, hb3⟩; have HB3 := Aside0.mk (below_then HB2.out HB2.out.size hb3); have HV1 := Aside0.mk (Kd.C_below HV0.out hb3); have hlt3 : w.heap.size < w3.heap.size := Nat.lt_of_lt_of_le hlt2 hb3.size; have e0 := (hb3.cell (p := ⟨w.heap.size, 0, none⟩) hlt2).trans d0; have e1 := (hb3.cell (p := ⟨w.heap.size, 1, none⟩) hlt2).trans d1; have e2 := (hb3.cell (p := ⟨w.heap.size, 2, none⟩) hlt2).trans d2; have e3 := (hb3.cell (p := ⟨w.heap.size, 3, none⟩) hlt2).trans d3; have e4 := (hb3.cell (p := ⟨w.heap.size, 4, none⟩) hlt2).trans d4; have e5 := (hb3.cell (p := ⟨w.heap.size, 5, none⟩) hlt2).trans d5; clear hb3))
  obtain ⟨W4, hW4⟩ : ∃ W4, w3.alloc (.cells #[.int .i64 n2, .int .i64 n3, .int .i64 n4, .bool dn, .slice A' l.length c', .int .i64 n1, .int .i64 0, .bool (!v)] 84) = W4 := ⟨_, rfl⟩
  have HI : Aside0 (IsS84 w3 W4 w3.heap.size n2 n3 n4 dn l n1 0 (!v)) := ⟨by rw [← hW4]; exact ⟨A', c', blk_new w3 _, Nat.le_refl _, HV1.out⟩⟩
  have HB4 : Aside0 (Below w3.heap.size w3 W4) := ⟨by rw [← hW4]; exact (Below.refl _ w3).alloc (Nat.le_refl _) _⟩
  have f0 : W4.cell? ⟨w.heap.size, 0, none⟩ = some (.slice A l.length c) := by rw [← hW4]; exact Lib.cell?_alloc_some _ e0
  rw [hW4]
  clear hW4 c0 c1 c2 c3 c4 c5 d0 d1 d2 d3 d4 d5 e0 e1 e2 e3 e4 e5
  go_wp2
  go_loopw [28] (fun i wr => ∃ (j : Nat) (u : Int), i = .int .i64 j ∧ j ≤ l.length ∧ Aside0 (IsS84 w3 wr w3.heap.size n2 n3 n4 dn l n1 u (!v)) ∧ Aside0 (Below w3.heap.size w3 wr)) (fun i _ => l.length - (intOf i).toNat)
  case atStart => exact ⟨0, 0, rfl, Nat.zero_le _, HI, HB4⟩
  case round =>
    obtain ⟨j, u, rfl, hj, HIr, HBr⟩ := hrel
    by_cases hlt' : j < l.length
    · obtain ⟨ad, e, k0, k1, k2⟩ := at_T71 (Kd.C_below HR.out (below_then HB3.out HB3.out.size HBr.out)) (j : Int) (by omega) (by omega)
      subst e
      rw [Int.toNat_natCast] at k0 k1 k2
      obtain ⟨x, hx⟩ : ∃ x, x = rd_T71 l (j : Int) := ⟨_, rfl⟩
      rw [← hx] at k0 k1 k2
      clear hx
      obtain ⟨A4, c4, hb4, hg4, hC4⟩ := HIr.out.alloc (.cells #[.string x.f0, .string x.f1, .int .i64 x.f2] 71)
      have m6 := blk_cell hb4 6
      have fz := blk_frozen hb4 6
      have m6' : (wr.alloc (.cells #[.string x.f0, .string x.f1, .int .i64 x.f2] 71)).cell? ⟨w3.heap.size, 6, none⟩ = some (.int .i64 u) := m6.trans rfl
      clear m6 hb4 hg4 hC4
      go_wp2
      go_region
      all_goals go_wp2
      all_goals go_roundw
      case rel => exact ⟨j + 1, wrap64 (u + x.f1.size), by go_num, by omega, ⟨((HIr.out.alloc _).set_6 _).drew⟩, ⟨below_drew1 (below_set (below_alloc HBr.out _) HIr.out.ge)⟩⟩
      case measure => simp [intOf]; omega
    · obtain rfl : j = l.length := by omega
      go_wp2
      go_ret
      exact ⟨w3.heap.size, w3, u, rfl, HIr.out, HBr.out, HB3.out⟩
set_option maxHeartbeats 2000000 in
set_option maxRecDepth 100000 in
theorem find_calls (g : Nat) (l : List S71) (n1 n2 n3 n4 u : Int) (dn v : Bool) (t : ByteArray) (w3 w : World) (hI : IsS84 w3 w g n2 n3 n4 dn l n1 u v) (hB : Below w3.heap.size w3 w) (hl : l.length ≤ 1048576)
    (hm : ∀ a b : Nat, a ≤ b → b < l.length → Bin.cmp (rd_T71 l b) t < 0 → Bin.cmp (rd_T71 l a) t < 0) :
    Calls Try.prog 59 #[.pointer (some ⟨g, 0, none⟩), .string t] w fun e w' => ∃ i : Nat, i ≤ l.length ∧ (∀ a : Nat, a < i → Bin.cmp (rd_T71 l a) t < 0) ∧ (∀ a : Nat, i ≤ a → a < l.length → 0 ≤ Bin.cmp (rd_T71 l a) t) ∧
      e = .returned (.tuple #[.int .i64 i, .bool (decide (i < l.length ∧ Bin.cmp (rd_T71 l i) t = 0))]) ∧ Below w.heap.size w w' := by
  obtain ⟨A4, c4, hb4, hg4, hC4⟩ := hI
  have m4 : w.cell? ⟨g, 4, none⟩ = some (.slice A4 l.length c4) := (blk_cell hb4 4).trans rfl
  have HS := Aside0.mk (Bin.search A4 c4 l t w (Kd.C_below hC4 hB) hl hm)
  clear hb4 hg4 hC4 hm
  go_enter Try.func59, Try.ntmps59
  go_wp2_with fail
  refine HS.out.mono ?_
  rintro e w1 ⟨i, hi, h1, h2, rfl, hb⟩
  have H1 := Aside0.mk h1
  have H2 := Aside0.mk h2
  have HB1 := Aside0.mk hb
  clear h1 h2 hb
  obtain ⟨b, hb⟩ : ∃ b : Bool, b = decide (i < l.length ∧ Bin.cmp (rd_T71 l i) t = 0) := ⟨_, rfl⟩
  rw [← hb]
  have HE := Aside0.mk hb
  clear hb
  go_wp2_with fail
  go_ret2
  exact ⟨i, hi, H1.out, H2.out, by rw [HE.out]; rfl, HB1.out⟩
open Go.Proofs.Ytagchfmclccfgaa.Loops Go.Proofs.Ytagchfmclccfgaa.DiskLaws Go.Proofs.Ytagchfmclccfgaa.DiskValid Go.Proofs.Ytagchfmclccfgaa.Ord in
noncomputable def impl_DiskRead.f (l : List S71) (n1 n2 n3 n4 : Int) (dn : Bool) (t : ByteArray) : Option (ByteArray × Bool) :=
  if l.length ≤ 1048576 ∧ total wtD l ≤ 1048576 then some (if cdec (Valid l n1 n2 n3 n4) = true ∧ dn = false then lookup l t else (⟨#[]⟩, false)) else none
open Go.Proofs.Ytagchfmclccfgaa.Loops Go.Proofs.Ytagchfmclccfgaa.DiskLaws Go.Proofs.Ytagchfmclccfgaa.DiskValid Go.Proofs.Ytagchfmclccfgaa.Ord in
set_option maxHeartbeats 4000000 in
set_option maxRecDepth 100000 in
theorem impl_DiskRead.calls (A : Option Addr) (c : Nat) (l : List S71) (n1 n2 n3 n4 : Int) (dn : Bool) (t : ByteArray) (r1 : ByteArray) (r2 : Bool) (w : World) (hr : Kd.C k71 w A l.length l) (hc : l.length ≤ c)
    (h : impl_DiskRead.f l n1 n2 n3 n4 dn t = some (r1, r2)) :
    Calls Try.prog 35 #[.agg #[.slice A l.length c, .int .i64 n1, .int .i64 n2, .int .i64 n3, .int .i64 n4, .bool dn], .string t] w fun e w' => e = .returned (.tuple #[.string r1, .bool r2]) ∧ Below w.heap.size w w' := by
  unfold impl_DiskRead.f at h
  have hg : l.length ≤ 1048576 ∧ total wtD l ≤ 1048576 := by
    by_cases hg : l.length ≤ 1048576 ∧ total wtD l ≤ 1048576
    · exact hg
    · rw [if_neg hg] at h; cases h
  rw [if_pos hg] at h
  obtain ⟨hl, ht⟩ := hg
  obtain ⟨K, hK⟩ := impl_valid l n1 n2 n3 n4 dn hl ht
  have hk := hK K (Nat.le_refl _)
  obtain ⟨v, hv⟩ : ∃ v, v = cdec (Valid l n1 n2 n3 n4) := ⟨_, rfl⟩
  rw [← hv] at h hk
  have hm : v = true → ∀ a b : Nat, a ≤ b → b < l.length → Bin.cmp (rd_T71 l b) t < 0 → Bin.cmp (rd_T71 l a) t < 0 := by
    rintro rfl
    have : Valid l n1 n2 n3 n4 := by
      by_cases hx : Valid l n1 n2 n3 n4
      · exact hx
      · rw [cdec_neg hx] at hv; cases hv
    exact mono l this.2.2.2.1 t
  have hok : v = true → OkFrom l 0 := by
    rintro rfl
    have : Valid l n1 n2 n3 n4 := by
      by_cases hx : Valid l n1 n2 n3 n4
      · exact hx
      · rw [cdec_neg hx] at hv; cases hv
    exact this.2.2.2.1
  have HM := Aside0.mk hm
  have HOK := Aside0.mk hok
  have HR := Aside0.mk hr
  have HK := Aside0.mk hk
  have HH := Aside0.mk h
  clear hm hok hr hk h hK hv
  go_enter Try.func35, Try.ntmps35
  go_wp2_with fail
  refine (grab_calls K A c l n1 n2 n3 n4 dn v _ (Kd.C_below HR.out ((Below.refl _ w).alloc (Nat.le_refl _) _)) hc hl HK.out).mono ?_
  rintro e w1 ⟨g, w3, u, rfl, hI, hB, hB3⟩
  have HB : Aside0 (Below w.heap.size w w1) := ⟨by
    have hb := (Below.refl w.heap.size w).alloc (Nat.le_refl _) (.cells #[.slice A l.length c, .int .i64 n1, .int .i64 n2, .int .i64 n3, .int .i64 n4, .bool dn] 41)
    exact below_then (below_then hb hb.size hB3) (Nat.le_trans hb.size hB3.size) hB⟩
  have HI := Aside0.mk hI
  have HB3 := Aside0.mk hB
  clear hI hB hB3
  obtain ⟨A4, c4, hb4, hg4, hC4⟩ := HI.out
  have m3 : w1.cell? ⟨g, 3, none⟩ = some (.bool dn) := (blk_cell hb4 3).trans rfl
  have m4 : w1.cell? ⟨g, 4, none⟩ = some (.slice A4 l.length c4) := (blk_cell hb4 4).trans rfl
  have m7 : w1.cell? ⟨g, 7, none⟩ = some (.bool (!v)) := (blk_cell hb4 7).trans rfl
  have HC4 := Aside0.mk hC4
  clear hb4 hg4 hC4
  cases v with
  | false =>
    have hh := HH.out
    rw [if_neg (by simp)] at hh
    obtain ⟨rfl, rfl⟩ := Prod.mk.inj (Option.some.inj hh)
    clear hh
    go_wp2_with fail
    go_ret2
    exact ⟨rfl, HB.out⟩
  | true =>
    cases dn with
    | true =>
      have hh := HH.out
      rw [if_neg (by simp)] at hh
      obtain ⟨rfl, rfl⟩ := Prod.mk.inj (Option.some.inj hh)
      clear hh
      go_wp2_with fail
      go_ret2
      exact ⟨rfl, HB.out⟩
    | false =>
      have HM' : Aside0 _ := ⟨HM.out rfl⟩
      have HO' : Aside0 _ := ⟨HOK.out rfl⟩
      go_wp2_with fail
      refine (find_calls g l n1 n2 n3 n4 u false _ t w3 w1 HI.out HB3.out hl HM'.out).mono ?_
      rintro e w2 ⟨i, hi, h1, h2, rfl, hb⟩
      have H1 := Aside0.mk h1
      have H2 := Aside0.mk h2
      have HB2 := Aside0.mk hb
      clear h1 h2 hb
      have m4' := (HB2.out.cell (p := ⟨g, 4, none⟩) HI.out.lt).trans m4
      have HB5 : Aside0 (Below w.heap.size w w2) := ⟨below_then HB.out HB.out.size HB2.out⟩
      by_cases hit : i < l.length ∧ Bin.cmp (rd_T71 l i) t = 0
      · rw [decide_eq_true hit]
        have hh := HH.out
        rw [if_pos (by simp), lookup_hit l t i hit.1 H1.out hit.2] at hh
        obtain ⟨hr1, rfl⟩ := Prod.mk.inj (Option.some.inj hh)
        clear hh
        obtain ⟨ad, e, k0, k1, k2⟩ := at_T71 (Kd.C_below HC4.out (below_then HB3.out HB3.out.size HB2.out)) (i : Int) (by omega) (by have := hit.1; omega)
        subst e
        rw [Int.toNat_natCast] at k0 k1 k2
        rw [hr1] at k1
        have hil : i < l.length := hit.1
        clear hit k0 k2
        go_wp2_with fail
        go_ret2
        exact ⟨rfl, HB5.out⟩
      · rw [decide_eq_false hit]
        have hh := HH.out
        rw [if_pos (by simp), lookup_miss l HO'.out t i H1.out H2.out hit] at hh
        obtain ⟨rfl, rfl⟩ := Prod.mk.inj (Option.some.inj hh)
        clear hh hit
        go_wp2_with fail
        go_ret2
        exact ⟨rfl, HB5.out⟩
end Go.Proofs.Ytagchfmclccfgaa.M
