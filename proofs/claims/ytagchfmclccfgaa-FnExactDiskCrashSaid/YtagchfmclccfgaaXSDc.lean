/- spec.DiskCrash: each file cut, in a list of the call's own: the same answer as the program's. -/
import Derived.Deep.RegionHeld3
import Derived.StillTailTactics
import Derived.Deep.DeepCutAuto
import Derived.Test.YtagchfmclccfgaaXDc
import Derived.Test.YtagchfmclccfgaaF25
namespace Go.Proofs.Ytagchfmclccfgaa.M
open Go.RowKit Go.Shelf Go.Proofs.YtagchfmclccfgaaW.PrintWords Go.Proofs.YtagchfmclccfgaaW.PrintLast Go.Proofs.YtagchfmclccfgaaW.PrintMore
attribute [local go_sem] max2_int min2_int max_two min_two max_three min_three max_four min_four
set_option linter.unusedVariables false
set_option linter.unusedSimpArgs false
open Go.Proofs.Ytagchfmclccfgaa.Loops Go.Proofs.Ytagchfmclccfgaa.DiskLaws Go.Proofs.Ytagchfmclccfgaa.DiskValid in
noncomputable def spec_DiskCrash.f (l : List S71) (n1 n2 n3 n4 : Int) (dn : Bool) (keep : List Int) : Option (List S71 × Int × Int × Int × Int × Bool) := impl_DiskCrash.f l n1 n2 n3 n4 dn keep
namespace Dc
def pre (keep : List Int) (l : List S71) (j : Nat) : List S71 := (List.range j).map fun a => crash keep a (rd_T71 l a)
theorem pre_length (keep : List Int) (l : List S71) (j : Nat) : (pre keep l j).length = j := by simp [pre]
theorem pre_succ (keep : List Int) (l : List S71) (j : Nat) (x : S71) (m : Nat) (hx : x = rd_T71 l j) (hm : kept keep j x = (m : Int)) : pre keep l j ++ [⟨x.f0, x.f1.extract 0 m, m⟩] = pre keep l (j + 1) := by
  unfold pre
  rw [List.range_succ, List.map_append, List.map_cons, List.map_nil, ← hx]
  unfold crash
  rw [hm, Int.toNat_natCast]
end Dc
open Go.Proofs.Ytagchfmclccfgaa.Loops Go.Proofs.Ytagchfmclccfgaa.DiskLaws Go.Proofs.Ytagchfmclccfgaa.DiskValid Dc in
set_option maxHeartbeats 1000000 in
set_option maxRecDepth 100000 in
theorem spec_DiskCrash.calls (A : Option Addr) (c : Nat) (l : List S71) (n1 n2 n3 n4 : Int) (dn : Bool) (A1 : Option Addr) (c1 : Nat) (keep : List Int) (r1 : List S71) (r2 r3 r4 r5 : Int) (r6 : Bool) (w : World) (hr : Kd.C k71 w A l.length l) (hc : l.length ≤ c) (hr1 : Kd.C (Kd.int .i64) w A1 keep.length keep) (hc1 : keep.length ≤ c1)
    (h : spec_DiskCrash.f l n1 n2 n3 n4 dn keep = some (r1, r2, r3, r4, r5, r6)) :
    Calls Try.prog 36 #[.agg #[.slice A l.length c, .int .i64 n1, .int .i64 n2, .int .i64 n3, .int .i64 n4, .bool dn], .slice A1 keep.length c1] w fun e w' => ∃ v0_ : Value, e = .returned (.agg #[v0_, .int .i64 r2, .int .i64 r3, .int .i64 r4, .int .i64 r5, .bool r6]) ∧ Kd.R k71 71 w' w.heap.size (fun _ => True) v0_ r1 ∧ Below w.heap.size w w' := by
  unfold spec_DiskCrash.f impl_DiskCrash.f at h
  have hg : l.length ≤ 1048576 ∧ total wtD l ≤ 1048576 := by
    by_cases hg : l.length ≤ 1048576 ∧ total wtD l ≤ 1048576
    · exact hg
    · rw [if_neg hg] at h; cases h
  rw [if_pos hg] at h
  obtain ⟨hl, ht⟩ := hg
  obtain ⟨K, hK⟩ := spec_valid l n1 n2 n3 n4 dn hl ht
  have hk := hK K (Nat.le_refl _)
  obtain ⟨v, hv⟩ : ∃ v, v = cdec (Valid l n1 n2 n3 n4) := ⟨_, rfl⟩
  rw [← hv] at h hk
  have hok : v = true → ∀ a : Nat, a < l.length → 0 ≤ (rd_T71 l a).f2 ∧ (rd_T71 l a).f2 ≤ ((rd_T71 l a).f1.size : Int) ∧ ((rd_T71 l a).f1.size : Int) ≤ 1048576 := by
    rintro rfl a ha
    have hV : Valid l n1 n2 n3 n4 := by
      by_cases hx : Valid l n1 n2 n3 n4
      · exact hx
      · rw [cdec_neg hx] at hv; cases hv
    have h1 := (hV.2.2.2.1 a (Nat.zero_le _) ha).2.2
    rw [rd_eq]
    have hm : DiskValid.rd l a ∈ l := by
      unfold DiskValid.rd
      rw [List.getD_eq_getElem?_getD, List.getElem?_eq_getElem ha]
      exact List.getElem_mem ha
    have h2 := wt_le_total wtD l _ hm
    have h3 : wtD (DiskValid.rd l a) = (DiskValid.rd l a).f1.size := rfl
    exact ⟨h1.1, h1.2, by omega⟩
  have HOK := Aside0.mk hok
  have HR := Aside0.mk hr
  have HR1 := Aside0.mk hr1
  have HK := Aside0.mk hk
  have HH := Aside0.mk h
  clear hok hr hr1 hk h hK hv
  go_enter Try.func36, Try.ntmps36
  go_wp2_with fail
  obtain ⟨W0, hW0⟩ : ∃ W0, (w.alloc (.cells #[.slice A l.length c, .int .i64 n1, .int .i64 n2, .int .i64 n3, .int .i64 n4, .bool dn] 41)) = W0 := ⟨_, rfl⟩
  obtain ⟨W1, hW1⟩ : ∃ W1, W0.alloc (.cells #[.slice none 0 0, .int .i64 0, .int .i64 0, .int .i64 0, .int .i64 0, .bool false] 41) = W1 := ⟨_, rfl⟩
  have hb0 : Below w.heap.size w W0 := by rw [← hW0]; exact (Below.refl _ w).alloc (Nat.le_refl _) _
  have hb1 : Below w.heap.size w W1 := by rw [← hW1]; exact hb0.alloc hb0.size _
  have hs0 : W0.heap.size = w.heap.size + 1 := by rw [← hW0]; simp
  have hs1 : W1.heap.size = w.heap.size + 2 := by rw [← hW1]; simp; omega
  have k0 : W1.heap[w.heap.size]? = some (.cells #[.slice A l.length c, .int .i64 n1, .int .i64 n2, .int .i64 n3, .int .i64 n4, .bool dn] 41 (0, 0)) := by
    rw [← hW1]; refine blk_alloc ?_ _; rw [← hW0]; exact blk_new w _
  have k1 : W1.heap[w.heap.size + 1]? = some (.cells #[.slice none 0 0, .int .i64 0, .int .i64 0, .int .i64 0, .int .i64 0, .bool false] 41 (0, 0)) := by
    rw [← hW1, ← hs0]; exact blk_new W0 _
  rw [hW0, hW1]
  refine (spec_DiskValid.calls K A c l n1 n2 n3 n4 dn v W1 (Kd.C_below HR.out hb1) hc HK.out).mono ?_
  rintro e w2 ⟨rfl, hb2⟩
  have K0 := hb2.block _ (blk_lt k0) |>.trans k0
  have K1 := hb2.block _ (blk_lt k1) |>.trans k1
  have HB := Aside0.mk (below_then hb1 hb1.size hb2)
  have HS : Aside0 (w.heap.size + 2 ≤ w2.heap.size) := ⟨by have := hb2.size; omega⟩
  clear hb0 hb1 hs0 hs1 k0 k1 hW0 hW1 hb2
  obtain ⟨a0, a1, a2, a3, a4, a5, g0, g1, g2, g3, g4, g5⟩ := six K0
  obtain ⟨z0, z1, z2, z3, z4, z5, y0, y1, y2, y3, y4, y5⟩ := six K1
  have HK0 := Aside0.mk K0
  have HK1 := Aside0.mk K1
  clear K0 K1
  cases v with
  | false =>
    have hh := HH.out
    rw [if_neg (by simp)] at hh
    simp only [Option.some.injEq, Prod.mk.injEq] at hh
    obtain ⟨rfl, rfl, rfl, rfl, rfl, rfl⟩ := hh
    go_wp2_with fail
    refine bodyPost_ret (results_cell_row rfl _ _ (w.heap.size + 1) 41 #[.slice none 0 0, .int .i64 0, .int .i64 0, .int .i64 0, .int .i64 0, .bool false] (0, 0) _ rfl (put6 HK1.out) Try.underlying41 rfl (by kernel_rfl)) rfl ?_
    exact ⟨_, rfl, Kd.R_nil _ _ _ _ _, put6_below HB.out (by omega)⟩
  | true =>
    have hh := HH.out
    rw [if_pos rfl] at hh
    simp only [Option.some.injEq, Prod.mk.injEq] at hh
    obtain ⟨hrr, rfl, rfl, rfl, rfl, rfl⟩ := hh
    have HRR := Aside0.mk hrr
    have HO : Aside0 _ := ⟨HOK.out rfl⟩
    clear hrr
    have b0 : (w2.alloc (.cells #[.slice none 0 0, .int .i64 n1, .int .i64 n2, .int .i64 0, .int .i64 0, .bool false] 41)).cell? ⟨w.heap.size, 0, none⟩ = some (.slice A l.length c) := Lib.cell?_alloc_some _ a0
    go_wp2_with fail
    obtain ⟨W4, hW4⟩ : ∃ W4, w2.alloc (.cells #[.slice none 0 0, .int .i64 n1, .int .i64 n2, .int .i64 0, .int .i64 0, .bool false] 41) = W4 := ⟨_, rfl⟩
    have HK2 : Aside0 (W4.heap[w2.heap.size]? = some (.cells #[.slice none 0 0, .int .i64 n1, .int .i64 n2, .int .i64 0, .int .i64 0, .bool false] 41 (0, 0))) := ⟨by rw [← hW4]; exact blk_new w2 _⟩
    have HK1' : Aside0 (W4.heap[w.heap.size + 1]? = some (.cells #[.slice none 0 0, .int .i64 0, .int .i64 0, .int .i64 0, .int .i64 0, .bool false] 41 (0, 0))) := ⟨by rw [← hW4]; exact blk_alloc HK1.out _⟩
    have HB4 : Aside0 (Below w.heap.size w W4) := ⟨by rw [← hW4]; exact HB.out.alloc HB.out.size _⟩
    rw [hW4]
    clear b0 hW4 HK0 HK1 a0 a1 a2 a3 a4 a5 g0 g1 g2 g3 g4 g5 z0 z1 z2 z3 z4 z5 y0 y1 y2 y3 y4 y5
    go_loopw [21, 6, 7, 8] (fun i s6 s7 s8 wr => ∃ (j : Nat) (v : Value), i = .int .i64 j ∧ j ≤ l.length ∧ Aside0 (Kd.R k71 71 wr w.heap.size (fun _ => True) v (pre keep l j)) ∧ Aside0 (wr.heap[w2.heap.size]? = some (.cells #[v, .int .i64 n1, .int .i64 n2, .int .i64 0, .int .i64 0, .bool false] 41 (0, 0))) ∧
        Aside0 (wr.heap[w.heap.size + 1]? = some (.cells #[.slice none 0 0, .int .i64 0, .int .i64 0, .int .i64 0, .int .i64 0, .bool false] 41 (0, 0))) ∧ Aside0 (Below w.heap.size w wr)) (fun i _ _ _ _ => l.length - (intOf i).toNat)
    case atStart => exact ⟨0, _, rfl, Nat.zero_le _, ⟨Kd.R_nil _ _ _ _ _⟩, HK2, HK1', HB4⟩
    case round =>
      obtain ⟨j, v, rfl, hj, HV, HG, HK1r, HBr⟩ := hrel
      by_cases hlt : j < l.length
      · obtain ⟨ad, e, x0, x1, x2⟩ := at_T71 (Kd.C_below HR.out HBr.out) (j : Int) (by omega) (by omega)
        subst e
        rw [Int.toNat_natCast] at x0 x1 x2
        obtain ⟨x, hx⟩ : ∃ x, x = rd_T71 l (j : Int) := ⟨_, rfl⟩
        have hv := HO.out j hlt
        rw [← hx] at x0 x1 x2 hv
        have HX := Aside0.mk hx
        clear hx
        obtain ⟨v1, v2, v3⟩ := hv
        obtain ⟨p0, p1, p2, p3, p4, p5, q0, q1, q2, q3, q4, q5⟩ := six HG.out
        have hglt : w2.heap.size < wr.heap.size := blk_lt HG.out
        by_cases hkl : j < keep.length
        · obtain ⟨ad1, e1, kc⟩ := Kd.at_int (Kd.C_below HR1.out HBr.out) (j : Int) (by omega) (by omega)
          subst e1
          rw [Int.toNat_natCast] at kc
          obtain ⟨kv, hkv⟩ : ∃ kv, kv = Go.Proofs.YtagchfmclccfgaaW.PrintWords.rd keep j := ⟨_, rfl⟩
          rw [← hkv] at kc
          have hkc : ∀ F : Obj, (wr.alloc F).cell? (ad1.add j) = some (.int .i64 kv) := fun F => Lib.cell?_alloc_some _ kc
          by_cases hpos : 0 < kv
          · by_cases hbig : (x.f1.size : Int) - x.f2 < kv
            · obtain ⟨m, hm⟩ : ∃ m : Nat, x.f1.size = m := ⟨_, rfl⟩
              have hkept : Dc.kept keep j x = (m : Int) := by
                unfold Dc.kept
                rw [if_pos hkl, ← hkv, if_pos hpos, if_pos hbig, hm]; omega
              have hms : m ≤ x.f1.size := by omega
              obtain ⟨dd, hdd⟩ : ∃ dd : Int, (x.f1.size : Int) - x.f2 = dd := ⟨_, rfl⟩
              have hw1 : IntKind.i64.wrap ((x.f1.size : Int) - x.f2) = dd := by rw [hdd]; exact IntWalk.i64_in _ (by omega)
              have hw2 : x.f2 + dd = (m : Int) := by omega
              clear hkv hm
              have hsz : (x.f1.extract 0 m).size = m := by rw [ByteArray.size_extract]; omega
              have hp0 : ∀ F : Obj, (wr.alloc F).cell? ⟨w2.heap.size, 0, none⟩ = some v := fun F => Lib.cell?_alloc_some _ p0
              have HKE := Aside0.mk hkept
              clear hkept
              go_wp2_with (at_builtin; refine Kd.R_append k71 (w0 := w) w.heap.size rfl (.tmp 68) (.tmp 70) 39 71 (.agg #[.string ⟨#[]⟩, .string ⟨#[]⟩, .int .i64 0]) 40 rfl Try.underlying39 info71 rfl (by decide) (by decide) v (pre keep l j) (⟨x.f0, x.f1.extract 0 m, m⟩ : S71) [.string x.f0, .string (x.f1.extract 0 m), .int .i64 m] (fun _ => True) (fun _ => False) rfl ?aX (k71_mkM _ _ _ (⟨x.f0, x.f1.extract 0 m, m⟩ : S71)) (fun _ hk => hk.elim) (fun _ _ => trivial) (Kd.R_alloc HV.out _) (below_alloc HBr.out _) (below_size (below_alloc HBr.out _)) ?aL ?_; (case aX => show Value.slice (some ⟨wr.heap.size + 1, 0, none⟩) 1 1 = _; rw [World.size_alloc]); (case aL => rw [pre_length]; omega); intro v1 w1 ho hb hgr hat; obtain ⟨Av, nv, cv, rfl⟩ : ∃ (A : Option Addr) (n c : Nat), v1 = Value.slice A n c := (Kd.R_slice ho).elim (fun A h => h.elim (fun c e => ⟨A, _, c, e⟩)); have hG1 := blk_grown (blk_alloc HG.out _) hgr (Kd.R_ne HV.out HG.out (by decide)); have HR1' := Aside0.mk (blk_grown (blk_alloc HK1r.out _) hgr (Kd.R_ne HV.out HK1r.out (by decide))); have HG1 := Aside0.mk hG1; have HO1 := Aside0.mk ho; have HB1 := Aside0.mk hb; have s0 : w1.cell? ⟨w2.heap.size, 0, none⟩ = some v := (blk_cell hG1 0).trans rfl; have s1 : w1.frozen? ⟨w2.heap.size, 0, none⟩ = false := blk_frozen hG1 0; clear ho hb hgr hat hG1)
              go_roundw
              case rel => exact ⟨j + 1, _, by go_num, by omega, ⟨by rw [← pre_succ keep l j x m HX.out HKE.out]; exact Kd.R_set HO1.out HG1.out (by decide) 0 _⟩, ⟨blk_put HG1.out 0 _ rfl⟩, ⟨blk_far (p := ⟨w2.heap.size, 0, none⟩) HR1'.out (by have := HS.out; show w.heap.size + 1 ≠ w2.heap.size; omega) _⟩, ⟨below_set HB1.out HB.out.size⟩⟩
              case measure => simp [intOf]; omega
            · obtain ⟨m, hm⟩ : ∃ m : Nat, x.f2 + kv = (m : Int) := ⟨_, (Int.toNat_of_nonneg (by omega)).symm⟩
              have hkept : Dc.kept keep j x = (m : Int) := by
                unfold Dc.kept
                rw [if_pos hkl, ← hkv, if_pos hpos, if_neg hbig]; exact hm
              have hms : m ≤ x.f1.size := by omega
              clear hkv
              have hsz : (x.f1.extract 0 m).size = m := by rw [ByteArray.size_extract]; omega
              have hp0 : ∀ F : Obj, (wr.alloc F).cell? ⟨w2.heap.size, 0, none⟩ = some v := fun F => Lib.cell?_alloc_some _ p0
              have HKE := Aside0.mk hkept
              clear hkept
              go_wp2_with (at_builtin; refine Kd.R_append k71 (w0 := w) w.heap.size rfl (.tmp 68) (.tmp 70) 39 71 (.agg #[.string ⟨#[]⟩, .string ⟨#[]⟩, .int .i64 0]) 40 rfl Try.underlying39 info71 rfl (by decide) (by decide) v (pre keep l j) (⟨x.f0, x.f1.extract 0 m, m⟩ : S71) [.string x.f0, .string (x.f1.extract 0 m), .int .i64 m] (fun _ => True) (fun _ => False) rfl ?aX (k71_mkM _ _ _ (⟨x.f0, x.f1.extract 0 m, m⟩ : S71)) (fun _ hk => hk.elim) (fun _ _ => trivial) (Kd.R_alloc HV.out _) (below_alloc HBr.out _) (below_size (below_alloc HBr.out _)) ?aL ?_; (case aX => show Value.slice (some ⟨wr.heap.size + 1, 0, none⟩) 1 1 = _; rw [World.size_alloc]); (case aL => rw [pre_length]; omega); intro v1 w1 ho hb hgr hat; obtain ⟨Av, nv, cv, rfl⟩ : ∃ (A : Option Addr) (n c : Nat), v1 = Value.slice A n c := (Kd.R_slice ho).elim (fun A h => h.elim (fun c e => ⟨A, _, c, e⟩)); have hG1 := blk_grown (blk_alloc HG.out _) hgr (Kd.R_ne HV.out HG.out (by decide)); have HR1' := Aside0.mk (blk_grown (blk_alloc HK1r.out _) hgr (Kd.R_ne HV.out HK1r.out (by decide))); have HG1 := Aside0.mk hG1; have HO1 := Aside0.mk ho; have HB1 := Aside0.mk hb; have s0 : w1.cell? ⟨w2.heap.size, 0, none⟩ = some v := (blk_cell hG1 0).trans rfl; have s1 : w1.frozen? ⟨w2.heap.size, 0, none⟩ = false := blk_frozen hG1 0; clear ho hb hgr hat hG1)
              go_roundw
              case rel => exact ⟨j + 1, _, by go_num, by omega, ⟨by rw [← pre_succ keep l j x m HX.out HKE.out]; exact Kd.R_set HO1.out HG1.out (by decide) 0 _⟩, ⟨blk_put HG1.out 0 _ rfl⟩, ⟨blk_far (p := ⟨w2.heap.size, 0, none⟩) HR1'.out (by have := HS.out; show w.heap.size + 1 ≠ w2.heap.size; omega) _⟩, ⟨below_set HB1.out HB.out.size⟩⟩
              case measure => simp [intOf]; omega
          · obtain ⟨m, hm⟩ : ∃ m : Nat, x.f2 = (m : Int) := ⟨_, (Int.toNat_of_nonneg (by omega)).symm⟩
            have hkept : Dc.kept keep j x = (m : Int) := by
              unfold Dc.kept
              rw [if_pos hkl, ← hkv, if_neg hpos, if_neg (by omega)]; omega
            rw [hm] at v1 v2 x2
            have hms : m ≤ x.f1.size := by omega
            clear hkv hm
            have hsz : (x.f1.extract 0 m).size = m := by rw [ByteArray.size_extract]; omega
            have hp0 : ∀ F : Obj, (wr.alloc F).cell? ⟨w2.heap.size, 0, none⟩ = some v := fun F => Lib.cell?_alloc_some _ p0
            have HKE := Aside0.mk hkept
            clear hkept
            go_wp2_with (at_builtin; refine Kd.R_append k71 (w0 := w) w.heap.size rfl (.tmp 68) (.tmp 70) 39 71 (.agg #[.string ⟨#[]⟩, .string ⟨#[]⟩, .int .i64 0]) 40 rfl Try.underlying39 info71 rfl (by decide) (by decide) v (pre keep l j) (⟨x.f0, x.f1.extract 0 m, m⟩ : S71) [.string x.f0, .string (x.f1.extract 0 m), .int .i64 m] (fun _ => True) (fun _ => False) rfl ?aX (k71_mkM _ _ _ (⟨x.f0, x.f1.extract 0 m, m⟩ : S71)) (fun _ hk => hk.elim) (fun _ _ => trivial) (Kd.R_alloc HV.out _) (below_alloc HBr.out _) (below_size (below_alloc HBr.out _)) ?aL ?_; (case aX => show Value.slice (some ⟨wr.heap.size + 1, 0, none⟩) 1 1 = _; rw [World.size_alloc]); (case aL => rw [pre_length]; omega); intro v1 w1 ho hb hgr hat; obtain ⟨Av, nv, cv, rfl⟩ : ∃ (A : Option Addr) (n c : Nat), v1 = Value.slice A n c := (Kd.R_slice ho).elim (fun A h => h.elim (fun c e => ⟨A, _, c, e⟩)); have hG1 := blk_grown (blk_alloc HG.out _) hgr (Kd.R_ne HV.out HG.out (by decide)); have HR1' := Aside0.mk (blk_grown (blk_alloc HK1r.out _) hgr (Kd.R_ne HV.out HK1r.out (by decide))); have HG1 := Aside0.mk hG1; have HO1 := Aside0.mk ho; have HB1 := Aside0.mk hb; have s0 : w1.cell? ⟨w2.heap.size, 0, none⟩ = some v := (blk_cell hG1 0).trans rfl; have s1 : w1.frozen? ⟨w2.heap.size, 0, none⟩ = false := blk_frozen hG1 0; clear ho hb hgr hat hG1)
            go_roundw
            case rel => exact ⟨j + 1, _, by go_num, by omega, ⟨by rw [← pre_succ keep l j x m HX.out HKE.out]; exact Kd.R_set HO1.out HG1.out (by decide) 0 _⟩, ⟨blk_put HG1.out 0 _ rfl⟩, ⟨blk_far (p := ⟨w2.heap.size, 0, none⟩) HR1'.out (by have := HS.out; show w.heap.size + 1 ≠ w2.heap.size; omega) _⟩, ⟨below_set HB1.out HB.out.size⟩⟩
            case measure => simp [intOf]; omega
        · obtain ⟨m, hm⟩ : ∃ m : Nat, x.f2 = (m : Int) := ⟨_, (Int.toNat_of_nonneg (by omega)).symm⟩
          have hkept : Dc.kept keep j x = (m : Int) := by
            unfold Dc.kept
            rw [if_neg hkl, if_neg (by omega)]; omega
          rw [hm] at v1 v2 x2
          have hms : m ≤ x.f1.size := by omega
          clear hm
          have hsz : (x.f1.extract 0 m).size = m := by rw [ByteArray.size_extract]; omega
          have hp0 : ∀ F : Obj, (wr.alloc F).cell? ⟨w2.heap.size, 0, none⟩ = some v := fun F => Lib.cell?_alloc_some _ p0
          have HKE := Aside0.mk hkept
          clear hkept
          go_wp2_with (at_builtin; refine Kd.R_append k71 (w0 := w) w.heap.size rfl (.tmp 68) (.tmp 70) 39 71 (.agg #[.string ⟨#[]⟩, .string ⟨#[]⟩, .int .i64 0]) 40 rfl Try.underlying39 info71 rfl (by decide) (by decide) v (pre keep l j) (⟨x.f0, x.f1.extract 0 m, m⟩ : S71) [.string x.f0, .string (x.f1.extract 0 m), .int .i64 m] (fun _ => True) (fun _ => False) rfl ?aX (k71_mkM _ _ _ (⟨x.f0, x.f1.extract 0 m, m⟩ : S71)) (fun _ hk => hk.elim) (fun _ _ => trivial) (Kd.R_alloc HV.out _) (below_alloc HBr.out _) (below_size (below_alloc HBr.out _)) ?aL ?_; (case aX => show Value.slice (some ⟨wr.heap.size + 1, 0, none⟩) 1 1 = _; rw [World.size_alloc]); (case aL => rw [pre_length]; omega); intro v1 w1 ho hb hgr hat; obtain ⟨Av, nv, cv, rfl⟩ : ∃ (A : Option Addr) (n c : Nat), v1 = Value.slice A n c := (Kd.R_slice ho).elim (fun A h => h.elim (fun c e => ⟨A, _, c, e⟩)); have hG1 := blk_grown (blk_alloc HG.out _) hgr (Kd.R_ne HV.out HG.out (by decide)); have HR1' := Aside0.mk (blk_grown (blk_alloc HK1r.out _) hgr (Kd.R_ne HV.out HK1r.out (by decide))); have HG1 := Aside0.mk hG1; have HO1 := Aside0.mk ho; have HB1 := Aside0.mk hb; have s0 : w1.cell? ⟨w2.heap.size, 0, none⟩ = some v := (blk_cell hG1 0).trans rfl; have s1 : w1.frozen? ⟨w2.heap.size, 0, none⟩ = false := blk_frozen hG1 0; clear ho hb hgr hat hG1)
          go_roundw
          case rel => exact ⟨j + 1, _, by go_num, by omega, ⟨by rw [← pre_succ keep l j x m HX.out HKE.out]; exact Kd.R_set HO1.out HG1.out (by decide) 0 _⟩, ⟨blk_put HG1.out 0 _ rfl⟩, ⟨blk_far (p := ⟨w2.heap.size, 0, none⟩) HR1'.out (by have := HS.out; show w.heap.size + 1 ≠ w2.heap.size; omega) _⟩, ⟨below_set HB1.out HB.out.size⟩⟩
          case measure => simp [intOf]; omega
      · obtain rfl : j = l.length := by omega
        obtain ⟨p0, p1, p2, p3, p4, p5, q0, q1, q2, q3, q4, q5⟩ := six HG.out
        obtain ⟨z0, z1, z2, z3, z4, z5, y0, y1, y2, y3, y4, y5⟩ := six HK1r.out
        obtain ⟨A', c', rfl⟩ := Kd.R_slice HV.out
        go_wp2_with fail
        refine bodyPost_ret (results_cell_row rfl _ _ (w.heap.size + 1) 41 #[.slice A' (pre keep l l.length).length c', .int .i64 n1, .int .i64 n2, .int .i64 0, .int .i64 0, .bool false] (0, 0) _ rfl (put6 HK1r.out) Try.underlying41 rfl (by kernel_rfl)) rfl ?_
        refine ⟨_, rfl, ?_, put6_below HBr.out (by omega)⟩
        rw [← HRR.out]
        exact Kd.R_mono (put6_R (Kd.R_types HV.out HK1r.out (by decide)) (fun k hk => hk.2)) (fun _ _ => trivial)
end Go.Proofs.Ytagchfmclccfgaa.M
