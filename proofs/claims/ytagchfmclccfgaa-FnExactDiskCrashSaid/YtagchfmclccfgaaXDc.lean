/- impl.DiskCrash: a copy of the files, each cut in place. -/
import Derived.Deep.RegionHeld3
import Derived.StillTailTactics
import Derived.Deep.DeepCutAuto
import Derived.Test.YtagchfmclccfgaaXClone
import Derived.Test.YtagchfmclccfgaaS0
import Derived.Test.YtagchfmclccfgaaDiskValid
namespace Go.Proofs.Ytagchfmclccfgaa.M
open Go.RowKit Go.Shelf Go.Proofs.YtagchfmclccfgaaW.PrintWords Go.Proofs.YtagchfmclccfgaaW.PrintLast Go.Proofs.YtagchfmclccfgaaW.PrintMore
attribute [local go_sem] max2_int min2_int max_two min_two max_three min_three max_four min_four
set_option linter.unusedVariables false
set_option linter.unusedSimpArgs false
namespace Dc
theorem cell_other_ (w : World) (g a b : Nat) (v : Value) (h : a ≠ b) : (w.setCell ⟨g, a, none⟩ v).cell? ⟨g, b, none⟩ = w.cell? ⟨g, b, none⟩ := by
  exact World.cell?_setCell_other _ _ _ _ (by intro e; injection e with _ e; exact h e)
theorem six {W : World} {g : Nat} {a b c d e f : Value} {t : TypeId} (h : W.heap[g]? = some (.cells #[a, b, c, d, e, f] t (0, 0))) :
    W.cell? ⟨g, 0, none⟩ = some a ∧ W.cell? ⟨g, 1, none⟩ = some b ∧ W.cell? ⟨g, 2, none⟩ = some c ∧ W.cell? ⟨g, 3, none⟩ = some d ∧ W.cell? ⟨g, 4, none⟩ = some e ∧ W.cell? ⟨g, 5, none⟩ = some f ∧
      W.frozen? ⟨g, 0, none⟩ = false ∧ W.frozen? ⟨g, 1, none⟩ = false ∧ W.frozen? ⟨g, 2, none⟩ = false ∧ W.frozen? ⟨g, 3, none⟩ = false ∧ W.frozen? ⟨g, 4, none⟩ = false ∧ W.frozen? ⟨g, 5, none⟩ = false :=
  ⟨(blk_cell h 0).trans rfl, (blk_cell h 1).trans rfl, (blk_cell h 2).trans rfl, (blk_cell h 3).trans rfl, (blk_cell h 4).trans rfl, (blk_cell h 5).trans rfl, blk_frozen h 0, blk_frozen h 1, blk_frozen h 2, blk_frozen h 3, blk_frozen h 4, blk_frozen h 5⟩
theorem put6 {W : World} {g t : Nat} {a b c d e f a' b' c' d' e' f' : Value} (h : W.heap[g]? = some (.cells #[a, b, c, d, e, f] t (0, 0))) :
    ((((((W.setCell ⟨g, 0, none⟩ a').setCell ⟨g, 1, none⟩ b').setCell ⟨g, 2, none⟩ c').setCell ⟨g, 3, none⟩ d').setCell ⟨g, 4, none⟩ e').setCell ⟨g, 5, none⟩ f').heap[g]? = some (.cells #[a', b', c', d', e', f'] t (0, 0)) :=
  blk_put (blk_put (blk_put (blk_put (blk_put (blk_put h 0 a' rfl) 1 b' rfl) 2 c' rfl) 3 d' rfl) 4 e' rfl) 5 f' rfl
theorem put6_R {W : World} {g base : Nat} {ok : Nat → Prop} {v a b c d e f : Value} {l : List S71} (h : Kd.R k71 71 W base ok v l) (hok : ∀ k, ok k → k ≠ g) :
    Kd.R k71 71 ((((((W.setCell ⟨g, 0, none⟩ a).setCell ⟨g, 1, none⟩ b).setCell ⟨g, 2, none⟩ c).setCell ⟨g, 3, none⟩ d).setCell ⟨g, 4, none⟩ e).setCell ⟨g, 5, none⟩ f) base ok v l :=
  Kd.R_far (p := ⟨g, 5, none⟩) (Kd.R_far (p := ⟨g, 4, none⟩) (Kd.R_far (p := ⟨g, 3, none⟩) (Kd.R_far (p := ⟨g, 2, none⟩) (Kd.R_far (p := ⟨g, 1, none⟩) (Kd.R_far (p := ⟨g, 0, none⟩) h hok _) hok _) hok _) hok _) hok _) hok _
theorem put6_below {w W : World} {g : Nat} {a b c d e f : Value} (h : Below w.heap.size w W) (hg : w.heap.size ≤ g) :
    Below w.heap.size w ((((((W.setCell ⟨g, 0, none⟩ a).setCell ⟨g, 1, none⟩ b).setCell ⟨g, 2, none⟩ c).setCell ⟨g, 3, none⟩ d).setCell ⟨g, 4, none⟩ e).setCell ⟨g, 5, none⟩ f) :=
  below_set (below_set (below_set (below_set (below_set (below_set h hg) hg) hg) hg) hg) hg
set_option maxHeartbeats 1000000 in
theorem sync (g o : Nat) (s : ByteArray) (n : Int) (w : World) (h1 : w.cell? ⟨g, o + 1, none⟩ = some (.string s)) (h2 : w.cell? ⟨g, o + 2, none⟩ = some (.int .i64 n)) (f2 : w.frozen? ⟨g, o + 2, none⟩ = false) :
    Calls Try.prog 75 #[.pointer (some ⟨g, o, none⟩)] w fun e w' => e = .returned (.tuple #[]) ∧ w' = w.setCell ⟨g, o + 2, none⟩ (.int .i64 s.size) := by
  go_enter Try.func75, Try.ntmps75
  go_wp2
  go_end0
  exact ⟨rfl, rfl⟩
set_option maxHeartbeats 1000000 in
theorem cutTo (g o : Nat) (s : ByteArray) (n : Int) (m : Nat) (w : World) (h1 : w.cell? ⟨g, o + 1, none⟩ = some (.string s)) (h2 : w.cell? ⟨g, o + 2, none⟩ = some (.int .i64 n)) (f1 : w.frozen? ⟨g, o + 1, none⟩ = false) (f2 : w.frozen? ⟨g, o + 2, none⟩ = false) (hm : m ≤ s.size) :
    Calls Try.prog 61 #[.pointer (some ⟨g, o, none⟩), .int .i64 m] w fun e w' => e = .returned (.tuple #[]) ∧ w' = (w.setCell ⟨g, o + 1, none⟩ (.string (s.extract 0 m))).setCell ⟨g, o + 2, none⟩ (.int .i64 m) := by
  have hsz : (s.extract 0 m).size = m := by rw [ByteArray.size_extract]; omega
  go_enter Try.func61, Try.ntmps61
  go_wp2_with fail
  refine (sync g o (s.extract 0 m) n _ ?_ ?_ ?_).mono ?_
  · exact World.cell?_setCell_same' _ _ _ (by rw [h1]; rfl)
  · exact (cell_other_ w g (o + 1) (o + 2) _ (by omega)).trans h2
  · rw [World.frozen?_setCell]; exact f2
  · rintro e w' ⟨rfl, rfl⟩
    rw [hsz]
    go_wp2_with fail
    go_end0
    exact ⟨rfl, rfl⟩
set_option maxHeartbeats 2000000 in
set_option maxRecDepth 100000 in
theorem copyDisk (A : Option Addr) (c : Nat) (l : List S71) (n1 n2 n3 n4 : Int) (dn : Bool) (w : World) (hr : Kd.C k71 w A l.length l) (hc : l.length ≤ c) (hl : l.length ≤ 1048576) :
    Calls Try.prog 60 #[.agg #[.slice A l.length c, .int .i64 n1, .int .i64 n2, .int .i64 n3, .int .i64 n4, .bool dn]] w fun e w' =>
      ∃ (A' : Option Addr) (c' : Nat), e = .returned (.agg #[.slice A' l.length c', .int .i64 n1, .int .i64 n2, .int .i64 n3, .int .i64 n4, .bool dn]) ∧ Kd.R k71 71 w' w.heap.size (fun _ => True) (.slice A' l.length c') l ∧ Below w.heap.size w w' := by
  have HR := Aside0.mk hr
  clear hr
  go_enter Try.func60, Try.ntmps60
  go_wp2_with fail
  obtain ⟨W0, hW0⟩ : ∃ W0, (w.alloc (.cells #[.slice A l.length c, .int .i64 n1, .int .i64 n2, .int .i64 n3, .int .i64 n4, .bool dn] 41)) = W0 := ⟨_, rfl⟩
  obtain ⟨W1, hW1⟩ : ∃ W1, W0.alloc (.cells #[.slice none 0 0, .int .i64 0, .int .i64 0, .int .i64 0, .int .i64 0, .bool false] 41) = W1 := ⟨_, rfl⟩
  have hb0 : Below w.heap.size w W0 := by rw [← hW0]; exact (Below.refl _ w).alloc (Nat.le_refl _) _
  have hb1 : Below w.heap.size w W1 := by rw [← hW1]; exact hb0.alloc hb0.size _
  have hs0 : W0.heap.size = w.heap.size + 1 := by rw [← hW0]; simp
  have k0 : W1.heap[w.heap.size]? = some (.cells #[.slice A l.length c, .int .i64 n1, .int .i64 n2, .int .i64 n3, .int .i64 n4, .bool dn] 41 (0, 0)) := by
    rw [← hW1]; refine blk_alloc ?_ _; rw [← hW0]; exact blk_new w _
  have k1 : W1.heap[w.heap.size + 1]? = some (.cells #[.slice none 0 0, .int .i64 0, .int .i64 0, .int .i64 0, .int .i64 0, .bool false] 41 (0, 0)) := by
    rw [← hW1, ← hs0]; exact blk_new W0 _
  rw [hW0, hW1]
  refine (clone_File.calls A c l W1 (Kd.C_below HR.out hb1) hc hl).mono ?_
  rintro e w2 ⟨v0, rfl, hv0, hb2⟩
  obtain ⟨A', c', rfl⟩ := Kd.R_slice hv0
  have K0 := hb2.block _ (blk_lt k0) |>.trans k0
  have K1 := hb2.block _ (blk_lt k1) |>.trans k1
  have HV := Aside0.mk (Kd.R_lower hv0 hb1.size)
  have HB := Aside0.mk (below_then hb1 hb1.size hb2)
  have hs1 : w.heap.size + 2 ≤ W1.heap.size := by rw [← hW1]; simp; omega
  have HVs := Aside0.mk (Kd.R_bound hv0)
  clear hb0 hb1 hs0 k0 k1 hW0 hW1 hv0 hb2
  obtain ⟨a0, a1, a2, a3, a4, a5, g0, g1, g2, g3, g4, g5⟩ := six K0
  obtain ⟨z0, z1, z2, z3, z4, z5, y0, y1, y2, y3, y4, y5⟩ := six K1
  have HK0 := Aside0.mk K0
  have HK1 := Aside0.mk K1
  clear K0 K1
  go_wp2_with fail
  refine bodyPost_ret (results_cell_row rfl _ _ (w.heap.size + 1) 41 #[.slice A' l.length c', .int .i64 n1, .int .i64 n2, .int .i64 n3, .int .i64 n4, .bool dn] (0, 0) _ rfl (put6 (blk_far (p := ⟨w.heap.size, 0, none⟩) HK1.out (show w.heap.size + 1 ≠ w.heap.size by omega) _)) Try.underlying41 rfl (by kernel_rfl)) rfl ?_
  refine ⟨A', c', rfl, ?_, put6_below (below_set HB.out (Nat.le_refl _)) (by omega)⟩
  refine Kd.R_mono (Kd.R_lower (put6_R (Kd.R_far (p := ⟨w.heap.size, 0, none⟩) HVs.out (fun k hk => ?_) _) (fun k hk => ?_)) (by omega)) (fun _ _ => trivial)
  · have := hk.2.1; show k ≠ w.heap.size; omega
  · have := hk.2.1; omega
theorem rd_set (y : List S71) (j a : Nat) (x : S71) (hj : j < y.length) : rd_T71 (y.set j x) (a : Int) = if a = j then x else rd_T71 y (a : Int) := by
  unfold rd_T71
  rw [Int.toNat_natCast, List.getD_eq_getElem?_getD, List.getD_eq_getElem?_getD, List.getElem?_set]
  by_cases h : a = j
  · subst h; rw [if_pos rfl, if_pos rfl, if_pos hj]; rfl
  · rw [if_neg (fun e => h e.symm), if_neg h]
/-- How much of file a is kept. -/
def kept (keep : List Int) (a : Nat) (x : S71) : Int := x.f2 + (if (x.f1.size : Int) - x.f2 < (if a < keep.length then (if 0 < Go.Proofs.YtagchfmclccfgaaW.PrintWords.rd keep a then Go.Proofs.YtagchfmclccfgaaW.PrintWords.rd keep a else 0) else 0) then (x.f1.size : Int) - x.f2 else (if a < keep.length then (if 0 < Go.Proofs.YtagchfmclccfgaaW.PrintWords.rd keep a then Go.Proofs.YtagchfmclccfgaaW.PrintWords.rd keep a else 0) else 0))
def crash (keep : List Int) (a : Nat) (x : S71) : S71 := ⟨x.f0, x.f1.extract 0 (kept keep a x).toNat, kept keep a x⟩
def crashAll (keep : List Int) (l : List S71) : List S71 := (List.range l.length).map fun a => crash keep a (rd_T71 l a)
end Dc
open Go.Proofs.Ytagchfmclccfgaa.Loops Go.Proofs.Ytagchfmclccfgaa.DiskLaws Go.Proofs.Ytagchfmclccfgaa.DiskValid in
noncomputable def impl_DiskCrash.f (l : List S71) (n1 n2 n3 n4 : Int) (dn : Bool) (keep : List Int) : Option (List S71 × Int × Int × Int × Int × Bool) :=
  if l.length ≤ 1048576 ∧ total wtD l ≤ 1048576 then some (if cdec (Valid l n1 n2 n3 n4) = true then (Dc.crashAll keep l, n1, n2, 0, 0, false) else ([], 0, 0, 0, 0, false)) else none
open Go.Proofs.Ytagchfmclccfgaa.Loops Go.Proofs.Ytagchfmclccfgaa.DiskLaws Go.Proofs.Ytagchfmclccfgaa.DiskValid Dc in
set_option maxHeartbeats 400000 in
set_option maxRecDepth 100000 in
theorem impl_DiskCrash.calls (A : Option Addr) (c : Nat) (l : List S71) (n1 n2 n3 n4 : Int) (dn : Bool) (A1 : Option Addr) (c1 : Nat) (keep : List Int) (r1 : List S71) (r2 r3 r4 r5 : Int) (r6 : Bool) (w : World) (hr : Kd.C k71 w A l.length l) (hc : l.length ≤ c) (hr1 : Kd.C (Kd.int .i64) w A1 keep.length keep) (hc1 : keep.length ≤ c1)
    (h : impl_DiskCrash.f l n1 n2 n3 n4 dn keep = some (r1, r2, r3, r4, r5, r6)) :
    Calls Try.prog 38 #[.agg #[.slice A l.length c, .int .i64 n1, .int .i64 n2, .int .i64 n3, .int .i64 n4, .bool dn], .slice A1 keep.length c1] w fun e w' => ∃ v0_ : Value, e = .returned (.agg #[v0_, .int .i64 r2, .int .i64 r3, .int .i64 r4, .int .i64 r5, .bool r6]) ∧ Kd.R k71 71 w' w.heap.size (fun _ => True) v0_ r1 ∧ Below w.heap.size w w' := by
  unfold impl_DiskCrash.f at h
  have hg : l.length ≤ 1048576 ∧ total wtD l ≤ 1048576 := by
    by_cases hg : l.length ≤ 1048576 ∧ total wtD l ≤ 1048576
    · exact hg
    · rw [if_neg hg] at h; cases h
  rw [if_pos hg] at h
  obtain ⟨hl, ht⟩ := hg
  obtain ⟨K, hK⟩ := impl_valid l n1 n2 n3 n4 dn hl ht
  have hk := hK K (Nat.le_refl _)
  obtain ⟨v, hv⟩ : ∃ v, v = cdec (Valid l n1 n2 n3 n4) := ⟨_, rfl⟩
  rw [← hv] at h hk
  have hok : v = true → ∀ a : Nat, a < l.length → 0 ≤ (rd_T71 l a).f2 ∧ (rd_T71 l a).f2 ≤ ((rd_T71 l a).f1.size : Int) ∧ ((rd_T71 l a).f1.size : Int) ≤ 1048576 := by
    rintro rfl a ha
    have hV : Valid l n1 n2 n3 n4 := by
      by_cases hx : Valid l n1 n2 n3 n4
      · exact hx
      · rw [cdec_neg hx] at hv; cases hv
    have h1 := (hV.2.2.2.1 a (Nat.zero_le _) ha).2.2
    rw [rd_eq]
    have hm : DiskValid.rd l a ∈ l := by
      unfold DiskValid.rd
      rw [List.getD_eq_getElem?_getD, List.getElem?_eq_getElem ha]
      exact List.getElem_mem ha
    have h2 := wt_le_total wtD l _ hm
    have h3 : wtD (DiskValid.rd l a) = (DiskValid.rd l a).f1.size := rfl
    exact ⟨h1.1, h1.2, by omega⟩
  have HOK := Aside0.mk hok
  have HR := Aside0.mk hr
  have HR1 := Aside0.mk hr1
  have HK := Aside0.mk hk
  have HH := Aside0.mk h
  clear hok hr hr1 hk h hK hv
  go_enter Try.func38, Try.ntmps38
  go_wp2_with fail
  obtain ⟨W0, hW0⟩ : ∃ W0, (w.alloc (.cells #[.slice A l.length c, .int .i64 n1, .int .i64 n2, .int .i64 n3, .int .i64 n4, .bool dn] 41)) = W0 := ⟨_, rfl⟩
  obtain ⟨W1, hW1⟩ : ∃ W1, W0.alloc (.cells #[.slice none 0 0, .int .i64 0, .int .i64 0, .int .i64 0, .int .i64 0, .bool false] 41) = W1 := ⟨_, rfl⟩
  have hb0 : Below w.heap.size w W0 := by rw [← hW0]; exact (Below.refl _ w).alloc (Nat.le_refl _) _
  have hb1 : Below w.heap.size w W1 := by rw [← hW1]; exact hb0.alloc hb0.size _
  have hs0 : W0.heap.size = w.heap.size + 1 := by rw [← hW0]; simp
  have hs1 : W1.heap.size = w.heap.size + 2 := by rw [← hW1]; simp; omega
  have k0 : W1.heap[w.heap.size]? = some (.cells #[.slice A l.length c, .int .i64 n1, .int .i64 n2, .int .i64 n3, .int .i64 n4, .bool dn] 41 (0, 0)) := by
    rw [← hW1]; refine blk_alloc ?_ _; rw [← hW0]; exact blk_new w _
  have k1 : W1.heap[w.heap.size + 1]? = some (.cells #[.slice none 0 0, .int .i64 0, .int .i64 0, .int .i64 0, .int .i64 0, .bool false] 41 (0, 0)) := by
    rw [← hW1, ← hs0]; exact blk_new W0 _
  rw [hW0, hW1]
  refine (impl_DiskValid.calls K A c l n1 n2 n3 n4 dn v W1 (Kd.C_below HR.out hb1) hc HK.out).mono ?_
  rintro e w2 ⟨rfl, hb2⟩
  have K0 := hb2.block _ (blk_lt k0) |>.trans k0
  have K1 := hb2.block _ (blk_lt k1) |>.trans k1
  have HB := Aside0.mk (below_then hb1 hb1.size hb2)
  have HS : Aside0 (w.heap.size + 2 ≤ w2.heap.size) := ⟨by have := hb2.size; omega⟩
  clear hb0 hb1 hs0 hs1 k0 k1 hW0 hW1 hb2
  obtain ⟨a0, a1, a2, a3, a4, a5, g0, g1, g2, g3, g4, g5⟩ := six K0
  obtain ⟨z0, z1, z2, z3, z4, z5, y0, y1, y2, y3, y4, y5⟩ := six K1
  have HK0 := Aside0.mk K0
  have HK1 := Aside0.mk K1
  clear K0 K1
  cases v with
  | false =>
    have hh := HH.out
    rw [if_neg (by simp)] at hh
    simp only [Option.some.injEq, Prod.mk.injEq] at hh
    obtain ⟨rfl, rfl, rfl, rfl, rfl, rfl⟩ := hh
    go_wp2_with fail
    refine bodyPost_ret (results_cell_row rfl _ _ (w.heap.size + 1) 41 #[.slice none 0 0, .int .i64 0, .int .i64 0, .int .i64 0, .int .i64 0, .bool false] (0, 0) _ rfl (put6 HK1.out) Try.underlying41 rfl (by kernel_rfl)) rfl ?_
    exact ⟨_, rfl, Kd.R_nil _ _ _ _ _, put6_below HB.out (by omega)⟩
  | true =>
    have hh := HH.out
    rw [if_pos rfl] at hh
    simp only [Option.some.injEq, Prod.mk.injEq] at hh
    obtain ⟨hrr, rfl, rfl, rfl, rfl, rfl⟩ := hh
    have HRR := Aside0.mk hrr
    have HO : Aside0 _ := ⟨HOK.out rfl⟩
    clear hrr
    go_wp2_with fail
    refine (copyDisk A c l n1 n2 n3 n4 dn w2 (Kd.C_below HR.out HB.out) hc hl).mono ?_
    rintro e w3 ⟨A', c', rfl, hv0, hb3⟩
    have K1 := hb3.block _ (blk_lt HK1.out) |>.trans HK1.out
    have HB3 : Aside0 (Below w.heap.size w w3) := ⟨below_then HB.out HB.out.size hb3⟩
    have HS3 : Aside0 (w.heap.size + 2 ≤ w3.heap.size) := ⟨by have := hb3.size; have := HS.out; omega⟩
    obtain ⟨W4, hW4⟩ : ∃ W4, w3.alloc (.cells #[.slice A' l.length c', .int .i64 n1, .int .i64 n2, .int .i64 n3, .int .i64 n4, .bool dn] 41) = W4 := ⟨_, rfl⟩
    have K2 : W4.heap[w3.heap.size]? = some (.cells #[.slice A' l.length c', .int .i64 n1, .int .i64 n2, .int .i64 n3, .int .i64 n4, .bool dn] 41 (0, 0)) := by rw [← hW4]; exact blk_new w3 _
    have K1' : W4.heap[w.heap.size + 1]? = some (.cells #[.slice none 0 0, .int .i64 0, .int .i64 0, .int .i64 0, .int .i64 0, .bool false] 41 (0, 0)) := by rw [← hW4]; exact blk_alloc K1 _
    have HB4 : Aside0 (Below w.heap.size w W4) := ⟨by rw [← hW4]; exact HB3.out.alloc HB3.out.size _⟩
    have HV : Aside0 (Kd.R k71 71 W4 w2.heap.size (fun k => k ≠ w3.heap.size) (.slice A' l.length c') l) := ⟨by
      rw [← hW4]
      exact Kd.R_mono (Kd.R_types (Kd.R_alloc hv0 _) (blk_new w3 _) (by decide)) (fun _ hk => hk.2)⟩
    have HK2 := Aside0.mk K2
    have HK1' := Aside0.mk K1'
    obtain ⟨m0, m1, m2, m3, m4, m5, q0, q1, q2, q3, q4, q5⟩ := six K2
    clear K1 K2 K1' hv0 hb3 HK0 HK1 a0 a1 a2 a3 a4 a5 g0 g1 g2 g3 g4 g5 z0 z1 z2 z3 z4 z5 y0 y1 y2 y3 y4 y5
    go_wp2_with fail
    go_loopw [18] (fun i wr => ∃ (j : Nat) (y : List S71), i = .int .i64 j ∧ j ≤ l.length ∧ Aside0 (y.length = l.length ∧ ∀ a : Nat, a < l.length → rd_T71 y a = if a < j then crash keep a (rd_T71 l a) else rd_T71 l a) ∧
        Aside0 (Kd.R k71 71 wr w2.heap.size (fun k => k ≠ w3.heap.size) (.slice A' l.length c') y) ∧ Aside0 (wr.heap[w3.heap.size]? = some (.cells #[.slice A' l.length c', .int .i64 n1, .int .i64 n2, .int .i64 n3, .int .i64 n4, .bool dn] 41 (0, 0))) ∧
        Aside0 (wr.heap[w.heap.size + 1]? = some (.cells #[.slice none 0 0, .int .i64 0, .int .i64 0, .int .i64 0, .int .i64 0, .bool false] 41 (0, 0))) ∧ Aside0 (Below w.heap.size w wr)) (fun i _ => l.length - (intOf i).toNat)
    case atStart => exact ⟨0, l, rfl, Nat.zero_le _, ⟨rfl, fun a _ => by rw [if_neg (by omega)]⟩, HV, HK2, HK1', HB4⟩
    case round =>
      obtain ⟨j, y, rfl, hj, HY, HVr, HK2r, HK1r, HBr⟩ := hrel
      by_cases hlt : j < l.length
      · obtain ⟨g, cap, ev, hg1, hg2, cells, hgc⟩ := Kd.R_form HVr.out (by rw [HY.out.1]; omega)
        have HG := Aside0.mk hg1
        have HG2 := Aside0.mk hg2
        injection ev with ev1 ev2 ev3
        subst ev1
        clear ev2 ev3 hgc cells hg1 hg2
        obtain ⟨ce, hcl, hM, hcc, hfr⟩ := Kd.R_elem HVr.out z71 (j : Int) (by omega) (by omega)
        have hx : y.getD (j : Int).toNat z71 = rd_T71 l j := by
          have := HY.out.2 j hlt
          rw [if_neg (by omega)] at this
          exact this
        rw [hx] at hM
        obtain ⟨x, hxx⟩ : ∃ x, x = rd_T71 l j := ⟨_, rfl⟩
        rw [← hxx] at hM
        have HX := Aside0.mk hxx
        have hv := HO.out j hlt
        rw [← hxx] at hv
        clear hx hxx
        obtain rfl := k71_openM hM
        have x1 : wr.cell? ⟨g, j * 3 + 1, none⟩ = some (.string x.f1) := hcc 1 _ rfl
        have x2 : wr.cell? ⟨g, j * 3 + 2, none⟩ = some (.int .i64 x.f2) := hcc 2 _ rfl
        have fr1 : wr.frozen? ⟨g, j * 3 + 1, none⟩ = false := hfr 1
        have fr2 : wr.frozen? ⟨g, j * 3 + 2, none⟩ = false := hfr 2
        have hgw : g ≠ w3.heap.size := HVr.out.1 g rfl
        have HGW : Aside0 (w3.heap.size ≠ g) := ⟨hgw.symm⟩
        have HG1 : Aside0 (w.heap.size + 1 ≠ g) := ⟨by have := HG.out; have := HS.out; omega⟩
        clear hgw
        have HSEG : ∀ m : Nat, Aside0 (Kd.R k71 71 ((wr.setCell ⟨g, j * 3 + 1, none⟩ (.string (x.f1.extract 0 m))).setCell ⟨g, j * 3 + 2, none⟩ (.int .i64 m)) w2.heap.size (fun k => k ≠ w3.heap.size) (.slice (some ⟨g, 0, none⟩) l.length c') (y.set j ⟨x.f0, x.f1.extract 0 m, m⟩)) := fun m =>
          ⟨(Kd.R_seg HVr.out (j : Int) (by omega) (by omega) (seg := [.string (x.f1.extract 0 m), .int .i64 m]) (j := 1) hcl hcc (show 1 + 2 ≤ 3 by decide) (x' := (⟨x.f0, x.f1.extract 0 m, m⟩ : S71)) (k71_mkM _ _ _ (⟨x.f0, x.f1.extract 0 m, m⟩ : S71)) (fun _ hk => hk)).1⟩
        clear hcl hM hcc hfr
        obtain ⟨m0, m1, m2, m3, m4, m5, q0, q1, q2, q3, q4, q5⟩ := six HK2r.out
        obtain ⟨v1, v2, v3⟩ := hv
        by_cases hkl : j < keep.length
        · obtain ⟨ad, e, kc⟩ := Kd.at_int (Kd.C_below HR1.out HBr.out) (j : Int) (by omega) (by omega)
          subst e
          rw [Int.toNat_natCast] at kc
          obtain ⟨kv, hkv⟩ : ∃ kv, kv = Go.Proofs.YtagchfmclccfgaaW.PrintWords.rd keep j := ⟨_, rfl⟩
          rw [← hkv] at kc
          have HKV := Aside0.mk hkv
          clear hkv
          obtain ⟨kk, hkk⟩ : ∃ kk : Int, (if kv < 0 then 0 else kv) = kk := ⟨_, rfl⟩
          have hkk' : (if 0 < kv then kv else 0) = kk := by rw [← hkk]; split <;> split <;> omega
          obtain ⟨dd, hdd⟩ : ∃ dd : Int, (x.f1.size : Int) - x.f2 = dd := ⟨_, rfl⟩
          obtain ⟨mm, hmm⟩ : ∃ mm : Int, (if dd < kk then dd else kk) = mm := ⟨_, rfl⟩
          have hk0 : 0 ≤ kk := by rw [← hkk]; split <;> omega
          have hmr : 0 ≤ mm ∧ mm ≤ dd := by rw [← hmm]; split <;> omega
          obtain ⟨m, hm⟩ : ∃ m : Nat, x.f2 + mm = (m : Int) := ⟨_, (Int.toNat_of_nonneg (by omega)).symm⟩
          have hms : m ≤ x.f1.size := by omega
          have hkept : Dc.kept keep j x = (m : Int) := by
            unfold Dc.kept
            rw [if_pos hkl, ← HKV.out, hkk', hdd, hmm]; exact hm
          have hw1 : IntKind.i64.wrap ((x.f1.size : Int) - x.f2) = dd := by rw [hdd]; exact IntWalk.i64_in _ (by omega)
          have hw2 : IntKind.i64.wrap (x.f2 + mm) = (m : Int) := by rw [hm]; exact IntWalk.i64_in _ (by omega)
          have HKE := Aside0.mk hkept
          have HSE := HSEG m
          clear HSEG
          clear hkept hk0 hmr hdd hm
          go_wp2_with fail
          go_still_tail 18, (by kernel_rfl)
          change wpList _ _ _ _ _ wr.drew
          go_wp2_with fail
          refine (cutTo g (j * 3) x.f1 x.f2 m wr.drew x1 x2 fr1 fr2 hms).mono ?_
          rintro e w' ⟨rfl, rfl⟩
          go_wp2_with fail
          go_roundw
          case rel =>
            refine ⟨j + 1, y.set j ⟨x.f0, x.f1.extract 0 m, m⟩, by go_num, by omega, ⟨by rw [List.length_set]; exact HY.out.1, fun a ha => ?_⟩, ⟨Kd.R_drew HSE.out⟩, ⟨blk_drew (blk_far (p := ⟨g, j * 3 + 2, none⟩) (blk_far (p := ⟨g, j * 3 + 1, none⟩) HK2r.out HGW.out _) HGW.out _)⟩, ⟨blk_drew (blk_far (p := ⟨g, j * 3 + 2, none⟩) (blk_far (p := ⟨g, j * 3 + 1, none⟩) HK1r.out HG1.out _) HG1.out _)⟩, ⟨below_drew1 (below_set (below_set HBr.out (Nat.le_trans HB.out.size HG.out)) (Nat.le_trans HB.out.size HG.out))⟩⟩
            rw [rd_set y j a _ (by rw [HY.out.1]; exact hlt)]
            by_cases haj : a = j
            · subst haj
              rw [if_pos rfl, if_pos (by omega), ← HX.out]
              unfold crash
              rw [HKE.out, Int.toNat_natCast]
            · rw [if_neg haj, HY.out.2 a ha]
              by_cases h1 : a < j
              · rw [if_pos h1, if_pos (by omega)]
              · rw [if_neg h1, if_neg (by omega)]
          case measure => simp [intOf]; omega
        · have hkl' : keep.length ≤ j := by omega
          obtain ⟨dd, hdd⟩ : ∃ dd : Int, (x.f1.size : Int) - x.f2 = dd := ⟨_, rfl⟩
          obtain ⟨mm, hmm⟩ : ∃ mm : Int, (if dd < (0 : Int) then dd else 0) = mm := ⟨_, rfl⟩
          have hmr : 0 ≤ mm ∧ mm ≤ dd := by rw [← hmm]; split <;> omega
          obtain ⟨m, hm⟩ : ∃ m : Nat, x.f2 + mm = (m : Int) := ⟨_, (Int.toNat_of_nonneg (by omega)).symm⟩
          have hms : m ≤ x.f1.size := by omega
          have hkept : Dc.kept keep j x = (m : Int) := by
            unfold Dc.kept
            rw [if_neg hkl, hdd, hmm]; exact hm
          have hw1 : IntKind.i64.wrap ((x.f1.size : Int) - x.f2) = dd := by rw [hdd]; exact IntWalk.i64_in _ (by omega)
          have hw2 : IntKind.i64.wrap (x.f2 + mm) = (m : Int) := by rw [hm]; exact IntWalk.i64_in _ (by omega)
          have HKE := Aside0.mk hkept
          have HSE := HSEG m
          clear HSEG
          clear hkept hmr hdd hm
          go_wp2_with fail
          go_still_tail 18, (by kernel_rfl)
          change wpList _ _ _ _ _ wr.drew
          go_wp2_with fail
          refine (cutTo g (j * 3) x.f1 x.f2 m wr.drew x1 x2 fr1 fr2 hms).mono ?_
          rintro e w' ⟨rfl, rfl⟩
          go_wp2_with fail
          go_roundw
          case rel =>
            refine ⟨j + 1, y.set j ⟨x.f0, x.f1.extract 0 m, m⟩, by go_num, by omega, ⟨by rw [List.length_set]; exact HY.out.1, fun a ha => ?_⟩, ⟨Kd.R_drew HSE.out⟩, ⟨blk_drew (blk_far (p := ⟨g, j * 3 + 2, none⟩) (blk_far (p := ⟨g, j * 3 + 1, none⟩) HK2r.out HGW.out _) HGW.out _)⟩, ⟨blk_drew (blk_far (p := ⟨g, j * 3 + 2, none⟩) (blk_far (p := ⟨g, j * 3 + 1, none⟩) HK1r.out HG1.out _) HG1.out _)⟩, ⟨below_drew1 (below_set (below_set HBr.out (Nat.le_trans HB.out.size HG.out)) (Nat.le_trans HB.out.size HG.out))⟩⟩
            rw [rd_set y j a _ (by rw [HY.out.1]; exact hlt)]
            by_cases haj : a = j
            · subst haj
              rw [if_pos rfl, if_pos (by omega), ← HX.out]
              unfold crash
              rw [HKE.out, Int.toNat_natCast]
            · rw [if_neg haj, HY.out.2 a ha]
              by_cases h1 : a < j
              · rw [if_pos h1, if_pos (by omega)]
              · rw [if_neg h1, if_neg (by omega)]
          case measure => simp [intOf]; omega
      · obtain rfl : j = l.length := by omega
        obtain ⟨m0, m1, m2, m3, m4, m5, q0, q1, q2, q3, q4, q5⟩ := six HK2r.out
        obtain ⟨z0, z1, z2, z3, z4, z5, y0, y1, y2, y3, y4, y5⟩ := six HK1r.out
        have hn1 : w.heap.size + 1 ≠ w3.heap.size := by have := HS3.out; omega
        have hn2 : w3.heap.size ≠ w.heap.size + 1 := hn1.symm
        have HN : Aside0 (w.heap.size + 1 ≠ w3.heap.size) := ⟨hn1⟩
        go_wp2_with fail
        have k1 := blk_far (p := ⟨w3.heap.size, 4, none⟩) (blk_far (p := ⟨w3.heap.size, 3, none⟩) (blk_far (p := ⟨w3.heap.size, 5, none⟩) HK1r.out HN.out (.bool false)) HN.out (.int .i64 0)) HN.out (.int .i64 0)
        refine bodyPost_ret (results_cell_row rfl _ _ (w.heap.size + 1) 41 #[.slice A' l.length c', .int .i64 n1, .int .i64 n2, .int .i64 0, .int .i64 0, .bool false] (0, 0) _ rfl (put6 k1) Try.underlying41 rfl (by kernel_rfl)) rfl ?_
        have hle : w.heap.size ≤ w3.heap.size := HB3.out.size
        have hy : y = r1 := by
          rw [← HRR.out]
          unfold crashAll
          apply List.ext_getElem
          · rw [HY.out.1]; simp
          · intro a h1 h2
            rw [HY.out.1] at h1
            have := HY.out.2 a h1
            rw [if_pos h1, rd_eq, rd_eq] at this
            unfold DiskValid.rd at this
            rw [List.getD_eq_getElem?_getD, List.getElem?_eq_getElem (by rw [HY.out.1]; exact h1)] at this
            simp only [Option.getD_some] at this
            rw [List.getElem_map, List.getElem_range, rd_eq]
            exact this
        refine ⟨_, rfl, ?_, put6_below (below_set (below_set (below_set HBr.out hle) hle) hle) (by omega)⟩
        rw [← hy]
        refine Kd.R_mono (Kd.R_lower (put6_R (Kd.R_far (p := ⟨w3.heap.size, 4, none⟩) (Kd.R_far (p := ⟨w3.heap.size, 3, none⟩) (Kd.R_far (p := ⟨w3.heap.size, 5, none⟩) (Kd.R_bound HVr.out) (fun k hk => hk.1) _) (fun k hk => hk.1) _) (fun k hk => hk.1) _) (fun k hk => ?_)) (by have := HB.out.size; exact this)) (fun _ _ => trivial)
        have := hk.2.1
        have := HS.out
        omega
end Go.Proofs.Ytagchfmclccfgaa.M
