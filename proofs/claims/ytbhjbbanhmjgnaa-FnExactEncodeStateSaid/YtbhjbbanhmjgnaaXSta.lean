/- impl.EncodeState: the state's bytes, by a builder. -/
import Derived.Deep.RegionHeld3
import Derived.Deep.DeepCutAuto
import Derived.BigQuiet
import Derived.Test.YtbhjbbanhmjgnaaEncSt
import Derived.Test.YtbhjbbanhmjgnaaSpecCrc
namespace Go.Proofs.Ytbhjbbanhmjgnaa.M
open Go.RowKit Go.Shelf Go.Proofs.YtbhjbbanhmjgnaaW.PrintWords Go.Proofs.YtbhjbbanhmjgnaaW.PrintLast Go.Proofs.YtbhjbbanhmjgnaaW.PrintMore
set_option linter.unusedVariables false
set_option linter.unusedSimpArgs false
namespace Enc
theorem crc_impl (l : List UInt8) (h : l.length ≤ 9223372036854775807) : impl_Crc32c.f ⟨l.toArray⟩ = some (crcOf l) := by
  obtain ⟨c, _, h2, _⟩ := CrcPlain.spec_crc ⟨l.toArray⟩ h
  unfold crcOf
  rw [h2]; rfl
theorem hd_eq (n now : Int) (l : List S77) : [] ++ (⟨(ckpt.data.toList ++ ((Num.bytes 8 n).data.toList ++ ((Num.bytes 8 now).data.toList ++ (Num.bytes 4 l.length).data.toList))).toArray⟩ : ByteArray).data.toList = hdL n now l := by
  show ckpt.data.toList ++ (_ ++ (_ ++ _)) = hdL n now l
  unfold hdL nL
  rw [List.append_assoc, List.append_assoc]
theorem hd_length (n now : Int) (l : List S77) : (ckpt.data.toList ++ ((Num.bytes 8 n).data.toList ++ ((Num.bytes 8 now).data.toList ++ (Num.bytes 4 l.length).data.toList))).length = 24 :=
  (congrArg List.length (hd_eq n now l)).trans (hdL_length n now l)
theorem nb_length (k : Nat) (v : Int) : (Num.bytes k v).data.toList.length = k := nL_length k v
theorem ten_mets (x : Tn) : (metsL x.f2).length ≤ (tenL x).length := by unfold tenL; simp only [List.length_append]; omega
theorem ten_sers (x : Tn) : (sersL x.f3).length ≤ (tenL x).length := by unfold tenL; simp only [List.length_append]; omega
theorem ckpt_eq : (⟨#[67, 75, 80, 84]⟩ : ByteArray) = ckpt := rfl

set_option maxHeartbeats 8000000 in
set_option maxRecDepth 100000 in
theorem sta_bad (n now : Int) (A : Option Addr) (c : Nat) (l : List S77) (w : World) (hr : Kd.C k77 w A l.length l) (hc : l.length ≤ c) (hn : ¬ (0 ≤ n ∧ n ≤ 1000000000000000)) :
    Calls Try.prog 14 #[.int .i64 n, .agg #[.int .i64 now, .slice A l.length c]] w fun e w' => e = .returned (.string (sta n now l)) ∧ Below w.heap.size w w' := by
  obtain ⟨R, hR⟩ : ∃ R, R = sta n now l := ⟨_, rfl⟩
  rw [← hR]
  have HRq := Aside0.mk hR
  have HR := Aside0.mk hr
  clear hR hr
  obtain ⟨W1, hW1⟩ : ∃ W, w.alloc (.cells #[.int .i64 now, .slice A l.length c] 40) = W := ⟨_, rfl⟩
  have HB1 : Aside0 (Below w.heap.size w W1) := ⟨by rw [← hW1]; exact (Below.refl _ w).alloc (Nat.le_refl _) _⟩
  have hx1 : W1.heap[w.heap.size]? = some (.cells #[.int .i64 now, .slice A l.length c] 40 (0, 0)) := by rw [← hW1]; exact blk_new w _
  have HX1 := Aside0.mk hx1
  have hq := Aside0.mk (HRq.out.trans (sta_no (fun h => hn h.1)))
  clear hx1
  by_cases h0 : n < 0
  · clear hn
    go_enter Try.func14, Try.ntmps14
    go_wp2_with fail
    go_ret
    exact ⟨by rw [hq.out]; rfl, HB1.out⟩
  · have h1 : 1000000000000000 < n := by omega
    clear hn
    go_enter Try.func14, Try.ntmps14
    go_wp2_with fail
    go_ret
    exact ⟨by rw [hq.out]; rfl, HB1.out⟩

set_option maxHeartbeats 8000000 in
set_option maxRecDepth 100000 in
theorem sta_good (n now : Int) (A : Option Addr) (c : Nat) (l : List S77) (w : World) (hr : Kd.C k77 w A l.length l) (hc : l.length ≤ c) (hf : Fits l) (hn : 0 ≤ n ∧ n ≤ 1000000000000000) :
    Calls Try.prog 14 #[.int .i64 n, .agg #[.int .i64 now, .slice A l.length c]] w fun e w' => e = .returned (.string (sta n now l)) ∧ Below w.heap.size w w' := by
  obtain ⟨R, hR⟩ : ∃ R, R = sta n now l := ⟨_, rfl⟩
  rw [← hR]
  have HRq := Aside0.mk hR
  have HR := Aside0.mk hr
  clear hR hr
  obtain ⟨W1, hW1⟩ : ∃ W, w.alloc (.cells #[.int .i64 now, .slice A l.length c] 40) = W := ⟨_, rfl⟩
  have HB1 : Aside0 (Below w.heap.size w W1) := ⟨by rw [← hW1]; exact (Below.refl _ w).alloc (Nat.le_refl _) _⟩
  have hx1 : W1.heap[w.heap.size]? = some (.cells #[.int .i64 now, .slice A l.length c] 40 (0, 0)) := by rw [← hW1]; exact blk_new w _
  have HX1 := Aside0.mk hx1
  obtain ⟨hn0, hn1⟩ := hn
  have hl6 : l.length ≤ 1048576 := by unfold Fits at hf; omega
  have HFit := Aside0.mk (tens_fit hf)
  clear hf
  obtain ⟨W2, hW2⟩ : ∃ W, W1.alloc (.cells #[.pointer none, .slice none 0 0] 56) = W := ⟨_, rfl⟩
  obtain ⟨b, hb⟩ : ∃ b, W1.heap.size = b := ⟨_, rfl⟩
  have HSa : Aside0 (Sb w b [] #[.int .i64 now, .slice A l.length c] W2) := ⟨by
    rw [← hW2, ← hb]
    exact ⟨Bld.fresh W1, blk_alloc hx1 _, HB1.out.alloc HB1.out.size _, blk_lt hx1⟩⟩
  have ca0 : W2.cell? ⟨w.heap.size, 0, none⟩ = some (.int .i64 now) := (blk_cell HSa.out.box 0).trans rfl
  have ca1 : W2.cell? ⟨w.heap.size, 1, none⟩ = some (.slice A l.length c) := (blk_cell HSa.out.box 1).trans rfl
  have hd0 : W1.cell? ⟨w.heap.size, 0, none⟩ = some (.int .i64 now) := (blk_cell hx1 0).trans rfl
  have hd1 : W1.cell? ⟨w.heap.size, 1, none⟩ = some (.slice A l.length c) := (blk_cell hx1 1).trans rfl
  clear hx1
  go_enter Try.func14, Try.ntmps14
  go_wp2_with fail
  clear hW1 hW2 hb hd0 hd1
  go_region_held3 (fun W' => W'.cell? ⟨w.heap.size, 0, none⟩ = some (.int .i64 now) ∧ W'.cell? ⟨w.heap.size, 1, none⟩ = some (.slice A l.length c))
    (first | exact ⟨ca0, ca1⟩ | exact ⟨cb0, cb1⟩ | exact ⟨cc0, cc1⟩ | exact ⟨cd0, cd1⟩ | exact ⟨Lib.cell?_alloc_some _ cd0, Lib.cell?_alloc_some _ cd1⟩ | exact ⟨ce0, ce1⟩ | exact ⟨cf0, cf1⟩)
    (first | (go_at_call 25; have _t := HSa; clear _t; refine (impl_num.calls 8 n (Num.bytes 8 n) _ (num8 n)).mono ?_; rintro e Wb ⟨rfl, hbb⟩; have HSb := Aside0.mk (HSa.out.drew.below hbb); have cb0 : Wb.cell? ⟨w.heap.size, 0, none⟩ = some (.int .i64 now) := (blk_cell HSb.out.box 0).trans rfl; have cb1 : Wb.cell? ⟨w.heap.size, 1, none⟩ = some (.slice A l.length c) := (blk_cell HSb.out.box 1).trans rfl; clear hbb HSa)
           | (go_at_call 25; have _t := HSb; clear _t; refine (impl_num.calls 8 now (Num.bytes 8 now) _ (num8 now)).mono ?_; rintro e Wc ⟨rfl, hbc⟩; have HSc := Aside0.mk (HSb.out.below hbc); have cc0 : Wc.cell? ⟨w.heap.size, 0, none⟩ = some (.int .i64 now) := (blk_cell HSc.out.box 0).trans rfl; have cc1 : Wc.cell? ⟨w.heap.size, 1, none⟩ = some (.slice A l.length c) := (blk_cell HSc.out.box 1).trans rfl; clear hbc HSb)
           | (go_at_call 25; have _t := HSc; clear _t; refine (impl_num.calls 4 l.length (Num.bytes 4 l.length) _ (num4 l.length)).mono ?_; rintro e Wd ⟨rfl, hbd⟩; have HSd := Aside0.mk (HSc.out.below hbd); have cd0 : Wd.cell? ⟨w.heap.size, 0, none⟩ = some (.int .i64 now) := (blk_cell HSd.out.box 0).trans rfl; have cd1 : Wd.cell? ⟨w.heap.size, 1, none⟩ = some (.slice A l.length c) := (blk_cell HSd.out.box 1).trans rfl; clear hbd HSc)
           | (go_at_call 28; have _t := HSd; clear _t; refine (Bld.join4 Wd.heap.size (ckpt) (Num.bytes 8 n) (Num.bytes 8 now) (Num.bytes 4 l.length) _ ((blk_cell (blk_new Wd _) 0).trans rfl) ((blk_cell (blk_new Wd _) 1).trans rfl) ((blk_cell (blk_new Wd _) 2).trans rfl) ((blk_cell (blk_new Wd _) 3).trans rfl) ?_).mono ?_; (· rw [show ckpt.size = 4 from rfl]; simp only [List.length_append, s8L_length, s16L_length, nL_length, num_size, s8B_size, s16B_size, ByteArray.size_append]; omega); rintro e We ⟨rfl, hbe⟩; have HSe := Aside0.mk ((HSd.out.alloc _).below hbe); have ce0 : We.cell? ⟨w.heap.size, 0, none⟩ = some (.int .i64 now) := (blk_cell HSe.out.box 0).trans rfl; have ce1 : We.cell? ⟨w.heap.size, 1, none⟩ = some (.slice A l.length c) := (blk_cell HSe.out.box 1).trans rfl; clear hbe HSd)
           | (go_at_call 24; have _t := HSe; clear _t; refine (Bld.write b b ([]) (⟨(ckpt.data.toList ++ ((Num.bytes 8 n).data.toList ++ ((Num.bytes 8 now).data.toList ++ (Num.bytes 4 l.length).data.toList))).toArray⟩) We HSe.out.is ?_).mono ?_; (· have h := hd_length n now l; show 0 + List.length (_ ++ _) ≤ _; rw [h]; omega); rintro e Wf ⟨rfl, hi, hbf, hkf⟩; have HSf := Aside0.mk (HSe.out.write hi hbf); have cf0 : Wf.cell? ⟨w.heap.size, 0, none⟩ = some (.int .i64 now) := (blk_cell HSf.out.box 0).trans rfl; have cf1 : Wf.cell? ⟨w.heap.size, 1, none⟩ = some (.slice A l.length c) := (blk_cell HSf.out.box 1).trans rfl; clear hi hbf hkf HSe))
  go_wp2_with fail
  have hs0 : Sb w b (hdL n now l) #[.int .i64 now, .slice A l.length c] Wf := by rw [← hd_eq]; exact HSf.out
  have HS0 := Aside0.mk hs0
  clear hs0 HSf cf0 cf1
  go_loopw [33] (fun i wr => ∃ j : Nat, i = .int .i64 j ∧ j ≤ l.length ∧ Aside0 (Sb w b (hdL n now l ++ tensL (l.take j)) #[.int .i64 now, .slice A l.length c] wr) ∧ Aside0 (∀ y ∈ l.take j, TenOK y)) (fun i _ => l.length - (intOf i).toNat)
  case atStart => exact ⟨0, rfl, Nat.zero_le _, ⟨by simpa [tensL] using HS0.out⟩, ⟨by simp⟩⟩
  case round =>
    obtain ⟨j, rfl, hj, HSr, HOr⟩ := hrel
    by_cases hlt : j < l.length
    · obtain ⟨ad, A2, c2, A3, c3, ea, x0, x1, x2, x3, hc2, hC2, hc3, hC3⟩ := at_T77 HR.out (j : Int) (by omega) (by omega)
      subst ea
      rw [Int.toNat_natCast] at x0 x1 x2 x3
      rw [rd_T l j hlt] at x0 x1 x2 x3 hc2 hC2 hc3 hC3
      replace x0 := (HSr.out.bel.cell (World.block_lt_of_cell? w _ x0)).trans x0
      replace x1 := (HSr.out.bel.cell (World.block_lt_of_cell? w _ x1)).trans x1
      replace x2 := (HSr.out.bel.cell (World.block_lt_of_cell? w _ x2)).trans x2
      replace x3 := (HSr.out.bel.cell (World.block_lt_of_cell? w _ x3)).trans x3
      obtain ⟨x, hx⟩ : ∃ x, x = l[j] := ⟨_, rfl⟩
      rw [← hx] at x0 x1 x2 x3 hc2 hC2 hc3 hC3
      have HX := Aside0.mk hx
      have HC2 := Aside0.mk hC2
      have HC3 := Aside0.mk hC3
      have HL0 : Aside0 ((tensL (l.take j)).length ≤ 30000000) := ⟨Nat.le_trans (flat_take_le tenL l j) HFit.out⟩
      have HTx : Aside0 ((tenL x).length ≤ 30000000) := ⟨Nat.le_trans (flat_mem_le tenL l x (by rw [hx]; exact List.getElem_mem _)) HFit.out⟩
      have HMx : Aside0 ((metsL x.f2).length ≤ 30000000) := ⟨Nat.le_trans (ten_mets x) HTx.out⟩
      have HRx : Aside0 ((sersL x.f3).length ≤ 30000000) := ⟨Nat.le_trans (ten_sers x) HTx.out⟩
      have hm6 : x.f2.length ≤ 30000000 := by have h1 := HMx.out; rw [mets_length] at h1; omega
      have hr6 : x.f3.length ≤ 30000000 := by have h1 := HRx.out; rw [sers_length] at h1; omega
      clear hx hC2 hC3
      obtain ⟨Wa, hWa⟩ : ∃ W, wr.alloc (.cells #[.string x.f0, .int .i64 x.f1, .slice A2 x.f2.length c2, .slice A3 x.f3.length c3] 77) = W := ⟨_, rfl⟩
      obtain ⟨g7, hg7⟩ : ∃ g, wr.heap.size = g := ⟨_, rfl⟩
      have hxa : Wa.heap[g7]? = some (.cells #[.string x.f0, .int .i64 x.f1, .slice A2 x.f2.length c2, .slice A3 x.f3.length c3] 77 (0, 0)) := by rw [← hWa, ← hg7]; exact blk_new wr _
      have HSa : Aside0 (Sb w b (hdL n now l ++ tensL (l.take j)) #[.int .i64 now, .slice (some ad) l.length c] Wa) := ⟨by rw [← hWa]; exact HSr.out.alloc _⟩
      have HNBxb : Aside0 (g7 ≠ b) := ⟨by have := HSr.out.is.lt; omega⟩
      have u0 : Wa.cell? ⟨g7, 0, none⟩ = some (.string x.f0) := (blk_cell hxa 0).trans rfl
      have u1 : Wa.cell? ⟨g7, 1, none⟩ = some (.int .i64 x.f1) := (blk_cell hxa 1).trans rfl
      have u2 : Wa.cell? ⟨g7, 2, none⟩ = some (.slice A2 x.f2.length c2) := (blk_cell hxa 2).trans rfl
      have HXa := Aside0.mk hxa
      clear hxa
      by_cases hbig : 255 < x.f0.size
      · have hq := Aside0.mk (HRq.out.trans (sta_no (fun h => by have := (h.2 x (by rw [HX.out]; exact List.getElem_mem _)).1; omega)))
        go_wp2_with fail
        go_ret
        exact ⟨by rw [hq.out]; rfl, HSa.out.bel⟩
      · go_wp2_with fail
        clear hWa hg7 x0 x1 x2 x3
        go_region_held3 (fun W' => W'.cell? ⟨g7, 0, none⟩ = some (.string x.f0) ∧ W'.cell? ⟨g7, 1, none⟩ = some (.int .i64 x.f1) ∧ W'.cell? ⟨g7, 2, none⟩ = some (.slice A2 x.f2.length c2))
          (first | exact ⟨u0, u1, u2⟩ | exact ⟨ct10, ct11, ct12⟩ | exact ⟨ct20, ct21, ct22⟩ | exact ⟨ct30, ct31, ct32⟩ | exact ⟨Lib.cell?_alloc_some _ ct30, Lib.cell?_alloc_some _ ct31, Lib.cell?_alloc_some _ ct32⟩ | exact ⟨ct40, ct41, ct42⟩ | exact ⟨ct50, ct51, ct52⟩)
          (first | (go_at_call 26; have _t := HSa; clear _t; refine (impl_s8.calls x.f0 (s8B x.f0) _ (s8f x.f0 (by omega))).mono ?_; rintro e Wt1 ⟨rfl, hbt1⟩; have HSt1 := Aside0.mk (HSa.out.drew.below hbt1); have Hxbt1 := Aside0.mk ((hbt1.block _ (blk_lt HXa.out)).trans HXa.out); have ct10 : Wt1.cell? ⟨g7, 0, none⟩ = some (.string x.f0) := (blk_cell Hxbt1.out 0).trans rfl; have ct11 : Wt1.cell? ⟨g7, 1, none⟩ = some (.int .i64 x.f1) := (blk_cell Hxbt1.out 1).trans rfl; have ct12 : Wt1.cell? ⟨g7, 2, none⟩ = some (.slice A2 x.f2.length c2) := (blk_cell Hxbt1.out 2).trans rfl; clear hbt1 HSa)
                 | (go_at_call 25; have _t := HSt1; clear _t; refine (impl_num.calls 8 x.f1 (Num.bytes 8 x.f1) _ (num8 x.f1)).mono ?_; rintro e Wt2 ⟨rfl, hbt2⟩; have HSt2 := Aside0.mk (HSt1.out.below hbt2); have Hxbt2 := Aside0.mk ((hbt2.block _ (blk_lt Hxbt1.out)).trans Hxbt1.out); have ct20 : Wt2.cell? ⟨g7, 0, none⟩ = some (.string x.f0) := (blk_cell Hxbt2.out 0).trans rfl; have ct21 : Wt2.cell? ⟨g7, 1, none⟩ = some (.int .i64 x.f1) := (blk_cell Hxbt2.out 1).trans rfl; have ct22 : Wt2.cell? ⟨g7, 2, none⟩ = some (.slice A2 x.f2.length c2) := (blk_cell Hxbt2.out 2).trans rfl; clear hbt2 HSt1)
                 | (go_at_call 25; have _t := HSt2; clear _t; refine (impl_num.calls 4 x.f2.length (Num.bytes 4 x.f2.length) _ (num4 x.f2.length)).mono ?_; rintro e Wt3 ⟨rfl, hbt3⟩; have HSt3 := Aside0.mk (HSt2.out.below hbt3); have Hxbt3 := Aside0.mk ((hbt3.block _ (blk_lt Hxbt2.out)).trans Hxbt2.out); have ct30 : Wt3.cell? ⟨g7, 0, none⟩ = some (.string x.f0) := (blk_cell Hxbt3.out 0).trans rfl; have ct31 : Wt3.cell? ⟨g7, 1, none⟩ = some (.int .i64 x.f1) := (blk_cell Hxbt3.out 1).trans rfl; have ct32 : Wt3.cell? ⟨g7, 2, none⟩ = some (.slice A2 x.f2.length c2) := (blk_cell Hxbt3.out 2).trans rfl; clear hbt3 HSt2)
                 | (go_at_call 28; have _t := HSt3; clear _t; refine (Bld.join3 Wt3.heap.size (s8B x.f0) (Num.bytes 8 x.f1) (Num.bytes 4 x.f2.length) _ ((blk_cell (blk_new Wt3 _) 0).trans rfl) ((blk_cell (blk_new Wt3 _) 1).trans rfl) ((blk_cell (blk_new Wt3 _) 2).trans rfl) ?_).mono ?_; (· simp only [List.length_append, s8L_length, s16L_length, nL_length, num_size, s8B_size, s16B_size, ByteArray.size_append]; omega); rintro e Wt4 ⟨rfl, hbt4⟩; have HSt4 := Aside0.mk ((HSt3.out.alloc _).below hbt4); have Hxbt4 := Aside0.mk ((hbt4.block _ (blk_lt (blk_alloc Hxbt3.out _))).trans (blk_alloc Hxbt3.out _)); have ct40 : Wt4.cell? ⟨g7, 0, none⟩ = some (.string x.f0) := (blk_cell Hxbt4.out 0).trans rfl; have ct41 : Wt4.cell? ⟨g7, 1, none⟩ = some (.int .i64 x.f1) := (blk_cell Hxbt4.out 1).trans rfl; have ct42 : Wt4.cell? ⟨g7, 2, none⟩ = some (.slice A2 x.f2.length c2) := (blk_cell Hxbt4.out 2).trans rfl; clear hbt4 HSt3)
                 | (go_at_call 24; have _t := HSt4; clear _t; refine (Bld.write b b (hdL n now l ++ tensL (l.take j)) (⟨((s8B x.f0).data.toList ++ ((Num.bytes 8 x.f1).data.toList ++ (Num.bytes 4 x.f2.length).data.toList)).toArray⟩) Wt4 HSt4.out.is ?_).mono ?_; (· have h1 := HL0.out; show _ + List.length (_ ++ (_ ++ _)) ≤ _; rw [s8B_list]; simp only [List.length_append, hdL_length, nb_length, s8L_length]; omega); rintro e Wt5 ⟨rfl, hi, hbt5, hkt5⟩; have HSt5 := Aside0.mk (HSt4.out.write hi hbt5); have Hxbt5 := Aside0.mk (hkt5.block Hxbt4.out HNBxb.out (by decide)); have ct50 : Wt5.cell? ⟨g7, 0, none⟩ = some (.string x.f0) := (blk_cell Hxbt5.out 0).trans rfl; have ct51 : Wt5.cell? ⟨g7, 1, none⟩ = some (.int .i64 x.f1) := (blk_cell Hxbt5.out 1).trans rfl; have ct52 : Wt5.cell? ⟨g7, 2, none⟩ = some (.slice A2 x.f2.length c2) := (blk_cell Hxbt5.out 2).trans rfl; clear hi hbt5 hkt5 HSt4))
        go_wp2_with fail
        clear ct50 ct51 ct52
        obtain ⟨L1, hL1⟩ : ∃ L1, L1 = hdL n now l ++ tensL (l.take j) ++ ((s8B x.f0).data.toList ++ ((Num.bytes 8 x.f1).data.toList ++ (Num.bytes 4 x.f2.length).data.toList)) := ⟨_, rfl⟩
        have hs1 : Sb w b L1 #[.int .i64 now, .slice (some ad) l.length c] Wt5 := by rw [hL1]; exact HSt5.out
        have HSim := Aside0.mk hs1
        have HXim := Hxbt5
        have HL1n : Aside0 (L1.length ≤ 40000000) := ⟨by rw [hL1, s8B_list]; have := HL0.out; simp only [List.length_append, hdL_length, nb_length, s8L_length]; omega⟩
        have HL1 := Aside0.mk hL1
        clear hL1 hs1 HSt5 Hxbt5
        go_loopw [57] (fun i wi => ∃ q : Nat, i = .int .i64 q ∧ q ≤ x.f2.length ∧ Aside0 (Sb w b (L1 ++ metsL (x.f2.take q)) #[.int .i64 now, .slice (some ad) l.length c] wi) ∧ Aside0 (∀ y ∈ x.f2.take q, MetOK y) ∧ Aside0 (wi.heap[g7]? = some (.cells #[.string x.f0, .int .i64 x.f1, .slice A2 x.f2.length c2, .slice A3 x.f3.length c3] 77 (0, 0)))) (fun i _ => x.f2.length - (intOf i).toNat)
        case atStart => exact ⟨0, rfl, Nat.zero_le _, ⟨by simpa [metsL] using HSim.out⟩, ⟨by simp⟩, HXim⟩
        case round =>
          obtain ⟨q, rfl, hq, HSq, HOq, HXq⟩ := hrel
          have HLq : Aside0 ((metsL (x.f2.take q)).length ≤ 30000000) := ⟨Nat.le_trans (flat_take_le metL x.f2 q) HMx.out⟩
          by_cases hqt : q < x.f2.length
          · obtain ⟨ad2, eb, y0, y1⟩ := at_T79 (Kd.C_below HC2.out HSq.out.bel) (q : Int) (by omega) (by omega)
            subst eb
            rw [Int.toNat_natCast] at y0 y1
            rw [rd_M x.f2 q hqt] at y0 y1
            obtain ⟨y, hy⟩ : ∃ y, y = x.f2[q] := ⟨_, rfl⟩
            rw [← hy] at y0 y1
            have HY := Aside0.mk hy
            clear hy
            obtain ⟨Wd, hWd⟩ : ∃ W, wr.alloc (.cells #[.string y.f0, .int .i64 y.f1] 79) = W := ⟨_, rfl⟩
            obtain ⟨g9, hg9⟩ : ∃ g, wr.heap.size = g := ⟨_, rfl⟩
            have hyd : Wd.heap[g9]? = some (.cells #[.string y.f0, .int .i64 y.f1] 79 (0, 0)) := by rw [← hWd, ← hg9]; exact blk_new wr _
            have HSd : Aside0 (Sb w b (L1 ++ metsL (x.f2.take q)) #[.int .i64 now, .slice (some ad) l.length c] Wd) := ⟨by rw [← hWd]; exact HSq.out.alloc _⟩
            have HXd : Aside0 (Wd.heap[g7]? = some (.cells #[.string x.f0, .int .i64 x.f1, .slice (some ad2) x.f2.length c2, .slice A3 x.f3.length c3] 77 (0, 0))) := ⟨by rw [← hWd]; exact blk_alloc HXq.out _⟩
            have HNByb : Aside0 (g9 ≠ b) := ⟨by have := HSq.out.is.lt; omega⟩
            have v0 : Wd.cell? ⟨g9, 0, none⟩ = some (.string y.f0) := (blk_cell hyd 0).trans rfl
            have v1 : Wd.cell? ⟨g9, 1, none⟩ = some (.int .i64 y.f1) := (blk_cell hyd 1).trans rfl
            have HYd := Aside0.mk hyd
            clear hyd
            by_cases hn1 : 65535 < y.f0.size
            · have hq := Aside0.mk (HRq.out.trans (sta_no (fun h => by have h3 : y.f0.size ≤ 65535 := (h.2 x (by rw [HX.out]; exact List.getElem_mem _)).2.1 y (by rw [HY.out]; exact List.getElem_mem _); omega)))
              go_wp2_with fail
              go_ret
              exact ⟨by rw [hq.out]; rfl, HSd.out.bel⟩
            · go_wp2_with fail
              clear hWd hg9 y0 y1
              go_region_held3 (fun W' => W'.cell? ⟨g9, 0, none⟩ = some (.string y.f0) ∧ W'.cell? ⟨g9, 1, none⟩ = some (.int .i64 y.f1))
                (first | exact ⟨v0, v1⟩ | exact ⟨cm10, cm11⟩ | exact ⟨cm20, cm21⟩ | exact ⟨Lib.cell?_alloc_some _ cm20, Lib.cell?_alloc_some _ cm21⟩ | exact ⟨cm30, cm31⟩ | exact ⟨cm40, cm41⟩)
                (first | (go_at_call 27; have _t := HSd; clear _t; refine (impl_s16.calls y.f0 (s16B y.f0) _ (s16f y.f0 (by omega))).mono ?_; rintro e Wm1 ⟨rfl, hbm1⟩; have HSm1 := Aside0.mk (HSd.out.drew.below hbm1); have Hxbm1 := Aside0.mk ((hbm1.block _ (blk_lt HXd.out)).trans HXd.out); have Hybm1 := Aside0.mk ((hbm1.block _ (blk_lt HYd.out)).trans HYd.out); have cm10 : Wm1.cell? ⟨g9, 0, none⟩ = some (.string y.f0) := (blk_cell Hybm1.out 0).trans rfl; have cm11 : Wm1.cell? ⟨g9, 1, none⟩ = some (.int .i64 y.f1) := (blk_cell Hybm1.out 1).trans rfl; clear hbm1 HSd)
                       | (go_at_call 25; have _t := HSm1; clear _t; refine (impl_num.calls 8 y.f1 (Num.bytes 8 y.f1) _ (num8 y.f1)).mono ?_; rintro e Wm2 ⟨rfl, hbm2⟩; have HSm2 := Aside0.mk (HSm1.out.below hbm2); have Hxbm2 := Aside0.mk ((hbm2.block _ (blk_lt Hxbm1.out)).trans Hxbm1.out); have Hybm2 := Aside0.mk ((hbm2.block _ (blk_lt Hybm1.out)).trans Hybm1.out); have cm20 : Wm2.cell? ⟨g9, 0, none⟩ = some (.string y.f0) := (blk_cell Hybm2.out 0).trans rfl; have cm21 : Wm2.cell? ⟨g9, 1, none⟩ = some (.int .i64 y.f1) := (blk_cell Hybm2.out 1).trans rfl; clear hbm2 HSm1)
                       | (go_at_call 28; have _t := HSm2; clear _t; refine (Bld.join2 Wm2.heap.size (s16B y.f0) (Num.bytes 8 y.f1) _ ((blk_cell (blk_new Wm2 _) 0).trans rfl) ((blk_cell (blk_new Wm2 _) 1).trans rfl) ?_).mono ?_; (· simp only [List.length_append, s8L_length, s16L_length, nL_length, num_size, s8B_size, s16B_size, ByteArray.size_append]; omega); rintro e Wm3 ⟨rfl, hbm3⟩; have HSm3 := Aside0.mk ((HSm2.out.alloc _).below hbm3); have Hxbm3 := Aside0.mk ((hbm3.block _ (blk_lt (blk_alloc Hxbm2.out _))).trans (blk_alloc Hxbm2.out _)); have Hybm3 := Aside0.mk ((hbm3.block _ (blk_lt (blk_alloc Hybm2.out _))).trans (blk_alloc Hybm2.out _)); have cm30 : Wm3.cell? ⟨g9, 0, none⟩ = some (.string y.f0) := (blk_cell Hybm3.out 0).trans rfl; have cm31 : Wm3.cell? ⟨g9, 1, none⟩ = some (.int .i64 y.f1) := (blk_cell Hybm3.out 1).trans rfl; clear hbm3 HSm2)
                       | (go_at_call 24; have _t := HSm3; clear _t; refine (Bld.write b b (L1 ++ metsL (x.f2.take q)) (⟨((s16B y.f0).data.toList ++ (Num.bytes 8 y.f1).data.toList).toArray⟩) Wm3 HSm3.out.is ?_).mono ?_; (· have h1 := HLq.out; have h2 := HL1n.out; show _ + List.length (_ ++ _) ≤ _; rw [s16B_list]; simp only [List.length_append, nb_length, s16L_length]; omega); rintro e Wm4 ⟨rfl, hi, hbm4, hkm4⟩; have HSm4 := Aside0.mk (HSm3.out.write hi hbm4); have Hxbm4 := Aside0.mk (hkm4.block Hxbm3.out HNBxb.out (by decide)); have Hybm4 := Aside0.mk (hkm4.block Hybm3.out HNByb.out (by decide)); have cm40 : Wm4.cell? ⟨g9, 0, none⟩ = some (.string y.f0) := (blk_cell Hybm4.out 0).trans rfl; have cm41 : Wm4.cell? ⟨g9, 1, none⟩ = some (.int .i64 y.f1) := (blk_cell Hybm4.out 1).trans rfl; clear hi hbm4 hkm4 HSm3))
              go_wp2_with fail
              go_roundw
              case rel =>
                refine ⟨q + 1, by go_num, by omega, ⟨?_⟩, ⟨take_all MetOK x.f2 q hqt HOq.out (by rw [← HY.out]; exact Nat.not_lt.1 hn1)⟩, Hxbm4⟩
                have e1 : metsL (x.f2.take (q + 1)) = metsL (x.f2.take q) ++ metL y := by unfold metsL; rw [take_flat metL x.f2 q hqt, HY.out]
                have e2 : L1 ++ metsL (x.f2.take q) ++ ((s16B y.f0).data.toList ++ (Num.bytes 8 y.f1).data.toList) = L1 ++ metsL (x.f2.take (q + 1)) := by rw [e1, s16B_list, List.append_assoc]; rfl
                have := HSm4.out
                rw [← e2]
                exact this
              case measure => simp [intOf]; omega
          · obtain rfl : q = x.f2.length := by omega
            have HMO : Aside0 (∀ y ∈ x.f2, MetOK y) := ⟨by have := HOq.out; rwa [List.take_of_length_le (Nat.le_refl _)] at this⟩
            have HSm : Aside0 (Sb w b (L1 ++ metsL x.f2) #[.int .i64 now, .slice (some ad) l.length c] wr) := ⟨by have := HSq.out; rwa [List.take_of_length_le (Nat.le_refl _)] at this⟩
            clear HSq HOq HLq
            have u3 : wr.cell? ⟨g7, 3, none⟩ = some (.slice A3 x.f3.length c3) := (blk_cell HXq.out 3).trans rfl
            go_wp2_with fail
            refine (impl_num.calls 4 x.f3.length (Num.bytes 4 x.f3.length) wr (num4 x.f3.length)).mono ?_
            rintro e Wi ⟨rfl, hbi⟩
            have HSn := Aside0.mk (HSm.out.below hbi)
            have HXn := Aside0.mk ((hbi.block _ (blk_lt HXq.out)).trans HXq.out)
            have u4 : Wi.cell? ⟨g7, 3, none⟩ = some (.slice A3 x.f3.length c3) := (blk_cell HXn.out 3).trans rfl
            clear hbi u3 HSm HXq
            go_wp2_with fail
            refine (Bld.write b b (L1 ++ metsL x.f2) (Num.bytes 4 x.f3.length) Wi HSn.out.is (by have h1 := HMx.out; have h2 := HL1n.out; simp only [List.length_append, num_size]; omega)).mono ?_
            rintro e Wj ⟨rfl, hi, hbj, hkj⟩
            have HSo := Aside0.mk (HSn.out.write hi hbj)
            have HXis := Aside0.mk (hkj.block HXn.out HNBxb.out (by decide))
            have u5 : Wj.cell? ⟨g7, 3, none⟩ = some (.slice A3 x.f3.length c3) := (blk_cell HXis.out 3).trans rfl
            obtain ⟨L2, hL2⟩ : ∃ L2, L2 = L1 ++ metsL x.f2 ++ (Num.bytes 4 x.f3.length).data.toList := ⟨_, rfl⟩
            have hs2 : Sb w b L2 #[.int .i64 now, .slice (some ad) l.length c] Wj := by rw [hL2]; exact HSo.out
            have HSis := Aside0.mk hs2
            have HL2n : Aside0 (L2.length ≤ 80000000) := ⟨by rw [hL2]; have h1 := HL1n.out; have h2 := HMx.out; simp only [List.length_append, nb_length]; omega⟩
            have HL2 := Aside0.mk hL2
            clear hi hbj hkj u4 HSn HXn HSo hL2 hs2
            go_wp2_with fail
            clear u5
            go_loopw [83] (fun i wi => ∃ q : Nat, i = .int .i64 q ∧ q ≤ x.f3.length ∧ Aside0 (Sb w b (L2 ++ sersL (x.f3.take q)) #[.int .i64 now, .slice (some ad) l.length c] wi) ∧ Aside0 (∀ y ∈ x.f3.take q, SerOK y) ∧ Aside0 (wi.heap[g7]? = some (.cells #[.string x.f0, .int .i64 x.f1, .slice A2 x.f2.length c2, .slice A3 x.f3.length c3] 77 (0, 0)))) (fun i _ => x.f3.length - (intOf i).toNat)
            case atStart => exact ⟨0, rfl, Nat.zero_le _, ⟨by simpa [sersL] using HSis.out⟩, ⟨by simp⟩, HXis⟩
            case round =>
              obtain ⟨q, rfl, hq, HSq, HOq, HXq⟩ := hrel
              have HLq : Aside0 ((sersL (x.f3.take q)).length ≤ 30000000) := ⟨Nat.le_trans (flat_take_le serL x.f3 q) HRx.out⟩
              by_cases hqt : q < x.f3.length
              · obtain ⟨ad2, eb, y0, y1⟩ := at_T81 (Kd.C_below HC3.out HSq.out.bel) (q : Int) (by omega) (by omega)
                subst eb
                rw [Int.toNat_natCast] at y0 y1
                rw [rd_R x.f3 q hqt] at y0 y1
                obtain ⟨y, hy⟩ : ∃ y, y = x.f3[q] := ⟨_, rfl⟩
                rw [← hy] at y0 y1
                have HY := Aside0.mk hy
                clear hy
                obtain ⟨Wd, hWd⟩ : ∃ W, wr.alloc (.cells #[.string y.f0, .int .i64 y.f1] 81) = W := ⟨_, rfl⟩
                obtain ⟨g9, hg9⟩ : ∃ g, wr.heap.size = g := ⟨_, rfl⟩
                have hyd : Wd.heap[g9]? = some (.cells #[.string y.f0, .int .i64 y.f1] 81 (0, 0)) := by rw [← hWd, ← hg9]; exact blk_new wr _
                have HSd : Aside0 (Sb w b (L2 ++ sersL (x.f3.take q)) #[.int .i64 now, .slice (some ad) l.length c] Wd) := ⟨by rw [← hWd]; exact HSq.out.alloc _⟩
                have HXd : Aside0 (Wd.heap[g7]? = some (.cells #[.string x.f0, .int .i64 x.f1, .slice A2 x.f2.length c2, .slice (some ad2) x.f3.length c3] 77 (0, 0))) := ⟨by rw [← hWd]; exact blk_alloc HXq.out _⟩
                have HNByb : Aside0 (g9 ≠ b) := ⟨by have := HSq.out.is.lt; omega⟩
                have v0 : Wd.cell? ⟨g9, 0, none⟩ = some (.string y.f0) := (blk_cell hyd 0).trans rfl
                have v1 : Wd.cell? ⟨g9, 1, none⟩ = some (.int .i64 y.f1) := (blk_cell hyd 1).trans rfl
                have HYd := Aside0.mk hyd
                clear hyd
                by_cases hn1 : 65535 < y.f0.size
                · have hq := Aside0.mk (HRq.out.trans (sta_no (fun h => by have h3 : y.f0.size ≤ 65535 := (h.2 x (by rw [HX.out]; exact List.getElem_mem _)).2.2 y (by rw [HY.out]; exact List.getElem_mem _); omega)))
                  go_wp2_with fail
                  go_ret
                  exact ⟨by rw [hq.out]; rfl, HSd.out.bel⟩
                · go_wp2_with fail
                  clear hWd hg9 y0 y1
                  go_region_held3 (fun W' => W'.cell? ⟨g9, 0, none⟩ = some (.string y.f0) ∧ W'.cell? ⟨g9, 1, none⟩ = some (.int .i64 y.f1))
                    (first | exact ⟨v0, v1⟩ | exact ⟨cs10, cs11⟩ | exact ⟨cs20, cs21⟩ | exact ⟨Lib.cell?_alloc_some _ cs20, Lib.cell?_alloc_some _ cs21⟩ | exact ⟨cs30, cs31⟩ | exact ⟨cs40, cs41⟩)
                    (first | (go_at_call 27; have _t := HSd; clear _t; refine (impl_s16.calls y.f0 (s16B y.f0) _ (s16f y.f0 (by omega))).mono ?_; rintro e Ws1 ⟨rfl, hbs1⟩; have HSs1 := Aside0.mk (HSd.out.drew.below hbs1); have Hxbs1 := Aside0.mk ((hbs1.block _ (blk_lt HXd.out)).trans HXd.out); have Hybs1 := Aside0.mk ((hbs1.block _ (blk_lt HYd.out)).trans HYd.out); have cs10 : Ws1.cell? ⟨g9, 0, none⟩ = some (.string y.f0) := (blk_cell Hybs1.out 0).trans rfl; have cs11 : Ws1.cell? ⟨g9, 1, none⟩ = some (.int .i64 y.f1) := (blk_cell Hybs1.out 1).trans rfl; clear hbs1 HSd)
                           | (go_at_call 25; have _t := HSs1; clear _t; refine (impl_num.calls 8 y.f1 (Num.bytes 8 y.f1) _ (num8 y.f1)).mono ?_; rintro e Ws2 ⟨rfl, hbs2⟩; have HSs2 := Aside0.mk (HSs1.out.below hbs2); have Hxbs2 := Aside0.mk ((hbs2.block _ (blk_lt Hxbs1.out)).trans Hxbs1.out); have Hybs2 := Aside0.mk ((hbs2.block _ (blk_lt Hybs1.out)).trans Hybs1.out); have cs20 : Ws2.cell? ⟨g9, 0, none⟩ = some (.string y.f0) := (blk_cell Hybs2.out 0).trans rfl; have cs21 : Ws2.cell? ⟨g9, 1, none⟩ = some (.int .i64 y.f1) := (blk_cell Hybs2.out 1).trans rfl; clear hbs2 HSs1)
                           | (go_at_call 28; have _t := HSs2; clear _t; refine (Bld.join2 Ws2.heap.size (s16B y.f0) (Num.bytes 8 y.f1) _ ((blk_cell (blk_new Ws2 _) 0).trans rfl) ((blk_cell (blk_new Ws2 _) 1).trans rfl) ?_).mono ?_; (· simp only [List.length_append, s8L_length, s16L_length, nL_length, num_size, s8B_size, s16B_size, ByteArray.size_append]; omega); rintro e Ws3 ⟨rfl, hbs3⟩; have HSs3 := Aside0.mk ((HSs2.out.alloc _).below hbs3); have Hxbs3 := Aside0.mk ((hbs3.block _ (blk_lt (blk_alloc Hxbs2.out _))).trans (blk_alloc Hxbs2.out _)); have Hybs3 := Aside0.mk ((hbs3.block _ (blk_lt (blk_alloc Hybs2.out _))).trans (blk_alloc Hybs2.out _)); have cs30 : Ws3.cell? ⟨g9, 0, none⟩ = some (.string y.f0) := (blk_cell Hybs3.out 0).trans rfl; have cs31 : Ws3.cell? ⟨g9, 1, none⟩ = some (.int .i64 y.f1) := (blk_cell Hybs3.out 1).trans rfl; clear hbs3 HSs2)
                           | (go_at_call 24; have _t := HSs3; clear _t; refine (Bld.write b b (L2 ++ sersL (x.f3.take q)) (⟨((s16B y.f0).data.toList ++ (Num.bytes 8 y.f1).data.toList).toArray⟩) Ws3 HSs3.out.is ?_).mono ?_; (· have h1 := HLq.out; have h2 := HL2n.out; show _ + List.length (_ ++ _) ≤ _; rw [s16B_list]; simp only [List.length_append, nb_length, s16L_length]; omega); rintro e Ws4 ⟨rfl, hi, hbs4, hks4⟩; have HSs4 := Aside0.mk (HSs3.out.write hi hbs4); have Hxbs4 := Aside0.mk (hks4.block Hxbs3.out HNBxb.out (by decide)); have Hybs4 := Aside0.mk (hks4.block Hybs3.out HNByb.out (by decide)); have cs40 : Ws4.cell? ⟨g9, 0, none⟩ = some (.string y.f0) := (blk_cell Hybs4.out 0).trans rfl; have cs41 : Ws4.cell? ⟨g9, 1, none⟩ = some (.int .i64 y.f1) := (blk_cell Hybs4.out 1).trans rfl; clear hi hbs4 hks4 HSs3))
                  go_wp2_with fail
                  go_roundw
                  case rel =>
                    refine ⟨q + 1, by go_num, by omega, ⟨?_⟩, ⟨take_all SerOK x.f3 q hqt HOq.out (by rw [← HY.out]; exact Nat.not_lt.1 hn1)⟩, Hxbs4⟩
                    have e1 : sersL (x.f3.take (q + 1)) = sersL (x.f3.take q) ++ serL y := by unfold sersL; rw [take_flat serL x.f3 q hqt, HY.out]
                    have e2 : L2 ++ sersL (x.f3.take q) ++ ((s16B y.f0).data.toList ++ (Num.bytes 8 y.f1).data.toList) = L2 ++ sersL (x.f3.take (q + 1)) := by rw [e1, s16B_list, List.append_assoc]; rfl
                    have := HSs4.out
                    rw [← e2]
                    exact this
                  case measure => simp [intOf]; omega
              · obtain rfl : q = x.f3.length := by omega
                have HSO : Aside0 (∀ y ∈ x.f3, SerOK y) := ⟨by have := HOq.out; rwa [List.take_of_length_le (Nat.le_refl _)] at this⟩
                have HSz : Aside0 (Sb w b (L2 ++ sersL x.f3) #[.int .i64 now, .slice (some ad) l.length c] wr) := ⟨by have := HSq.out; rwa [List.take_of_length_le (Nat.le_refl _)] at this⟩
                clear HSq HOq HLq
                go_wp2_with fail
                go_roundw
                case rel =>
                  refine ⟨j + 1, by go_num, by omega, ⟨?_⟩, ⟨take_all TenOK l j hlt HOr.out (by rw [← HX.out]; exact ⟨by omega, HMO.out, HSO.out⟩)⟩⟩
                  have e1 : tensL (l.take (j + 1)) = tensL (l.take j) ++ tenL x := by unfold tensL; rw [take_flat tenL l j hlt, HX.out]
                  have e2 : L2 ++ sersL x.f3 = hdL n now l ++ tensL (l.take (j + 1)) := by
                    rw [e1, HL2.out, HL1.out, s8B_list]
                    unfold tenL nL
                    simp only [List.append_assoc]
                  have := HSz.out
                  rw [← e2]
                  exact this
                case measure => simp [intOf]; omega
    · obtain rfl : j = l.length := by omega
      have hst := HSr.out
      have hall := HOr.out
      rw [List.take_of_length_le (Nat.le_refl _)] at hst hall
      have HSz := Aside0.mk (show Sb w b (stL n now l) #[.int .i64 now, .slice A l.length c] wr from hst)
      have hq := Aside0.mk (HRq.out.trans (sta_yes ⟨hn0, hn1⟩ hall))
      clear hst hall
      have hln : (stL n now l).length ≤ 40000000 := by unfold stL; rw [List.length_append, hdL_length]; have := HFit.out; omega
      have HLn := Aside0.mk hln
      clear hln
      go_wp2_with fail
      refine (Bld.string b b (stL n now l) wr HSz.out.is).mono ?_
      rintro e Wk ⟨rfl, hi, hbk, -⟩
      have HSk := Aside0.mk (HSz.out.write hi hbk)
      obtain ⟨sR, hsR⟩ : ∃ s : ByteArray, s = ⟨(stL n now l).toArray⟩ := ⟨_, rfl⟩
      rw [← hsR]
      have hsz : sR.size ≤ 40000000 := by rw [hsR]; exact HLn.out
      have HsR := Aside0.mk hsR
      clear hi hbk hsR
      go_wp2_with fail
      refine (Bld.string b b (stL n now l) Wk HSk.out.is).mono ?_
      rintro e Wl ⟨rfl, hi, hbl, -⟩
      have HSl := Aside0.mk (HSk.out.write hi hbl)
      rw [← HsR.out]
      clear hi hbl HSk
      go_wp2_with fail
      refine (impl_Crc32c.calls sR (crcOf (stL n now l)) Wl (by rw [HsR.out]; exact crc_impl _ (by have := HLn.out; omega))).mono ?_
      rintro e Wm ⟨rfl, hbm⟩
      have HSm := Aside0.mk (HSl.out.below hbm)
      clear hbm HSl
      obtain ⟨cc, hcc⟩ : ∃ cc, cc = crcOf (stL n now l) := ⟨_, rfl⟩
      rw [← hcc]
      have HCC := Aside0.mk hcc
      clear hcc
      go_wp2_with fail
      refine (impl_num.calls 4 cc (Num.bytes 4 cc) Wm (num4 cc)).mono ?_
      rintro e Wn ⟨rfl, hbn⟩
      have HSn := Aside0.mk (HSm.out.below hbn)
      clear hbn HSm
      have hcat : sR.size + (Num.bytes 4 cc).size ≤ 9223372036854775807 := by rw [num_size]; omega
      have hcat0 := eq_true hcat
      have hcat1 : decide (sR.size + (Num.bytes 4 cc).size ≤ 9223372036854775807) = true := decide_eq_true hcat
      have hcat2 : (9223372036854775807 < sR.size + (Num.bytes 4 cc).size) = False := eq_false (Nat.not_lt.2 hcat)
      clear hcat
      go_wp2_with fail
      go_ret
      refine ⟨?_, HSn.out.bel⟩
      have e1 : (sR ++ Num.bytes 4 cc) = ⟨(stL n now l ++ nL 4 (crcOf (stL n now l))).toArray⟩ := by
        rw [HsR.out, HCC.out]
        apply ByteArray.ext
        apply Array.ext'
        exact app_ _ _
      rw [hq.out, ← e1]; rfl

end Enc
/-- What impl.EncodeState answers (told where the statement's guard lets it be asked). -/
noncomputable def impl_EncodeState.f (n now : Int) (l : List S77) : Option ByteArray := @ite _ (Enc.Fits l) (Classical.propDecidable _) (some (Enc.sta n now l)) none
theorem Enc.fits_of {n now : Int} {l : List S77} {r : ByteArray} (h : @ite _ (Enc.Fits l) (Classical.propDecidable _) (some (Enc.sta n now l)) none = some r) : Enc.Fits l ∧ r = Enc.sta n now l := by
  by_cases hf : Enc.Fits l
  · rw [if_pos hf] at h; exact ⟨hf, (Option.some.inj h).symm⟩
  · rw [if_neg hf] at h; exact absurd h (by simp)
theorem impl_EncodeState.calls (n now : Int) (A : Option Addr) (c : Nat) (l : List S77) (r : ByteArray) (w : World) (hr : Kd.C k77 w A l.length l) (hc : l.length ≤ c) (h : impl_EncodeState.f n now l = some r) :
    Calls Try.prog 14 #[.int .i64 n, .agg #[.int .i64 now, .slice A l.length c]] w fun e w' => e = .returned (.string r) ∧ Below w.heap.size w w' := by
  obtain ⟨hf, rfl⟩ := Enc.fits_of h
  by_cases hn : 0 ≤ n ∧ n ≤ 1000000000000000
  · exact Enc.sta_good n now A c l w hr hc hf hn
  · exact Enc.sta_bad n now A c l w hr hc hn
end Go.Proofs.Ytbhjbbanhmjgnaa.M
