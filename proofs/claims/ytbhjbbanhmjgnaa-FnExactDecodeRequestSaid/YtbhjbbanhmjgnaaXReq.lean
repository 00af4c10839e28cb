/- impl.EncodeRequest: the request's bytes, by a builder. -/
import Derived.Deep.RegionHeld3
import Derived.Deep.DeepCutAuto
import Derived.BigQuiet
import Derived.Test.YtbhjbbanhmjgnaaEncReq
namespace Go.Proofs.Ytbhjbbanhmjgnaa.M
open Go.RowKit Go.Shelf Go.Proofs.YtbhjbbanhmjgnaaW.PrintWords Go.Proofs.YtbhjbbanhmjgnaaW.PrintLast Go.Proofs.YtbhjbbanhmjgnaaW.PrintMore
set_option linter.unusedVariables false
set_option linter.unusedSimpArgs false
noncomputable def impl_EncodeRequest.f (k : Int) (t m : ByteArray) (nm : Int) (l : List S65) : Option ByteArray := some (Enc.req k t m nm l)
namespace Enc
/-- What stands at the head of a call: the request is boxed. -/
def BX (k : Int) (t m : ByteArray) (nm : Int) (A : Option Addr) (n c : Nat) : Array Value := #[.int .i64 k, .string t, .string m, .int .i64 nm, .slice A n c]

set_option maxHeartbeats 2000000 in
set_option maxRecDepth 100000 in
theorem enc_bad (k : Int) (t m : ByteArray) (nm : Int) (A : Option Addr) (c : Nat) (l : List S65) (w : World) (hr : Kd.C k65 w A l.length l) (hc : l.length ≤ c) (hg : ¬ Good k t m nm l) :
    Calls Try.prog 9 #[.agg #[.int .i64 k, .string t, .string m, .int .i64 nm, .slice A l.length c]] w fun e w' => e = .returned (.string (req k t m nm l)) ∧ Below w.heap.size w w' := by
  rw [req_no (fun h => hg h.1)]
  have HR := Aside0.mk hr
  clear hr
  obtain ⟨n, hn⟩ : ∃ n, n = l.length := ⟨_, rfl⟩
  have HP : ∀ W : World, Below w.heap.size w W → Calls Try.prog 23 #[.agg #[.int .i64 k, .string t, .string m, .int .i64 nm, .slice A n c]] W fun e w' => e = .returned (.bool (decide (Plain.Ok k t m nm n))) ∧ Below W.heap.size W w' := by
    intro W hb
    rw [hn]
    exact impl_plain.calls k t m nm A c l _ W (Kd.C_below HR.out hb) hc rfl
  have HP' := Aside0.mk HP
  unfold Good at hg
  rw [← hn] at hg hc ⊢
  clear HP hn HR
  obtain ⟨W1, hW1⟩ : ∃ W, w.alloc (.cells #[.int .i64 k, .string t, .string m, .int .i64 nm, .slice A n c] 29) = W := ⟨_, rfl⟩
  have hb1 : Below w.heap.size w W1 := by rw [← hW1]; exact (Below.refl _ w).alloc (Nat.le_refl _) _
  have hx1 : W1.heap[w.heap.size]? = some (.cells #[.int .i64 k, .string t, .string m, .int .i64 nm, .slice A n c] 29 (0, 0)) := by rw [← hW1]; exact blk_new w _
  have c0 : W1.cell? ⟨w.heap.size, 0, none⟩ = some (.int .i64 k) := (blk_cell hx1 0).trans rfl
  have c1 : W1.cell? ⟨w.heap.size, 1, none⟩ = some (.string t) := (blk_cell hx1 1).trans rfl
  have c2 : W1.cell? ⟨w.heap.size, 2, none⟩ = some (.string m) := (blk_cell hx1 2).trans rfl
  have c3 : W1.cell? ⟨w.heap.size, 3, none⟩ = some (.int .i64 nm) := (blk_cell hx1 3).trans rfl
  have c4 : W1.cell? ⟨w.heap.size, 4, none⟩ = some (.slice A n c) := (blk_cell hx1 4).trans rfl
  obtain ⟨ok, hok⟩ : ∃ ok, ok = decide (Plain.Ok k t m nm n) := ⟨_, rfl⟩
  have HB1 := Aside0.mk hb1
  have HX1 := Aside0.mk hx1
  clear hb1 hx1
  go_enter Try.func9, Try.ntmps9
  go_wp2_with fail

  clear hW1
  refine (HP'.out W1 HB1.out).mono ?_
  rintro e W2 ⟨rfl, hb2⟩
  rw [← hok]
  have hx2 := (hb2.block _ (blk_lt HX1.out)).trans HX1.out
  have HB2 := Aside0.mk (below_then HB1.out HB1.out.size hb2)
  have d0 : W2.cell? ⟨w.heap.size, 0, none⟩ = some (.int .i64 k) := (blk_cell hx2 0).trans rfl
  have d1 : W2.cell? ⟨w.heap.size, 1, none⟩ = some (.string t) := (blk_cell hx2 1).trans rfl
  have d2 : W2.cell? ⟨w.heap.size, 2, none⟩ = some (.string m) := (blk_cell hx2 2).trans rfl
  have d3 : W2.cell? ⟨w.heap.size, 3, none⟩ = some (.int .i64 nm) := (blk_cell hx2 3).trans rfl
  have d4 : W2.cell? ⟨w.heap.size, 4, none⟩ = some (.slice A n c) := (blk_cell hx2 4).trans rfl
  clear c0 c1 c2 c3 c4 hx2 hb2
  cases ok with
  | false =>
    clear hok hg
    go_wp2_with fail
    go_ret
    exact ⟨rfl, HB2.out⟩
  | true =>
    have hp : Plain.Ok k t m nm n := of_decide_eq_true hok.symm
    have hg' : 255 < t.size ∨ 65535 < m.size ∨ 500 < n := by
      by_cases h1 : 255 < t.size
      · exact .inl h1
      · by_cases h2 : 65535 < m.size
        · exact .inr (.inl h2)
        · refine .inr (.inr ?_)
          by_cases h3 : 500 < n
          · exact h3
          · exact absurd ⟨hp, by omega, by omega, by omega⟩ hg
    clear hok hg hp
    by_cases h1 : 255 < t.size
    · go_wp2_with fail
      go_ret
      exact ⟨rfl, HB2.out⟩
    · by_cases h2 : 65535 < m.size
      · go_wp2_with fail
        go_ret
        exact ⟨rfl, HB2.out⟩
      · have h3 : 500 < n := by omega
        clear hg'
        go_wp2_with fail
        go_ret
        exact ⟨rfl, HB2.out⟩

set_option maxHeartbeats 2000000 in
set_option maxRecDepth 100000 in
theorem enc_4 (t m : ByteArray) (nm : Int) (A : Option Addr) (c : Nat) (l : List S65) (w : World) (hr : Kd.C k65 w A l.length l) (hc : l.length ≤ c) (hg : Good 4 t m nm l) :
    Calls Try.prog 9 #[.agg #[.int .i64 4, .string t, .string m, .int .i64 nm, .slice A l.length c]] w fun e w' => e = .returned (.string (req 4 t m nm l)) ∧ Below w.heap.size w w' := by
  obtain ⟨R, hR⟩ : ∃ R, R = req 4 t m nm l := ⟨_, rfl⟩
  rw [← hR]
  have HRq := Aside0.mk hR
  clear hR
  obtain ⟨hp, ht, hm, hn5⟩ := hg
  have HR := Aside0.mk hr
  clear hr
  have HP : ∀ W : World, Below w.heap.size w W → Calls Try.prog 23 #[.agg #[.int .i64 4, .string t, .string m, .int .i64 nm, .slice A l.length c]] W fun e w' => e = .returned (.bool true) ∧ Below W.heap.size W w' := by
    intro W hb
    exact impl_plain.calls 4 t m nm A c l true W (Kd.C_below HR.out hb) hc (by unfold impl_plain.f; rw [decide_eq_true hp])
  have HP' := Aside0.mk HP
  have HPP := Aside0.mk hp
  clear HP hp
  obtain ⟨W1, hW1⟩ : ∃ W, w.alloc (.cells #[.int .i64 4, .string t, .string m, .int .i64 nm, .slice A l.length c] 29) = W := ⟨_, rfl⟩
  have hb1 : Below w.heap.size w W1 := by rw [← hW1]; exact (Below.refl _ w).alloc (Nat.le_refl _) _
  have hx1 : W1.heap[w.heap.size]? = some (.cells #[.int .i64 4, .string t, .string m, .int .i64 nm, .slice A l.length c] 29 (0, 0)) := by rw [← hW1]; exact blk_new w _
  have c0 : W1.cell? ⟨w.heap.size, 0, none⟩ = some (.int .i64 4) := (blk_cell hx1 0).trans rfl
  have c1 : W1.cell? ⟨w.heap.size, 1, none⟩ = some (.string t) := (blk_cell hx1 1).trans rfl
  have c2 : W1.cell? ⟨w.heap.size, 2, none⟩ = some (.string m) := (blk_cell hx1 2).trans rfl
  have c3 : W1.cell? ⟨w.heap.size, 3, none⟩ = some (.int .i64 nm) := (blk_cell hx1 3).trans rfl
  have c4 : W1.cell? ⟨w.heap.size, 4, none⟩ = some (.slice A l.length c) := (blk_cell hx1 4).trans rfl
  have HB1 := Aside0.mk hb1
  have HX1 := Aside0.mk hx1
  clear hb1 hx1
  go_enter Try.func9, Try.ntmps9
  go_wp2_with fail
  clear hW1
  refine (HP'.out W1 HB1.out).mono ?_
  rintro e W2 ⟨rfl, hb2⟩
  have hx2 := (hb2.block _ (blk_lt HX1.out)).trans HX1.out
  have HB2 := Aside0.mk (below_then HB1.out HB1.out.size hb2)
  have d0 : W2.cell? ⟨w.heap.size, 0, none⟩ = some (.int .i64 4) := (blk_cell hx2 0).trans rfl
  have d1 : W2.cell? ⟨w.heap.size, 1, none⟩ = some (.string t) := (blk_cell hx2 1).trans rfl
  have d2 : W2.cell? ⟨w.heap.size, 2, none⟩ = some (.string m) := (blk_cell hx2 2).trans rfl
  have d3 : W2.cell? ⟨w.heap.size, 3, none⟩ = some (.int .i64 nm) := (blk_cell hx2 3).trans rfl
  have d4 : W2.cell? ⟨w.heap.size, 4, none⟩ = some (.slice A l.length c) := (blk_cell hx2 4).trans rfl
  obtain ⟨W3, hW3⟩ : ∃ W, W2.alloc (.cells #[.pointer none, .slice none 0 0] 56) = W := ⟨_, rfl⟩
  have hs : St w W2.heap.size [] #[.int .i64 4, .string t, .string m, .int .i64 nm, .slice A l.length c] W3 := by
    rw [← hW3]
    exact ⟨Bld.fresh W2, blk_alloc hx2 _, HB2.out.alloc HB2.out.size _, Nat.lt_of_lt_of_le (blk_lt hx2) (Nat.le_refl _)⟩
  obtain ⟨f0, f1, f2, f3, f4⟩ := hs.cells
  have HS0 := Aside0.mk hs
  obtain ⟨b, hb⟩ : ∃ b, W2.heap.size = b := ⟨_, rfl⟩
  rw [hb] at HS0
  clear c0 c1 c2 c3 c4 hx2 hb2 hs HX1 HB1
  go_wp2_with fail
  clear hW3 d0 d1 d2 d3 d4 HB2
  refine (impl_num.calls 1 4 (Num.bytes 1 4) W3 (num1 4)).mono ?_
  rintro e W4 ⟨rfl, hb4⟩
  have HS1 := Aside0.mk (HS0.out.below hb4)
  obtain ⟨f0, f1, f2, f3, f4⟩ := HS1.out.cells
  clear hb4 HS0
  go_wp2_with fail
  refine (Bld.write b b ([]) (Num.bytes 1 4) W4 HS1.out.is (by simp only [List.length_append, List.length_nil, nL_length, s8L_length, s16L_length, s8B_size, s16B_size, num_size]; omega)).mono ?_
  rintro e W5 ⟨rfl, hi, hb5, -⟩
  have HS2 := Aside0.mk (HS1.out.write (L' := nL 1 4) hi hb5)
  obtain ⟨f0, f1, f2, f3, f4⟩ := HS2.out.cells
  clear hi hb5 HS1
  go_wp2_with fail
  refine (Try.Builder_Len_f b b (Lib.byteCells (nL 1 4)) W5 HS2.out.is).mono ?_
  rintro e W6 ⟨rfl, he⟩
  obtain rfl : W5 = W6 := he.symm
  rw [Lib.byteCells_length]
  obtain ⟨N, hN⟩ : ∃ N : Nat, (nL 1 4).length = N := ⟨_, rfl⟩
  rw [hN]
  have HN := Aside0.mk hN
  clear hN
  have hbody : bodyL 4 t m nm l = nL 1 4 := by unfold bodyL headL; simp
  have hgood : Good 4 t m nm l := ⟨HPP.out, ht, hm, hn5⟩
  have hall : ∀ y ∈ l, SampOK y := by
    have h0 : l.length = 0 := by have := HPP.out; unfold Plain.Ok at this; omega
    have : l = [] := List.length_eq_zero_iff.1 h0
    subst this
    simp
  by_cases hbig : 60000 < N
  · have hq := Aside0.mk (HRq.out.trans (req_no (fun h => by have := h.2.2; rw [hbody, HN.out] at this; omega)))
    clear hbody hall hgood
    go_wp2_with fail
    go_ret
    exact ⟨by rw [hq.out]; rfl, HS2.out.bel⟩
  · have hq := Aside0.mk (HRq.out.trans ((req_yes hgood hall (by rw [hbody, HN.out]; omega)).trans (by rw [hbody])))
    clear hbody hall hgood
    go_wp2_with fail
    refine (Bld.string b b (nL 1 4) W5 HS2.out.is).mono ?_
    rintro e W7 ⟨rfl, hi, hb7, -⟩
    have HSe := Aside0.mk (HS2.out.write hi hb7)
    obtain ⟨sR, hsR⟩ : ∃ s : ByteArray, s = ⟨(nL 1 4).toArray⟩ := ⟨_, rfl⟩
    rw [← hsR]
    have HsR := Aside0.mk hsR
    clear hi hb7 hsR
    go_wp2_with fail
    go_ret
    exact ⟨by rw [hq.out, ← HsR.out]; rfl, HSe.out.bel⟩

set_option maxHeartbeats 2000000 in
set_option maxRecDepth 100000 in
theorem enc_2 (t m : ByteArray) (nm : Int) (A : Option Addr) (c : Nat) (l : List S65) (w : World) (hr : Kd.C k65 w A l.length l) (hc : l.length ≤ c) (hg : Good 2 t m nm l) :
    Calls Try.prog 9 #[.agg #[.int .i64 2, .string t, .string m, .int .i64 nm, .slice A l.length c]] w fun e w' => e = .returned (.string (req 2 t m nm l)) ∧ Below w.heap.size w w' := by
  obtain ⟨R, hR⟩ : ∃ R, R = req 2 t m nm l := ⟨_, rfl⟩
  rw [← hR]
  have HRq := Aside0.mk hR
  clear hR
  obtain ⟨hp, ht, hm, hn5⟩ := hg
  have HR := Aside0.mk hr
  clear hr
  have HP : ∀ W : World, Below w.heap.size w W → Calls Try.prog 23 #[.agg #[.int .i64 2, .string t, .string m, .int .i64 nm, .slice A l.length c]] W fun e w' => e = .returned (.bool true) ∧ Below W.heap.size W w' := by
    intro W hb
    exact impl_plain.calls 2 t m nm A c l true W (Kd.C_below HR.out hb) hc (by unfold impl_plain.f; rw [decide_eq_true hp])
  have HP' := Aside0.mk HP
  have HPP := Aside0.mk hp
  clear HP hp
  obtain ⟨W1, hW1⟩ : ∃ W, w.alloc (.cells #[.int .i64 2, .string t, .string m, .int .i64 nm, .slice A l.length c] 29) = W := ⟨_, rfl⟩
  have hb1 : Below w.heap.size w W1 := by rw [← hW1]; exact (Below.refl _ w).alloc (Nat.le_refl _) _
  have hx1 : W1.heap[w.heap.size]? = some (.cells #[.int .i64 2, .string t, .string m, .int .i64 nm, .slice A l.length c] 29 (0, 0)) := by rw [← hW1]; exact blk_new w _
  have c0 : W1.cell? ⟨w.heap.size, 0, none⟩ = some (.int .i64 2) := (blk_cell hx1 0).trans rfl
  have c1 : W1.cell? ⟨w.heap.size, 1, none⟩ = some (.string t) := (blk_cell hx1 1).trans rfl
  have c2 : W1.cell? ⟨w.heap.size, 2, none⟩ = some (.string m) := (blk_cell hx1 2).trans rfl
  have c3 : W1.cell? ⟨w.heap.size, 3, none⟩ = some (.int .i64 nm) := (blk_cell hx1 3).trans rfl
  have c4 : W1.cell? ⟨w.heap.size, 4, none⟩ = some (.slice A l.length c) := (blk_cell hx1 4).trans rfl
  have HB1 := Aside0.mk hb1
  have HX1 := Aside0.mk hx1
  clear hb1 hx1
  go_enter Try.func9, Try.ntmps9
  go_wp2_with fail
  clear hW1
  refine (HP'.out W1 HB1.out).mono ?_
  rintro e W2 ⟨rfl, hb2⟩
  have hx2 := (hb2.block _ (blk_lt HX1.out)).trans HX1.out
  have HB2 := Aside0.mk (below_then HB1.out HB1.out.size hb2)
  have d0 : W2.cell? ⟨w.heap.size, 0, none⟩ = some (.int .i64 2) := (blk_cell hx2 0).trans rfl
  have d1 : W2.cell? ⟨w.heap.size, 1, none⟩ = some (.string t) := (blk_cell hx2 1).trans rfl
  have d2 : W2.cell? ⟨w.heap.size, 2, none⟩ = some (.string m) := (blk_cell hx2 2).trans rfl
  have d3 : W2.cell? ⟨w.heap.size, 3, none⟩ = some (.int .i64 nm) := (blk_cell hx2 3).trans rfl
  have d4 : W2.cell? ⟨w.heap.size, 4, none⟩ = some (.slice A l.length c) := (blk_cell hx2 4).trans rfl
  obtain ⟨W3, hW3⟩ : ∃ W, W2.alloc (.cells #[.pointer none, .slice none 0 0] 56) = W := ⟨_, rfl⟩
  have hs : St w W2.heap.size [] #[.int .i64 2, .string t, .string m, .int .i64 nm, .slice A l.length c] W3 := by
    rw [← hW3]
    exact ⟨Bld.fresh W2, blk_alloc hx2 _, HB2.out.alloc HB2.out.size _, Nat.lt_of_lt_of_le (blk_lt hx2) (Nat.le_refl _)⟩
  obtain ⟨f0, f1, f2, f3, f4⟩ := hs.cells
  have HS0 := Aside0.mk hs
  obtain ⟨b, hb⟩ : ∃ b, W2.heap.size = b := ⟨_, rfl⟩
  rw [hb] at HS0
  clear c0 c1 c2 c3 c4 hx2 hb2 hs HX1 HB1
  go_wp2_with fail
  clear hW3 d0 d1 d2 d3 d4 HB2
  refine (impl_num.calls 1 2 (Num.bytes 1 2) W3 (num1 2)).mono ?_
  rintro e W4 ⟨rfl, hb4⟩
  have HS1 := Aside0.mk (HS0.out.below hb4)
  obtain ⟨f0, f1, f2, f3, f4⟩ := HS1.out.cells
  clear hb4 HS0
  go_wp2_with fail
  refine (Bld.write b b ([]) (Num.bytes 1 2) W4 HS1.out.is (by simp only [List.length_append, List.length_nil, nL_length, s8L_length, s16L_length, s8B_size, s16B_size, num_size]; omega)).mono ?_
  rintro e W5 ⟨rfl, hi, hb5, -⟩
  have HS2 := Aside0.mk (HS1.out.write (L' := nL 1 2) hi hb5)
  obtain ⟨f0, f1, f2, f3, f4⟩ := HS2.out.cells
  clear hi hb5 HS1
  go_wp2_with fail
  refine (impl_num.calls 8 nm (Num.bytes 8 nm) W5 (num8 nm)).mono ?_
  rintro e W6 ⟨rfl, hb6⟩
  have HS3 := Aside0.mk (HS2.out.below hb6)
  obtain ⟨f0, f1, f2, f3, f4⟩ := HS3.out.cells
  clear hb6 HS2
  go_wp2_with fail
  refine (Bld.write b b (nL 1 2) (Num.bytes 8 nm) W6 HS3.out.is (by simp only [List.length_append, List.length_nil, nL_length, s8L_length, s16L_length, s8B_size, s16B_size, num_size]; omega)).mono ?_
  rintro e W7 ⟨rfl, hi, hb7, -⟩
  have HS4 := Aside0.mk (HS3.out.write (L' := nL 1 2 ++ nL 8 nm) hi hb7)
  obtain ⟨f0, f1, f2, f3, f4⟩ := HS4.out.cells
  clear hi hb7 HS3
  go_wp2_with fail
  refine (Try.Builder_Len_f b b (Lib.byteCells (nL 1 2 ++ nL 8 nm)) W7 HS4.out.is).mono ?_
  rintro e W8 ⟨rfl, he⟩
  obtain rfl : W7 = W8 := he.symm
  rw [Lib.byteCells_length]
  obtain ⟨N, hN⟩ : ∃ N : Nat, (nL 1 2 ++ nL 8 nm).length = N := ⟨_, rfl⟩
  rw [hN]
  have HN := Aside0.mk hN
  clear hN
  have hbody : bodyL 2 t m nm l = nL 1 2 ++ nL 8 nm := by unfold bodyL headL; simp
  have hgood : Good 2 t m nm l := ⟨HPP.out, ht, hm, hn5⟩
  have hall : ∀ y ∈ l, SampOK y := by
    have h0 : l.length = 0 := by have := HPP.out; unfold Plain.Ok at this; omega
    have : l = [] := List.length_eq_zero_iff.1 h0
    subst this
    simp
  by_cases hbig : 60000 < N
  · have hq := Aside0.mk (HRq.out.trans (req_no (fun h => by have := h.2.2; rw [hbody, HN.out] at this; omega)))
    clear hbody hall hgood
    go_wp2_with fail
    go_ret
    exact ⟨by rw [hq.out]; rfl, HS4.out.bel⟩
  · have hq := Aside0.mk (HRq.out.trans ((req_yes hgood hall (by rw [hbody, HN.out]; omega)).trans (by rw [hbody])))
    clear hbody hall hgood
    go_wp2_with fail
    refine (Bld.string b b (nL 1 2 ++ nL 8 nm) W7 HS4.out.is).mono ?_
    rintro e W9 ⟨rfl, hi, hb9, -⟩
    have HSe := Aside0.mk (HS4.out.write hi hb9)
    obtain ⟨sR, hsR⟩ : ∃ s : ByteArray, s = ⟨(nL 1 2 ++ nL 8 nm).toArray⟩ := ⟨_, rfl⟩
    rw [← hsR]
    have HsR := Aside0.mk hsR
    clear hi hb9 hsR
    go_wp2_with fail
    go_ret
    exact ⟨by rw [hq.out, ← HsR.out]; rfl, HSe.out.bel⟩

set_option maxHeartbeats 2000000 in
set_option maxRecDepth 100000 in
theorem enc_6 (t m : ByteArray) (nm : Int) (A : Option Addr) (c : Nat) (l : List S65) (w : World) (hr : Kd.C k65 w A l.length l) (hc : l.length ≤ c) (hg : Good 6 t m nm l) :
    Calls Try.prog 9 #[.agg #[.int .i64 6, .string t, .string m, .int .i64 nm, .slice A l.length c]] w fun e w' => e = .returned (.string (req 6 t m nm l)) ∧ Below w.heap.size w w' := by
  obtain ⟨R, hR⟩ : ∃ R, R = req 6 t m nm l := ⟨_, rfl⟩
  rw [← hR]
  have HRq := Aside0.mk hR
  clear hR
  obtain ⟨hp, ht, hm, hn5⟩ := hg
  have HR := Aside0.mk hr
  clear hr
  have HP : ∀ W : World, Below w.heap.size w W → Calls Try.prog 23 #[.agg #[.int .i64 6, .string t, .string m, .int .i64 nm, .slice A l.length c]] W fun e w' => e = .returned (.bool true) ∧ Below W.heap.size W w' := by
    intro W hb
    exact impl_plain.calls 6 t m nm A c l true W (Kd.C_below HR.out hb) hc (by unfold impl_plain.f; rw [decide_eq_true hp])
  have HP' := Aside0.mk HP
  have HPP := Aside0.mk hp
  clear HP hp
  obtain ⟨W1, hW1⟩ : ∃ W, w.alloc (.cells #[.int .i64 6, .string t, .string m, .int .i64 nm, .slice A l.length c] 29) = W := ⟨_, rfl⟩
  have hb1 : Below w.heap.size w W1 := by rw [← hW1]; exact (Below.refl _ w).alloc (Nat.le_refl _) _
  have hx1 : W1.heap[w.heap.size]? = some (.cells #[.int .i64 6, .string t, .string m, .int .i64 nm, .slice A l.length c] 29 (0, 0)) := by rw [← hW1]; exact blk_new w _
  have c0 : W1.cell? ⟨w.heap.size, 0, none⟩ = some (.int .i64 6) := (blk_cell hx1 0).trans rfl
  have c1 : W1.cell? ⟨w.heap.size, 1, none⟩ = some (.string t) := (blk_cell hx1 1).trans rfl
  have c2 : W1.cell? ⟨w.heap.size, 2, none⟩ = some (.string m) := (blk_cell hx1 2).trans rfl
  have c3 : W1.cell? ⟨w.heap.size, 3, none⟩ = some (.int .i64 nm) := (blk_cell hx1 3).trans rfl
  have c4 : W1.cell? ⟨w.heap.size, 4, none⟩ = some (.slice A l.length c) := (blk_cell hx1 4).trans rfl
  have HB1 := Aside0.mk hb1
  have HX1 := Aside0.mk hx1
  clear hb1 hx1
  go_enter Try.func9, Try.ntmps9
  go_wp2_with fail
  clear hW1
  refine (HP'.out W1 HB1.out).mono ?_
  rintro e W2 ⟨rfl, hb2⟩
  have hx2 := (hb2.block _ (blk_lt HX1.out)).trans HX1.out
  have HB2 := Aside0.mk (below_then HB1.out HB1.out.size hb2)
  have d0 : W2.cell? ⟨w.heap.size, 0, none⟩ = some (.int .i64 6) := (blk_cell hx2 0).trans rfl
  have d1 : W2.cell? ⟨w.heap.size, 1, none⟩ = some (.string t) := (blk_cell hx2 1).trans rfl
  have d2 : W2.cell? ⟨w.heap.size, 2, none⟩ = some (.string m) := (blk_cell hx2 2).trans rfl
  have d3 : W2.cell? ⟨w.heap.size, 3, none⟩ = some (.int .i64 nm) := (blk_cell hx2 3).trans rfl
  have d4 : W2.cell? ⟨w.heap.size, 4, none⟩ = some (.slice A l.length c) := (blk_cell hx2 4).trans rfl
  obtain ⟨W3, hW3⟩ : ∃ W, W2.alloc (.cells #[.pointer none, .slice none 0 0] 56) = W := ⟨_, rfl⟩
  have hs : St w W2.heap.size [] #[.int .i64 6, .string t, .string m, .int .i64 nm, .slice A l.length c] W3 := by
    rw [← hW3]
    exact ⟨Bld.fresh W2, blk_alloc hx2 _, HB2.out.alloc HB2.out.size _, Nat.lt_of_lt_of_le (blk_lt hx2) (Nat.le_refl _)⟩
  obtain ⟨f0, f1, f2, f3, f4⟩ := hs.cells
  have HS0 := Aside0.mk hs
  obtain ⟨b, hb⟩ : ∃ b, W2.heap.size = b := ⟨_, rfl⟩
  rw [hb] at HS0
  clear c0 c1 c2 c3 c4 hx2 hb2 hs HX1 HB1
  go_wp2_with fail
  clear hW3 d0 d1 d2 d3 d4 HB2
  refine (impl_num.calls 1 6 (Num.bytes 1 6) W3 (num1 6)).mono ?_
  rintro e W4 ⟨rfl, hb4⟩
  have HS1 := Aside0.mk (HS0.out.below hb4)
  obtain ⟨f0, f1, f2, f3, f4⟩ := HS1.out.cells
  clear hb4 HS0
  go_wp2_with fail
  refine (Bld.write b b ([]) (Num.bytes 1 6) W4 HS1.out.is (by simp only [List.length_append, List.length_nil, nL_length, s8L_length, s16L_length, s8B_size, s16B_size, num_size]; omega)).mono ?_
  rintro e W5 ⟨rfl, hi, hb5, -⟩
  have HS2 := Aside0.mk (HS1.out.write (L' := nL 1 6) hi hb5)
  obtain ⟨f0, f1, f2, f3, f4⟩ := HS2.out.cells
  clear hi hb5 HS1
  go_wp2_with fail
  refine (impl_s8.calls t (s8B t) W5 (s8f t (by omega))).mono ?_
  rintro e W6 ⟨rfl, hb6⟩
  have HS3 := Aside0.mk (HS2.out.below hb6)
  obtain ⟨f0, f1, f2, f3, f4⟩ := HS3.out.cells
  clear hb6 HS2
  go_wp2_with fail
  refine (Bld.write b b (nL 1 6) (s8B t) W6 HS3.out.is (by simp only [List.length_append, List.length_nil, nL_length, s8L_length, s16L_length, s8B_size, s16B_size, num_size]; omega)).mono ?_
  rintro e W7 ⟨rfl, hi, hb7, -⟩
  rw [s8B_list] at hi
  have HS4 := Aside0.mk (HS3.out.write (L' := nL 1 6 ++ s8L t) hi hb7)
  obtain ⟨f0, f1, f2, f3, f4⟩ := HS4.out.cells
  clear hi hb7 HS3
  go_wp2_with fail
  refine (Try.Builder_Len_f b b (Lib.byteCells (nL 1 6 ++ s8L t)) W7 HS4.out.is).mono ?_
  rintro e W8 ⟨rfl, he⟩
  obtain rfl : W7 = W8 := he.symm
  rw [Lib.byteCells_length]
  obtain ⟨N, hN⟩ : ∃ N : Nat, (nL 1 6 ++ s8L t).length = N := ⟨_, rfl⟩
  rw [hN]
  have HN := Aside0.mk hN
  clear hN
  have hbody : bodyL 6 t m nm l = nL 1 6 ++ s8L t := by unfold bodyL headL; simp
  have hgood : Good 6 t m nm l := ⟨HPP.out, ht, hm, hn5⟩
  have hall : ∀ y ∈ l, SampOK y := by
    have h0 : l.length = 0 := by have := HPP.out; unfold Plain.Ok at this; omega
    have : l = [] := List.length_eq_zero_iff.1 h0
    subst this
    simp
  by_cases hbig : 60000 < N
  · have hq := Aside0.mk (HRq.out.trans (req_no (fun h => by have := h.2.2; rw [hbody, HN.out] at this; omega)))
    clear hbody hall hgood
    go_wp2_with fail
    go_ret
    exact ⟨by rw [hq.out]; rfl, HS4.out.bel⟩
  · have hq := Aside0.mk (HRq.out.trans ((req_yes hgood hall (by rw [hbody, HN.out]; omega)).trans (by rw [hbody])))
    clear hbody hall hgood
    go_wp2_with fail
    refine (Bld.string b b (nL 1 6 ++ s8L t) W7 HS4.out.is).mono ?_
    rintro e W9 ⟨rfl, hi, hb9, -⟩
    have HSe := Aside0.mk (HS4.out.write hi hb9)
    obtain ⟨sR, hsR⟩ : ∃ s : ByteArray, s = ⟨(nL 1 6 ++ s8L t).toArray⟩ := ⟨_, rfl⟩
    rw [← hsR]
    have HsR := Aside0.mk hsR
    clear hi hb9 hsR
    go_wp2_with fail
    go_ret
    exact ⟨by rw [hq.out, ← HsR.out]; rfl, HSe.out.bel⟩

set_option maxHeartbeats 2000000 in
set_option maxRecDepth 100000 in
theorem enc_5 (t m : ByteArray) (nm : Int) (A : Option Addr) (c : Nat) (l : List S65) (w : World) (hr : Kd.C k65 w A l.length l) (hc : l.length ≤ c) (hg : Good 5 t m nm l) :
    Calls Try.prog 9 #[.agg #[.int .i64 5, .string t, .string m, .int .i64 nm, .slice A l.length c]] w fun e w' => e = .returned (.string (req 5 t m nm l)) ∧ Below w.heap.size w w' := by
  obtain ⟨R, hR⟩ : ∃ R, R = req 5 t m nm l := ⟨_, rfl⟩
  rw [← hR]
  have HRq := Aside0.mk hR
  clear hR
  obtain ⟨hp, ht, hm, hn5⟩ := hg
  have HR := Aside0.mk hr
  clear hr
  have HP : ∀ W : World, Below w.heap.size w W → Calls Try.prog 23 #[.agg #[.int .i64 5, .string t, .string m, .int .i64 nm, .slice A l.length c]] W fun e w' => e = .returned (.bool true) ∧ Below W.heap.size W w' := by
    intro W hb
    exact impl_plain.calls 5 t m nm A c l true W (Kd.C_below HR.out hb) hc (by unfold impl_plain.f; rw [decide_eq_true hp])
  have HP' := Aside0.mk HP
  have HPP := Aside0.mk hp
  clear HP hp
  obtain ⟨W1, hW1⟩ : ∃ W, w.alloc (.cells #[.int .i64 5, .string t, .string m, .int .i64 nm, .slice A l.length c] 29) = W := ⟨_, rfl⟩
  have hb1 : Below w.heap.size w W1 := by rw [← hW1]; exact (Below.refl _ w).alloc (Nat.le_refl _) _
  have hx1 : W1.heap[w.heap.size]? = some (.cells #[.int .i64 5, .string t, .string m, .int .i64 nm, .slice A l.length c] 29 (0, 0)) := by rw [← hW1]; exact blk_new w _
  have c0 : W1.cell? ⟨w.heap.size, 0, none⟩ = some (.int .i64 5) := (blk_cell hx1 0).trans rfl
  have c1 : W1.cell? ⟨w.heap.size, 1, none⟩ = some (.string t) := (blk_cell hx1 1).trans rfl
  have c2 : W1.cell? ⟨w.heap.size, 2, none⟩ = some (.string m) := (blk_cell hx1 2).trans rfl
  have c3 : W1.cell? ⟨w.heap.size, 3, none⟩ = some (.int .i64 nm) := (blk_cell hx1 3).trans rfl
  have c4 : W1.cell? ⟨w.heap.size, 4, none⟩ = some (.slice A l.length c) := (blk_cell hx1 4).trans rfl
  have HB1 := Aside0.mk hb1
  have HX1 := Aside0.mk hx1
  clear hb1 hx1
  go_enter Try.func9, Try.ntmps9
  go_wp2_with fail
  clear hW1
  refine (HP'.out W1 HB1.out).mono ?_
  rintro e W2 ⟨rfl, hb2⟩
  have hx2 := (hb2.block _ (blk_lt HX1.out)).trans HX1.out
  have HB2 := Aside0.mk (below_then HB1.out HB1.out.size hb2)
  have d0 : W2.cell? ⟨w.heap.size, 0, none⟩ = some (.int .i64 5) := (blk_cell hx2 0).trans rfl
  have d1 : W2.cell? ⟨w.heap.size, 1, none⟩ = some (.string t) := (blk_cell hx2 1).trans rfl
  have d2 : W2.cell? ⟨w.heap.size, 2, none⟩ = some (.string m) := (blk_cell hx2 2).trans rfl
  have d3 : W2.cell? ⟨w.heap.size, 3, none⟩ = some (.int .i64 nm) := (blk_cell hx2 3).trans rfl
  have d4 : W2.cell? ⟨w.heap.size, 4, none⟩ = some (.slice A l.length c) := (blk_cell hx2 4).trans rfl
  obtain ⟨W3, hW3⟩ : ∃ W, W2.alloc (.cells #[.pointer none, .slice none 0 0] 56) = W := ⟨_, rfl⟩
  have hs : St w W2.heap.size [] #[.int .i64 5, .string t, .string m, .int .i64 nm, .slice A l.length c] W3 := by
    rw [← hW3]
    exact ⟨Bld.fresh W2, blk_alloc hx2 _, HB2.out.alloc HB2.out.size _, Nat.lt_of_lt_of_le (blk_lt hx2) (Nat.le_refl _)⟩
  obtain ⟨f0, f1, f2, f3, f4⟩ := hs.cells
  have HS0 := Aside0.mk hs
  obtain ⟨b, hb⟩ : ∃ b, W2.heap.size = b := ⟨_, rfl⟩
  rw [hb] at HS0
  clear c0 c1 c2 c3 c4 hx2 hb2 hs HX1 HB1
  go_wp2_with fail
  clear hW3 d0 d1 d2 d3 d4 HB2
  refine (impl_num.calls 1 5 (Num.bytes 1 5) W3 (num1 5)).mono ?_
  rintro e W4 ⟨rfl, hb4⟩
  have HS1 := Aside0.mk (HS0.out.below hb4)
  obtain ⟨f0, f1, f2, f3, f4⟩ := HS1.out.cells
  clear hb4 HS0
  go_wp2_with fail
  refine (Bld.write b b ([]) (Num.bytes 1 5) W4 HS1.out.is (by simp only [List.length_append, List.length_nil, nL_length, s8L_length, s16L_length, s8B_size, s16B_size, num_size]; omega)).mono ?_
  rintro e W5 ⟨rfl, hi, hb5, -⟩
  have HS2 := Aside0.mk (HS1.out.write (L' := nL 1 5) hi hb5)
  obtain ⟨f0, f1, f2, f3, f4⟩ := HS2.out.cells
  clear hi hb5 HS1
  go_wp2_with fail
  refine (impl_s8.calls t (s8B t) W5 (s8f t (by omega))).mono ?_
  rintro e W6 ⟨rfl, hb6⟩
  have HS3 := Aside0.mk (HS2.out.below hb6)
  obtain ⟨f0, f1, f2, f3, f4⟩ := HS3.out.cells
  clear hb6 HS2
  go_wp2_with fail
  refine (Bld.write b b (nL 1 5) (s8B t) W6 HS3.out.is (by simp only [List.length_append, List.length_nil, nL_length, s8L_length, s16L_length, s8B_size, s16B_size, num_size]; omega)).mono ?_
  rintro e W7 ⟨rfl, hi, hb7, -⟩
  rw [s8B_list] at hi
  have HS4 := Aside0.mk (HS3.out.write (L' := nL 1 5 ++ s8L t) hi hb7)
  obtain ⟨f0, f1, f2, f3, f4⟩ := HS4.out.cells
  clear hi hb7 HS3
  go_wp2_with fail
  refine (impl_s16.calls m (s16B m) W7 (s16f m (by omega))).mono ?_
  rintro e W8 ⟨rfl, hb8⟩
  have HS5 := Aside0.mk (HS4.out.below hb8)
  obtain ⟨f0, f1, f2, f3, f4⟩ := HS5.out.cells
  clear hb8 HS4
  go_wp2_with fail
  refine (Bld.write b b (nL 1 5 ++ s8L t) (s16B m) W8 HS5.out.is (by simp only [List.length_append, List.length_nil, nL_length, s8L_length, s16L_length, s8B_size, s16B_size, num_size]; omega)).mono ?_
  rintro e W9 ⟨rfl, hi, hb9, -⟩
  rw [s16B_list] at hi
  have HS6 := Aside0.mk (HS5.out.write (L' := nL 1 5 ++ s8L t ++ s16L m) hi hb9)
  obtain ⟨f0, f1, f2, f3, f4⟩ := HS6.out.cells
  clear hi hb9 HS5
  go_wp2_with fail
  refine (Try.Builder_Len_f b b (Lib.byteCells (nL 1 5 ++ s8L t ++ s16L m)) W9 HS6.out.is).mono ?_
  rintro e W10 ⟨rfl, he⟩
  obtain rfl : W9 = W10 := he.symm
  rw [Lib.byteCells_length]
  obtain ⟨N, hN⟩ : ∃ N : Nat, (nL 1 5 ++ s8L t ++ s16L m).length = N := ⟨_, rfl⟩
  rw [hN]
  have HN := Aside0.mk hN
  clear hN
  have hbody : bodyL 5 t m nm l = nL 1 5 ++ s8L t ++ s16L m := by unfold bodyL headL; simp
  have hgood : Good 5 t m nm l := ⟨HPP.out, ht, hm, hn5⟩
  have hall : ∀ y ∈ l, SampOK y := by
    have h0 : l.length = 0 := by have := HPP.out; unfold Plain.Ok at this; omega
    have : l = [] := List.length_eq_zero_iff.1 h0
    subst this
    simp
  by_cases hbig : 60000 < N
  · have hq := Aside0.mk (HRq.out.trans (req_no (fun h => by have := h.2.2; rw [hbody, HN.out] at this; omega)))
    clear hbody hall hgood
    go_wp2_with fail
    go_ret
    exact ⟨by rw [hq.out]; rfl, HS6.out.bel⟩
  · have hq := Aside0.mk (HRq.out.trans ((req_yes hgood hall (by rw [hbody, HN.out]; omega)).trans (by rw [hbody])))
    clear hbody hall hgood
    go_wp2_with fail
    refine (Bld.string b b (nL 1 5 ++ s8L t ++ s16L m) W9 HS6.out.is).mono ?_
    rintro e W11 ⟨rfl, hi, hb11, -⟩
    have HSe := Aside0.mk (HS6.out.write hi hb11)
    obtain ⟨sR, hsR⟩ : ∃ s : ByteArray, s = ⟨(nL 1 5 ++ s8L t ++ s16L m).toArray⟩ := ⟨_, rfl⟩
    rw [← hsR]
    have HsR := Aside0.mk hsR
    clear hi hb11 hsR
    go_wp2_with fail
    go_ret
    exact ⟨by rw [hq.out, ← HsR.out]; rfl, HSe.out.bel⟩

set_option maxHeartbeats 2000000 in
set_option maxRecDepth 100000 in
theorem enc_3 (t m : ByteArray) (nm : Int) (A : Option Addr) (c : Nat) (l : List S65) (w : World) (hr : Kd.C k65 w A l.length l) (hc : l.length ≤ c) (hg : Good 3 t m nm l) :
    Calls Try.prog 9 #[.agg #[.int .i64 3, .string t, .string m, .int .i64 nm, .slice A l.length c]] w fun e w' => e = .returned (.string (req 3 t m nm l)) ∧ Below w.heap.size w w' := by
  obtain ⟨R, hR⟩ : ∃ R, R = req 3 t m nm l := ⟨_, rfl⟩
  rw [← hR]
  have HRq := Aside0.mk hR
  clear hR
  obtain ⟨hp, ht, hm, hn5⟩ := hg
  have HR := Aside0.mk hr
  clear hr
  have HP : ∀ W : World, Below w.heap.size w W → Calls Try.prog 23 #[.agg #[.int .i64 3, .string t, .string m, .int .i64 nm, .slice A l.length c]] W fun e w' => e = .returned (.bool true) ∧ Below W.heap.size W w' := by
    intro W hb
    exact impl_plain.calls 3 t m nm A c l true W (Kd.C_below HR.out hb) hc (by unfold impl_plain.f; rw [decide_eq_true hp])
  have HP' := Aside0.mk HP
  have HPP := Aside0.mk hp
  clear HP hp
  obtain ⟨W1, hW1⟩ : ∃ W, w.alloc (.cells #[.int .i64 3, .string t, .string m, .int .i64 nm, .slice A l.length c] 29) = W := ⟨_, rfl⟩
  have hb1 : Below w.heap.size w W1 := by rw [← hW1]; exact (Below.refl _ w).alloc (Nat.le_refl _) _
  have hx1 : W1.heap[w.heap.size]? = some (.cells #[.int .i64 3, .string t, .string m, .int .i64 nm, .slice A l.length c] 29 (0, 0)) := by rw [← hW1]; exact blk_new w _
  have c0 : W1.cell? ⟨w.heap.size, 0, none⟩ = some (.int .i64 3) := (blk_cell hx1 0).trans rfl
  have c1 : W1.cell? ⟨w.heap.size, 1, none⟩ = some (.string t) := (blk_cell hx1 1).trans rfl
  have c2 : W1.cell? ⟨w.heap.size, 2, none⟩ = some (.string m) := (blk_cell hx1 2).trans rfl
  have c3 : W1.cell? ⟨w.heap.size, 3, none⟩ = some (.int .i64 nm) := (blk_cell hx1 3).trans rfl
  have c4 : W1.cell? ⟨w.heap.size, 4, none⟩ = some (.slice A l.length c) := (blk_cell hx1 4).trans rfl
  have HB1 := Aside0.mk hb1
  have HX1 := Aside0.mk hx1
  clear hb1 hx1
  go_enter Try.func9, Try.ntmps9
  go_wp2_with fail
  clear hW1
  refine (HP'.out W1 HB1.out).mono ?_
  rintro e W2 ⟨rfl, hb2⟩
  have hx2 := (hb2.block _ (blk_lt HX1.out)).trans HX1.out
  have HB2 := Aside0.mk (below_then HB1.out HB1.out.size hb2)
  have d0 : W2.cell? ⟨w.heap.size, 0, none⟩ = some (.int .i64 3) := (blk_cell hx2 0).trans rfl
  have d1 : W2.cell? ⟨w.heap.size, 1, none⟩ = some (.string t) := (blk_cell hx2 1).trans rfl
  have d2 : W2.cell? ⟨w.heap.size, 2, none⟩ = some (.string m) := (blk_cell hx2 2).trans rfl
  have d3 : W2.cell? ⟨w.heap.size, 3, none⟩ = some (.int .i64 nm) := (blk_cell hx2 3).trans rfl
  have d4 : W2.cell? ⟨w.heap.size, 4, none⟩ = some (.slice A l.length c) := (blk_cell hx2 4).trans rfl
  obtain ⟨W3, hW3⟩ : ∃ W, W2.alloc (.cells #[.pointer none, .slice none 0 0] 56) = W := ⟨_, rfl⟩
  have hs : St w W2.heap.size [] #[.int .i64 3, .string t, .string m, .int .i64 nm, .slice A l.length c] W3 := by
    rw [← hW3]
    exact ⟨Bld.fresh W2, blk_alloc hx2 _, HB2.out.alloc HB2.out.size _, Nat.lt_of_lt_of_le (blk_lt hx2) (Nat.le_refl _)⟩
  obtain ⟨f0, f1, f2, f3, f4⟩ := hs.cells
  have HS0 := Aside0.mk hs
  obtain ⟨b, hb⟩ : ∃ b, W2.heap.size = b := ⟨_, rfl⟩
  rw [hb] at HS0
  clear c0 c1 c2 c3 c4 hx2 hb2 hs HX1 HB1
  go_wp2_with fail
  clear hW3 d0 d1 d2 d3 d4 HB2
  refine (impl_num.calls 1 3 (Num.bytes 1 3) W3 (num1 3)).mono ?_
  rintro e W4 ⟨rfl, hb4⟩
  have HS1 := Aside0.mk (HS0.out.below hb4)
  obtain ⟨f0, f1, f2, f3, f4⟩ := HS1.out.cells
  clear hb4 HS0
  go_wp2_with fail
  refine (Bld.write b b ([]) (Num.bytes 1 3) W4 HS1.out.is (by simp only [List.length_append, List.length_nil, nL_length, s8L_length, s16L_length, s8B_size, s16B_size, num_size]; omega)).mono ?_
  rintro e W5 ⟨rfl, hi, hb5, -⟩
  have HS2 := Aside0.mk (HS1.out.write (L' := nL 1 3) hi hb5)
  obtain ⟨f0, f1, f2, f3, f4⟩ := HS2.out.cells
  clear hi hb5 HS1
  go_wp2_with fail
  refine (impl_s8.calls t (s8B t) W5 (s8f t (by omega))).mono ?_
  rintro e W6 ⟨rfl, hb6⟩
  have HS3 := Aside0.mk (HS2.out.below hb6)
  obtain ⟨f0, f1, f2, f3, f4⟩ := HS3.out.cells
  clear hb6 HS2
  go_wp2_with fail
  refine (Bld.write b b (nL 1 3) (s8B t) W6 HS3.out.is (by simp only [List.length_append, List.length_nil, nL_length, s8L_length, s16L_length, s8B_size, s16B_size, num_size]; omega)).mono ?_
  rintro e W7 ⟨rfl, hi, hb7, -⟩
  rw [s8B_list] at hi
  have HS4 := Aside0.mk (HS3.out.write (L' := nL 1 3 ++ s8L t) hi hb7)
  obtain ⟨f0, f1, f2, f3, f4⟩ := HS4.out.cells
  clear hi hb7 HS3
  go_wp2_with fail
  refine (impl_s16.calls m (s16B m) W7 (s16f m (by omega))).mono ?_
  rintro e W8 ⟨rfl, hb8⟩
  have HS5 := Aside0.mk (HS4.out.below hb8)
  obtain ⟨f0, f1, f2, f3, f4⟩ := HS5.out.cells
  clear hb8 HS4
  go_wp2_with fail
  refine (Bld.write b b (nL 1 3 ++ s8L t) (s16B m) W8 HS5.out.is (by simp only [List.length_append, List.length_nil, nL_length, s8L_length, s16L_length, s8B_size, s16B_size, num_size]; omega)).mono ?_
  rintro e W9 ⟨rfl, hi, hb9, -⟩
  rw [s16B_list] at hi
  have HS6 := Aside0.mk (HS5.out.write (L' := nL 1 3 ++ s8L t ++ s16L m) hi hb9)
  obtain ⟨f0, f1, f2, f3, f4⟩ := HS6.out.cells
  clear hi hb9 HS5
  go_wp2_with fail
  refine (impl_num.calls 8 nm (Num.bytes 8 nm) W9 (num8 nm)).mono ?_
  rintro e W10 ⟨rfl, hb10⟩
  have HS7 := Aside0.mk (HS6.out.below hb10)
  obtain ⟨f0, f1, f2, f3, f4⟩ := HS7.out.cells
  clear hb10 HS6
  go_wp2_with fail
  refine (Bld.write b b (nL 1 3 ++ s8L t ++ s16L m) (Num.bytes 8 nm) W10 HS7.out.is (by simp only [List.length_append, List.length_nil, nL_length, s8L_length, s16L_length, s8B_size, s16B_size, num_size]; omega)).mono ?_
  rintro e W11 ⟨rfl, hi, hb11, -⟩
  have HS8 := Aside0.mk (HS7.out.write (L' := nL 1 3 ++ s8L t ++ s16L m ++ nL 8 nm) hi hb11)
  obtain ⟨f0, f1, f2, f3, f4⟩ := HS8.out.cells
  clear hi hb11 HS7
  go_wp2_with fail
  refine (Try.Builder_Len_f b b (Lib.byteCells (nL 1 3 ++ s8L t ++ s16L m ++ nL 8 nm)) W11 HS8.out.is).mono ?_
  rintro e W12 ⟨rfl, he⟩
  obtain rfl : W11 = W12 := he.symm
  rw [Lib.byteCells_length]
  obtain ⟨N, hN⟩ : ∃ N : Nat, (nL 1 3 ++ s8L t ++ s16L m ++ nL 8 nm).length = N := ⟨_, rfl⟩
  rw [hN]
  have HN := Aside0.mk hN
  clear hN
  have hbody : bodyL 3 t m nm l = nL 1 3 ++ s8L t ++ s16L m ++ nL 8 nm := by unfold bodyL headL; simp
  have hgood : Good 3 t m nm l := ⟨HPP.out, ht, hm, hn5⟩
  have hall : ∀ y ∈ l, SampOK y := by
    have h0 : l.length = 0 := by have := HPP.out; unfold Plain.Ok at this; omega
    have : l = [] := List.length_eq_zero_iff.1 h0
    subst this
    simp
  by_cases hbig : 60000 < N
  · have hq := Aside0.mk (HRq.out.trans (req_no (fun h => by have := h.2.2; rw [hbody, HN.out] at this; omega)))
    clear hbody hall hgood
    go_wp2_with fail
    go_ret
    exact ⟨by rw [hq.out]; rfl, HS8.out.bel⟩
  · have hq := Aside0.mk (HRq.out.trans ((req_yes hgood hall (by rw [hbody, HN.out]; omega)).trans (by rw [hbody])))
    clear hbody hall hgood
    go_wp2_with fail
    refine (Bld.string b b (nL 1 3 ++ s8L t ++ s16L m ++ nL 8 nm) W11 HS8.out.is).mono ?_
    rintro e W13 ⟨rfl, hi, hb13, -⟩
    have HSe := Aside0.mk (HS8.out.write hi hb13)
    obtain ⟨sR, hsR⟩ : ∃ s : ByteArray, s = ⟨(nL 1 3 ++ s8L t ++ s16L m ++ nL 8 nm).toArray⟩ := ⟨_, rfl⟩
    rw [← hsR]
    have HsR := Aside0.mk hsR
    clear hi hb13 hsR
    go_wp2_with fail
    go_ret
    exact ⟨by rw [hq.out, ← HsR.out]; rfl, HSe.out.bel⟩

set_option maxHeartbeats 4000000 in
set_option maxRecDepth 100000 in
theorem enc_1 (t m : ByteArray) (nm : Int) (A : Option Addr) (c : Nat) (l : List S65) (w : World) (hr : Kd.C k65 w A l.length l) (hc : l.length ≤ c) (hg : Good 1 t m nm l) :
    Calls Try.prog 9 #[.agg #[.int .i64 1, .string t, .string m, .int .i64 nm, .slice A l.length c]] w fun e w' => e = .returned (.string (req 1 t m nm l)) ∧ Below w.heap.size w w' := by
  obtain ⟨R, hR⟩ : ∃ R, R = req 1 t m nm l := ⟨_, rfl⟩
  rw [← hR]
  have HRq := Aside0.mk hR
  clear hR
  obtain ⟨hp, ht, hm, hn5⟩ := hg
  have HR := Aside0.mk hr
  clear hr
  have HP : ∀ W : World, Below w.heap.size w W → Calls Try.prog 23 #[.agg #[.int .i64 1, .string t, .string m, .int .i64 nm, .slice A l.length c]] W fun e w' => e = .returned (.bool true) ∧ Below W.heap.size W w' := by
    intro W hb
    exact impl_plain.calls 1 t m nm A c l true W (Kd.C_below HR.out hb) hc (by unfold impl_plain.f; rw [decide_eq_true hp])
  have HP' := Aside0.mk HP
  have HPP := Aside0.mk hp
  clear HP hp
  obtain ⟨W1, hW1⟩ : ∃ W, w.alloc (.cells #[.int .i64 1, .string t, .string m, .int .i64 nm, .slice A l.length c] 29) = W := ⟨_, rfl⟩
  have hb1 : Below w.heap.size w W1 := by rw [← hW1]; exact (Below.refl _ w).alloc (Nat.le_refl _) _
  have hx1 : W1.heap[w.heap.size]? = some (.cells #[.int .i64 1, .string t, .string m, .int .i64 nm, .slice A l.length c] 29 (0, 0)) := by rw [← hW1]; exact blk_new w _
  have c0 : W1.cell? ⟨w.heap.size, 0, none⟩ = some (.int .i64 1) := (blk_cell hx1 0).trans rfl
  have c1 : W1.cell? ⟨w.heap.size, 1, none⟩ = some (.string t) := (blk_cell hx1 1).trans rfl
  have c2 : W1.cell? ⟨w.heap.size, 2, none⟩ = some (.string m) := (blk_cell hx1 2).trans rfl
  have c3 : W1.cell? ⟨w.heap.size, 3, none⟩ = some (.int .i64 nm) := (blk_cell hx1 3).trans rfl
  have c4 : W1.cell? ⟨w.heap.size, 4, none⟩ = some (.slice A l.length c) := (blk_cell hx1 4).trans rfl
  have HB1 := Aside0.mk hb1
  have HX1 := Aside0.mk hx1
  clear hb1 hx1
  go_enter Try.func9, Try.ntmps9
  go_wp2_with fail
  clear hW1
  refine (HP'.out W1 HB1.out).mono ?_
  rintro e W2 ⟨rfl, hb2⟩
  have hx2 := (hb2.block _ (blk_lt HX1.out)).trans HX1.out
  have HB2 := Aside0.mk (below_then HB1.out HB1.out.size hb2)
  have d0 : W2.cell? ⟨w.heap.size, 0, none⟩ = some (.int .i64 1) := (blk_cell hx2 0).trans rfl
  have d1 : W2.cell? ⟨w.heap.size, 1, none⟩ = some (.string t) := (blk_cell hx2 1).trans rfl
  have d2 : W2.cell? ⟨w.heap.size, 2, none⟩ = some (.string m) := (blk_cell hx2 2).trans rfl
  have d3 : W2.cell? ⟨w.heap.size, 3, none⟩ = some (.int .i64 nm) := (blk_cell hx2 3).trans rfl
  have d4 : W2.cell? ⟨w.heap.size, 4, none⟩ = some (.slice A l.length c) := (blk_cell hx2 4).trans rfl
  obtain ⟨W3, hW3⟩ : ∃ W, W2.alloc (.cells #[.pointer none, .slice none 0 0] 56) = W := ⟨_, rfl⟩
  have hs : St w W2.heap.size [] #[.int .i64 1, .string t, .string m, .int .i64 nm, .slice A l.length c] W3 := by
    rw [← hW3]
    exact ⟨Bld.fresh W2, blk_alloc hx2 _, HB2.out.alloc HB2.out.size _, Nat.lt_of_lt_of_le (blk_lt hx2) (Nat.le_refl _)⟩
  obtain ⟨f0, f1, f2, f3, f4⟩ := hs.cells
  have HS0 := Aside0.mk hs
  obtain ⟨b, hb⟩ : ∃ b, W2.heap.size = b := ⟨_, rfl⟩
  rw [hb] at HS0
  clear c0 c1 c2 c3 c4 hx2 hb2 hs HX1 HB1
  go_wp2_with fail
  clear hW3 d0 d1 d2 d3 d4 HB2
  refine (impl_num.calls 1 1 (Num.bytes 1 1) W3 (num1 1)).mono ?_
  rintro e W4 ⟨rfl, hb4⟩
  have HS1 := Aside0.mk (HS0.out.below hb4)
  obtain ⟨f0, f1, f2, f3, f4⟩ := HS1.out.cells
  clear hb4 HS0
  go_wp2_with fail
  refine (Bld.write b b ([]) (Num.bytes 1 1) W4 HS1.out.is (by simp only [List.length_append, List.length_nil, nL_length, s8L_length, s16L_length, s8B_size, s16B_size, num_size]; omega)).mono ?_
  rintro e W5 ⟨rfl, hi, hb5, -⟩
  have HS2 := Aside0.mk (HS1.out.write (L' := nL 1 1) hi hb5)
  obtain ⟨f0, f1, f2, f3, f4⟩ := HS2.out.cells
  clear hi hb5 HS1
  go_wp2_with fail
  refine (impl_s8.calls t (s8B t) W5 (s8f t (by omega))).mono ?_
  rintro e W6 ⟨rfl, hb6⟩
  have HS3 := Aside0.mk (HS2.out.below hb6)
  obtain ⟨f0, f1, f2, f3, f4⟩ := HS3.out.cells
  clear hb6 HS2
  go_wp2_with fail
  refine (Bld.write b b (nL 1 1) (s8B t) W6 HS3.out.is (by simp only [List.length_append, List.length_nil, nL_length, s8L_length, s16L_length, s8B_size, s16B_size, num_size]; omega)).mono ?_
  rintro e W7 ⟨rfl, hi, hb7, -⟩
  rw [s8B_list] at hi
  have HS4 := Aside0.mk (HS3.out.write (L' := nL 1 1 ++ s8L t) hi hb7)
  obtain ⟨f0, f1, f2, f3, f4⟩ := HS4.out.cells
  clear hi hb7 HS3
  go_wp2_with fail
  refine (impl_num.calls 2 l.length (Num.bytes 2 l.length) W7 (num2 l.length)).mono ?_
  rintro e W8 ⟨rfl, hb8⟩
  have HS5 := Aside0.mk (HS4.out.below hb8)
  obtain ⟨f0, f1, f2, f3, f4⟩ := HS5.out.cells
  clear hb8 HS4
  go_wp2_with fail
  refine (Bld.write b b (nL 1 1 ++ s8L t) (Num.bytes 2 l.length) W8 HS5.out.is (by simp only [List.length_append, List.length_nil, nL_length, s8L_length, s16L_length, s8B_size, s16B_size, num_size]; omega)).mono ?_
  rintro e W9 ⟨rfl, hi, hb9, -⟩
  have HS6 := Aside0.mk (HS5.out.write (L' := nL 1 1 ++ s8L t ++ nL 2 l.length) hi hb9)
  obtain ⟨f0, f1, f2, f3, f4⟩ := HS6.out.cells
  clear hi hb9 HS5
  obtain ⟨L0, hL0⟩ : ∃ L0, L0 = nL 1 1 ++ s8L t ++ nL 2 l.length := ⟨_, rfl⟩
  rw [← hL0] at HS6
  have hL0n : L0.length ≤ 1000 := by rw [hL0]; simp only [List.length_append, nL_length, s8L_length]; omega
  have hbody : bodyL 1 t m nm l = L0 ++ sampsL l := by rw [hL0]; unfold bodyL headL; simp
  have HBD := Aside0.mk hbody
  clear hbody hL0
  have hgood : Good 1 t m nm l := ⟨HPP.out, ht, hm, hn5⟩
  have HGD := Aside0.mk hgood
  clear hgood
  go_wp2_with fail
  clear f0 f1 f2 f3 f4
  go_loopw [80] (fun i wr => ∃ j : Nat, i = .int .i64 j ∧ j ≤ l.length ∧ Aside0 (St w b (L0 ++ sampsL (l.take j)) #[.int .i64 1, .string t, .string m, .int .i64 nm, .slice A l.length c] wr) ∧ Aside0 (∀ y ∈ l.take j, SampOK y)) (fun i _ => l.length - (intOf i).toNat)
  case atStart => exact ⟨0, rfl, Nat.zero_le _, ⟨by simpa [sampsL] using HS6.out⟩, ⟨by simp⟩⟩
  case round =>
    obtain ⟨j, rfl, hj, HSr, HOr⟩ := hrel
    by_cases hlt : j < l.length
    · obtain ⟨ad, A0, c0, ea, x0, x1, hc0, hC0⟩ := at_T65 HR.out (j : Int) (by omega) (by omega)
      subst ea
      rw [Int.toNat_natCast] at x0 x1
      rw [rd_S l j hlt] at x0 x1 hc0 hC0
      replace x0 := (HSr.out.bel.cell (World.block_lt_of_cell? w _ x0)).trans x0
      replace x1 := (HSr.out.bel.cell (World.block_lt_of_cell? w _ x1)).trans x1
      obtain ⟨x, hx⟩ : ∃ x, x = l[j] := ⟨_, rfl⟩
      rw [← hx] at x0 x1 hc0 hC0
      have HX := Aside0.mk hx
      have HC0 := Aside0.mk hC0
      have hLr : (sampsL (l.take j)).length ≤ 500 * 16777224 := by
        have h1 := sampsL_le (l.take j) HOr.out
        have h2 : (l.take j).length ≤ 500 := by rw [List.length_take]; omega
        have h3 : (l.take j).length * 16777224 ≤ 500 * 16777224 := Nat.mul_le_mul_right _ h2
        exact Nat.le_trans h1 h3
      have HLr := Aside0.mk hLr
      clear hx hC0 hLr
      obtain ⟨Wa, hWa⟩ : ∃ W, wr.alloc (.cells #[.slice A0 x.f0.length c0, .int .i64 x.f1] 65) = W := ⟨_, rfl⟩
      obtain ⟨g5, hg5⟩ : ∃ g, wr.heap.size = g := ⟨_, rfl⟩
      have hxa : Wa.heap[g5]? = some (.cells #[.slice A0 x.f0.length c0, .int .i64 x.f1] 65 (0, 0)) := by rw [← hWa, ← hg5]; exact blk_new wr _
      have HSa : Aside0 (St w b (L0 ++ sampsL (l.take j)) #[.int .i64 1, .string t, .string m, .int .i64 nm, .slice (some ad) l.length c] Wa) := ⟨by rw [← hWa]; exact HSr.out.alloc _⟩
      have hgb : g5 ≠ b := by have := HSr.out.is.lt; omega
      have u0 : Wa.cell? ⟨g5, 0, none⟩ = some (.slice A0 x.f0.length c0) := (blk_cell hxa 0).trans rfl
      have u1 : Wa.cell? ⟨g5, 1, none⟩ = some (.int .i64 x.f1) := (blk_cell hxa 1).trans rfl
      have HXa := Aside0.mk hxa
      have HGB := Aside0.mk hgb
      clear hxa hgb
      by_cases hbig : 255 < x.f0.length
      · have hq := Aside0.mk (HRq.out.trans (req_no (fun h => by have := (h.2.1 x (by rw [HX.out]; exact List.getElem_mem _)).1; omega)))
        go_wp2_with fail
        go_ret
        exact ⟨by rw [hq.out]; rfl, HSa.out.bel⟩
      · go_wp2_with fail
        clear hWa hg5 x0 x1
        refine (impl_num.calls 1 x.f0.length (Num.bytes 1 x.f0.length) Wa (num1 x.f0.length)).mono ?_
        rintro e Wb ⟨rfl, hbb⟩
        have HSb := Aside0.mk (HSa.out.below hbb)
        have HXb := Aside0.mk ((hbb.block _ (blk_lt HXa.out)).trans HXa.out)
        clear hbb HSa HXa u0 u1
        go_wp2_with fail
        refine (Bld.write b b (L0 ++ sampsL (l.take j)) (Num.bytes 1 x.f0.length) Wb HSb.out.is (by have := HLr.out; simp only [List.length_append, num_size]; omega)).mono ?_
        rintro e Wc ⟨rfl, hi, hbc, hkc⟩
        have HSc := Aside0.mk (HSb.out.write (L' := L0 ++ sampsL (l.take j) ++ nL 1 x.f0.length) hi hbc)
        have HXc := Aside0.mk (hkc.block HXb.out HGB.out (by decide))
        have u0 : Wc.cell? ⟨g5, 0, none⟩ = some (.slice A0 x.f0.length c0) := (blk_cell HXc.out 0).trans rfl
        have u1 : Wc.cell? ⟨g5, 1, none⟩ = some (.int .i64 x.f1) := (blk_cell HXc.out 1).trans rfl
        clear hi hbc hkc HSb HXb
        obtain ⟨L1, hL1⟩ : ∃ L1, L1 = L0 ++ sampsL (l.take j) ++ nL 1 x.f0.length := ⟨_, rfl⟩
        rw [← hL1] at HSc
        have HL1n : Aside0 (L1.length ≤ 500 * 16777224 + 1001) := ⟨by rw [hL1]; have := HLr.out; simp only [List.length_append, nL_length]; omega⟩
        have HL1 := Aside0.mk hL1
        clear hL1
        go_wp2_with fail
        clear u0 u1
        go_loopw [96] (fun i wi => ∃ q : Nat, i = .int .i64 q ∧ q ≤ x.f0.length ∧ Aside0 (St w b (L1 ++ labsL (x.f0.take q)) #[.int .i64 1, .string t, .string m, .int .i64 nm, .slice (some ad) l.length c] wi) ∧ Aside0 (∀ y ∈ x.f0.take q, LabOK y) ∧ Aside0 (wi.heap[g5]? = some (.cells #[.slice A0 x.f0.length c0, .int .i64 x.f1] 65 (0, 0)))) (fun i _ => x.f0.length - (intOf i).toNat)
        case atStart => exact ⟨0, rfl, Nat.zero_le _, ⟨by simpa [labsL] using HSc.out⟩, ⟨by simp⟩, HXc⟩
        case round =>
          obtain ⟨q, rfl, hq, HSq, HOq, HXq⟩ := hrel
          have HLq : Aside0 ((labsL (x.f0.take q)).length ≤ 255 * 65793) := ⟨by
            have h1 := labsL_le (x.f0.take q) HOq.out
            have h2 : (x.f0.take q).length ≤ 255 := by rw [List.length_take]; omega
            have h3 : (x.f0.take q).length * 65793 ≤ 255 * 65793 := Nat.mul_le_mul_right _ h2
            exact Nat.le_trans h1 h3⟩
          by_cases hqt : q < x.f0.length
          · obtain ⟨ad2, eb, y0, y1⟩ := at_T67 (Kd.C_below HC0.out HSq.out.bel) (q : Int) (by omega) (by omega)
            subst eb
            rw [Int.toNat_natCast] at y0 y1
            rw [rd_L x.f0 q hqt] at y0 y1
            obtain ⟨y, hy⟩ : ∃ y, y = x.f0[q] := ⟨_, rfl⟩
            rw [← hy] at y0 y1
            have HY := Aside0.mk hy
            clear hy
            obtain ⟨Wd, hWd⟩ : ∃ W, wr.alloc (.cells #[.string y.f0, .string y.f1] 67) = W := ⟨_, rfl⟩
            obtain ⟨g7, hg7⟩ : ∃ g, wr.heap.size = g := ⟨_, rfl⟩
            have hyd : Wd.heap[g7]? = some (.cells #[.string y.f0, .string y.f1] 67 (0, 0)) := by rw [← hWd, ← hg7]; exact blk_new wr _
            have HSd : Aside0 (St w b (L1 ++ labsL (x.f0.take q)) #[.int .i64 1, .string t, .string m, .int .i64 nm, .slice (some ad) l.length c] Wd) := ⟨by rw [← hWd]; exact HSq.out.alloc _⟩
            have HXd : Aside0 (Wd.heap[g5]? = some (.cells #[.slice (some ad2) x.f0.length c0, .int .i64 x.f1] 65 (0, 0))) := ⟨by rw [← hWd]; exact blk_alloc HXq.out _⟩
            have HGB7 : Aside0 (g7 ≠ b) := ⟨by have := HSq.out.is.lt; omega⟩
            have v0 : Wd.cell? ⟨g7, 0, none⟩ = some (.string y.f0) := (blk_cell hyd 0).trans rfl
            have v1 : Wd.cell? ⟨g7, 1, none⟩ = some (.string y.f1) := (blk_cell hyd 1).trans rfl
            have HYd := Aside0.mk hyd
            clear hyd
            by_cases hn1 : 255 < y.f0.size
            · have hq := Aside0.mk (HRq.out.trans (req_no (fun h => by have := ((h.2.1 x (by rw [HX.out]; exact List.getElem_mem _)).2 y (by rw [HY.out]; exact List.getElem_mem _)).1; omega)))
              go_wp2_with fail
              go_ret
              exact ⟨by rw [hq.out]; rfl, HSd.out.bel⟩
            · by_cases hn2 : 65535 < y.f1.size
              · have hq := Aside0.mk (HRq.out.trans (req_no (fun h => by have := ((h.2.1 x (by rw [HX.out]; exact List.getElem_mem _)).2 y (by rw [HY.out]; exact List.getElem_mem _)).2; omega)))
                go_wp2_with fail
                go_ret
                exact ⟨by rw [hq.out]; rfl, HSd.out.bel⟩
              · go_wp2_with fail
                clear hWd hg7 y0 y1
                go_region_held3 (fun W' => W'.cell? ⟨g7, 0, none⟩ = some (.string y.f0) ∧ W'.cell? ⟨g7, 1, none⟩ = some (.string y.f1))
                  (first | exact ⟨v0, v1⟩ | exact ⟨e0, e1⟩ | exact ⟨p0, p1⟩ | exact ⟨Lib.cell?_alloc_some _ p0, Lib.cell?_alloc_some _ p1⟩ | exact ⟨q0, q1⟩ | exact ⟨r0, r1⟩)
                  (first | (go_at_call 26; refine (impl_s8.calls y.f0 (s8B y.f0) _ (s8f y.f0 (by omega))).mono ?_; rintro e We ⟨rfl, hbe⟩; have HSe := Aside0.mk (HSd.out.drew.below hbe); have HXe := Aside0.mk ((hbe.block _ (blk_lt HXd.out)).trans HXd.out); have HYe := Aside0.mk ((hbe.block _ (blk_lt HYd.out)).trans HYd.out); have e0 : We.cell? ⟨g7, 0, none⟩ = some (.string y.f0) := (blk_cell HYe.out 0).trans rfl; have e1 : We.cell? ⟨g7, 1, none⟩ = some (.string y.f1) := (blk_cell HYe.out 1).trans rfl; clear hbe)
                         | (go_at_call 27; refine (impl_s16.calls y.f1 (s16B y.f1) _ (s16f y.f1 (by omega))).mono ?_; rintro e Wf ⟨rfl, hbf⟩; have HSf := Aside0.mk (HSe.out.below hbf); have HXf := Aside0.mk ((hbf.block _ (blk_lt HXe.out)).trans HXe.out); have HYf := Aside0.mk ((hbf.block _ (blk_lt HYe.out)).trans HYe.out); have p0 : Wf.cell? ⟨g7, 0, none⟩ = some (.string y.f0) := (blk_cell HYf.out 0).trans rfl; have p1 : Wf.cell? ⟨g7, 1, none⟩ = some (.string y.f1) := (blk_cell HYf.out 1).trans rfl; clear hbf)
                         | (go_at_call 28; refine (Bld.join2 Wf.heap.size (s8B y.f0) (s16B y.f1) _ ((blk_cell (blk_new Wf _) 0).trans rfl) ((blk_cell (blk_new Wf _) 1).trans rfl) ?_).mono ?_; (· rw [s8B_size, s16B_size]; omega); rintro e Wg ⟨rfl, hbg⟩; have HSg := Aside0.mk ((HSf.out.alloc _).below hbg); have HXg := Aside0.mk ((hbg.block _ (blk_lt (blk_alloc HXf.out _))).trans (blk_alloc HXf.out _)); have HYg := Aside0.mk ((hbg.block _ (blk_lt (blk_alloc HYf.out _))).trans (blk_alloc HYf.out _)); have q0 : Wg.cell? ⟨g7, 0, none⟩ = some (.string y.f0) := (blk_cell HYg.out 0).trans rfl; have q1 : Wg.cell? ⟨g7, 1, none⟩ = some (.string y.f1) := (blk_cell HYg.out 1).trans rfl; clear hbg)
                         | (go_at_call 24; refine (Bld.write b b (L1 ++ labsL (x.f0.take q)) ⟨((s8B y.f0).data.toList ++ (s16B y.f1).data.toList).toArray⟩ Wg HSg.out.is ?_).mono ?_; (· have h1 := HLq.out; have h2 := HL1n.out; show _ + (((s8B y.f0).data.toList ++ (s16B y.f1).data.toList)).length ≤ _; rw [s8B_list, s16B_list]; simp only [List.length_append, s8L_length, s16L_length]; omega); rintro e Wh ⟨rfl, hi, hbh, hkh⟩; have HSh := Aside0.mk (HSg.out.write hi hbh); have HXh := Aside0.mk (hkh.block HXg.out HGB.out (by decide)); have HYh := Aside0.mk (hkh.block HYg.out HGB7.out (by decide)); have r0 : Wh.cell? ⟨g7, 0, none⟩ = some (.string y.f0) := (blk_cell HYh.out 0).trans rfl; have r1 : Wh.cell? ⟨g7, 1, none⟩ = some (.string y.f1) := (blk_cell HYh.out 1).trans rfl; clear hi hbh hkh))
                go_wp2_with fail
                go_roundw
                case rel =>
                  refine ⟨q + 1, by go_num, by omega, ⟨?_⟩, ⟨take_all LabOK x.f0 q hqt HOq.out (by rw [← HY.out]; exact ⟨by omega, by omega⟩)⟩, HXh⟩
                  have e1 : labsL (x.f0.take (q + 1)) = labsL (x.f0.take q) ++ labL y := by unfold labsL; rw [take_flat labL x.f0 q hqt, HY.out]
                  have e2 : L1 ++ labsL (x.f0.take q) ++ ((s8B y.f0).data.toList ++ (s16B y.f1).data.toList) = L1 ++ labsL (x.f0.take (q + 1)) := by rw [e1, s8B_list, s16B_list, List.append_assoc]; rfl
                  have := HSh.out
                  rw [← e2]
                  exact this
                case measure => simp [intOf]; omega
          · obtain rfl : q = x.f0.length := by omega
            have u0 : wr.cell? ⟨g5, 0, none⟩ = some (.slice A0 x.f0.length c0) := (blk_cell HXq.out 0).trans rfl
            have u1 : wr.cell? ⟨g5, 1, none⟩ = some (.int .i64 x.f1) := (blk_cell HXq.out 1).trans rfl
            go_wp2_with fail
            refine (impl_num.calls 8 x.f1 (Num.bytes 8 x.f1) wr (num8 x.f1)).mono ?_
            rintro e Wi ⟨rfl, hbi⟩
            have HSi := Aside0.mk (HSq.out.below hbi)
            clear hbi u0 u1
            go_wp2_with fail
            refine (Bld.write b b (L1 ++ labsL (x.f0.take x.f0.length)) (Num.bytes 8 x.f1) Wi HSi.out.is (by have h1 := HLq.out; have h2 := HL1n.out; simp only [List.length_append, num_size]; omega)).mono ?_
            rintro e Wj ⟨rfl, hi, hbj, hkj⟩
            have HSj := Aside0.mk (HSi.out.write hi hbj)
            clear hi hbj hkj
            go_wp2_with fail
            go_roundw
            case rel =>
              refine ⟨j + 1, by go_num, by omega, ⟨?_⟩, ⟨take_all SampOK l j hlt HOr.out (by rw [← HX.out]; exact ⟨by omega, by have := HOq.out; rwa [List.take_of_length_le (Nat.le_refl _)] at this⟩)⟩⟩
              have e1 : sampsL (l.take (j + 1)) = sampsL (l.take j) ++ sampL x := by unfold sampsL; rw [take_flat sampL l j hlt, HX.out]
              have e2 : L1 ++ labsL (x.f0.take x.f0.length) ++ (Num.bytes 8 x.f1).data.toList = L0 ++ sampsL (l.take (j + 1)) := by
                rw [e1, HL1.out, List.take_of_length_le (Nat.le_refl _)]
                unfold sampL
                simp only [List.append_assoc]
                rfl
              have := HSj.out
              rw [← e2]
              exact this
            case measure => simp [intOf]; omega
    · obtain rfl : j = l.length := by omega
      have hst := HSr.out
      have hall := HOr.out
      rw [List.take_of_length_le (Nat.le_refl _)] at hst hall
      have HSz := Aside0.mk hst
      have HAL := Aside0.mk hall
      clear hst hall
      go_wp2_with fail
      refine (Try.Builder_Len_f b b (Lib.byteCells (L0 ++ sampsL l)) wr HSz.out.is).mono ?_
      rintro e Wk ⟨rfl, he⟩
      obtain rfl : wr = Wk := he.symm
      rw [Lib.byteCells_length]
      obtain ⟨N, hN⟩ : ∃ N : Nat, (L0 ++ sampsL l).length = N := ⟨_, rfl⟩
      rw [hN]
      have HN := Aside0.mk hN
      clear hN
      by_cases hbig : 60000 < N
      · have hq := Aside0.mk (HRq.out.trans (req_no (fun h => by have := h.2.2; rw [HBD.out, HN.out] at this; omega)))
        go_wp2_with fail
        go_ret
        exact ⟨by rw [hq.out]; rfl, HSz.out.bel⟩
      · have hq := Aside0.mk (HRq.out.trans ((req_yes HGD.out HAL.out (by rw [HBD.out, HN.out]; omega)).trans (by rw [HBD.out])))
        go_wp2_with fail
        refine (Bld.string b b (L0 ++ sampsL l) wr HSz.out.is).mono ?_
        rintro e Wl ⟨rfl, hi, hbl, -⟩
        have HSe := Aside0.mk (HSz.out.write hi hbl)
        obtain ⟨sR, hsR⟩ : ∃ s : ByteArray, s = ⟨(L0 ++ sampsL l).toArray⟩ := ⟨_, rfl⟩
        rw [← hsR]
        have HsR := Aside0.mk hsR
        clear hi hbl hsR
        go_wp2_with fail
        go_ret
        exact ⟨by rw [hq.out, ← HsR.out]; rfl, HSe.out.bel⟩

end Enc
open Enc in
theorem impl_EncodeRequest.calls (k : Int) (t m : ByteArray) (nm : Int) (A : Option Addr) (c : Nat) (l : List S65) (r : ByteArray) (w : World) (hr : Kd.C k65 w A l.length l) (hc : l.length ≤ c) (h : impl_EncodeRequest.f k t m nm l = some r) :
    Calls Try.prog 9 #[.agg #[.int .i64 k, .string t, .string m, .int .i64 nm, .slice A l.length c]] w fun e w' => e = .returned (.string r) ∧ Below w.heap.size w w' := by
  obtain rfl := Option.some.inj h
  by_cases hg : Enc.Good k t m nm l
  · have hk : 1 ≤ k ∧ k ≤ 6 := hg.1.1
    have : k = 1 ∨ k = 2 ∨ k = 3 ∨ k = 4 ∨ k = 5 ∨ k = 6 := by omega
    rcases this with rfl | rfl | rfl | rfl | rfl | rfl
    · exact enc_1 t m nm A c l w hr hc hg
    · exact enc_2 t m nm A c l w hr hc hg
    · exact enc_3 t m nm A c l w hr hc hg
    · exact enc_4 t m nm A c l w hr hc hg
    · exact enc_5 t m nm A c l w hr hc hg
    · exact enc_6 t m nm A c l w hr hc hg
  · exact enc_bad k t m nm A c l w hr hc hg
namespace Enc
end Enc
end Go.Proofs.Ytbhjbbanhmjgnaa.M
