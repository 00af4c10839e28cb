/- spec.l6Bytes and spec.EncodeRequest: the request's bytes, in a slice of bytes. -/
import Derived.Deep.RegionHeld3
import Derived.Deep.DeepCutAuto
import Derived.BigQuiet
import Derived.Test.YtbhjbbanhmjgnaaEncReq
import Derived.Test.YtbhjbbanhmjgnaaXByt
import Derived.Test.YtbhjbbanhmjgnaaSpecNum
import Derived.Test.YtbhjbbanhmjgnaaSmall
import Derived.Test.YtbhjbbanhmjgnaaF33
import Derived.Test.YtbhjbbanhmjgnaaF35
import Derived.Test.YtbhjbbanhmjgnaaF36
namespace Go.Proofs.Ytbhjbbanhmjgnaa.M
open Go.RowKit Go.Shelf Go.Proofs.YtbhjbbanhmjgnaaW.PrintWords Go.Proofs.YtbhjbbanhmjgnaaW.PrintLast Go.Proofs.YtbhjbbanhmjgnaaW.PrintMore
set_option linter.unusedVariables false
set_option linter.unusedSimpArgs false
namespace Enc
theorem num_ev (m : Nat) (hm : m ≤ 8) (v : Int) : ∃ K, spec_l2Num.f K (m : Int) v = some (Num.bytes m v) := by
  obtain ⟨K, h⟩ := NumPlain.spec_num v m hm
  exact ⟨K, h K (Nat.le_refl _)⟩
theorem s8_ev (s : ByteArray) (h : s.size ≤ 9223372036854775000) : ∃ K, spec_l2S8.f K s = some (s8B s) := by
  obtain ⟨K, hK⟩ := num_ev 1 (by decide) s.size
  refine ⟨K, ?_⟩
  have hK' : spec_l2Num.f K 1 (s.size : Int) = some (Num.bytes 1 s.size) := hK
  unfold spec_l2S8.f
  rw [hK', Option.bind_some, if_pos (by rw [num_size]; omega)]; rfl
theorem s16_ev (s : ByteArray) (h : s.size ≤ 9223372036854775000) : ∃ K, spec_l2S16.f K s = some (s16B s) := by
  obtain ⟨K, hK⟩ := num_ev 2 (by decide) s.size
  refine ⟨K, ?_⟩
  have hK' : spec_l2Num.f K 2 (s.size : Int) = some (Num.bytes 2 s.size) := hK
  unfold spec_l2S16.f
  rw [hK', Option.bind_some, if_pos (by rw [num_size]; omega)]; rfl
/-- The world of a call that holds a request's box and a slice of bytes. -/
structure Sq (w : World) (v : Value) (L : List UInt8) (BX : Array Value) (W : World) : Prop where
  own : Byt.Own w.heap.size v L W
  box : W.heap[w.heap.size]? = some (.cells BX 29 (0, 0))
  bel : Below w.heap.size w W
theorem Sq.below {w : World} {v : Value} {L : List UInt8} {BX : Array Value} {W W' : World} (h : Sq w v L BX W) (hb : Below W.heap.size W W') : Sq w v L BX W' :=
  ⟨h.own.below hb, (hb.block _ (blk_lt h.box)).trans h.box, below_then h.bel h.bel.size hb⟩
theorem Sq.alloc {w : World} {v : Value} {L : List UInt8} {BX : Array Value} {W : World} (h : Sq w v L BX W) (o : Obj) : Sq w v L BX (W.alloc o) := h.below ((Below.refl _ W).alloc (Nat.le_refl _) _)
theorem Sq.drew {w : World} {v : Value} {L : List UInt8} {BX : Array Value} {W : World} (h : Sq w v L BX W) : Sq w v L BX W.drew := ⟨h.own.drew, h.box, below_drew1 h.bel⟩
theorem Sq.app {w : World} {v v' : Value} {L L' : List UInt8} {BX : Array Value} {W W' : World} (h : Sq w v L BX W) (ho : Byt.Own w.heap.size v' L' W') (hg : W.grownBy W' v.ownBlock) : Sq w v' L' BX W' :=
  ⟨ho, blk_grown h.box hg (h.own.ne h.box (by decide)), h.bel.grown hg h.bel.size h.own.ge⟩
theorem Sq.cells {w : World} {v : Value} {L : List UInt8} {W : World} {v0 v1 v2 v3 v4 : Value} (h : Sq w v L #[v0, v1, v2, v3, v4] W) :
    W.cell? ⟨w.heap.size, 0, none⟩ = some v0 ∧ W.cell? ⟨w.heap.size, 1, none⟩ = some v1 ∧ W.cell? ⟨w.heap.size, 2, none⟩ = some v2 ∧ W.cell? ⟨w.heap.size, 3, none⟩ = some v3 ∧ W.cell? ⟨w.heap.size, 4, none⟩ = some v4 :=
  ⟨(blk_cell h.box 0).trans rfl, (blk_cell h.box 1).trans rfl, (blk_cell h.box 2).trans rfl, (blk_cell h.box 3).trans rfl, (blk_cell h.box 4).trans rfl⟩

set_option maxHeartbeats 4000000 in
set_option maxRecDepth 100000 in
theorem l6_out (k : Int) (t m : ByteArray) (nm : Int) (A : Option Addr) (n c : Nat) (w : World) (hc : n ≤ c) (hk : ¬ (1 ≤ k ∧ k ≤ 6)) :
    Calls Try.prog 21 #[.agg #[.int .i64 k, .string t, .string m, .int .i64 nm, .slice A n c]] w fun e w' => e = .returned (.tuple #[.string ⟨#[]⟩, .bool false]) ∧ Below w.heap.size w w' := by
  have h1 : ¬ k = 1 := by omega
  have h2 : ¬ k = 2 := by omega
  have h3 : ¬ k = 3 := by omega
  have h5 : ¬ k = 5 := by omega
  have h6 : ¬ k = 6 := by omega
  have b1 : (k == 1) = false := beq_eq_false_iff_ne.2 h1
  have n1 : (k != 1) = true := bne_iff_ne.2 h1
  have b2 : (k == 2) = false := beq_eq_false_iff_ne.2 h2
  have n2 : (k != 2) = true := bne_iff_ne.2 h2
  have b3 : (k == 3) = false := beq_eq_false_iff_ne.2 h3
  have n3 : (k != 3) = true := bne_iff_ne.2 h3
  have b5 : (k == 5) = false := beq_eq_false_iff_ne.2 h5
  have n5 : (k != 5) = true := bne_iff_ne.2 h5
  have b6 : (k == 6) = false := beq_eq_false_iff_ne.2 h6
  have n6 : (k != 6) = true := bne_iff_ne.2 h6
  have HK := Aside0.mk hk
  clear hk h1 h2 h3 h5 h6
  obtain ⟨W1, hW1⟩ : ∃ W, w.alloc (.cells #[.int .i64 k, .string t, .string m, .int .i64 nm, .slice A n c] 29) = W := ⟨_, rfl⟩
  have hb1 : Below w.heap.size w W1 := by rw [← hW1]; exact (Below.refl _ w).alloc (Nat.le_refl _) _
  have hx1 : W1.heap[w.heap.size]? = some (.cells #[.int .i64 k, .string t, .string m, .int .i64 nm, .slice A n c] 29 (0, 0)) := by rw [← hW1]; exact blk_new w _
  have c0 : W1.cell? ⟨w.heap.size, 0, none⟩ = some (.int .i64 k) := (blk_cell hx1 0).trans rfl
  have c1 : W1.cell? ⟨w.heap.size, 1, none⟩ = some (.string t) := (blk_cell hx1 1).trans rfl
  have c2 : W1.cell? ⟨w.heap.size, 2, none⟩ = some (.string m) := (blk_cell hx1 2).trans rfl
  have c3 : W1.cell? ⟨w.heap.size, 3, none⟩ = some (.int .i64 nm) := (blk_cell hx1 3).trans rfl
  have c4 : W1.cell? ⟨w.heap.size, 4, none⟩ = some (.slice A n c) := (blk_cell hx1 4).trans rfl
  have HB1 := Aside0.mk hb1
  have HX1 := Aside0.mk hx1
  clear hb1 hx1
  go_enter Try.func21, Try.ntmps21
  go_wp2_with fail
  clear hW1
  refine (spec_l1Between.calls k 1 6 false W1 (by rw [FramePlain.between_eq, decide_eq_false (by have := HK.out; omega)])).mono ?_
  rintro e W2 ⟨rfl, hd2⟩
  have hb2 := hd2.below
  have hx2 := (hb2.block _ (blk_lt HX1.out)).trans HX1.out
  have HB2 := Aside0.mk (below_then HB1.out HB1.out.size hb2)
  have d0 : W2.cell? ⟨w.heap.size, 0, none⟩ = some (.int .i64 k) := (blk_cell hx2 0).trans rfl
  have d1 : W2.cell? ⟨w.heap.size, 1, none⟩ = some (.string t) := (blk_cell hx2 1).trans rfl
  have d2 : W2.cell? ⟨w.heap.size, 2, none⟩ = some (.string m) := (blk_cell hx2 2).trans rfl
  have d3 : W2.cell? ⟨w.heap.size, 3, none⟩ = some (.int .i64 nm) := (blk_cell hx2 3).trans rfl
  have d4 : W2.cell? ⟨w.heap.size, 4, none⟩ = some (.slice A n c) := (blk_cell hx2 4).trans rfl
  have HX2 := Aside0.mk hx2
  clear c0 c1 c2 c3 c4 hd2 hb2 hx2
  clear HX2
  go_wp2_with fail
  go_ret2
  exact ⟨rfl, HB2.out⟩

set_option maxHeartbeats 4000000 in
set_option maxRecDepth 100000 in
theorem l6_bad1 (t m : ByteArray) (nm : Int) (A : Option Addr) (n c : Nat) (w : World) (hc : n ≤ c) (hg : ¬ (Plain.Ok 1 t m nm n ∧ t.size ≤ 255 ∧ m.size ≤ 65535 ∧ n ≤ 500)) :
    Calls Try.prog 21 #[.agg #[.int .i64 1, .string t, .string m, .int .i64 nm, .slice A n c]] w fun e w' => e = .returned (.tuple #[.string ⟨#[]⟩, .bool false]) ∧ Below w.heap.size w w' := by
  by_cases z0 : m.toList = []
  · skip
    by_cases z1 : nm = 0
    · skip
      by_cases z2 : 255 < t.size
      · clear hg
        have b0 : (m.toList == ([] : List UInt8)) = true := beq_iff_eq.mpr z0
        have e0 : (m.toList != ([] : List UInt8)) = false := bne_eq_false_iff_eq.mpr z0
        have Z0 := Aside0.mk z0
        clear z0
        have b1 : (nm == 0) = true := beq_iff_eq.mpr z1
        have e1 : (nm != 0) = false := bne_eq_false_iff_eq.mpr z1
        clear z1
        obtain ⟨W1, hW1⟩ : ∃ W, w.alloc (.cells #[.int .i64 1, .string t, .string m, .int .i64 nm, .slice A n c] 29) = W := ⟨_, rfl⟩
        have hb1 : Below w.heap.size w W1 := by rw [← hW1]; exact (Below.refl _ w).alloc (Nat.le_refl _) _
        have hx1 : W1.heap[w.heap.size]? = some (.cells #[.int .i64 1, .string t, .string m, .int .i64 nm, .slice A n c] 29 (0, 0)) := by rw [← hW1]; exact blk_new w _
        have c0 : W1.cell? ⟨w.heap.size, 0, none⟩ = some (.int .i64 1) := (blk_cell hx1 0).trans rfl
        have c1 : W1.cell? ⟨w.heap.size, 1, none⟩ = some (.string t) := (blk_cell hx1 1).trans rfl
        have c2 : W1.cell? ⟨w.heap.size, 2, none⟩ = some (.string m) := (blk_cell hx1 2).trans rfl
        have c3 : W1.cell? ⟨w.heap.size, 3, none⟩ = some (.int .i64 nm) := (blk_cell hx1 3).trans rfl
        have c4 : W1.cell? ⟨w.heap.size, 4, none⟩ = some (.slice A n c) := (blk_cell hx1 4).trans rfl
        have HB1 := Aside0.mk hb1
        have HX1 := Aside0.mk hx1
        clear hb1 hx1
        go_enter Try.func21, Try.ntmps21
        go_wp2_with fail
        clear hW1
        refine (spec_l1Between.calls 1 1 6 true W1 (by rw [spec_l1Between.f]; simp)).mono ?_
        rintro e W2 ⟨rfl, hd2⟩
        have hb2 := hd2.below
        have hx2 := (hb2.block _ (blk_lt HX1.out)).trans HX1.out
        have HB2 := Aside0.mk (below_then HB1.out HB1.out.size hb2)
        have d0 : W2.cell? ⟨w.heap.size, 0, none⟩ = some (.int .i64 1) := (blk_cell hx2 0).trans rfl
        have d1 : W2.cell? ⟨w.heap.size, 1, none⟩ = some (.string t) := (blk_cell hx2 1).trans rfl
        have d2 : W2.cell? ⟨w.heap.size, 2, none⟩ = some (.string m) := (blk_cell hx2 2).trans rfl
        have d3 : W2.cell? ⟨w.heap.size, 3, none⟩ = some (.int .i64 nm) := (blk_cell hx2 3).trans rfl
        have d4 : W2.cell? ⟨w.heap.size, 4, none⟩ = some (.slice A n c) := (blk_cell hx2 4).trans rfl
        have HX2 := Aside0.mk hx2
        clear c0 c1 c2 c3 c4 hd2 hb2 hx2
        clear HX2
        go_wp2_with fail
        go_ret2
        exact ⟨rfl, HB2.out⟩
      · skip
        by_cases z3 : 65535 < m.size
        · clear hg
          have b0 : (m.toList == ([] : List UInt8)) = true := beq_iff_eq.mpr z0
          have e0 : (m.toList != ([] : List UInt8)) = false := bne_eq_false_iff_eq.mpr z0
          have Z0 := Aside0.mk z0
          clear z0
          have b1 : (nm == 0) = true := beq_iff_eq.mpr z1
          have e1 : (nm != 0) = false := bne_eq_false_iff_eq.mpr z1
          clear z1
          obtain ⟨W1, hW1⟩ : ∃ W, w.alloc (.cells #[.int .i64 1, .string t, .string m, .int .i64 nm, .slice A n c] 29) = W := ⟨_, rfl⟩
          have hb1 : Below w.heap.size w W1 := by rw [← hW1]; exact (Below.refl _ w).alloc (Nat.le_refl _) _
          have hx1 : W1.heap[w.heap.size]? = some (.cells #[.int .i64 1, .string t, .string m, .int .i64 nm, .slice A n c] 29 (0, 0)) := by rw [← hW1]; exact blk_new w _
          have c0 : W1.cell? ⟨w.heap.size, 0, none⟩ = some (.int .i64 1) := (blk_cell hx1 0).trans rfl
          have c1 : W1.cell? ⟨w.heap.size, 1, none⟩ = some (.string t) := (blk_cell hx1 1).trans rfl
          have c2 : W1.cell? ⟨w.heap.size, 2, none⟩ = some (.string m) := (blk_cell hx1 2).trans rfl
          have c3 : W1.cell? ⟨w.heap.size, 3, none⟩ = some (.int .i64 nm) := (blk_cell hx1 3).trans rfl
          have c4 : W1.cell? ⟨w.heap.size, 4, none⟩ = some (.slice A n c) := (blk_cell hx1 4).trans rfl
          have HB1 := Aside0.mk hb1
          have HX1 := Aside0.mk hx1
          clear hb1 hx1
          go_enter Try.func21, Try.ntmps21
          go_wp2_with fail
          clear hW1
          refine (spec_l1Between.calls 1 1 6 true W1 (by rw [spec_l1Between.f]; simp)).mono ?_
          rintro e W2 ⟨rfl, hd2⟩
          have hb2 := hd2.below
          have hx2 := (hb2.block _ (blk_lt HX1.out)).trans HX1.out
          have HB2 := Aside0.mk (below_then HB1.out HB1.out.size hb2)
          have d0 : W2.cell? ⟨w.heap.size, 0, none⟩ = some (.int .i64 1) := (blk_cell hx2 0).trans rfl
          have d1 : W2.cell? ⟨w.heap.size, 1, none⟩ = some (.string t) := (blk_cell hx2 1).trans rfl
          have d2 : W2.cell? ⟨w.heap.size, 2, none⟩ = some (.string m) := (blk_cell hx2 2).trans rfl
          have d3 : W2.cell? ⟨w.heap.size, 3, none⟩ = some (.int .i64 nm) := (blk_cell hx2 3).trans rfl
          have d4 : W2.cell? ⟨w.heap.size, 4, none⟩ = some (.slice A n c) := (blk_cell hx2 4).trans rfl
          have HX2 := Aside0.mk hx2
          clear c0 c1 c2 c3 c4 hd2 hb2 hx2
          clear HX2
          go_wp2_with fail
          go_ret2
          exact ⟨rfl, HB2.out⟩
        · skip
          by_cases z4 : 500 < n
          · clear hg
            have b0 : (m.toList == ([] : List UInt8)) = true := beq_iff_eq.mpr z0
            have e0 : (m.toList != ([] : List UInt8)) = false := bne_eq_false_iff_eq.mpr z0
            have Z0 := Aside0.mk z0
            clear z0
            have b1 : (nm == 0) = true := beq_iff_eq.mpr z1
            have e1 : (nm != 0) = false := bne_eq_false_iff_eq.mpr z1
            clear z1
            obtain ⟨W1, hW1⟩ : ∃ W, w.alloc (.cells #[.int .i64 1, .string t, .string m, .int .i64 nm, .slice A n c] 29) = W := ⟨_, rfl⟩
            have hb1 : Below w.heap.size w W1 := by rw [← hW1]; exact (Below.refl _ w).alloc (Nat.le_refl _) _
            have hx1 : W1.heap[w.heap.size]? = some (.cells #[.int .i64 1, .string t, .string m, .int .i64 nm, .slice A n c] 29 (0, 0)) := by rw [← hW1]; exact blk_new w _
            have c0 : W1.cell? ⟨w.heap.size, 0, none⟩ = some (.int .i64 1) := (blk_cell hx1 0).trans rfl
            have c1 : W1.cell? ⟨w.heap.size, 1, none⟩ = some (.string t) := (blk_cell hx1 1).trans rfl
            have c2 : W1.cell? ⟨w.heap.size, 2, none⟩ = some (.string m) := (blk_cell hx1 2).trans rfl
            have c3 : W1.cell? ⟨w.heap.size, 3, none⟩ = some (.int .i64 nm) := (blk_cell hx1 3).trans rfl
            have c4 : W1.cell? ⟨w.heap.size, 4, none⟩ = some (.slice A n c) := (blk_cell hx1 4).trans rfl
            have HB1 := Aside0.mk hb1
            have HX1 := Aside0.mk hx1
            clear hb1 hx1
            go_enter Try.func21, Try.ntmps21
            go_wp2_with fail
            clear hW1
            refine (spec_l1Between.calls 1 1 6 true W1 (by rw [spec_l1Between.f]; simp)).mono ?_
            rintro e W2 ⟨rfl, hd2⟩
            have hb2 := hd2.below
            have hx2 := (hb2.block _ (blk_lt HX1.out)).trans HX1.out
            have HB2 := Aside0.mk (below_then HB1.out HB1.out.size hb2)
            have d0 : W2.cell? ⟨w.heap.size, 0, none⟩ = some (.int .i64 1) := (blk_cell hx2 0).trans rfl
            have d1 : W2.cell? ⟨w.heap.size, 1, none⟩ = some (.string t) := (blk_cell hx2 1).trans rfl
            have d2 : W2.cell? ⟨w.heap.size, 2, none⟩ = some (.string m) := (blk_cell hx2 2).trans rfl
            have d3 : W2.cell? ⟨w.heap.size, 3, none⟩ = some (.int .i64 nm) := (blk_cell hx2 3).trans rfl
            have d4 : W2.cell? ⟨w.heap.size, 4, none⟩ = some (.slice A n c) := (blk_cell hx2 4).trans rfl
            have HX2 := Aside0.mk hx2
            clear c0 c1 c2 c3 c4 hd2 hb2 hx2
            clear HX2
            go_wp2_with fail
            go_ret2
            exact ⟨rfl, HB2.out⟩
          · skip
            exfalso; apply hg; unfold Plain.Ok; exact ⟨⟨by decide, by simp [*], by simp [*], by simp [*], by simp [*]⟩, by omega, by omega, by omega⟩
    · clear hg
      have b0 : (m.toList == ([] : List UInt8)) = true := beq_iff_eq.mpr z0
      have e0 : (m.toList != ([] : List UInt8)) = false := bne_eq_false_iff_eq.mpr z0
      have Z0 := Aside0.mk z0
      clear z0
      have b1 : (nm == 0) = false := beq_eq_false_iff_ne.mpr z1
      have e1 : (nm != 0) = true := bne_iff_ne.mpr z1
      obtain ⟨W1, hW1⟩ : ∃ W, w.alloc (.cells #[.int .i64 1, .string t, .string m, .int .i64 nm, .slice A n c] 29) = W := ⟨_, rfl⟩
      have hb1 : Below w.heap.size w W1 := by rw [← hW1]; exact (Below.refl _ w).alloc (Nat.le_refl _) _
      have hx1 : W1.heap[w.heap.size]? = some (.cells #[.int .i64 1, .string t, .string m, .int .i64 nm, .slice A n c] 29 (0, 0)) := by rw [← hW1]; exact blk_new w _
      have c0 : W1.cell? ⟨w.heap.size, 0, none⟩ = some (.int .i64 1) := (blk_cell hx1 0).trans rfl
      have c1 : W1.cell? ⟨w.heap.size, 1, none⟩ = some (.string t) := (blk_cell hx1 1).trans rfl
      have c2 : W1.cell? ⟨w.heap.size, 2, none⟩ = some (.string m) := (blk_cell hx1 2).trans rfl
      have c3 : W1.cell? ⟨w.heap.size, 3, none⟩ = some (.int .i64 nm) := (blk_cell hx1 3).trans rfl
      have c4 : W1.cell? ⟨w.heap.size, 4, none⟩ = some (.slice A n c) := (blk_cell hx1 4).trans rfl
      have HB1 := Aside0.mk hb1
      have HX1 := Aside0.mk hx1
      clear hb1 hx1
      go_enter Try.func21, Try.ntmps21
      go_wp2_with fail
      clear hW1
      refine (spec_l1Between.calls 1 1 6 true W1 (by rw [spec_l1Between.f]; simp)).mono ?_
      rintro e W2 ⟨rfl, hd2⟩
      have hb2 := hd2.below
      have hx2 := (hb2.block _ (blk_lt HX1.out)).trans HX1.out
      have HB2 := Aside0.mk (below_then HB1.out HB1.out.size hb2)
      have d0 : W2.cell? ⟨w.heap.size, 0, none⟩ = some (.int .i64 1) := (blk_cell hx2 0).trans rfl
      have d1 : W2.cell? ⟨w.heap.size, 1, none⟩ = some (.string t) := (blk_cell hx2 1).trans rfl
      have d2 : W2.cell? ⟨w.heap.size, 2, none⟩ = some (.string m) := (blk_cell hx2 2).trans rfl
      have d3 : W2.cell? ⟨w.heap.size, 3, none⟩ = some (.int .i64 nm) := (blk_cell hx2 3).trans rfl
      have d4 : W2.cell? ⟨w.heap.size, 4, none⟩ = some (.slice A n c) := (blk_cell hx2 4).trans rfl
      have HX2 := Aside0.mk hx2
      clear c0 c1 c2 c3 c4 hd2 hb2 hx2
      clear HX2
      go_wp2_with fail
      go_ret2
      exact ⟨rfl, HB2.out⟩
  · clear hg
    have b0 : (m.toList == ([] : List UInt8)) = false := beq_eq_false_iff_ne.mpr z0
    have e0 : (m.toList != ([] : List UInt8)) = true := bne_iff_ne.mpr z0
    obtain ⟨W1, hW1⟩ : ∃ W, w.alloc (.cells #[.int .i64 1, .string t, .string m, .int .i64 nm, .slice A n c] 29) = W := ⟨_, rfl⟩
    have hb1 : Below w.heap.size w W1 := by rw [← hW1]; exact (Below.refl _ w).alloc (Nat.le_refl _) _
    have hx1 : W1.heap[w.heap.size]? = some (.cells #[.int .i64 1, .string t, .string m, .int .i64 nm, .slice A n c] 29 (0, 0)) := by rw [← hW1]; exact blk_new w _
    have c0 : W1.cell? ⟨w.heap.size, 0, none⟩ = some (.int .i64 1) := (blk_cell hx1 0).trans rfl
    have c1 : W1.cell? ⟨w.heap.size, 1, none⟩ = some (.string t) := (blk_cell hx1 1).trans rfl
    have c2 : W1.cell? ⟨w.heap.size, 2, none⟩ = some (.string m) := (blk_cell hx1 2).trans rfl
    have c3 : W1.cell? ⟨w.heap.size, 3, none⟩ = some (.int .i64 nm) := (blk_cell hx1 3).trans rfl
    have c4 : W1.cell? ⟨w.heap.size, 4, none⟩ = some (.slice A n c) := (blk_cell hx1 4).trans rfl
    have HB1 := Aside0.mk hb1
    have HX1 := Aside0.mk hx1
    clear hb1 hx1
    go_enter Try.func21, Try.ntmps21
    go_wp2_with fail
    clear hW1
    refine (spec_l1Between.calls 1 1 6 true W1 (by rw [spec_l1Between.f]; simp)).mono ?_
    rintro e W2 ⟨rfl, hd2⟩
    have hb2 := hd2.below
    have hx2 := (hb2.block _ (blk_lt HX1.out)).trans HX1.out
    have HB2 := Aside0.mk (below_then HB1.out HB1.out.size hb2)
    have d0 : W2.cell? ⟨w.heap.size, 0, none⟩ = some (.int .i64 1) := (blk_cell hx2 0).trans rfl
    have d1 : W2.cell? ⟨w.heap.size, 1, none⟩ = some (.string t) := (blk_cell hx2 1).trans rfl
    have d2 : W2.cell? ⟨w.heap.size, 2, none⟩ = some (.string m) := (blk_cell hx2 2).trans rfl
    have d3 : W2.cell? ⟨w.heap.size, 3, none⟩ = some (.int .i64 nm) := (blk_cell hx2 3).trans rfl
    have d4 : W2.cell? ⟨w.heap.size, 4, none⟩ = some (.slice A n c) := (blk_cell hx2 4).trans rfl
    have HX2 := Aside0.mk hx2
    clear c0 c1 c2 c3 c4 hd2 hb2 hx2
    clear HX2
    go_wp2_with fail
    go_ret2
    exact ⟨rfl, HB2.out⟩

set_option maxHeartbeats 4000000 in
set_option maxRecDepth 100000 in
theorem l6_bad2 (t m : ByteArray) (nm : Int) (A : Option Addr) (n c : Nat) (w : World) (hc : n ≤ c) (hg : ¬ (Plain.Ok 2 t m nm n ∧ t.size ≤ 255 ∧ m.size ≤ 65535 ∧ n ≤ 500)) :
    Calls Try.prog 21 #[.agg #[.int .i64 2, .string t, .string m, .int .i64 nm, .slice A n c]] w fun e w' => e = .returned (.tuple #[.string ⟨#[]⟩, .bool false]) ∧ Below w.heap.size w w' := by
  by_cases z0 : t.toList = []
  · skip
    by_cases z1 : m.toList = []
    · skip
      by_cases z2 : n = 0
      · skip
        by_cases z3 : 255 < t.size
        · clear hg
          have b0 : (t.toList == ([] : List UInt8)) = true := beq_iff_eq.mpr z0
          have e0 : (t.toList != ([] : List UInt8)) = false := bne_eq_false_iff_eq.mpr z0
          have Z0 := Aside0.mk z0
          clear z0
          have b1 : (m.toList == ([] : List UInt8)) = true := beq_iff_eq.mpr z1
          have e1 : (m.toList != ([] : List UInt8)) = false := bne_eq_false_iff_eq.mpr z1
          have Z1 := Aside0.mk z1
          clear z1
          have b2 : ((n : Int) == 0) = true := beq_iff_eq.mpr (by omega)
          have e2 : ((n : Int) != 0) = false := bne_eq_false_iff_eq.mpr (by omega)
          clear z2
          obtain ⟨W1, hW1⟩ : ∃ W, w.alloc (.cells #[.int .i64 2, .string t, .string m, .int .i64 nm, .slice A n c] 29) = W := ⟨_, rfl⟩
          have hb1 : Below w.heap.size w W1 := by rw [← hW1]; exact (Below.refl _ w).alloc (Nat.le_refl _) _
          have hx1 : W1.heap[w.heap.size]? = some (.cells #[.int .i64 2, .string t, .string m, .int .i64 nm, .slice A n c] 29 (0, 0)) := by rw [← hW1]; exact blk_new w _
          have c0 : W1.cell? ⟨w.heap.size, 0, none⟩ = some (.int .i64 2) := (blk_cell hx1 0).trans rfl
          have c1 : W1.cell? ⟨w.heap.size, 1, none⟩ = some (.string t) := (blk_cell hx1 1).trans rfl
          have c2 : W1.cell? ⟨w.heap.size, 2, none⟩ = some (.string m) := (blk_cell hx1 2).trans rfl
          have c3 : W1.cell? ⟨w.heap.size, 3, none⟩ = some (.int .i64 nm) := (blk_cell hx1 3).trans rfl
          have c4 : W1.cell? ⟨w.heap.size, 4, none⟩ = some (.slice A n c) := (blk_cell hx1 4).trans rfl
          have HB1 := Aside0.mk hb1
          have HX1 := Aside0.mk hx1
          clear hb1 hx1
          go_enter Try.func21, Try.ntmps21
          go_wp2_with fail
          clear hW1
          refine (spec_l1Between.calls 2 1 6 true W1 (by rw [spec_l1Between.f]; simp)).mono ?_
          rintro e W2 ⟨rfl, hd2⟩
          have hb2 := hd2.below
          have hx2 := (hb2.block _ (blk_lt HX1.out)).trans HX1.out
          have HB2 := Aside0.mk (below_then HB1.out HB1.out.size hb2)
          have d0 : W2.cell? ⟨w.heap.size, 0, none⟩ = some (.int .i64 2) := (blk_cell hx2 0).trans rfl
          have d1 : W2.cell? ⟨w.heap.size, 1, none⟩ = some (.string t) := (blk_cell hx2 1).trans rfl
          have d2 : W2.cell? ⟨w.heap.size, 2, none⟩ = some (.string m) := (blk_cell hx2 2).trans rfl
          have d3 : W2.cell? ⟨w.heap.size, 3, none⟩ = some (.int .i64 nm) := (blk_cell hx2 3).trans rfl
          have d4 : W2.cell? ⟨w.heap.size, 4, none⟩ = some (.slice A n c) := (blk_cell hx2 4).trans rfl
          have HX2 := Aside0.mk hx2
          clear c0 c1 c2 c3 c4 hd2 hb2 hx2
          clear HX2
          go_wp2_with fail
          go_ret2
          exact ⟨rfl, HB2.out⟩
        · skip
          by_cases z4 : 65535 < m.size
          · clear hg
            have b0 : (t.toList == ([] : List UInt8)) = true := beq_iff_eq.mpr z0
            have e0 : (t.toList != ([] : List UInt8)) = false := bne_eq_false_iff_eq.mpr z0
            have Z0 := Aside0.mk z0
            clear z0
            have b1 : (m.toList == ([] : List UInt8)) = true := beq_iff_eq.mpr z1
            have e1 : (m.toList != ([] : List UInt8)) = false := bne_eq_false_iff_eq.mpr z1
            have Z1 := Aside0.mk z1
            clear z1
            have b2 : ((n : Int) == 0) = true := beq_iff_eq.mpr (by omega)
            have e2 : ((n : Int) != 0) = false := bne_eq_false_iff_eq.mpr (by omega)
            clear z2
            obtain ⟨W1, hW1⟩ : ∃ W, w.alloc (.cells #[.int .i64 2, .string t, .string m, .int .i64 nm, .slice A n c] 29) = W := ⟨_, rfl⟩
            have hb1 : Below w.heap.size w W1 := by rw [← hW1]; exact (Below.refl _ w).alloc (Nat.le_refl _) _
            have hx1 : W1.heap[w.heap.size]? = some (.cells #[.int .i64 2, .string t, .string m, .int .i64 nm, .slice A n c] 29 (0, 0)) := by rw [← hW1]; exact blk_new w _
            have c0 : W1.cell? ⟨w.heap.size, 0, none⟩ = some (.int .i64 2) := (blk_cell hx1 0).trans rfl
            have c1 : W1.cell? ⟨w.heap.size, 1, none⟩ = some (.string t) := (blk_cell hx1 1).trans rfl
            have c2 : W1.cell? ⟨w.heap.size, 2, none⟩ = some (.string m) := (blk_cell hx1 2).trans rfl
            have c3 : W1.cell? ⟨w.heap.size, 3, none⟩ = some (.int .i64 nm) := (blk_cell hx1 3).trans rfl
            have c4 : W1.cell? ⟨w.heap.size, 4, none⟩ = some (.slice A n c) := (blk_cell hx1 4).trans rfl
            have HB1 := Aside0.mk hb1
            have HX1 := Aside0.mk hx1
            clear hb1 hx1
            go_enter Try.func21, Try.ntmps21
            go_wp2_with fail
            clear hW1
            refine (spec_l1Between.calls 2 1 6 true W1 (by rw [spec_l1Between.f]; simp)).mono ?_
            rintro e W2 ⟨rfl, hd2⟩
            have hb2 := hd2.below
            have hx2 := (hb2.block _ (blk_lt HX1.out)).trans HX1.out
            have HB2 := Aside0.mk (below_then HB1.out HB1.out.size hb2)
            have d0 : W2.cell? ⟨w.heap.size, 0, none⟩ = some (.int .i64 2) := (blk_cell hx2 0).trans rfl
            have d1 : W2.cell? ⟨w.heap.size, 1, none⟩ = some (.string t) := (blk_cell hx2 1).trans rfl
            have d2 : W2.cell? ⟨w.heap.size, 2, none⟩ = some (.string m) := (blk_cell hx2 2).trans rfl
            have d3 : W2.cell? ⟨w.heap.size, 3, none⟩ = some (.int .i64 nm) := (blk_cell hx2 3).trans rfl
            have d4 : W2.cell? ⟨w.heap.size, 4, none⟩ = some (.slice A n c) := (blk_cell hx2 4).trans rfl
            have HX2 := Aside0.mk hx2
            clear c0 c1 c2 c3 c4 hd2 hb2 hx2
            clear HX2
            go_wp2_with fail
            go_ret2
            exact ⟨rfl, HB2.out⟩
          · skip
            by_cases z5 : 500 < n
            · clear hg
              have b0 : (t.toList == ([] : List UInt8)) = true := beq_iff_eq.mpr z0
              have e0 : (t.toList != ([] : List UInt8)) = false := bne_eq_false_iff_eq.mpr z0
              have Z0 := Aside0.mk z0
              clear z0
              have b1 : (m.toList == ([] : List UInt8)) = true := beq_iff_eq.mpr z1
              have e1 : (m.toList != ([] : List UInt8)) = false := bne_eq_false_iff_eq.mpr z1
              have Z1 := Aside0.mk z1
              clear z1
              have b2 : ((n : Int) == 0) = true := beq_iff_eq.mpr (by omega)
              have e2 : ((n : Int) != 0) = false := bne_eq_false_iff_eq.mpr (by omega)
              clear z2
              obtain ⟨W1, hW1⟩ : ∃ W, w.alloc (.cells #[.int .i64 2, .string t, .string m, .int .i64 nm, .slice A n c] 29) = W := ⟨_, rfl⟩
              have hb1 : Below w.heap.size w W1 := by rw [← hW1]; exact (Below.refl _ w).alloc (Nat.le_refl _) _
              have hx1 : W1.heap[w.heap.size]? = some (.cells #[.int .i64 2, .string t, .string m, .int .i64 nm, .slice A n c] 29 (0, 0)) := by rw [← hW1]; exact blk_new w _
              have c0 : W1.cell? ⟨w.heap.size, 0, none⟩ = some (.int .i64 2) := (blk_cell hx1 0).trans rfl
              have c1 : W1.cell? ⟨w.heap.size, 1, none⟩ = some (.string t) := (blk_cell hx1 1).trans rfl
              have c2 : W1.cell? ⟨w.heap.size, 2, none⟩ = some (.string m) := (blk_cell hx1 2).trans rfl
              have c3 : W1.cell? ⟨w.heap.size, 3, none⟩ = some (.int .i64 nm) := (blk_cell hx1 3).trans rfl
              have c4 : W1.cell? ⟨w.heap.size, 4, none⟩ = some (.slice A n c) := (blk_cell hx1 4).trans rfl
              have HB1 := Aside0.mk hb1
              have HX1 := Aside0.mk hx1
              clear hb1 hx1
              go_enter Try.func21, Try.ntmps21
              go_wp2_with fail
              clear hW1
              refine (spec_l1Between.calls 2 1 6 true W1 (by rw [spec_l1Between.f]; simp)).mono ?_
              rintro e W2 ⟨rfl, hd2⟩
              have hb2 := hd2.below
              have hx2 := (hb2.block _ (blk_lt HX1.out)).trans HX1.out
              have HB2 := Aside0.mk (below_then HB1.out HB1.out.size hb2)
              have d0 : W2.cell? ⟨w.heap.size, 0, none⟩ = some (.int .i64 2) := (blk_cell hx2 0).trans rfl
              have d1 : W2.cell? ⟨w.heap.size, 1, none⟩ = some (.string t) := (blk_cell hx2 1).trans rfl
              have d2 : W2.cell? ⟨w.heap.size, 2, none⟩ = some (.string m) := (blk_cell hx2 2).trans rfl
              have d3 : W2.cell? ⟨w.heap.size, 3, none⟩ = some (.int .i64 nm) := (blk_cell hx2 3).trans rfl
              have d4 : W2.cell? ⟨w.heap.size, 4, none⟩ = some (.slice A n c) := (blk_cell hx2 4).trans rfl
              have HX2 := Aside0.mk hx2
              clear c0 c1 c2 c3 c4 hd2 hb2 hx2
              clear HX2
              go_wp2_with fail
              go_ret2
              exact ⟨rfl, HB2.out⟩
            · skip
              exfalso; apply hg; unfold Plain.Ok; exact ⟨⟨by decide, by simp [*], by simp [*], by simp [*], by simp [*]⟩, by omega, by omega, by omega⟩
      · clear hg
        have b0 : (t.toList == ([] : List UInt8)) = true := beq_iff_eq.mpr z0
        have e0 : (t.toList != ([] : List UInt8)) = false := bne_eq_false_iff_eq.mpr z0
        have Z0 := Aside0.mk z0
        clear z0
        have b1 : (m.toList == ([] : List UInt8)) = true := beq_iff_eq.mpr z1
        have e1 : (m.toList != ([] : List UInt8)) = false := bne_eq_false_iff_eq.mpr z1
        have Z1 := Aside0.mk z1
        clear z1
        have b2 : ((n : Int) == 0) = false := beq_eq_false_iff_ne.mpr (by omega)
        have e2 : ((n : Int) != 0) = true := bne_iff_ne.mpr (by omega)
        obtain ⟨W1, hW1⟩ : ∃ W, w.alloc (.cells #[.int .i64 2, .string t, .string m, .int .i64 nm, .slice A n c] 29) = W := ⟨_, rfl⟩
        have hb1 : Below w.heap.size w W1 := by rw [← hW1]; exact (Below.refl _ w).alloc (Nat.le_refl _) _
        have hx1 : W1.heap[w.heap.size]? = some (.cells #[.int .i64 2, .string t, .string m, .int .i64 nm, .slice A n c] 29 (0, 0)) := by rw [← hW1]; exact blk_new w _
        have c0 : W1.cell? ⟨w.heap.size, 0, none⟩ = some (.int .i64 2) := (blk_cell hx1 0).trans rfl
        have c1 : W1.cell? ⟨w.heap.size, 1, none⟩ = some (.string t) := (blk_cell hx1 1).trans rfl
        have c2 : W1.cell? ⟨w.heap.size, 2, none⟩ = some (.string m) := (blk_cell hx1 2).trans rfl
        have c3 : W1.cell? ⟨w.heap.size, 3, none⟩ = some (.int .i64 nm) := (blk_cell hx1 3).trans rfl
        have c4 : W1.cell? ⟨w.heap.size, 4, none⟩ = some (.slice A n c) := (blk_cell hx1 4).trans rfl
        have HB1 := Aside0.mk hb1
        have HX1 := Aside0.mk hx1
        clear hb1 hx1
        go_enter Try.func21, Try.ntmps21
        go_wp2_with fail
        clear hW1
        refine (spec_l1Between.calls 2 1 6 true W1 (by rw [spec_l1Between.f]; simp)).mono ?_
        rintro e W2 ⟨rfl, hd2⟩
        have hb2 := hd2.below
        have hx2 := (hb2.block _ (blk_lt HX1.out)).trans HX1.out
        have HB2 := Aside0.mk (below_then HB1.out HB1.out.size hb2)
        have d0 : W2.cell? ⟨w.heap.size, 0, none⟩ = some (.int .i64 2) := (blk_cell hx2 0).trans rfl
        have d1 : W2.cell? ⟨w.heap.size, 1, none⟩ = some (.string t) := (blk_cell hx2 1).trans rfl
        have d2 : W2.cell? ⟨w.heap.size, 2, none⟩ = some (.string m) := (blk_cell hx2 2).trans rfl
        have d3 : W2.cell? ⟨w.heap.size, 3, none⟩ = some (.int .i64 nm) := (blk_cell hx2 3).trans rfl
        have d4 : W2.cell? ⟨w.heap.size, 4, none⟩ = some (.slice A n c) := (blk_cell hx2 4).trans rfl
        have HX2 := Aside0.mk hx2
        clear c0 c1 c2 c3 c4 hd2 hb2 hx2
        clear HX2
        go_wp2_with fail
        go_ret2
        exact ⟨rfl, HB2.out⟩
    · clear hg
      have b0 : (t.toList == ([] : List UInt8)) = true := beq_iff_eq.mpr z0
      have e0 : (t.toList != ([] : List UInt8)) = false := bne_eq_false_iff_eq.mpr z0
      have Z0 := Aside0.mk z0
      clear z0
      have b1 : (m.toList == ([] : List UInt8)) = false := beq_eq_false_iff_ne.mpr z1
      have e1 : (m.toList != ([] : List UInt8)) = true := bne_iff_ne.mpr z1
      obtain ⟨W1, hW1⟩ : ∃ W, w.alloc (.cells #[.int .i64 2, .string t, .string m, .int .i64 nm, .slice A n c] 29) = W := ⟨_, rfl⟩
      have hb1 : Below w.heap.size w W1 := by rw [← hW1]; exact (Below.refl _ w).alloc (Nat.le_refl _) _
      have hx1 : W1.heap[w.heap.size]? = some (.cells #[.int .i64 2, .string t, .string m, .int .i64 nm, .slice A n c] 29 (0, 0)) := by rw [← hW1]; exact blk_new w _
      have c0 : W1.cell? ⟨w.heap.size, 0, none⟩ = some (.int .i64 2) := (blk_cell hx1 0).trans rfl
      have c1 : W1.cell? ⟨w.heap.size, 1, none⟩ = some (.string t) := (blk_cell hx1 1).trans rfl
      have c2 : W1.cell? ⟨w.heap.size, 2, none⟩ = some (.string m) := (blk_cell hx1 2).trans rfl
      have c3 : W1.cell? ⟨w.heap.size, 3, none⟩ = some (.int .i64 nm) := (blk_cell hx1 3).trans rfl
      have c4 : W1.cell? ⟨w.heap.size, 4, none⟩ = some (.slice A n c) := (blk_cell hx1 4).trans rfl
      have HB1 := Aside0.mk hb1
      have HX1 := Aside0.mk hx1
      clear hb1 hx1
      go_enter Try.func21, Try.ntmps21
      go_wp2_with fail
      clear hW1
      refine (spec_l1Between.calls 2 1 6 true W1 (by rw [spec_l1Between.f]; simp)).mono ?_
      rintro e W2 ⟨rfl, hd2⟩
      have hb2 := hd2.below
      have hx2 := (hb2.block _ (blk_lt HX1.out)).trans HX1.out
      have HB2 := Aside0.mk (below_then HB1.out HB1.out.size hb2)
      have d0 : W2.cell? ⟨w.heap.size, 0, none⟩ = some (.int .i64 2) := (blk_cell hx2 0).trans rfl
      have d1 : W2.cell? ⟨w.heap.size, 1, none⟩ = some (.string t) := (blk_cell hx2 1).trans rfl
      have d2 : W2.cell? ⟨w.heap.size, 2, none⟩ = some (.string m) := (blk_cell hx2 2).trans rfl
      have d3 : W2.cell? ⟨w.heap.size, 3, none⟩ = some (.int .i64 nm) := (blk_cell hx2 3).trans rfl
      have d4 : W2.cell? ⟨w.heap.size, 4, none⟩ = some (.slice A n c) := (blk_cell hx2 4).trans rfl
      have HX2 := Aside0.mk hx2
      clear c0 c1 c2 c3 c4 hd2 hb2 hx2
      clear HX2
      go_wp2_with fail
      go_ret2
      exact ⟨rfl, HB2.out⟩
  · clear hg
    have b0 : (t.toList == ([] : List UInt8)) = false := beq_eq_false_iff_ne.mpr z0
    have e0 : (t.toList != ([] : List UInt8)) = true := bne_iff_ne.mpr z0
    obtain ⟨W1, hW1⟩ : ∃ W, w.alloc (.cells #[.int .i64 2, .string t, .string m, .int .i64 nm, .slice A n c] 29) = W := ⟨_, rfl⟩
    have hb1 : Below w.heap.size w W1 := by rw [← hW1]; exact (Below.refl _ w).alloc (Nat.le_refl _) _
    have hx1 : W1.heap[w.heap.size]? = some (.cells #[.int .i64 2, .string t, .string m, .int .i64 nm, .slice A n c] 29 (0, 0)) := by rw [← hW1]; exact blk_new w _
    have c0 : W1.cell? ⟨w.heap.size, 0, none⟩ = some (.int .i64 2) := (blk_cell hx1 0).trans rfl
    have c1 : W1.cell? ⟨w.heap.size, 1, none⟩ = some (.string t) := (blk_cell hx1 1).trans rfl
    have c2 : W1.cell? ⟨w.heap.size, 2, none⟩ = some (.string m) := (blk_cell hx1 2).trans rfl
    have c3 : W1.cell? ⟨w.heap.size, 3, none⟩ = some (.int .i64 nm) := (blk_cell hx1 3).trans rfl
    have c4 : W1.cell? ⟨w.heap.size, 4, none⟩ = some (.slice A n c) := (blk_cell hx1 4).trans rfl
    have HB1 := Aside0.mk hb1
    have HX1 := Aside0.mk hx1
    clear hb1 hx1
    go_enter Try.func21, Try.ntmps21
    go_wp2_with fail
    clear hW1
    refine (spec_l1Between.calls 2 1 6 true W1 (by rw [spec_l1Between.f]; simp)).mono ?_
    rintro e W2 ⟨rfl, hd2⟩
    have hb2 := hd2.below
    have hx2 := (hb2.block _ (blk_lt HX1.out)).trans HX1.out
    have HB2 := Aside0.mk (below_then HB1.out HB1.out.size hb2)
    have d0 : W2.cell? ⟨w.heap.size, 0, none⟩ = some (.int .i64 2) := (blk_cell hx2 0).trans rfl
    have d1 : W2.cell? ⟨w.heap.size, 1, none⟩ = some (.string t) := (blk_cell hx2 1).trans rfl
    have d2 : W2.cell? ⟨w.heap.size, 2, none⟩ = some (.string m) := (blk_cell hx2 2).trans rfl
    have d3 : W2.cell? ⟨w.heap.size, 3, none⟩ = some (.int .i64 nm) := (blk_cell hx2 3).trans rfl
    have d4 : W2.cell? ⟨w.heap.size, 4, none⟩ = some (.slice A n c) := (blk_cell hx2 4).trans rfl
    have HX2 := Aside0.mk hx2
    clear c0 c1 c2 c3 c4 hd2 hb2 hx2
    clear HX2
    go_wp2_with fail
    go_ret2
    exact ⟨rfl, HB2.out⟩

set_option maxHeartbeats 4000000 in
set_option maxRecDepth 100000 in
theorem l6_bad3 (t m : ByteArray) (nm : Int) (A : Option Addr) (n c : Nat) (w : World) (hc : n ≤ c) (hg : ¬ (Plain.Ok 3 t m nm n ∧ t.size ≤ 255 ∧ m.size ≤ 65535 ∧ n ≤ 500)) :
    Calls Try.prog 21 #[.agg #[.int .i64 3, .string t, .string m, .int .i64 nm, .slice A n c]] w fun e w' => e = .returned (.tuple #[.string ⟨#[]⟩, .bool false]) ∧ Below w.heap.size w w' := by
  by_cases z0 : n = 0
  · skip
    by_cases z1 : 255 < t.size
    · clear hg
      have b0 : ((n : Int) == 0) = true := beq_iff_eq.mpr (by omega)
      have e0 : ((n : Int) != 0) = false := bne_eq_false_iff_eq.mpr (by omega)
      clear z0
      obtain ⟨W1, hW1⟩ : ∃ W, w.alloc (.cells #[.int .i64 3, .string t, .string m, .int .i64 nm, .slice A n c] 29) = W := ⟨_, rfl⟩
      have hb1 : Below w.heap.size w W1 := by rw [← hW1]; exact (Below.refl _ w).alloc (Nat.le_refl _) _
      have hx1 : W1.heap[w.heap.size]? = some (.cells #[.int .i64 3, .string t, .string m, .int .i64 nm, .slice A n c] 29 (0, 0)) := by rw [← hW1]; exact blk_new w _
      have c0 : W1.cell? ⟨w.heap.size, 0, none⟩ = some (.int .i64 3) := (blk_cell hx1 0).trans rfl
      have c1 : W1.cell? ⟨w.heap.size, 1, none⟩ = some (.string t) := (blk_cell hx1 1).trans rfl
      have c2 : W1.cell? ⟨w.heap.size, 2, none⟩ = some (.string m) := (blk_cell hx1 2).trans rfl
      have c3 : W1.cell? ⟨w.heap.size, 3, none⟩ = some (.int .i64 nm) := (blk_cell hx1 3).trans rfl
      have c4 : W1.cell? ⟨w.heap.size, 4, none⟩ = some (.slice A n c) := (blk_cell hx1 4).trans rfl
      have HB1 := Aside0.mk hb1
      have HX1 := Aside0.mk hx1
      clear hb1 hx1
      go_enter Try.func21, Try.ntmps21
      go_wp2_with fail
      clear hW1
      refine (spec_l1Between.calls 3 1 6 true W1 (by rw [spec_l1Between.f]; simp)).mono ?_
      rintro e W2 ⟨rfl, hd2⟩
      have hb2 := hd2.below
      have hx2 := (hb2.block _ (blk_lt HX1.out)).trans HX1.out
      have HB2 := Aside0.mk (below_then HB1.out HB1.out.size hb2)
      have d0 : W2.cell? ⟨w.heap.size, 0, none⟩ = some (.int .i64 3) := (blk_cell hx2 0).trans rfl
      have d1 : W2.cell? ⟨w.heap.size, 1, none⟩ = some (.string t) := (blk_cell hx2 1).trans rfl
      have d2 : W2.cell? ⟨w.heap.size, 2, none⟩ = some (.string m) := (blk_cell hx2 2).trans rfl
      have d3 : W2.cell? ⟨w.heap.size, 3, none⟩ = some (.int .i64 nm) := (blk_cell hx2 3).trans rfl
      have d4 : W2.cell? ⟨w.heap.size, 4, none⟩ = some (.slice A n c) := (blk_cell hx2 4).trans rfl
      have HX2 := Aside0.mk hx2
      clear c0 c1 c2 c3 c4 hd2 hb2 hx2
      clear HX2
      go_wp2_with fail
      go_ret2
      exact ⟨rfl, HB2.out⟩
    · skip
      by_cases z2 : 65535 < m.size
      · clear hg
        have b0 : ((n : Int) == 0) = true := beq_iff_eq.mpr (by omega)
        have e0 : ((n : Int) != 0) = false := bne_eq_false_iff_eq.mpr (by omega)
        clear z0
        obtain ⟨W1, hW1⟩ : ∃ W, w.alloc (.cells #[.int .i64 3, .string t, .string m, .int .i64 nm, .slice A n c] 29) = W := ⟨_, rfl⟩
        have hb1 : Below w.heap.size w W1 := by rw [← hW1]; exact (Below.refl _ w).alloc (Nat.le_refl _) _
        have hx1 : W1.heap[w.heap.size]? = some (.cells #[.int .i64 3, .string t, .string m, .int .i64 nm, .slice A n c] 29 (0, 0)) := by rw [← hW1]; exact blk_new w _
        have c0 : W1.cell? ⟨w.heap.size, 0, none⟩ = some (.int .i64 3) := (blk_cell hx1 0).trans rfl
        have c1 : W1.cell? ⟨w.heap.size, 1, none⟩ = some (.string t) := (blk_cell hx1 1).trans rfl
        have c2 : W1.cell? ⟨w.heap.size, 2, none⟩ = some (.string m) := (blk_cell hx1 2).trans rfl
        have c3 : W1.cell? ⟨w.heap.size, 3, none⟩ = some (.int .i64 nm) := (blk_cell hx1 3).trans rfl
        have c4 : W1.cell? ⟨w.heap.size, 4, none⟩ = some (.slice A n c) := (blk_cell hx1 4).trans rfl
        have HB1 := Aside0.mk hb1
        have HX1 := Aside0.mk hx1
        clear hb1 hx1
        go_enter Try.func21, Try.ntmps21
        go_wp2_with fail
        clear hW1
        refine (spec_l1Between.calls 3 1 6 true W1 (by rw [spec_l1Between.f]; simp)).mono ?_
        rintro e W2 ⟨rfl, hd2⟩
        have hb2 := hd2.below
        have hx2 := (hb2.block _ (blk_lt HX1.out)).trans HX1.out
        have HB2 := Aside0.mk (below_then HB1.out HB1.out.size hb2)
        have d0 : W2.cell? ⟨w.heap.size, 0, none⟩ = some (.int .i64 3) := (blk_cell hx2 0).trans rfl
        have d1 : W2.cell? ⟨w.heap.size, 1, none⟩ = some (.string t) := (blk_cell hx2 1).trans rfl
        have d2 : W2.cell? ⟨w.heap.size, 2, none⟩ = some (.string m) := (blk_cell hx2 2).trans rfl
        have d3 : W2.cell? ⟨w.heap.size, 3, none⟩ = some (.int .i64 nm) := (blk_cell hx2 3).trans rfl
        have d4 : W2.cell? ⟨w.heap.size, 4, none⟩ = some (.slice A n c) := (blk_cell hx2 4).trans rfl
        have HX2 := Aside0.mk hx2
        clear c0 c1 c2 c3 c4 hd2 hb2 hx2
        clear HX2
        go_wp2_with fail
        go_ret2
        exact ⟨rfl, HB2.out⟩
      · skip
        by_cases z3 : 500 < n
        · clear hg
          have b0 : ((n : Int) == 0) = true := beq_iff_eq.mpr (by omega)
          have e0 : ((n : Int) != 0) = false := bne_eq_false_iff_eq.mpr (by omega)
          clear z0
          obtain ⟨W1, hW1⟩ : ∃ W, w.alloc (.cells #[.int .i64 3, .string t, .string m, .int .i64 nm, .slice A n c] 29) = W := ⟨_, rfl⟩
          have hb1 : Below w.heap.size w W1 := by rw [← hW1]; exact (Below.refl _ w).alloc (Nat.le_refl _) _
          have hx1 : W1.heap[w.heap.size]? = some (.cells #[.int .i64 3, .string t, .string m, .int .i64 nm, .slice A n c] 29 (0, 0)) := by rw [← hW1]; exact blk_new w _
          have c0 : W1.cell? ⟨w.heap.size, 0, none⟩ = some (.int .i64 3) := (blk_cell hx1 0).trans rfl
          have c1 : W1.cell? ⟨w.heap.size, 1, none⟩ = some (.string t) := (blk_cell hx1 1).trans rfl
          have c2 : W1.cell? ⟨w.heap.size, 2, none⟩ = some (.string m) := (blk_cell hx1 2).trans rfl
          have c3 : W1.cell? ⟨w.heap.size, 3, none⟩ = some (.int .i64 nm) := (blk_cell hx1 3).trans rfl
          have c4 : W1.cell? ⟨w.heap.size, 4, none⟩ = some (.slice A n c) := (blk_cell hx1 4).trans rfl
          have HB1 := Aside0.mk hb1
          have HX1 := Aside0.mk hx1
          clear hb1 hx1
          go_enter Try.func21, Try.ntmps21
          go_wp2_with fail
          clear hW1
          refine (spec_l1Between.calls 3 1 6 true W1 (by rw [spec_l1Between.f]; simp)).mono ?_
          rintro e W2 ⟨rfl, hd2⟩
          have hb2 := hd2.below
          have hx2 := (hb2.block _ (blk_lt HX1.out)).trans HX1.out
          have HB2 := Aside0.mk (below_then HB1.out HB1.out.size hb2)
          have d0 : W2.cell? ⟨w.heap.size, 0, none⟩ = some (.int .i64 3) := (blk_cell hx2 0).trans rfl
          have d1 : W2.cell? ⟨w.heap.size, 1, none⟩ = some (.string t) := (blk_cell hx2 1).trans rfl
          have d2 : W2.cell? ⟨w.heap.size, 2, none⟩ = some (.string m) := (blk_cell hx2 2).trans rfl
          have d3 : W2.cell? ⟨w.heap.size, 3, none⟩ = some (.int .i64 nm) := (blk_cell hx2 3).trans rfl
          have d4 : W2.cell? ⟨w.heap.size, 4, none⟩ = some (.slice A n c) := (blk_cell hx2 4).trans rfl
          have HX2 := Aside0.mk hx2
          clear c0 c1 c2 c3 c4 hd2 hb2 hx2
          clear HX2
          go_wp2_with fail
          go_ret2
          exact ⟨rfl, HB2.out⟩
        · skip
          exfalso; apply hg; unfold Plain.Ok; exact ⟨⟨by decide, by simp [*], by simp [*], by simp [*], by simp [*]⟩, by omega, by omega, by omega⟩
  · clear hg
    have b0 : ((n : Int) == 0) = false := beq_eq_false_iff_ne.mpr (by omega)
    have e0 : ((n : Int) != 0) = true := bne_iff_ne.mpr (by omega)
    obtain ⟨W1, hW1⟩ : ∃ W, w.alloc (.cells #[.int .i64 3, .string t, .string m, .int .i64 nm, .slice A n c] 29) = W := ⟨_, rfl⟩
    have hb1 : Below w.heap.size w W1 := by rw [← hW1]; exact (Below.refl _ w).alloc (Nat.le_refl _) _
    have hx1 : W1.heap[w.heap.size]? = some (.cells #[.int .i64 3, .string t, .string m, .int .i64 nm, .slice A n c] 29 (0, 0)) := by rw [← hW1]; exact blk_new w _
    have c0 : W1.cell? ⟨w.heap.size, 0, none⟩ = some (.int .i64 3) := (blk_cell hx1 0).trans rfl
    have c1 : W1.cell? ⟨w.heap.size, 1, none⟩ = some (.string t) := (blk_cell hx1 1).trans rfl
    have c2 : W1.cell? ⟨w.heap.size, 2, none⟩ = some (.string m) := (blk_cell hx1 2).trans rfl
    have c3 : W1.cell? ⟨w.heap.size, 3, none⟩ = some (.int .i64 nm) := (blk_cell hx1 3).trans rfl
    have c4 : W1.cell? ⟨w.heap.size, 4, none⟩ = some (.slice A n c) := (blk_cell hx1 4).trans rfl
    have HB1 := Aside0.mk hb1
    have HX1 := Aside0.mk hx1
    clear hb1 hx1
    go_enter Try.func21, Try.ntmps21
    go_wp2_with fail
    clear hW1
    refine (spec_l1Between.calls 3 1 6 true W1 (by rw [spec_l1Between.f]; simp)).mono ?_
    rintro e W2 ⟨rfl, hd2⟩
    have hb2 := hd2.below
    have hx2 := (hb2.block _ (blk_lt HX1.out)).trans HX1.out
    have HB2 := Aside0.mk (below_then HB1.out HB1.out.size hb2)
    have d0 : W2.cell? ⟨w.heap.size, 0, none⟩ = some (.int .i64 3) := (blk_cell hx2 0).trans rfl
    have d1 : W2.cell? ⟨w.heap.size, 1, none⟩ = some (.string t) := (blk_cell hx2 1).trans rfl
    have d2 : W2.cell? ⟨w.heap.size, 2, none⟩ = some (.string m) := (blk_cell hx2 2).trans rfl
    have d3 : W2.cell? ⟨w.heap.size, 3, none⟩ = some (.int .i64 nm) := (blk_cell hx2 3).trans rfl
    have d4 : W2.cell? ⟨w.heap.size, 4, none⟩ = some (.slice A n c) := (blk_cell hx2 4).trans rfl
    have HX2 := Aside0.mk hx2
    clear c0 c1 c2 c3 c4 hd2 hb2 hx2
    clear HX2
    go_wp2_with fail
    go_ret2
    exact ⟨rfl, HB2.out⟩

set_option maxHeartbeats 4000000 in
set_option maxRecDepth 100000 in
theorem l6_bad4 (t m : ByteArray) (nm : Int) (A : Option Addr) (n c : Nat) (w : World) (hc : n ≤ c) (hg : ¬ (Plain.Ok 4 t m nm n ∧ t.size ≤ 255 ∧ m.size ≤ 65535 ∧ n ≤ 500)) :
    Calls Try.prog 21 #[.agg #[.int .i64 4, .string t, .string m, .int .i64 nm, .slice A n c]] w fun e w' => e = .returned (.tuple #[.string ⟨#[]⟩, .bool false]) ∧ Below w.heap.size w w' := by
  by_cases z0 : t.toList = []
  · skip
    by_cases z1 : m.toList = []
    · skip
      by_cases z2 : nm = 0
      · skip
        by_cases z3 : n = 0
        · skip
          by_cases z4 : 255 < t.size
          · clear hg
            have b0 : (t.toList == ([] : List UInt8)) = true := beq_iff_eq.mpr z0
            have e0 : (t.toList != ([] : List UInt8)) = false := bne_eq_false_iff_eq.mpr z0
            have Z0 := Aside0.mk z0
            clear z0
            have b1 : (m.toList == ([] : List UInt8)) = true := beq_iff_eq.mpr z1
            have e1 : (m.toList != ([] : List UInt8)) = false := bne_eq_false_iff_eq.mpr z1
            have Z1 := Aside0.mk z1
            clear z1
            have b2 : (nm == 0) = true := beq_iff_eq.mpr z2
            have e2 : (nm != 0) = false := bne_eq_false_iff_eq.mpr z2
            clear z2
            have b3 : ((n : Int) == 0) = true := beq_iff_eq.mpr (by omega)
            have e3 : ((n : Int) != 0) = false := bne_eq_false_iff_eq.mpr (by omega)
            clear z3
            obtain ⟨W1, hW1⟩ : ∃ W, w.alloc (.cells #[.int .i64 4, .string t, .string m, .int .i64 nm, .slice A n c] 29) = W := ⟨_, rfl⟩
            have hb1 : Below w.heap.size w W1 := by rw [← hW1]; exact (Below.refl _ w).alloc (Nat.le_refl _) _
            have hx1 : W1.heap[w.heap.size]? = some (.cells #[.int .i64 4, .string t, .string m, .int .i64 nm, .slice A n c] 29 (0, 0)) := by rw [← hW1]; exact blk_new w _
            have c0 : W1.cell? ⟨w.heap.size, 0, none⟩ = some (.int .i64 4) := (blk_cell hx1 0).trans rfl
            have c1 : W1.cell? ⟨w.heap.size, 1, none⟩ = some (.string t) := (blk_cell hx1 1).trans rfl
            have c2 : W1.cell? ⟨w.heap.size, 2, none⟩ = some (.string m) := (blk_cell hx1 2).trans rfl
            have c3 : W1.cell? ⟨w.heap.size, 3, none⟩ = some (.int .i64 nm) := (blk_cell hx1 3).trans rfl
            have c4 : W1.cell? ⟨w.heap.size, 4, none⟩ = some (.slice A n c) := (blk_cell hx1 4).trans rfl
            have HB1 := Aside0.mk hb1
            have HX1 := Aside0.mk hx1
            clear hb1 hx1
            go_enter Try.func21, Try.ntmps21
            go_wp2_with fail
            clear hW1
            refine (spec_l1Between.calls 4 1 6 true W1 (by rw [spec_l1Between.f]; simp)).mono ?_
            rintro e W2 ⟨rfl, hd2⟩
            have hb2 := hd2.below
            have hx2 := (hb2.block _ (blk_lt HX1.out)).trans HX1.out
            have HB2 := Aside0.mk (below_then HB1.out HB1.out.size hb2)
            have d0 : W2.cell? ⟨w.heap.size, 0, none⟩ = some (.int .i64 4) := (blk_cell hx2 0).trans rfl
            have d1 : W2.cell? ⟨w.heap.size, 1, none⟩ = some (.string t) := (blk_cell hx2 1).trans rfl
            have d2 : W2.cell? ⟨w.heap.size, 2, none⟩ = some (.string m) := (blk_cell hx2 2).trans rfl
            have d3 : W2.cell? ⟨w.heap.size, 3, none⟩ = some (.int .i64 nm) := (blk_cell hx2 3).trans rfl
            have d4 : W2.cell? ⟨w.heap.size, 4, none⟩ = some (.slice A n c) := (blk_cell hx2 4).trans rfl
            have HX2 := Aside0.mk hx2
            clear c0 c1 c2 c3 c4 hd2 hb2 hx2
            clear HX2
            go_wp2_with fail
            go_ret2
            exact ⟨rfl, HB2.out⟩
          · skip
            by_cases z5 : 65535 < m.size
            · clear hg
              have b0 : (t.toList == ([] : List UInt8)) = true := beq_iff_eq.mpr z0
              have e0 : (t.toList != ([] : List UInt8)) = false := bne_eq_false_iff_eq.mpr z0
              have Z0 := Aside0.mk z0
              clear z0
              have b1 : (m.toList == ([] : List UInt8)) = true := beq_iff_eq.mpr z1
              have e1 : (m.toList != ([] : List UInt8)) = false := bne_eq_false_iff_eq.mpr z1
              have Z1 := Aside0.mk z1
              clear z1
              have b2 : (nm == 0) = true := beq_iff_eq.mpr z2
              have e2 : (nm != 0) = false := bne_eq_false_iff_eq.mpr z2
              clear z2
              have b3 : ((n : Int) == 0) = true := beq_iff_eq.mpr (by omega)
              have e3 : ((n : Int) != 0) = false := bne_eq_false_iff_eq.mpr (by omega)
              clear z3
              obtain ⟨W1, hW1⟩ : ∃ W, w.alloc (.cells #[.int .i64 4, .string t, .string m, .int .i64 nm, .slice A n c] 29) = W := ⟨_, rfl⟩
              have hb1 : Below w.heap.size w W1 := by rw [← hW1]; exact (Below.refl _ w).alloc (Nat.le_refl _) _
              have hx1 : W1.heap[w.heap.size]? = some (.cells #[.int .i64 4, .string t, .string m, .int .i64 nm, .slice A n c] 29 (0, 0)) := by rw [← hW1]; exact blk_new w _
              have c0 : W1.cell? ⟨w.heap.size, 0, none⟩ = some (.int .i64 4) := (blk_cell hx1 0).trans rfl
              have c1 : W1.cell? ⟨w.heap.size, 1, none⟩ = some (.string t) := (blk_cell hx1 1).trans rfl
              have c2 : W1.cell? ⟨w.heap.size, 2, none⟩ = some (.string m) := (blk_cell hx1 2).trans rfl
              have c3 : W1.cell? ⟨w.heap.size, 3, none⟩ = some (.int .i64 nm) := (blk_cell hx1 3).trans rfl
              have c4 : W1.cell? ⟨w.heap.size, 4, none⟩ = some (.slice A n c) := (blk_cell hx1 4).trans rfl
              have HB1 := Aside0.mk hb1
              have HX1 := Aside0.mk hx1
              clear hb1 hx1
              go_enter Try.func21, Try.ntmps21
              go_wp2_with fail
              clear hW1
              refine (spec_l1Between.calls 4 1 6 true W1 (by rw [spec_l1Between.f]; simp)).mono ?_
              rintro e W2 ⟨rfl, hd2⟩
              have hb2 := hd2.below
              have hx2 := (hb2.block _ (blk_lt HX1.out)).trans HX1.out
              have HB2 := Aside0.mk (below_then HB1.out HB1.out.size hb2)
              have d0 : W2.cell? ⟨w.heap.size, 0, none⟩ = some (.int .i64 4) := (blk_cell hx2 0).trans rfl
              have d1 : W2.cell? ⟨w.heap.size, 1, none⟩ = some (.string t) := (blk_cell hx2 1).trans rfl
              have d2 : W2.cell? ⟨w.heap.size, 2, none⟩ = some (.string m) := (blk_cell hx2 2).trans rfl
              have d3 : W2.cell? ⟨w.heap.size, 3, none⟩ = some (.int .i64 nm) := (blk_cell hx2 3).trans rfl
              have d4 : W2.cell? ⟨w.heap.size, 4, none⟩ = some (.slice A n c) := (blk_cell hx2 4).trans rfl
              have HX2 := Aside0.mk hx2
              clear c0 c1 c2 c3 c4 hd2 hb2 hx2
              clear HX2
              go_wp2_with fail
              go_ret2
              exact ⟨rfl, HB2.out⟩
            · skip
              by_cases z6 : 500 < n
              · clear hg
                have b0 : (t.toList == ([] : List UInt8)) = true := beq_iff_eq.mpr z0
                have e0 : (t.toList != ([] : List UInt8)) = false := bne_eq_false_iff_eq.mpr z0
                have Z0 := Aside0.mk z0
                clear z0
                have b1 : (m.toList == ([] : List UInt8)) = true := beq_iff_eq.mpr z1
                have e1 : (m.toList != ([] : List UInt8)) = false := bne_eq_false_iff_eq.mpr z1
                have Z1 := Aside0.mk z1
                clear z1
                have b2 : (nm == 0) = true := beq_iff_eq.mpr z2
                have e2 : (nm != 0) = false := bne_eq_false_iff_eq.mpr z2
                clear z2
                have b3 : ((n : Int) == 0) = true := beq_iff_eq.mpr (by omega)
                have e3 : ((n : Int) != 0) = false := bne_eq_false_iff_eq.mpr (by omega)
                clear z3
                obtain ⟨W1, hW1⟩ : ∃ W, w.alloc (.cells #[.int .i64 4, .string t, .string m, .int .i64 nm, .slice A n c] 29) = W := ⟨_, rfl⟩
                have hb1 : Below w.heap.size w W1 := by rw [← hW1]; exact (Below.refl _ w).alloc (Nat.le_refl _) _
                have hx1 : W1.heap[w.heap.size]? = some (.cells #[.int .i64 4, .string t, .string m, .int .i64 nm, .slice A n c] 29 (0, 0)) := by rw [← hW1]; exact blk_new w _
                have c0 : W1.cell? ⟨w.heap.size, 0, none⟩ = some (.int .i64 4) := (blk_cell hx1 0).trans rfl
                have c1 : W1.cell? ⟨w.heap.size, 1, none⟩ = some (.string t) := (blk_cell hx1 1).trans rfl
                have c2 : W1.cell? ⟨w.heap.size, 2, none⟩ = some (.string m) := (blk_cell hx1 2).trans rfl
                have c3 : W1.cell? ⟨w.heap.size, 3, none⟩ = some (.int .i64 nm) := (blk_cell hx1 3).trans rfl
                have c4 : W1.cell? ⟨w.heap.size, 4, none⟩ = some (.slice A n c) := (blk_cell hx1 4).trans rfl
                have HB1 := Aside0.mk hb1
                have HX1 := Aside0.mk hx1
                clear hb1 hx1
                go_enter Try.func21, Try.ntmps21
                go_wp2_with fail
                clear hW1
                refine (spec_l1Between.calls 4 1 6 true W1 (by rw [spec_l1Between.f]; simp)).mono ?_
                rintro e W2 ⟨rfl, hd2⟩
                have hb2 := hd2.below
                have hx2 := (hb2.block _ (blk_lt HX1.out)).trans HX1.out
                have HB2 := Aside0.mk (below_then HB1.out HB1.out.size hb2)
                have d0 : W2.cell? ⟨w.heap.size, 0, none⟩ = some (.int .i64 4) := (blk_cell hx2 0).trans rfl
                have d1 : W2.cell? ⟨w.heap.size, 1, none⟩ = some (.string t) := (blk_cell hx2 1).trans rfl
                have d2 : W2.cell? ⟨w.heap.size, 2, none⟩ = some (.string m) := (blk_cell hx2 2).trans rfl
                have d3 : W2.cell? ⟨w.heap.size, 3, none⟩ = some (.int .i64 nm) := (blk_cell hx2 3).trans rfl
                have d4 : W2.cell? ⟨w.heap.size, 4, none⟩ = some (.slice A n c) := (blk_cell hx2 4).trans rfl
                have HX2 := Aside0.mk hx2
                clear c0 c1 c2 c3 c4 hd2 hb2 hx2
                clear HX2
                go_wp2_with fail
                go_ret2
                exact ⟨rfl, HB2.out⟩
              · skip
                exfalso; apply hg; unfold Plain.Ok; exact ⟨⟨by decide, by simp [*], by simp [*], by simp [*], by simp [*]⟩, by omega, by omega, by omega⟩
        · clear hg
          have b0 : (t.toList == ([] : List UInt8)) = true := beq_iff_eq.mpr z0
          have e0 : (t.toList != ([] : List UInt8)) = false := bne_eq_false_iff_eq.mpr z0
          have Z0 := Aside0.mk z0
          clear z0
          have b1 : (m.toList == ([] : List UInt8)) = true := beq_iff_eq.mpr z1
          have e1 : (m.toList != ([] : List UInt8)) = false := bne_eq_false_iff_eq.mpr z1
          have Z1 := Aside0.mk z1
          clear z1
          have b2 : (nm == 0) = true := beq_iff_eq.mpr z2
          have e2 : (nm != 0) = false := bne_eq_false_iff_eq.mpr z2
          clear z2
          have b3 : ((n : Int) == 0) = false := beq_eq_false_iff_ne.mpr (by omega)
          have e3 : ((n : Int) != 0) = true := bne_iff_ne.mpr (by omega)
          obtain ⟨W1, hW1⟩ : ∃ W, w.alloc (.cells #[.int .i64 4, .string t, .string m, .int .i64 nm, .slice A n c] 29) = W := ⟨_, rfl⟩
          have hb1 : Below w.heap.size w W1 := by rw [← hW1]; exact (Below.refl _ w).alloc (Nat.le_refl _) _
          have hx1 : W1.heap[w.heap.size]? = some (.cells #[.int .i64 4, .string t, .string m, .int .i64 nm, .slice A n c] 29 (0, 0)) := by rw [← hW1]; exact blk_new w _
          have c0 : W1.cell? ⟨w.heap.size, 0, none⟩ = some (.int .i64 4) := (blk_cell hx1 0).trans rfl
          have c1 : W1.cell? ⟨w.heap.size, 1, none⟩ = some (.string t) := (blk_cell hx1 1).trans rfl
          have c2 : W1.cell? ⟨w.heap.size, 2, none⟩ = some (.string m) := (blk_cell hx1 2).trans rfl
          have c3 : W1.cell? ⟨w.heap.size, 3, none⟩ = some (.int .i64 nm) := (blk_cell hx1 3).trans rfl
          have c4 : W1.cell? ⟨w.heap.size, 4, none⟩ = some (.slice A n c) := (blk_cell hx1 4).trans rfl
          have HB1 := Aside0.mk hb1
          have HX1 := Aside0.mk hx1
          clear hb1 hx1
          go_enter Try.func21, Try.ntmps21
          go_wp2_with fail
          clear hW1
          refine (spec_l1Between.calls 4 1 6 true W1 (by rw [spec_l1Between.f]; simp)).mono ?_
          rintro e W2 ⟨rfl, hd2⟩
          have hb2 := hd2.below
          have hx2 := (hb2.block _ (blk_lt HX1.out)).trans HX1.out
          have HB2 := Aside0.mk (below_then HB1.out HB1.out.size hb2)
          have d0 : W2.cell? ⟨w.heap.size, 0, none⟩ = some (.int .i64 4) := (blk_cell hx2 0).trans rfl
          have d1 : W2.cell? ⟨w.heap.size, 1, none⟩ = some (.string t) := (blk_cell hx2 1).trans rfl
          have d2 : W2.cell? ⟨w.heap.size, 2, none⟩ = some (.string m) := (blk_cell hx2 2).trans rfl
          have d3 : W2.cell? ⟨w.heap.size, 3, none⟩ = some (.int .i64 nm) := (blk_cell hx2 3).trans rfl
          have d4 : W2.cell? ⟨w.heap.size, 4, none⟩ = some (.slice A n c) := (blk_cell hx2 4).trans rfl
          have HX2 := Aside0.mk hx2
          clear c0 c1 c2 c3 c4 hd2 hb2 hx2
          clear HX2
          go_wp2_with fail
          go_ret2
          exact ⟨rfl, HB2.out⟩
      · clear hg
        have b0 : (t.toList == ([] : List UInt8)) = true := beq_iff_eq.mpr z0
        have e0 : (t.toList != ([] : List UInt8)) = false := bne_eq_false_iff_eq.mpr z0
        have Z0 := Aside0.mk z0
        clear z0
        have b1 : (m.toList == ([] : List UInt8)) = true := beq_iff_eq.mpr z1
        have e1 : (m.toList != ([] : List UInt8)) = false := bne_eq_false_iff_eq.mpr z1
        have Z1 := Aside0.mk z1
        clear z1
        have b2 : (nm == 0) = false := beq_eq_false_iff_ne.mpr z2
        have e2 : (nm != 0) = true := bne_iff_ne.mpr z2
        obtain ⟨W1, hW1⟩ : ∃ W, w.alloc (.cells #[.int .i64 4, .string t, .string m, .int .i64 nm, .slice A n c] 29) = W := ⟨_, rfl⟩
        have hb1 : Below w.heap.size w W1 := by rw [← hW1]; exact (Below.refl _ w).alloc (Nat.le_refl _) _
        have hx1 : W1.heap[w.heap.size]? = some (.cells #[.int .i64 4, .string t, .string m, .int .i64 nm, .slice A n c] 29 (0, 0)) := by rw [← hW1]; exact blk_new w _
        have c0 : W1.cell? ⟨w.heap.size, 0, none⟩ = some (.int .i64 4) := (blk_cell hx1 0).trans rfl
        have c1 : W1.cell? ⟨w.heap.size, 1, none⟩ = some (.string t) := (blk_cell hx1 1).trans rfl
        have c2 : W1.cell? ⟨w.heap.size, 2, none⟩ = some (.string m) := (blk_cell hx1 2).trans rfl
        have c3 : W1.cell? ⟨w.heap.size, 3, none⟩ = some (.int .i64 nm) := (blk_cell hx1 3).trans rfl
        have c4 : W1.cell? ⟨w.heap.size, 4, none⟩ = some (.slice A n c) := (blk_cell hx1 4).trans rfl
        have HB1 := Aside0.mk hb1
        have HX1 := Aside0.mk hx1
        clear hb1 hx1
        go_enter Try.func21, Try.ntmps21
        go_wp2_with fail
        clear hW1
        refine (spec_l1Between.calls 4 1 6 true W1 (by rw [spec_l1Between.f]; simp)).mono ?_
        rintro e W2 ⟨rfl, hd2⟩
        have hb2 := hd2.below
        have hx2 := (hb2.block _ (blk_lt HX1.out)).trans HX1.out
        have HB2 := Aside0.mk (below_then HB1.out HB1.out.size hb2)
        have d0 : W2.cell? ⟨w.heap.size, 0, none⟩ = some (.int .i64 4) := (blk_cell hx2 0).trans rfl
        have d1 : W2.cell? ⟨w.heap.size, 1, none⟩ = some (.string t) := (blk_cell hx2 1).trans rfl
        have d2 : W2.cell? ⟨w.heap.size, 2, none⟩ = some (.string m) := (blk_cell hx2 2).trans rfl
        have d3 : W2.cell? ⟨w.heap.size, 3, none⟩ = some (.int .i64 nm) := (blk_cell hx2 3).trans rfl
        have d4 : W2.cell? ⟨w.heap.size, 4, none⟩ = some (.slice A n c) := (blk_cell hx2 4).trans rfl
        have HX2 := Aside0.mk hx2
        clear c0 c1 c2 c3 c4 hd2 hb2 hx2
        clear HX2
        go_wp2_with fail
        go_ret2
        exact ⟨rfl, HB2.out⟩
    · clear hg
      have b0 : (t.toList == ([] : List UInt8)) = true := beq_iff_eq.mpr z0
      have e0 : (t.toList != ([] : List UInt8)) = false := bne_eq_false_iff_eq.mpr z0
      have Z0 := Aside0.mk z0
      clear z0
      have b1 : (m.toList == ([] : List UInt8)) = false := beq_eq_false_iff_ne.mpr z1
      have e1 : (m.toList != ([] : List UInt8)) = true := bne_iff_ne.mpr z1
      obtain ⟨W1, hW1⟩ : ∃ W, w.alloc (.cells #[.int .i64 4, .string t, .string m, .int .i64 nm, .slice A n c] 29) = W := ⟨_, rfl⟩
      have hb1 : Below w.heap.size w W1 := by rw [← hW1]; exact (Below.refl _ w).alloc (Nat.le_refl _) _
      have hx1 : W1.heap[w.heap.size]? = some (.cells #[.int .i64 4, .string t, .string m, .int .i64 nm, .slice A n c] 29 (0, 0)) := by rw [← hW1]; exact blk_new w _
      have c0 : W1.cell? ⟨w.heap.size, 0, none⟩ = some (.int .i64 4) := (blk_cell hx1 0).trans rfl
      have c1 : W1.cell? ⟨w.heap.size, 1, none⟩ = some (.string t) := (blk_cell hx1 1).trans rfl
      have c2 : W1.cell? ⟨w.heap.size, 2, none⟩ = some (.string m) := (blk_cell hx1 2).trans rfl
      have c3 : W1.cell? ⟨w.heap.size, 3, none⟩ = some (.int .i64 nm) := (blk_cell hx1 3).trans rfl
      have c4 : W1.cell? ⟨w.heap.size, 4, none⟩ = some (.slice A n c) := (blk_cell hx1 4).trans rfl
      have HB1 := Aside0.mk hb1
      have HX1 := Aside0.mk hx1
      clear hb1 hx1
      go_enter Try.func21, Try.ntmps21
      go_wp2_with fail
      clear hW1
      refine (spec_l1Between.calls 4 1 6 true W1 (by rw [spec_l1Between.f]; simp)).mono ?_
      rintro e W2 ⟨rfl, hd2⟩
      have hb2 := hd2.below
      have hx2 := (hb2.block _ (blk_lt HX1.out)).trans HX1.out
      have HB2 := Aside0.mk (below_then HB1.out HB1.out.size hb2)
      have d0 : W2.cell? ⟨w.heap.size, 0, none⟩ = some (.int .i64 4) := (blk_cell hx2 0).trans rfl
      have d1 : W2.cell? ⟨w.heap.size, 1, none⟩ = some (.string t) := (blk_cell hx2 1).trans rfl
      have d2 : W2.cell? ⟨w.heap.size, 2, none⟩ = some (.string m) := (blk_cell hx2 2).trans rfl
      have d3 : W2.cell? ⟨w.heap.size, 3, none⟩ = some (.int .i64 nm) := (blk_cell hx2 3).trans rfl
      have d4 : W2.cell? ⟨w.heap.size, 4, none⟩ = some (.slice A n c) := (blk_cell hx2 4).trans rfl
      have HX2 := Aside0.mk hx2
      clear c0 c1 c2 c3 c4 hd2 hb2 hx2
      clear HX2
      go_wp2_with fail
      go_ret2
      exact ⟨rfl, HB2.out⟩
  · clear hg
    have b0 : (t.toList == ([] : List UInt8)) = false := beq_eq_false_iff_ne.mpr z0
    have e0 : (t.toList != ([] : List UInt8)) = true := bne_iff_ne.mpr z0
    obtain ⟨W1, hW1⟩ : ∃ W, w.alloc (.cells #[.int .i64 4, .string t, .string m, .int .i64 nm, .slice A n c] 29) = W := ⟨_, rfl⟩
    have hb1 : Below w.heap.size w W1 := by rw [← hW1]; exact (Below.refl _ w).alloc (Nat.le_refl _) _
    have hx1 : W1.heap[w.heap.size]? = some (.cells #[.int .i64 4, .string t, .string m, .int .i64 nm, .slice A n c] 29 (0, 0)) := by rw [← hW1]; exact blk_new w _
    have c0 : W1.cell? ⟨w.heap.size, 0, none⟩ = some (.int .i64 4) := (blk_cell hx1 0).trans rfl
    have c1 : W1.cell? ⟨w.heap.size, 1, none⟩ = some (.string t) := (blk_cell hx1 1).trans rfl
    have c2 : W1.cell? ⟨w.heap.size, 2, none⟩ = some (.string m) := (blk_cell hx1 2).trans rfl
    have c3 : W1.cell? ⟨w.heap.size, 3, none⟩ = some (.int .i64 nm) := (blk_cell hx1 3).trans rfl
    have c4 : W1.cell? ⟨w.heap.size, 4, none⟩ = some (.slice A n c) := (blk_cell hx1 4).trans rfl
    have HB1 := Aside0.mk hb1
    have HX1 := Aside0.mk hx1
    clear hb1 hx1
    go_enter Try.func21, Try.ntmps21
    go_wp2_with fail
    clear hW1
    refine (spec_l1Between.calls 4 1 6 true W1 (by rw [spec_l1Between.f]; simp)).mono ?_
    rintro e W2 ⟨rfl, hd2⟩
    have hb2 := hd2.below
    have hx2 := (hb2.block _ (blk_lt HX1.out)).trans HX1.out
    have HB2 := Aside0.mk (below_then HB1.out HB1.out.size hb2)
    have d0 : W2.cell? ⟨w.heap.size, 0, none⟩ = some (.int .i64 4) := (blk_cell hx2 0).trans rfl
    have d1 : W2.cell? ⟨w.heap.size, 1, none⟩ = some (.string t) := (blk_cell hx2 1).trans rfl
    have d2 : W2.cell? ⟨w.heap.size, 2, none⟩ = some (.string m) := (blk_cell hx2 2).trans rfl
    have d3 : W2.cell? ⟨w.heap.size, 3, none⟩ = some (.int .i64 nm) := (blk_cell hx2 3).trans rfl
    have d4 : W2.cell? ⟨w.heap.size, 4, none⟩ = some (.slice A n c) := (blk_cell hx2 4).trans rfl
    have HX2 := Aside0.mk hx2
    clear c0 c1 c2 c3 c4 hd2 hb2 hx2
    clear HX2
    go_wp2_with fail
    go_ret2
    exact ⟨rfl, HB2.out⟩

set_option maxHeartbeats 4000000 in
set_option maxRecDepth 100000 in
theorem l6_bad5 (t m : ByteArray) (nm : Int) (A : Option Addr) (n c : Nat) (w : World) (hc : n ≤ c) (hg : ¬ (Plain.Ok 5 t m nm n ∧ t.size ≤ 255 ∧ m.size ≤ 65535 ∧ n ≤ 500)) :
    Calls Try.prog 21 #[.agg #[.int .i64 5, .string t, .string m, .int .i64 nm, .slice A n c]] w fun e w' => e = .returned (.tuple #[.string ⟨#[]⟩, .bool false]) ∧ Below w.heap.size w w' := by
  by_cases z0 : nm = 0
  · skip
    by_cases z1 : n = 0
    · skip
      by_cases z2 : 255 < t.size
      · clear hg
        have b0 : (nm == 0) = true := beq_iff_eq.mpr z0
        have e0 : (nm != 0) = false := bne_eq_false_iff_eq.mpr z0
        clear z0
        have b1 : ((n : Int) == 0) = true := beq_iff_eq.mpr (by omega)
        have e1 : ((n : Int) != 0) = false := bne_eq_false_iff_eq.mpr (by omega)
        clear z1
        obtain ⟨W1, hW1⟩ : ∃ W, w.alloc (.cells #[.int .i64 5, .string t, .string m, .int .i64 nm, .slice A n c] 29) = W := ⟨_, rfl⟩
        have hb1 : Below w.heap.size w W1 := by rw [← hW1]; exact (Below.refl _ w).alloc (Nat.le_refl _) _
        have hx1 : W1.heap[w.heap.size]? = some (.cells #[.int .i64 5, .string t, .string m, .int .i64 nm, .slice A n c] 29 (0, 0)) := by rw [← hW1]; exact blk_new w _
        have c0 : W1.cell? ⟨w.heap.size, 0, none⟩ = some (.int .i64 5) := (blk_cell hx1 0).trans rfl
        have c1 : W1.cell? ⟨w.heap.size, 1, none⟩ = some (.string t) := (blk_cell hx1 1).trans rfl
        have c2 : W1.cell? ⟨w.heap.size, 2, none⟩ = some (.string m) := (blk_cell hx1 2).trans rfl
        have c3 : W1.cell? ⟨w.heap.size, 3, none⟩ = some (.int .i64 nm) := (blk_cell hx1 3).trans rfl
        have c4 : W1.cell? ⟨w.heap.size, 4, none⟩ = some (.slice A n c) := (blk_cell hx1 4).trans rfl
        have HB1 := Aside0.mk hb1
        have HX1 := Aside0.mk hx1
        clear hb1 hx1
        go_enter Try.func21, Try.ntmps21
        go_wp2_with fail
        clear hW1
        refine (spec_l1Between.calls 5 1 6 true W1 (by rw [spec_l1Between.f]; simp)).mono ?_
        rintro e W2 ⟨rfl, hd2⟩
        have hb2 := hd2.below
        have hx2 := (hb2.block _ (blk_lt HX1.out)).trans HX1.out
        have HB2 := Aside0.mk (below_then HB1.out HB1.out.size hb2)
        have d0 : W2.cell? ⟨w.heap.size, 0, none⟩ = some (.int .i64 5) := (blk_cell hx2 0).trans rfl
        have d1 : W2.cell? ⟨w.heap.size, 1, none⟩ = some (.string t) := (blk_cell hx2 1).trans rfl
        have d2 : W2.cell? ⟨w.heap.size, 2, none⟩ = some (.string m) := (blk_cell hx2 2).trans rfl
        have d3 : W2.cell? ⟨w.heap.size, 3, none⟩ = some (.int .i64 nm) := (blk_cell hx2 3).trans rfl
        have d4 : W2.cell? ⟨w.heap.size, 4, none⟩ = some (.slice A n c) := (blk_cell hx2 4).trans rfl
        have HX2 := Aside0.mk hx2
        clear c0 c1 c2 c3 c4 hd2 hb2 hx2
        clear HX2
        go_wp2_with fail
        go_ret2
        exact ⟨rfl, HB2.out⟩
      · skip
        by_cases z3 : 65535 < m.size
        · clear hg
          have b0 : (nm == 0) = true := beq_iff_eq.mpr z0
          have e0 : (nm != 0) = false := bne_eq_false_iff_eq.mpr z0
          clear z0
          have b1 : ((n : Int) == 0) = true := beq_iff_eq.mpr (by omega)
          have e1 : ((n : Int) != 0) = false := bne_eq_false_iff_eq.mpr (by omega)
          clear z1
          obtain ⟨W1, hW1⟩ : ∃ W, w.alloc (.cells #[.int .i64 5, .string t, .string m, .int .i64 nm, .slice A n c] 29) = W := ⟨_, rfl⟩
          have hb1 : Below w.heap.size w W1 := by rw [← hW1]; exact (Below.refl _ w).alloc (Nat.le_refl _) _
          have hx1 : W1.heap[w.heap.size]? = some (.cells #[.int .i64 5, .string t, .string m, .int .i64 nm, .slice A n c] 29 (0, 0)) := by rw [← hW1]; exact blk_new w _
          have c0 : W1.cell? ⟨w.heap.size, 0, none⟩ = some (.int .i64 5) := (blk_cell hx1 0).trans rfl
          have c1 : W1.cell? ⟨w.heap.size, 1, none⟩ = some (.string t) := (blk_cell hx1 1).trans rfl
          have c2 : W1.cell? ⟨w.heap.size, 2, none⟩ = some (.string m) := (blk_cell hx1 2).trans rfl
          have c3 : W1.cell? ⟨w.heap.size, 3, none⟩ = some (.int .i64 nm) := (blk_cell hx1 3).trans rfl
          have c4 : W1.cell? ⟨w.heap.size, 4, none⟩ = some (.slice A n c) := (blk_cell hx1 4).trans rfl
          have HB1 := Aside0.mk hb1
          have HX1 := Aside0.mk hx1
          clear hb1 hx1
          go_enter Try.func21, Try.ntmps21
          go_wp2_with fail
          clear hW1
          refine (spec_l1Between.calls 5 1 6 true W1 (by rw [spec_l1Between.f]; simp)).mono ?_
          rintro e W2 ⟨rfl, hd2⟩
          have hb2 := hd2.below
          have hx2 := (hb2.block _ (blk_lt HX1.out)).trans HX1.out
          have HB2 := Aside0.mk (below_then HB1.out HB1.out.size hb2)
          have d0 : W2.cell? ⟨w.heap.size, 0, none⟩ = some (.int .i64 5) := (blk_cell hx2 0).trans rfl
          have d1 : W2.cell? ⟨w.heap.size, 1, none⟩ = some (.string t) := (blk_cell hx2 1).trans rfl
          have d2 : W2.cell? ⟨w.heap.size, 2, none⟩ = some (.string m) := (blk_cell hx2 2).trans rfl
          have d3 : W2.cell? ⟨w.heap.size, 3, none⟩ = some (.int .i64 nm) := (blk_cell hx2 3).trans rfl
          have d4 : W2.cell? ⟨w.heap.size, 4, none⟩ = some (.slice A n c) := (blk_cell hx2 4).trans rfl
          have HX2 := Aside0.mk hx2
          clear c0 c1 c2 c3 c4 hd2 hb2 hx2
          clear HX2
          go_wp2_with fail
          go_ret2
          exact ⟨rfl, HB2.out⟩
        · skip
          by_cases z4 : 500 < n
          · clear hg
            have b0 : (nm == 0) = true := beq_iff_eq.mpr z0
            have e0 : (nm != 0) = false := bne_eq_false_iff_eq.mpr z0
            clear z0
            have b1 : ((n : Int) == 0) = true := beq_iff_eq.mpr (by omega)
            have e1 : ((n : Int) != 0) = false := bne_eq_false_iff_eq.mpr (by omega)
            clear z1
            obtain ⟨W1, hW1⟩ : ∃ W, w.alloc (.cells #[.int .i64 5, .string t, .string m, .int .i64 nm, .slice A n c] 29) = W := ⟨_, rfl⟩
            have hb1 : Below w.heap.size w W1 := by rw [← hW1]; exact (Below.refl _ w).alloc (Nat.le_refl _) _
            have hx1 : W1.heap[w.heap.size]? = some (.cells #[.int .i64 5, .string t, .string m, .int .i64 nm, .slice A n c] 29 (0, 0)) := by rw [← hW1]; exact blk_new w _
            have c0 : W1.cell? ⟨w.heap.size, 0, none⟩ = some (.int .i64 5) := (blk_cell hx1 0).trans rfl
            have c1 : W1.cell? ⟨w.heap.size, 1, none⟩ = some (.string t) := (blk_cell hx1 1).trans rfl
            have c2 : W1.cell? ⟨w.heap.size, 2, none⟩ = some (.string m) := (blk_cell hx1 2).trans rfl
            have c3 : W1.cell? ⟨w.heap.size, 3, none⟩ = some (.int .i64 nm) := (blk_cell hx1 3).trans rfl
            have c4 : W1.cell? ⟨w.heap.size, 4, none⟩ = some (.slice A n c) := (blk_cell hx1 4).trans rfl
            have HB1 := Aside0.mk hb1
            have HX1 := Aside0.mk hx1
            clear hb1 hx1
            go_enter Try.func21, Try.ntmps21
            go_wp2_with fail
            clear hW1
            refine (spec_l1Between.calls 5 1 6 true W1 (by rw [spec_l1Between.f]; simp)).mono ?_
            rintro e W2 ⟨rfl, hd2⟩
            have hb2 := hd2.below
            have hx2 := (hb2.block _ (blk_lt HX1.out)).trans HX1.out
            have HB2 := Aside0.mk (below_then HB1.out HB1.out.size hb2)
            have d0 : W2.cell? ⟨w.heap.size, 0, none⟩ = some (.int .i64 5) := (blk_cell hx2 0).trans rfl
            have d1 : W2.cell? ⟨w.heap.size, 1, none⟩ = some (.string t) := (blk_cell hx2 1).trans rfl
            have d2 : W2.cell? ⟨w.heap.size, 2, none⟩ = some (.string m) := (blk_cell hx2 2).trans rfl
            have d3 : W2.cell? ⟨w.heap.size, 3, none⟩ = some (.int .i64 nm) := (blk_cell hx2 3).trans rfl
            have d4 : W2.cell? ⟨w.heap.size, 4, none⟩ = some (.slice A n c) := (blk_cell hx2 4).trans rfl
            have HX2 := Aside0.mk hx2
            clear c0 c1 c2 c3 c4 hd2 hb2 hx2
            clear HX2
            go_wp2_with fail
            go_ret2
            exact ⟨rfl, HB2.out⟩
          · skip
            exfalso; apply hg; unfold Plain.Ok; exact ⟨⟨by decide, by simp [*], by simp [*], by simp [*], by simp [*]⟩, by omega, by omega, by omega⟩
    · clear hg
      have b0 : (nm == 0) = true := beq_iff_eq.mpr z0
      have e0 : (nm != 0) = false := bne_eq_false_iff_eq.mpr z0
      clear z0
      have b1 : ((n : Int) == 0) = false := beq_eq_false_iff_ne.mpr (by omega)
      have e1 : ((n : Int) != 0) = true := bne_iff_ne.mpr (by omega)
      obtain ⟨W1, hW1⟩ : ∃ W, w.alloc (.cells #[.int .i64 5, .string t, .string m, .int .i64 nm, .slice A n c] 29) = W := ⟨_, rfl⟩
      have hb1 : Below w.heap.size w W1 := by rw [← hW1]; exact (Below.refl _ w).alloc (Nat.le_refl _) _
      have hx1 : W1.heap[w.heap.size]? = some (.cells #[.int .i64 5, .string t, .string m, .int .i64 nm, .slice A n c] 29 (0, 0)) := by rw [← hW1]; exact blk_new w _
      have c0 : W1.cell? ⟨w.heap.size, 0, none⟩ = some (.int .i64 5) := (blk_cell hx1 0).trans rfl
      have c1 : W1.cell? ⟨w.heap.size, 1, none⟩ = some (.string t) := (blk_cell hx1 1).trans rfl
      have c2 : W1.cell? ⟨w.heap.size, 2, none⟩ = some (.string m) := (blk_cell hx1 2).trans rfl
      have c3 : W1.cell? ⟨w.heap.size, 3, none⟩ = some (.int .i64 nm) := (blk_cell hx1 3).trans rfl
      have c4 : W1.cell? ⟨w.heap.size, 4, none⟩ = some (.slice A n c) := (blk_cell hx1 4).trans rfl
      have HB1 := Aside0.mk hb1
      have HX1 := Aside0.mk hx1
      clear hb1 hx1
      go_enter Try.func21, Try.ntmps21
      go_wp2_with fail
      clear hW1
      refine (spec_l1Between.calls 5 1 6 true W1 (by rw [spec_l1Between.f]; simp)).mono ?_
      rintro e W2 ⟨rfl, hd2⟩
      have hb2 := hd2.below
      have hx2 := (hb2.block _ (blk_lt HX1.out)).trans HX1.out
      have HB2 := Aside0.mk (below_then HB1.out HB1.out.size hb2)
      have d0 : W2.cell? ⟨w.heap.size, 0, none⟩ = some (.int .i64 5) := (blk_cell hx2 0).trans rfl
      have d1 : W2.cell? ⟨w.heap.size, 1, none⟩ = some (.string t) := (blk_cell hx2 1).trans rfl
      have d2 : W2.cell? ⟨w.heap.size, 2, none⟩ = some (.string m) := (blk_cell hx2 2).trans rfl
      have d3 : W2.cell? ⟨w.heap.size, 3, none⟩ = some (.int .i64 nm) := (blk_cell hx2 3).trans rfl
      have d4 : W2.cell? ⟨w.heap.size, 4, none⟩ = some (.slice A n c) := (blk_cell hx2 4).trans rfl
      have HX2 := Aside0.mk hx2
      clear c0 c1 c2 c3 c4 hd2 hb2 hx2
      clear HX2
      go_wp2_with fail
      go_ret2
      exact ⟨rfl, HB2.out⟩
  · clear hg
    have b0 : (nm == 0) = false := beq_eq_false_iff_ne.mpr z0
    have e0 : (nm != 0) = true := bne_iff_ne.mpr z0
    obtain ⟨W1, hW1⟩ : ∃ W, w.alloc (.cells #[.int .i64 5, .string t, .string m, .int .i64 nm, .slice A n c] 29) = W := ⟨_, rfl⟩
    have hb1 : Below w.heap.size w W1 := by rw [← hW1]; exact (Below.refl _ w).alloc (Nat.le_refl _) _
    have hx1 : W1.heap[w.heap.size]? = some (.cells #[.int .i64 5, .string t, .string m, .int .i64 nm, .slice A n c] 29 (0, 0)) := by rw [← hW1]; exact blk_new w _
    have c0 : W1.cell? ⟨w.heap.size, 0, none⟩ = some (.int .i64 5) := (blk_cell hx1 0).trans rfl
    have c1 : W1.cell? ⟨w.heap.size, 1, none⟩ = some (.string t) := (blk_cell hx1 1).trans rfl
    have c2 : W1.cell? ⟨w.heap.size, 2, none⟩ = some (.string m) := (blk_cell hx1 2).trans rfl
    have c3 : W1.cell? ⟨w.heap.size, 3, none⟩ = some (.int .i64 nm) := (blk_cell hx1 3).trans rfl
    have c4 : W1.cell? ⟨w.heap.size, 4, none⟩ = some (.slice A n c) := (blk_cell hx1 4).trans rfl
    have HB1 := Aside0.mk hb1
    have HX1 := Aside0.mk hx1
    clear hb1 hx1
    go_enter Try.func21, Try.ntmps21
    go_wp2_with fail
    clear hW1
    refine (spec_l1Between.calls 5 1 6 true W1 (by rw [spec_l1Between.f]; simp)).mono ?_
    rintro e W2 ⟨rfl, hd2⟩
    have hb2 := hd2.below
    have hx2 := (hb2.block _ (blk_lt HX1.out)).trans HX1.out
    have HB2 := Aside0.mk (below_then HB1.out HB1.out.size hb2)
    have d0 : W2.cell? ⟨w.heap.size, 0, none⟩ = some (.int .i64 5) := (blk_cell hx2 0).trans rfl
    have d1 : W2.cell? ⟨w.heap.size, 1, none⟩ = some (.string t) := (blk_cell hx2 1).trans rfl
    have d2 : W2.cell? ⟨w.heap.size, 2, none⟩ = some (.string m) := (blk_cell hx2 2).trans rfl
    have d3 : W2.cell? ⟨w.heap.size, 3, none⟩ = some (.int .i64 nm) := (blk_cell hx2 3).trans rfl
    have d4 : W2.cell? ⟨w.heap.size, 4, none⟩ = some (.slice A n c) := (blk_cell hx2 4).trans rfl
    have HX2 := Aside0.mk hx2
    clear c0 c1 c2 c3 c4 hd2 hb2 hx2
    clear HX2
    go_wp2_with fail
    go_ret2
    exact ⟨rfl, HB2.out⟩

set_option maxHeartbeats 4000000 in
set_option maxRecDepth 100000 in
theorem l6_bad6 (t m : ByteArray) (nm : Int) (A : Option Addr) (n c : Nat) (w : World) (hc : n ≤ c) (hg : ¬ (Plain.Ok 6 t m nm n ∧ t.size ≤ 255 ∧ m.size ≤ 65535 ∧ n ≤ 500)) :
    Calls Try.prog 21 #[.agg #[.int .i64 6, .string t, .string m, .int .i64 nm, .slice A n c]] w fun e w' => e = .returned (.tuple #[.string ⟨#[]⟩, .bool false]) ∧ Below w.heap.size w w' := by
  by_cases z0 : m.toList = []
  · skip
    by_cases z1 : nm = 0
    · skip
      by_cases z2 : n = 0
      · skip
        by_cases z3 : 255 < t.size
        · clear hg
          have b0 : (m.toList == ([] : List UInt8)) = true := beq_iff_eq.mpr z0
          have e0 : (m.toList != ([] : List UInt8)) = false := bne_eq_false_iff_eq.mpr z0
          have Z0 := Aside0.mk z0
          clear z0
          have b1 : (nm == 0) = true := beq_iff_eq.mpr z1
          have e1 : (nm != 0) = false := bne_eq_false_iff_eq.mpr z1
          clear z1
          have b2 : ((n : Int) == 0) = true := beq_iff_eq.mpr (by omega)
          have e2 : ((n : Int) != 0) = false := bne_eq_false_iff_eq.mpr (by omega)
          clear z2
          obtain ⟨W1, hW1⟩ : ∃ W, w.alloc (.cells #[.int .i64 6, .string t, .string m, .int .i64 nm, .slice A n c] 29) = W := ⟨_, rfl⟩
          have hb1 : Below w.heap.size w W1 := by rw [← hW1]; exact (Below.refl _ w).alloc (Nat.le_refl _) _
          have hx1 : W1.heap[w.heap.size]? = some (.cells #[.int .i64 6, .string t, .string m, .int .i64 nm, .slice A n c] 29 (0, 0)) := by rw [← hW1]; exact blk_new w _
          have c0 : W1.cell? ⟨w.heap.size, 0, none⟩ = some (.int .i64 6) := (blk_cell hx1 0).trans rfl
          have c1 : W1.cell? ⟨w.heap.size, 1, none⟩ = some (.string t) := (blk_cell hx1 1).trans rfl
          have c2 : W1.cell? ⟨w.heap.size, 2, none⟩ = some (.string m) := (blk_cell hx1 2).trans rfl
          have c3 : W1.cell? ⟨w.heap.size, 3, none⟩ = some (.int .i64 nm) := (blk_cell hx1 3).trans rfl
          have c4 : W1.cell? ⟨w.heap.size, 4, none⟩ = some (.slice A n c) := (blk_cell hx1 4).trans rfl
          have HB1 := Aside0.mk hb1
          have HX1 := Aside0.mk hx1
          clear hb1 hx1
          go_enter Try.func21, Try.ntmps21
          go_wp2_with fail
          clear hW1
          refine (spec_l1Between.calls 6 1 6 true W1 (by rw [spec_l1Between.f]; simp)).mono ?_
          rintro e W2 ⟨rfl, hd2⟩
          have hb2 := hd2.below
          have hx2 := (hb2.block _ (blk_lt HX1.out)).trans HX1.out
          have HB2 := Aside0.mk (below_then HB1.out HB1.out.size hb2)
          have d0 : W2.cell? ⟨w.heap.size, 0, none⟩ = some (.int .i64 6) := (blk_cell hx2 0).trans rfl
          have d1 : W2.cell? ⟨w.heap.size, 1, none⟩ = some (.string t) := (blk_cell hx2 1).trans rfl
          have d2 : W2.cell? ⟨w.heap.size, 2, none⟩ = some (.string m) := (blk_cell hx2 2).trans rfl
          have d3 : W2.cell? ⟨w.heap.size, 3, none⟩ = some (.int .i64 nm) := (blk_cell hx2 3).trans rfl
          have d4 : W2.cell? ⟨w.heap.size, 4, none⟩ = some (.slice A n c) := (blk_cell hx2 4).trans rfl
          have HX2 := Aside0.mk hx2
          clear c0 c1 c2 c3 c4 hd2 hb2 hx2
          clear HX2
          go_wp2_with fail
          go_ret2
          exact ⟨rfl, HB2.out⟩
        · skip
          by_cases z4 : 65535 < m.size
          · clear hg
            have b0 : (m.toList == ([] : List UInt8)) = true := beq_iff_eq.mpr z0
            have e0 : (m.toList != ([] : List UInt8)) = false := bne_eq_false_iff_eq.mpr z0
            have Z0 := Aside0.mk z0
            clear z0
            have b1 : (nm == 0) = true := beq_iff_eq.mpr z1
            have e1 : (nm != 0) = false := bne_eq_false_iff_eq.mpr z1
            clear z1
            have b2 : ((n : Int) == 0) = true := beq_iff_eq.mpr (by omega)
            have e2 : ((n : Int) != 0) = false := bne_eq_false_iff_eq.mpr (by omega)
            clear z2
            obtain ⟨W1, hW1⟩ : ∃ W, w.alloc (.cells #[.int .i64 6, .string t, .string m, .int .i64 nm, .slice A n c] 29) = W := ⟨_, rfl⟩
            have hb1 : Below w.heap.size w W1 := by rw [← hW1]; exact (Below.refl _ w).alloc (Nat.le_refl _) _
            have hx1 : W1.heap[w.heap.size]? = some (.cells #[.int .i64 6, .string t, .string m, .int .i64 nm, .slice A n c] 29 (0, 0)) := by rw [← hW1]; exact blk_new w _
            have c0 : W1.cell? ⟨w.heap.size, 0, none⟩ = some (.int .i64 6) := (blk_cell hx1 0).trans rfl
            have c1 : W1.cell? ⟨w.heap.size, 1, none⟩ = some (.string t) := (blk_cell hx1 1).trans rfl
            have c2 : W1.cell? ⟨w.heap.size, 2, none⟩ = some (.string m) := (blk_cell hx1 2).trans rfl
            have c3 : W1.cell? ⟨w.heap.size, 3, none⟩ = some (.int .i64 nm) := (blk_cell hx1 3).trans rfl
            have c4 : W1.cell? ⟨w.heap.size, 4, none⟩ = some (.slice A n c) := (blk_cell hx1 4).trans rfl
            have HB1 := Aside0.mk hb1
            have HX1 := Aside0.mk hx1
            clear hb1 hx1
            go_enter Try.func21, Try.ntmps21
            go_wp2_with fail
            clear hW1
            refine (spec_l1Between.calls 6 1 6 true W1 (by rw [spec_l1Between.f]; simp)).mono ?_
            rintro e W2 ⟨rfl, hd2⟩
            have hb2 := hd2.below
            have hx2 := (hb2.block _ (blk_lt HX1.out)).trans HX1.out
            have HB2 := Aside0.mk (below_then HB1.out HB1.out.size hb2)
            have d0 : W2.cell? ⟨w.heap.size, 0, none⟩ = some (.int .i64 6) := (blk_cell hx2 0).trans rfl
            have d1 : W2.cell? ⟨w.heap.size, 1, none⟩ = some (.string t) := (blk_cell hx2 1).trans rfl
            have d2 : W2.cell? ⟨w.heap.size, 2, none⟩ = some (.string m) := (blk_cell hx2 2).trans rfl
            have d3 : W2.cell? ⟨w.heap.size, 3, none⟩ = some (.int .i64 nm) := (blk_cell hx2 3).trans rfl
            have d4 : W2.cell? ⟨w.heap.size, 4, none⟩ = some (.slice A n c) := (blk_cell hx2 4).trans rfl
            have HX2 := Aside0.mk hx2
            clear c0 c1 c2 c3 c4 hd2 hb2 hx2
            clear HX2
            go_wp2_with fail
            go_ret2
            exact ⟨rfl, HB2.out⟩
          · skip
            by_cases z5 : 500 < n
            · clear hg
              have b0 : (m.toList == ([] : List UInt8)) = true := beq_iff_eq.mpr z0
              have e0 : (m.toList != ([] : List UInt8)) = false := bne_eq_false_iff_eq.mpr z0
              have Z0 := Aside0.mk z0
              clear z0
              have b1 : (nm == 0) = true := beq_iff_eq.mpr z1
              have e1 : (nm != 0) = false := bne_eq_false_iff_eq.mpr z1
              clear z1
              have b2 : ((n : Int) == 0) = true := beq_iff_eq.mpr (by omega)
              have e2 : ((n : Int) != 0) = false := bne_eq_false_iff_eq.mpr (by omega)
              clear z2
              obtain ⟨W1, hW1⟩ : ∃ W, w.alloc (.cells #[.int .i64 6, .string t, .string m, .int .i64 nm, .slice A n c] 29) = W := ⟨_, rfl⟩
              have hb1 : Below w.heap.size w W1 := by rw [← hW1]; exact (Below.refl _ w).alloc (Nat.le_refl _) _
              have hx1 : W1.heap[w.heap.size]? = some (.cells #[.int .i64 6, .string t, .string m, .int .i64 nm, .slice A n c] 29 (0, 0)) := by rw [← hW1]; exact blk_new w _
              have c0 : W1.cell? ⟨w.heap.size, 0, none⟩ = some (.int .i64 6) := (blk_cell hx1 0).trans rfl
              have c1 : W1.cell? ⟨w.heap.size, 1, none⟩ = some (.string t) := (blk_cell hx1 1).trans rfl
              have c2 : W1.cell? ⟨w.heap.size, 2, none⟩ = some (.string m) := (blk_cell hx1 2).trans rfl
              have c3 : W1.cell? ⟨w.heap.size, 3, none⟩ = some (.int .i64 nm) := (blk_cell hx1 3).trans rfl
              have c4 : W1.cell? ⟨w.heap.size, 4, none⟩ = some (.slice A n c) := (blk_cell hx1 4).trans rfl
              have HB1 := Aside0.mk hb1
              have HX1 := Aside0.mk hx1
              clear hb1 hx1
              go_enter Try.func21, Try.ntmps21
              go_wp2_with fail
              clear hW1
              refine (spec_l1Between.calls 6 1 6 true W1 (by rw [spec_l1Between.f]; simp)).mono ?_
              rintro e W2 ⟨rfl, hd2⟩
              have hb2 := hd2.below
              have hx2 := (hb2.block _ (blk_lt HX1.out)).trans HX1.out
              have HB2 := Aside0.mk (below_then HB1.out HB1.out.size hb2)
              have d0 : W2.cell? ⟨w.heap.size, 0, none⟩ = some (.int .i64 6) := (blk_cell hx2 0).trans rfl
              have d1 : W2.cell? ⟨w.heap.size, 1, none⟩ = some (.string t) := (blk_cell hx2 1).trans rfl
              have d2 : W2.cell? ⟨w.heap.size, 2, none⟩ = some (.string m) := (blk_cell hx2 2).trans rfl
              have d3 : W2.cell? ⟨w.heap.size, 3, none⟩ = some (.int .i64 nm) := (blk_cell hx2 3).trans rfl
              have d4 : W2.cell? ⟨w.heap.size, 4, none⟩ = some (.slice A n c) := (blk_cell hx2 4).trans rfl
              have HX2 := Aside0.mk hx2
              clear c0 c1 c2 c3 c4 hd2 hb2 hx2
              clear HX2
              go_wp2_with fail
              go_ret2
              exact ⟨rfl, HB2.out⟩
            · skip
              exfalso; apply hg; unfold Plain.Ok; exact ⟨⟨by decide, by simp [*], by simp [*], by simp [*], by simp [*]⟩, by omega, by omega, by omega⟩
      · clear hg
        have b0 : (m.toList == ([] : List UInt8)) = true := beq_iff_eq.mpr z0
        have e0 : (m.toList != ([] : List UInt8)) = false := bne_eq_false_iff_eq.mpr z0
        have Z0 := Aside0.mk z0
        clear z0
        have b1 : (nm == 0) = true := beq_iff_eq.mpr z1
        have e1 : (nm != 0) = false := bne_eq_false_iff_eq.mpr z1
        clear z1
        have b2 : ((n : Int) == 0) = false := beq_eq_false_iff_ne.mpr (by omega)
        have e2 : ((n : Int) != 0) = true := bne_iff_ne.mpr (by omega)
        obtain ⟨W1, hW1⟩ : ∃ W, w.alloc (.cells #[.int .i64 6, .string t, .string m, .int .i64 nm, .slice A n c] 29) = W := ⟨_, rfl⟩
        have hb1 : Below w.heap.size w W1 := by rw [← hW1]; exact (Below.refl _ w).alloc (Nat.le_refl _) _
        have hx1 : W1.heap[w.heap.size]? = some (.cells #[.int .i64 6, .string t, .string m, .int .i64 nm, .slice A n c] 29 (0, 0)) := by rw [← hW1]; exact blk_new w _
        have c0 : W1.cell? ⟨w.heap.size, 0, none⟩ = some (.int .i64 6) := (blk_cell hx1 0).trans rfl
        have c1 : W1.cell? ⟨w.heap.size, 1, none⟩ = some (.string t) := (blk_cell hx1 1).trans rfl
        have c2 : W1.cell? ⟨w.heap.size, 2, none⟩ = some (.string m) := (blk_cell hx1 2).trans rfl
        have c3 : W1.cell? ⟨w.heap.size, 3, none⟩ = some (.int .i64 nm) := (blk_cell hx1 3).trans rfl
        have c4 : W1.cell? ⟨w.heap.size, 4, none⟩ = some (.slice A n c) := (blk_cell hx1 4).trans rfl
        have HB1 := Aside0.mk hb1
        have HX1 := Aside0.mk hx1
        clear hb1 hx1
        go_enter Try.func21, Try.ntmps21
        go_wp2_with fail
        clear hW1
        refine (spec_l1Between.calls 6 1 6 true W1 (by rw [spec_l1Between.f]; simp)).mono ?_
        rintro e W2 ⟨rfl, hd2⟩
        have hb2 := hd2.below
        have hx2 := (hb2.block _ (blk_lt HX1.out)).trans HX1.out
        have HB2 := Aside0.mk (below_then HB1.out HB1.out.size hb2)
        have d0 : W2.cell? ⟨w.heap.size, 0, none⟩ = some (.int .i64 6) := (blk_cell hx2 0).trans rfl
        have d1 : W2.cell? ⟨w.heap.size, 1, none⟩ = some (.string t) := (blk_cell hx2 1).trans rfl
        have d2 : W2.cell? ⟨w.heap.size, 2, none⟩ = some (.string m) := (blk_cell hx2 2).trans rfl
        have d3 : W2.cell? ⟨w.heap.size, 3, none⟩ = some (.int .i64 nm) := (blk_cell hx2 3).trans rfl
        have d4 : W2.cell? ⟨w.heap.size, 4, none⟩ = some (.slice A n c) := (blk_cell hx2 4).trans rfl
        have HX2 := Aside0.mk hx2
        clear c0 c1 c2 c3 c4 hd2 hb2 hx2
        clear HX2
        go_wp2_with fail
        go_ret2
        exact ⟨rfl, HB2.out⟩
    · clear hg
      have b0 : (m.toList == ([] : List UInt8)) = true := beq_iff_eq.mpr z0
      have e0 : (m.toList != ([] : List UInt8)) = false := bne_eq_false_iff_eq.mpr z0
      have Z0 := Aside0.mk z0
      clear z0
      have b1 : (nm == 0) = false := beq_eq_false_iff_ne.mpr z1
      have e1 : (nm != 0) = true := bne_iff_ne.mpr z1
      obtain ⟨W1, hW1⟩ : ∃ W, w.alloc (.cells #[.int .i64 6, .string t, .string m, .int .i64 nm, .slice A n c] 29) = W := ⟨_, rfl⟩
      have hb1 : Below w.heap.size w W1 := by rw [← hW1]; exact (Below.refl _ w).alloc (Nat.le_refl _) _
      have hx1 : W1.heap[w.heap.size]? = some (.cells #[.int .i64 6, .string t, .string m, .int .i64 nm, .slice A n c] 29 (0, 0)) := by rw [← hW1]; exact blk_new w _
      have c0 : W1.cell? ⟨w.heap.size, 0, none⟩ = some (.int .i64 6) := (blk_cell hx1 0).trans rfl
      have c1 : W1.cell? ⟨w.heap.size, 1, none⟩ = some (.string t) := (blk_cell hx1 1).trans rfl
      have c2 : W1.cell? ⟨w.heap.size, 2, none⟩ = some (.string m) := (blk_cell hx1 2).trans rfl
      have c3 : W1.cell? ⟨w.heap.size, 3, none⟩ = some (.int .i64 nm) := (blk_cell hx1 3).trans rfl
      have c4 : W1.cell? ⟨w.heap.size, 4, none⟩ = some (.slice A n c) := (blk_cell hx1 4).trans rfl
      have HB1 := Aside0.mk hb1
      have HX1 := Aside0.mk hx1
      clear hb1 hx1
      go_enter Try.func21, Try.ntmps21
      go_wp2_with fail
      clear hW1
      refine (spec_l1Between.calls 6 1 6 true W1 (by rw [spec_l1Between.f]; simp)).mono ?_
      rintro e W2 ⟨rfl, hd2⟩
      have hb2 := hd2.below
      have hx2 := (hb2.block _ (blk_lt HX1.out)).trans HX1.out
      have HB2 := Aside0.mk (below_then HB1.out HB1.out.size hb2)
      have d0 : W2.cell? ⟨w.heap.size, 0, none⟩ = some (.int .i64 6) := (blk_cell hx2 0).trans rfl
      have d1 : W2.cell? ⟨w.heap.size, 1, none⟩ = some (.string t) := (blk_cell hx2 1).trans rfl
      have d2 : W2.cell? ⟨w.heap.size, 2, none⟩ = some (.string m) := (blk_cell hx2 2).trans rfl
      have d3 : W2.cell? ⟨w.heap.size, 3, none⟩ = some (.int .i64 nm) := (blk_cell hx2 3).trans rfl
      have d4 : W2.cell? ⟨w.heap.size, 4, none⟩ = some (.slice A n c) := (blk_cell hx2 4).trans rfl
      have HX2 := Aside0.mk hx2
      clear c0 c1 c2 c3 c4 hd2 hb2 hx2
      clear HX2
      go_wp2_with fail
      go_ret2
      exact ⟨rfl, HB2.out⟩
  · clear hg
    have b0 : (m.toList == ([] : List UInt8)) = false := beq_eq_false_iff_ne.mpr z0
    have e0 : (m.toList != ([] : List UInt8)) = true := bne_iff_ne.mpr z0
    obtain ⟨W1, hW1⟩ : ∃ W, w.alloc (.cells #[.int .i64 6, .string t, .string m, .int .i64 nm, .slice A n c] 29) = W := ⟨_, rfl⟩
    have hb1 : Below w.heap.size w W1 := by rw [← hW1]; exact (Below.refl _ w).alloc (Nat.le_refl _) _
    have hx1 : W1.heap[w.heap.size]? = some (.cells #[.int .i64 6, .string t, .string m, .int .i64 nm, .slice A n c] 29 (0, 0)) := by rw [← hW1]; exact blk_new w _
    have c0 : W1.cell? ⟨w.heap.size, 0, none⟩ = some (.int .i64 6) := (blk_cell hx1 0).trans rfl
    have c1 : W1.cell? ⟨w.heap.size, 1, none⟩ = some (.string t) := (blk_cell hx1 1).trans rfl
    have c2 : W1.cell? ⟨w.heap.size, 2, none⟩ = some (.string m) := (blk_cell hx1 2).trans rfl
    have c3 : W1.cell? ⟨w.heap.size, 3, none⟩ = some (.int .i64 nm) := (blk_cell hx1 3).trans rfl
    have c4 : W1.cell? ⟨w.heap.size, 4, none⟩ = some (.slice A n c) := (blk_cell hx1 4).trans rfl
    have HB1 := Aside0.mk hb1
    have HX1 := Aside0.mk hx1
    clear hb1 hx1
    go_enter Try.func21, Try.ntmps21
    go_wp2_with fail
    clear hW1
    refine (spec_l1Between.calls 6 1 6 true W1 (by rw [spec_l1Between.f]; simp)).mono ?_
    rintro e W2 ⟨rfl, hd2⟩
    have hb2 := hd2.below
    have hx2 := (hb2.block _ (blk_lt HX1.out)).trans HX1.out
    have HB2 := Aside0.mk (below_then HB1.out HB1.out.size hb2)
    have d0 : W2.cell? ⟨w.heap.size, 0, none⟩ = some (.int .i64 6) := (blk_cell hx2 0).trans rfl
    have d1 : W2.cell? ⟨w.heap.size, 1, none⟩ = some (.string t) := (blk_cell hx2 1).trans rfl
    have d2 : W2.cell? ⟨w.heap.size, 2, none⟩ = some (.string m) := (blk_cell hx2 2).trans rfl
    have d3 : W2.cell? ⟨w.heap.size, 3, none⟩ = some (.int .i64 nm) := (blk_cell hx2 3).trans rfl
    have d4 : W2.cell? ⟨w.heap.size, 4, none⟩ = some (.slice A n c) := (blk_cell hx2 4).trans rfl
    have HX2 := Aside0.mk hx2
    clear c0 c1 c2 c3 c4 hd2 hb2 hx2
    clear HX2
    go_wp2_with fail
    go_ret2
    exact ⟨rfl, HB2.out⟩

set_option maxHeartbeats 4000000 in
set_option maxRecDepth 100000 in
theorem l6_good4 (t m : ByteArray) (nm : Int) (A : Option Addr) (n c : Nat) (w : World) (hc : n ≤ c) (hg : Plain.Ok 4 t m nm n ∧ t.size ≤ 255 ∧ m.size ≤ 65535 ∧ n ≤ 500) :
    Calls Try.prog 21 #[.agg #[.int .i64 4, .string t, .string m, .int .i64 nm, .slice A n c]] w fun e w' => e = .returned (.tuple #[.string ⟨(headL 4 t m nm).toArray⟩, .bool true]) ∧ Below w.heap.size w w' := by
  obtain ⟨⟨hk, ht1, hm1, hn1, hs1⟩, ht, hm, hn5⟩ := hg
  obtain ⟨R, hR⟩ : ∃ R : ByteArray, R = ⟨(headL 4 t m nm).toArray⟩ := ⟨_, rfl⟩
  rw [← hR]
  have HRq := Aside0.mk hR
  clear hR
  have zt : t.toList = [] := by simpa using ht1
  have bt : (t.toList == ([] : List UInt8)) = true := beq_iff_eq.mpr zt
  have et : (t.toList != ([] : List UInt8)) = false := bne_eq_false_iff_eq.mpr zt
  have Zt := Aside0.mk zt
  clear zt
  have zm : m.toList = [] := by simpa using hm1
  have bm : (m.toList == ([] : List UInt8)) = true := beq_iff_eq.mpr zm
  have em : (m.toList != ([] : List UInt8)) = false := bne_eq_false_iff_eq.mpr zm
  have Zm := Aside0.mk zm
  clear zm
  have zn : nm = 0 := by simpa using hn1
  have bn : (nm == 0) = true := beq_iff_eq.mpr zn
  have en : (nm != 0) = false := bne_eq_false_iff_eq.mpr zn
  clear zn
  have zs : n = 0 := by simpa using hs1
  have bs : ((n : Int) == 0) = true := beq_iff_eq.mpr (by omega)
  have es : ((n : Int) != 0) = false := bne_eq_false_iff_eq.mpr (by omega)
  clear zs
  clear hk ht1 hm1 hn1 hs1
  obtain ⟨W1, hW1⟩ : ∃ W, w.alloc (.cells #[.int .i64 4, .string t, .string m, .int .i64 nm, .slice A n c] 29) = W := ⟨_, rfl⟩
  have hb1 : Below w.heap.size w W1 := by rw [← hW1]; exact (Below.refl _ w).alloc (Nat.le_refl _) _
  have hx1 : W1.heap[w.heap.size]? = some (.cells #[.int .i64 4, .string t, .string m, .int .i64 nm, .slice A n c] 29 (0, 0)) := by rw [← hW1]; exact blk_new w _
  have c0 : W1.cell? ⟨w.heap.size, 0, none⟩ = some (.int .i64 4) := (blk_cell hx1 0).trans rfl
  have c1 : W1.cell? ⟨w.heap.size, 1, none⟩ = some (.string t) := (blk_cell hx1 1).trans rfl
  have c2 : W1.cell? ⟨w.heap.size, 2, none⟩ = some (.string m) := (blk_cell hx1 2).trans rfl
  have c3 : W1.cell? ⟨w.heap.size, 3, none⟩ = some (.int .i64 nm) := (blk_cell hx1 3).trans rfl
  have c4 : W1.cell? ⟨w.heap.size, 4, none⟩ = some (.slice A n c) := (blk_cell hx1 4).trans rfl
  have HB1 := Aside0.mk hb1
  have HX1 := Aside0.mk hx1
  clear hb1 hx1
  go_enter Try.func21, Try.ntmps21
  go_wp2_with fail
  clear hW1
  refine (spec_l1Between.calls 4 1 6 true W1 (by rw [spec_l1Between.f]; simp)).mono ?_
  rintro e W2 ⟨rfl, hd2⟩
  have hb2 := hd2.below
  have hx2 := (hb2.block _ (blk_lt HX1.out)).trans HX1.out
  have HB2 := Aside0.mk (below_then HB1.out HB1.out.size hb2)
  have d0 : W2.cell? ⟨w.heap.size, 0, none⟩ = some (.int .i64 4) := (blk_cell hx2 0).trans rfl
  have d1 : W2.cell? ⟨w.heap.size, 1, none⟩ = some (.string t) := (blk_cell hx2 1).trans rfl
  have d2 : W2.cell? ⟨w.heap.size, 2, none⟩ = some (.string m) := (blk_cell hx2 2).trans rfl
  have d3 : W2.cell? ⟨w.heap.size, 3, none⟩ = some (.int .i64 nm) := (blk_cell hx2 3).trans rfl
  have d4 : W2.cell? ⟨w.heap.size, 4, none⟩ = some (.slice A n c) := (blk_cell hx2 4).trans rfl
  have HX2 := Aside0.mk hx2
  clear c0 c1 c2 c3 c4 hd2 hb2 hx2
  go_wp2_with fail
  obtain ⟨K1, hK1⟩ := num_ev 1 (by decide) 4
  refine (spec_l2Num.calls K1 1 4 (Num.bytes 1 4) W2 hK1).mono ?_
  rintro e W3 ⟨rfl, hb3⟩
  obtain ⟨v0, W4, hv, ho, hb4⟩ := Byt.conv W3 (Num.bytes 1 4) (by rw [num_size]; omega)
  have hs : Sq w v0 (nL 1 4) #[.int .i64 4, .string t, .string m, .int .i64 nm, .slice A n c] W4 := by
    have h1 := (hb3.block _ (blk_lt HX2.out)).trans HX2.out
    have h2 := below_then HB2.out HB2.out.size hb3
    exact ⟨ho.weaken h2.size, (hb4.block _ (blk_lt h1)).trans h1, below_then h2 h2.size hb4⟩
  obtain ⟨f0, f1, f2, f3, f4⟩ := hs.cells
  have HS0 := Aside0.mk hs
  clear d0 d1 d2 d3 d4 hb3 ho hb4 hs HX2 HB2 hK1
  have hx := Byt.text _ _ _ _ HS0.out.own
  obtain ⟨sR, hsR⟩ : ∃ s : ByteArray, s = ⟨(nL 1 4).toArray⟩ := ⟨_, rfl⟩
  rw [← hsR] at hx
  have HsR := Aside0.mk hsR
  clear hsR
  go_wp2_with fail
  clear hv
  go_ret2
  exact ⟨by rw [HRq.out, ← show (⟨(nL 1 4).toArray⟩ : ByteArray) = ⟨(headL 4 t m nm).toArray⟩ by simp [headL], ← HsR.out]; rfl, HS0.out.bel⟩

set_option maxHeartbeats 4000000 in
set_option maxRecDepth 100000 in
theorem l6_good2 (t m : ByteArray) (nm : Int) (A : Option Addr) (n c : Nat) (w : World) (hc : n ≤ c) (hg : Plain.Ok 2 t m nm n ∧ t.size ≤ 255 ∧ m.size ≤ 65535 ∧ n ≤ 500) :
    Calls Try.prog 21 #[.agg #[.int .i64 2, .string t, .string m, .int .i64 nm, .slice A n c]] w fun e w' => e = .returned (.tuple #[.string ⟨(headL 2 t m nm).toArray⟩, .bool true]) ∧ Below w.heap.size w w' := by
  obtain ⟨⟨hk, ht1, hm1, hn1, hs1⟩, ht, hm, hn5⟩ := hg
  obtain ⟨R, hR⟩ : ∃ R : ByteArray, R = ⟨(headL 2 t m nm).toArray⟩ := ⟨_, rfl⟩
  rw [← hR]
  have HRq := Aside0.mk hR
  clear hR
  have zt : t.toList = [] := by simpa using ht1
  have bt : (t.toList == ([] : List UInt8)) = true := beq_iff_eq.mpr zt
  have et : (t.toList != ([] : List UInt8)) = false := bne_eq_false_iff_eq.mpr zt
  have Zt := Aside0.mk zt
  clear zt
  have zm : m.toList = [] := by simpa using hm1
  have bm : (m.toList == ([] : List UInt8)) = true := beq_iff_eq.mpr zm
  have em : (m.toList != ([] : List UInt8)) = false := bne_eq_false_iff_eq.mpr zm
  have Zm := Aside0.mk zm
  clear zm
  have zs : n = 0 := by simpa using hs1
  have bs : ((n : Int) == 0) = true := beq_iff_eq.mpr (by omega)
  have es : ((n : Int) != 0) = false := bne_eq_false_iff_eq.mpr (by omega)
  clear zs
  clear hk ht1 hm1 hn1 hs1
  obtain ⟨W1, hW1⟩ : ∃ W, w.alloc (.cells #[.int .i64 2, .string t, .string m, .int .i64 nm, .slice A n c] 29) = W := ⟨_, rfl⟩
  have hb1 : Below w.heap.size w W1 := by rw [← hW1]; exact (Below.refl _ w).alloc (Nat.le_refl _) _
  have hx1 : W1.heap[w.heap.size]? = some (.cells #[.int .i64 2, .string t, .string m, .int .i64 nm, .slice A n c] 29 (0, 0)) := by rw [← hW1]; exact blk_new w _
  have c0 : W1.cell? ⟨w.heap.size, 0, none⟩ = some (.int .i64 2) := (blk_cell hx1 0).trans rfl
  have c1 : W1.cell? ⟨w.heap.size, 1, none⟩ = some (.string t) := (blk_cell hx1 1).trans rfl
  have c2 : W1.cell? ⟨w.heap.size, 2, none⟩ = some (.string m) := (blk_cell hx1 2).trans rfl
  have c3 : W1.cell? ⟨w.heap.size, 3, none⟩ = some (.int .i64 nm) := (blk_cell hx1 3).trans rfl
  have c4 : W1.cell? ⟨w.heap.size, 4, none⟩ = some (.slice A n c) := (blk_cell hx1 4).trans rfl
  have HB1 := Aside0.mk hb1
  have HX1 := Aside0.mk hx1
  clear hb1 hx1
  go_enter Try.func21, Try.ntmps21
  go_wp2_with fail
  clear hW1
  refine (spec_l1Between.calls 2 1 6 true W1 (by rw [spec_l1Between.f]; simp)).mono ?_
  rintro e W2 ⟨rfl, hd2⟩
  have hb2 := hd2.below
  have hx2 := (hb2.block _ (blk_lt HX1.out)).trans HX1.out
  have HB2 := Aside0.mk (below_then HB1.out HB1.out.size hb2)
  have d0 : W2.cell? ⟨w.heap.size, 0, none⟩ = some (.int .i64 2) := (blk_cell hx2 0).trans rfl
  have d1 : W2.cell? ⟨w.heap.size, 1, none⟩ = some (.string t) := (blk_cell hx2 1).trans rfl
  have d2 : W2.cell? ⟨w.heap.size, 2, none⟩ = some (.string m) := (blk_cell hx2 2).trans rfl
  have d3 : W2.cell? ⟨w.heap.size, 3, none⟩ = some (.int .i64 nm) := (blk_cell hx2 3).trans rfl
  have d4 : W2.cell? ⟨w.heap.size, 4, none⟩ = some (.slice A n c) := (blk_cell hx2 4).trans rfl
  have HX2 := Aside0.mk hx2
  clear c0 c1 c2 c3 c4 hd2 hb2 hx2
  go_wp2_with fail
  obtain ⟨K1, hK1⟩ := num_ev 1 (by decide) 2
  refine (spec_l2Num.calls K1 1 2 (Num.bytes 1 2) W2 hK1).mono ?_
  rintro e W3 ⟨rfl, hb3⟩
  obtain ⟨v0, W4, hv, ho, hb4⟩ := Byt.conv W3 (Num.bytes 1 2) (by rw [num_size]; omega)
  have hs : Sq w v0 (nL 1 2) #[.int .i64 2, .string t, .string m, .int .i64 nm, .slice A n c] W4 := by
    have h1 := (hb3.block _ (blk_lt HX2.out)).trans HX2.out
    have h2 := below_then HB2.out HB2.out.size hb3
    exact ⟨ho.weaken h2.size, (hb4.block _ (blk_lt h1)).trans h1, below_then h2 h2.size hb4⟩
  obtain ⟨f0, f1, f2, f3, f4⟩ := hs.cells
  have HS0 := Aside0.mk hs
  clear d0 d1 d2 d3 d4 hb3 ho hb4 hs HX2 HB2 hK1
  go_wp2_with fail
  clear hv
  obtain ⟨Kn, hKn⟩ := num_ev 8 (by decide) nm
  refine (spec_l2Num.calls Kn 8 nm (Num.bytes 8 nm) W4 hKn).mono ?_
  rintro e W5 ⟨rfl, hb5⟩
  have HS1 := Aside0.mk (HS0.out.below hb5)
  obtain ⟨f0, f1, f2, f3, f4⟩ := HS1.out.cells
  clear hb5 HS0
  clear hKn
  go_wp2_with (at_builtin; refine Byt.wpList_append rfl (.tmp 119) (.tmp 122) rfl w.heap.size v0 (nL 1 2) (Num.bytes 8 nm) rfl rfl HS1.out.own HS1.out.bel.size ?hl ?_; (case hl => simp only [List.length_append, List.length_nil, nL_length, s8L_length, s16L_length, s8B_size, s16B_size, num_size]; omega); intro v1 W6 ho hg; have HS2 := Aside0.mk (HS1.out.app (L' := nL 1 2 ++ nL 8 nm) ho hg); obtain ⟨f0, f1, f2, f3, f4⟩ := HS2.out.cells; clear ho hg HS1; have hx := Byt.text _ _ _ _ HS2.out.own; obtain ⟨sR, hsR⟩ : ∃ s : ByteArray, s = ⟨(nL 1 2 ++ nL 8 nm).toArray⟩ := ⟨_, rfl⟩; rw [← hsR] at hx; have HsR := Aside0.mk hsR; clear hsR)
  go_ret2
  exact ⟨by rw [HRq.out, ← show (⟨(nL 1 2 ++ nL 8 nm).toArray⟩ : ByteArray) = ⟨(headL 2 t m nm).toArray⟩ by simp [headL], ← HsR.out]; rfl, HS2.out.bel⟩

set_option maxHeartbeats 4000000 in
set_option maxRecDepth 100000 in
theorem l6_good6 (t m : ByteArray) (nm : Int) (A : Option Addr) (n c : Nat) (w : World) (hc : n ≤ c) (hg : Plain.Ok 6 t m nm n ∧ t.size ≤ 255 ∧ m.size ≤ 65535 ∧ n ≤ 500) :
    Calls Try.prog 21 #[.agg #[.int .i64 6, .string t, .string m, .int .i64 nm, .slice A n c]] w fun e w' => e = .returned (.tuple #[.string ⟨(headL 6 t m nm).toArray⟩, .bool true]) ∧ Below w.heap.size w w' := by
  obtain ⟨⟨hk, ht1, hm1, hn1, hs1⟩, ht, hm, hn5⟩ := hg
  obtain ⟨R, hR⟩ : ∃ R : ByteArray, R = ⟨(headL 6 t m nm).toArray⟩ := ⟨_, rfl⟩
  rw [← hR]
  have HRq := Aside0.mk hR
  clear hR
  have zm : m.toList = [] := by simpa using hm1
  have bm : (m.toList == ([] : List UInt8)) = true := beq_iff_eq.mpr zm
  have em : (m.toList != ([] : List UInt8)) = false := bne_eq_false_iff_eq.mpr zm
  have Zm := Aside0.mk zm
  clear zm
  have zn : nm = 0 := by simpa using hn1
  have bn : (nm == 0) = true := beq_iff_eq.mpr zn
  have en : (nm != 0) = false := bne_eq_false_iff_eq.mpr zn
  clear zn
  have zs : n = 0 := by simpa using hs1
  have bs : ((n : Int) == 0) = true := beq_iff_eq.mpr (by omega)
  have es : ((n : Int) != 0) = false := bne_eq_false_iff_eq.mpr (by omega)
  clear zs
  clear hk ht1 hm1 hn1 hs1
  obtain ⟨W1, hW1⟩ : ∃ W, w.alloc (.cells #[.int .i64 6, .string t, .string m, .int .i64 nm, .slice A n c] 29) = W := ⟨_, rfl⟩
  have hb1 : Below w.heap.size w W1 := by rw [← hW1]; exact (Below.refl _ w).alloc (Nat.le_refl _) _
  have hx1 : W1.heap[w.heap.size]? = some (.cells #[.int .i64 6, .string t, .string m, .int .i64 nm, .slice A n c] 29 (0, 0)) := by rw [← hW1]; exact blk_new w _
  have c0 : W1.cell? ⟨w.heap.size, 0, none⟩ = some (.int .i64 6) := (blk_cell hx1 0).trans rfl
  have c1 : W1.cell? ⟨w.heap.size, 1, none⟩ = some (.string t) := (blk_cell hx1 1).trans rfl
  have c2 : W1.cell? ⟨w.heap.size, 2, none⟩ = some (.string m) := (blk_cell hx1 2).trans rfl
  have c3 : W1.cell? ⟨w.heap.size, 3, none⟩ = some (.int .i64 nm) := (blk_cell hx1 3).trans rfl
  have c4 : W1.cell? ⟨w.heap.size, 4, none⟩ = some (.slice A n c) := (blk_cell hx1 4).trans rfl
  have HB1 := Aside0.mk hb1
  have HX1 := Aside0.mk hx1
  clear hb1 hx1
  go_enter Try.func21, Try.ntmps21
  go_wp2_with fail
  clear hW1
  refine (spec_l1Between.calls 6 1 6 true W1 (by rw [spec_l1Between.f]; simp)).mono ?_
  rintro e W2 ⟨rfl, hd2⟩
  have hb2 := hd2.below
  have hx2 := (hb2.block _ (blk_lt HX1.out)).trans HX1.out
  have HB2 := Aside0.mk (below_then HB1.out HB1.out.size hb2)
  have d0 : W2.cell? ⟨w.heap.size, 0, none⟩ = some (.int .i64 6) := (blk_cell hx2 0).trans rfl
  have d1 : W2.cell? ⟨w.heap.size, 1, none⟩ = some (.string t) := (blk_cell hx2 1).trans rfl
  have d2 : W2.cell? ⟨w.heap.size, 2, none⟩ = some (.string m) := (blk_cell hx2 2).trans rfl
  have d3 : W2.cell? ⟨w.heap.size, 3, none⟩ = some (.int .i64 nm) := (blk_cell hx2 3).trans rfl
  have d4 : W2.cell? ⟨w.heap.size, 4, none⟩ = some (.slice A n c) := (blk_cell hx2 4).trans rfl
  have HX2 := Aside0.mk hx2
  clear c0 c1 c2 c3 c4 hd2 hb2 hx2
  go_wp2_with fail
  obtain ⟨K1, hK1⟩ := num_ev 1 (by decide) 6
  refine (spec_l2Num.calls K1 1 6 (Num.bytes 1 6) W2 hK1).mono ?_
  rintro e W3 ⟨rfl, hb3⟩
  obtain ⟨v0, W4, hv, ho, hb4⟩ := Byt.conv W3 (Num.bytes 1 6) (by rw [num_size]; omega)
  have hs : Sq w v0 (nL 1 6) #[.int .i64 6, .string t, .string m, .int .i64 nm, .slice A n c] W4 := by
    have h1 := (hb3.block _ (blk_lt HX2.out)).trans HX2.out
    have h2 := below_then HB2.out HB2.out.size hb3
    exact ⟨ho.weaken h2.size, (hb4.block _ (blk_lt h1)).trans h1, below_then h2 h2.size hb4⟩
  obtain ⟨f0, f1, f2, f3, f4⟩ := hs.cells
  have HS0 := Aside0.mk hs
  clear d0 d1 d2 d3 d4 hb3 ho hb4 hs HX2 HB2 hK1
  go_wp2_with fail
  clear hv
  obtain ⟨Kt, hKt⟩ := s8_ev t (by omega)
  refine (spec_l2S8.calls Kt t (s8B t) W4 hKt).mono ?_
  rintro e W5 ⟨rfl, hb5⟩
  have HS1 := Aside0.mk (HS0.out.below hb5)
  obtain ⟨f0, f1, f2, f3, f4⟩ := HS1.out.cells
  clear hb5 HS0
  clear hKt
  go_wp2_with (at_builtin; refine Byt.wpList_append rfl (.tmp 107) (.tmp 110) rfl w.heap.size v0 (nL 1 6) (s8B t) rfl rfl HS1.out.own HS1.out.bel.size ?hl ?_; (case hl => simp only [List.length_append, List.length_nil, nL_length, s8L_length, s16L_length, s8B_size, s16B_size, num_size]; omega); intro v1 W6 ho hg; rw [s8B_list] at ho; have HS2 := Aside0.mk (HS1.out.app (L' := nL 1 6 ++ s8L t) ho hg); obtain ⟨f0, f1, f2, f3, f4⟩ := HS2.out.cells; clear ho hg HS1; have hx := Byt.text _ _ _ _ HS2.out.own; obtain ⟨sR, hsR⟩ : ∃ s : ByteArray, s = ⟨(nL 1 6 ++ s8L t).toArray⟩ := ⟨_, rfl⟩; rw [← hsR] at hx; have HsR := Aside0.mk hsR; clear hsR)
  go_ret2
  exact ⟨by rw [HRq.out, ← show (⟨(nL 1 6 ++ s8L t).toArray⟩ : ByteArray) = ⟨(headL 6 t m nm).toArray⟩ by simp [headL], ← HsR.out]; rfl, HS2.out.bel⟩

set_option maxHeartbeats 4000000 in
set_option maxRecDepth 100000 in
theorem l6_good5 (t m : ByteArray) (nm : Int) (A : Option Addr) (n c : Nat) (w : World) (hc : n ≤ c) (hg : Plain.Ok 5 t m nm n ∧ t.size ≤ 255 ∧ m.size ≤ 65535 ∧ n ≤ 500) :
    Calls Try.prog 21 #[.agg #[.int .i64 5, .string t, .string m, .int .i64 nm, .slice A n c]] w fun e w' => e = .returned (.tuple #[.string ⟨(headL 5 t m nm).toArray⟩, .bool true]) ∧ Below w.heap.size w w' := by
  obtain ⟨⟨hk, ht1, hm1, hn1, hs1⟩, ht, hm, hn5⟩ := hg
  obtain ⟨R, hR⟩ : ∃ R : ByteArray, R = ⟨(headL 5 t m nm).toArray⟩ := ⟨_, rfl⟩
  rw [← hR]
  have HRq := Aside0.mk hR
  clear hR
  have zn : nm = 0 := by simpa using hn1
  have bn : (nm == 0) = true := beq_iff_eq.mpr zn
  have en : (nm != 0) = false := bne_eq_false_iff_eq.mpr zn
  clear zn
  have zs : n = 0 := by simpa using hs1
  have bs : ((n : Int) == 0) = true := beq_iff_eq.mpr (by omega)
  have es : ((n : Int) != 0) = false := bne_eq_false_iff_eq.mpr (by omega)
  clear zs
  clear hk ht1 hm1 hn1 hs1
  obtain ⟨W1, hW1⟩ : ∃ W, w.alloc (.cells #[.int .i64 5, .string t, .string m, .int .i64 nm, .slice A n c] 29) = W := ⟨_, rfl⟩
  have hb1 : Below w.heap.size w W1 := by rw [← hW1]; exact (Below.refl _ w).alloc (Nat.le_refl _) _
  have hx1 : W1.heap[w.heap.size]? = some (.cells #[.int .i64 5, .string t, .string m, .int .i64 nm, .slice A n c] 29 (0, 0)) := by rw [← hW1]; exact blk_new w _
  have c0 : W1.cell? ⟨w.heap.size, 0, none⟩ = some (.int .i64 5) := (blk_cell hx1 0).trans rfl
  have c1 : W1.cell? ⟨w.heap.size, 1, none⟩ = some (.string t) := (blk_cell hx1 1).trans rfl
  have c2 : W1.cell? ⟨w.heap.size, 2, none⟩ = some (.string m) := (blk_cell hx1 2).trans rfl
  have c3 : W1.cell? ⟨w.heap.size, 3, none⟩ = some (.int .i64 nm) := (blk_cell hx1 3).trans rfl
  have c4 : W1.cell? ⟨w.heap.size, 4, none⟩ = some (.slice A n c) := (blk_cell hx1 4).trans rfl
  have HB1 := Aside0.mk hb1
  have HX1 := Aside0.mk hx1
  clear hb1 hx1
  go_enter Try.func21, Try.ntmps21
  go_wp2_with fail
  clear hW1
  refine (spec_l1Between.calls 5 1 6 true W1 (by rw [spec_l1Between.f]; simp)).mono ?_
  rintro e W2 ⟨rfl, hd2⟩
  have hb2 := hd2.below
  have hx2 := (hb2.block _ (blk_lt HX1.out)).trans HX1.out
  have HB2 := Aside0.mk (below_then HB1.out HB1.out.size hb2)
  have d0 : W2.cell? ⟨w.heap.size, 0, none⟩ = some (.int .i64 5) := (blk_cell hx2 0).trans rfl
  have d1 : W2.cell? ⟨w.heap.size, 1, none⟩ = some (.string t) := (blk_cell hx2 1).trans rfl
  have d2 : W2.cell? ⟨w.heap.size, 2, none⟩ = some (.string m) := (blk_cell hx2 2).trans rfl
  have d3 : W2.cell? ⟨w.heap.size, 3, none⟩ = some (.int .i64 nm) := (blk_cell hx2 3).trans rfl
  have d4 : W2.cell? ⟨w.heap.size, 4, none⟩ = some (.slice A n c) := (blk_cell hx2 4).trans rfl
  have HX2 := Aside0.mk hx2
  clear c0 c1 c2 c3 c4 hd2 hb2 hx2
  go_wp2_with fail
  obtain ⟨K1, hK1⟩ := num_ev 1 (by decide) 5
  refine (spec_l2Num.calls K1 1 5 (Num.bytes 1 5) W2 hK1).mono ?_
  rintro e W3 ⟨rfl, hb3⟩
  obtain ⟨v0, W4, hv, ho, hb4⟩ := Byt.conv W3 (Num.bytes 1 5) (by rw [num_size]; omega)
  have hs : Sq w v0 (nL 1 5) #[.int .i64 5, .string t, .string m, .int .i64 nm, .slice A n c] W4 := by
    have h1 := (hb3.block _ (blk_lt HX2.out)).trans HX2.out
    have h2 := below_then HB2.out HB2.out.size hb3
    exact ⟨ho.weaken h2.size, (hb4.block _ (blk_lt h1)).trans h1, below_then h2 h2.size hb4⟩
  obtain ⟨f0, f1, f2, f3, f4⟩ := hs.cells
  have HS0 := Aside0.mk hs
  clear d0 d1 d2 d3 d4 hb3 ho hb4 hs HX2 HB2 hK1
  go_wp2_with fail
  clear hv
  obtain ⟨Kt, hKt⟩ := s8_ev t (by omega)
  refine (spec_l2S8.calls Kt t (s8B t) W4 hKt).mono ?_
  rintro e W5 ⟨rfl, hb5⟩
  have HS1 := Aside0.mk (HS0.out.below hb5)
  obtain ⟨f0, f1, f2, f3, f4⟩ := HS1.out.cells
  clear hb5 HS0
  clear hKt
  go_wp2_with (at_builtin; refine Byt.wpList_append rfl (.tmp 107) (.tmp 110) rfl w.heap.size v0 (nL 1 5) (s8B t) rfl rfl HS1.out.own HS1.out.bel.size ?hl ?_; (case hl => simp only [List.length_append, List.length_nil, nL_length, s8L_length, s16L_length, s8B_size, s16B_size, num_size]; omega); intro v1 W6 ho hg; rw [s8B_list] at ho; have HS2 := Aside0.mk (HS1.out.app (L' := nL 1 5 ++ s8L t) ho hg); obtain ⟨f0, f1, f2, f3, f4⟩ := HS2.out.cells; clear ho hg HS1)
  obtain ⟨Km, hKm⟩ := s16_ev m (by omega)
  refine (spec_l2S16.calls Km m (s16B m) W6 hKm).mono ?_
  rintro e W7 ⟨rfl, hb7⟩
  have HS3 := Aside0.mk (HS2.out.below hb7)
  obtain ⟨f0, f1, f2, f3, f4⟩ := HS3.out.cells
  clear hb7 HS2
  clear hKm
  go_wp2_with (at_builtin; refine Byt.wpList_append rfl (.tmp 113) (.tmp 116) rfl w.heap.size v1 (nL 1 5 ++ s8L t) (s16B m) rfl rfl HS3.out.own HS3.out.bel.size ?hl ?_; (case hl => simp only [List.length_append, List.length_nil, nL_length, s8L_length, s16L_length, s8B_size, s16B_size, num_size]; omega); intro v2 W8 ho hg; rw [s16B_list] at ho; have HS4 := Aside0.mk (HS3.out.app (L' := nL 1 5 ++ s8L t ++ s16L m) ho hg); obtain ⟨f0, f1, f2, f3, f4⟩ := HS4.out.cells; clear ho hg HS3; have hx := Byt.text _ _ _ _ HS4.out.own; obtain ⟨sR, hsR⟩ : ∃ s : ByteArray, s = ⟨(nL 1 5 ++ s8L t ++ s16L m).toArray⟩ := ⟨_, rfl⟩; rw [← hsR] at hx; have HsR := Aside0.mk hsR; clear hsR)
  go_ret2
  exact ⟨by rw [HRq.out, ← show (⟨(nL 1 5 ++ s8L t ++ s16L m).toArray⟩ : ByteArray) = ⟨(headL 5 t m nm).toArray⟩ by simp [headL], ← HsR.out]; rfl, HS4.out.bel⟩

set_option maxHeartbeats 4000000 in
set_option maxRecDepth 100000 in
theorem l6_good3 (t m : ByteArray) (nm : Int) (A : Option Addr) (n c : Nat) (w : World) (hc : n ≤ c) (hg : Plain.Ok 3 t m nm n ∧ t.size ≤ 255 ∧ m.size ≤ 65535 ∧ n ≤ 500) :
    Calls Try.prog 21 #[.agg #[.int .i64 3, .string t, .string m, .int .i64 nm, .slice A n c]] w fun e w' => e = .returned (.tuple #[.string ⟨(headL 3 t m nm).toArray⟩, .bool true]) ∧ Below w.heap.size w w' := by
  obtain ⟨⟨hk, ht1, hm1, hn1, hs1⟩, ht, hm, hn5⟩ := hg
  obtain ⟨R, hR⟩ : ∃ R : ByteArray, R = ⟨(headL 3 t m nm).toArray⟩ := ⟨_, rfl⟩
  rw [← hR]
  have HRq := Aside0.mk hR
  clear hR
  have zs : n = 0 := by simpa using hs1
  have bs : ((n : Int) == 0) = true := beq_iff_eq.mpr (by omega)
  have es : ((n : Int) != 0) = false := bne_eq_false_iff_eq.mpr (by omega)
  clear zs
  clear hk ht1 hm1 hn1 hs1
  obtain ⟨W1, hW1⟩ : ∃ W, w.alloc (.cells #[.int .i64 3, .string t, .string m, .int .i64 nm, .slice A n c] 29) = W := ⟨_, rfl⟩
  have hb1 : Below w.heap.size w W1 := by rw [← hW1]; exact (Below.refl _ w).alloc (Nat.le_refl _) _
  have hx1 : W1.heap[w.heap.size]? = some (.cells #[.int .i64 3, .string t, .string m, .int .i64 nm, .slice A n c] 29 (0, 0)) := by rw [← hW1]; exact blk_new w _
  have c0 : W1.cell? ⟨w.heap.size, 0, none⟩ = some (.int .i64 3) := (blk_cell hx1 0).trans rfl
  have c1 : W1.cell? ⟨w.heap.size, 1, none⟩ = some (.string t) := (blk_cell hx1 1).trans rfl
  have c2 : W1.cell? ⟨w.heap.size, 2, none⟩ = some (.string m) := (blk_cell hx1 2).trans rfl
  have c3 : W1.cell? ⟨w.heap.size, 3, none⟩ = some (.int .i64 nm) := (blk_cell hx1 3).trans rfl
  have c4 : W1.cell? ⟨w.heap.size, 4, none⟩ = some (.slice A n c) := (blk_cell hx1 4).trans rfl
  have HB1 := Aside0.mk hb1
  have HX1 := Aside0.mk hx1
  clear hb1 hx1
  go_enter Try.func21, Try.ntmps21
  go_wp2_with fail
  clear hW1
  refine (spec_l1Between.calls 3 1 6 true W1 (by rw [spec_l1Between.f]; simp)).mono ?_
  rintro e W2 ⟨rfl, hd2⟩
  have hb2 := hd2.below
  have hx2 := (hb2.block _ (blk_lt HX1.out)).trans HX1.out
  have HB2 := Aside0.mk (below_then HB1.out HB1.out.size hb2)
  have d0 : W2.cell? ⟨w.heap.size, 0, none⟩ = some (.int .i64 3) := (blk_cell hx2 0).trans rfl
  have d1 : W2.cell? ⟨w.heap.size, 1, none⟩ = some (.string t) := (blk_cell hx2 1).trans rfl
  have d2 : W2.cell? ⟨w.heap.size, 2, none⟩ = some (.string m) := (blk_cell hx2 2).trans rfl
  have d3 : W2.cell? ⟨w.heap.size, 3, none⟩ = some (.int .i64 nm) := (blk_cell hx2 3).trans rfl
  have d4 : W2.cell? ⟨w.heap.size, 4, none⟩ = some (.slice A n c) := (blk_cell hx2 4).trans rfl
  have HX2 := Aside0.mk hx2
  clear c0 c1 c2 c3 c4 hd2 hb2 hx2
  go_wp2_with fail
  obtain ⟨K1, hK1⟩ := num_ev 1 (by decide) 3
  refine (spec_l2Num.calls K1 1 3 (Num.bytes 1 3) W2 hK1).mono ?_
  rintro e W3 ⟨rfl, hb3⟩
  obtain ⟨v0, W4, hv, ho, hb4⟩ := Byt.conv W3 (Num.bytes 1 3) (by rw [num_size]; omega)
  have hs : Sq w v0 (nL 1 3) #[.int .i64 3, .string t, .string m, .int .i64 nm, .slice A n c] W4 := by
    have h1 := (hb3.block _ (blk_lt HX2.out)).trans HX2.out
    have h2 := below_then HB2.out HB2.out.size hb3
    exact ⟨ho.weaken h2.size, (hb4.block _ (blk_lt h1)).trans h1, below_then h2 h2.size hb4⟩
  obtain ⟨f0, f1, f2, f3, f4⟩ := hs.cells
  have HS0 := Aside0.mk hs
  clear d0 d1 d2 d3 d4 hb3 ho hb4 hs HX2 HB2 hK1
  go_wp2_with fail
  clear hv
  obtain ⟨Kt, hKt⟩ := s8_ev t (by omega)
  refine (spec_l2S8.calls Kt t (s8B t) W4 hKt).mono ?_
  rintro e W5 ⟨rfl, hb5⟩
  have HS1 := Aside0.mk (HS0.out.below hb5)
  obtain ⟨f0, f1, f2, f3, f4⟩ := HS1.out.cells
  clear hb5 HS0
  clear hKt
  go_wp2_with (at_builtin; refine Byt.wpList_append rfl (.tmp 107) (.tmp 110) rfl w.heap.size v0 (nL 1 3) (s8B t) rfl rfl HS1.out.own HS1.out.bel.size ?hl ?_; (case hl => simp only [List.length_append, List.length_nil, nL_length, s8L_length, s16L_length, s8B_size, s16B_size, num_size]; omega); intro v1 W6 ho hg; rw [s8B_list] at ho; have HS2 := Aside0.mk (HS1.out.app (L' := nL 1 3 ++ s8L t) ho hg); obtain ⟨f0, f1, f2, f3, f4⟩ := HS2.out.cells; clear ho hg HS1)
  obtain ⟨Km, hKm⟩ := s16_ev m (by omega)
  refine (spec_l2S16.calls Km m (s16B m) W6 hKm).mono ?_
  rintro e W7 ⟨rfl, hb7⟩
  have HS3 := Aside0.mk (HS2.out.below hb7)
  obtain ⟨f0, f1, f2, f3, f4⟩ := HS3.out.cells
  clear hb7 HS2
  clear hKm
  go_wp2_with (at_builtin; refine Byt.wpList_append rfl (.tmp 113) (.tmp 116) rfl w.heap.size v1 (nL 1 3 ++ s8L t) (s16B m) rfl rfl HS3.out.own HS3.out.bel.size ?hl ?_; (case hl => simp only [List.length_append, List.length_nil, nL_length, s8L_length, s16L_length, s8B_size, s16B_size, num_size]; omega); intro v2 W8 ho hg; rw [s16B_list] at ho; have HS4 := Aside0.mk (HS3.out.app (L' := nL 1 3 ++ s8L t ++ s16L m) ho hg); obtain ⟨f0, f1, f2, f3, f4⟩ := HS4.out.cells; clear ho hg HS3)
  obtain ⟨Kn, hKn⟩ := num_ev 8 (by decide) nm
  refine (spec_l2Num.calls Kn 8 nm (Num.bytes 8 nm) W8 hKn).mono ?_
  rintro e W9 ⟨rfl, hb9⟩
  have HS5 := Aside0.mk (HS4.out.below hb9)
  obtain ⟨f0, f1, f2, f3, f4⟩ := HS5.out.cells
  clear hb9 HS4
  clear hKn
  go_wp2_with (at_builtin; refine Byt.wpList_append rfl (.tmp 119) (.tmp 122) rfl w.heap.size v2 (nL 1 3 ++ s8L t ++ s16L m) (Num.bytes 8 nm) rfl rfl HS5.out.own HS5.out.bel.size ?hl ?_; (case hl => simp only [List.length_append, List.length_nil, nL_length, s8L_length, s16L_length, s8B_size, s16B_size, num_size]; omega); intro v3 W10 ho hg; have HS6 := Aside0.mk (HS5.out.app (L' := nL 1 3 ++ s8L t ++ s16L m ++ nL 8 nm) ho hg); obtain ⟨f0, f1, f2, f3, f4⟩ := HS6.out.cells; clear ho hg HS5; have hx := Byt.text _ _ _ _ HS6.out.own; obtain ⟨sR, hsR⟩ : ∃ s : ByteArray, s = ⟨(nL 1 3 ++ s8L t ++ s16L m ++ nL 8 nm).toArray⟩ := ⟨_, rfl⟩; rw [← hsR] at hx; have HsR := Aside0.mk hsR; clear hsR)
  go_ret2
  exact ⟨by rw [HRq.out, ← show (⟨(nL 1 3 ++ s8L t ++ s16L m ++ nL 8 nm).toArray⟩ : ByteArray) = ⟨(headL 3 t m nm).toArray⟩ by simp [headL], ← HsR.out]; rfl, HS6.out.bel⟩

set_option maxHeartbeats 8000000 in
set_option maxRecDepth 100000 in
theorem l6_good1 (t m : ByteArray) (nm : Int) (A : Option Addr) (c : Nat) (l : List S65) (w : World) (hr : Kd.C k65 w A l.length l) (hc : l.length ≤ c) (hg : Good 1 t m nm l) (R1 : ByteArray) (R2 : Bool)
    (hy : (∀ y ∈ l, SampOK y) → R1 = ⟨(bodyL 1 t m nm l).toArray⟩ ∧ R2 = true) (hno : ¬ (∀ y ∈ l, SampOK y) → R1 = ⟨#[]⟩ ∧ R2 = false) :
    Calls Try.prog 21 #[.agg #[.int .i64 1, .string t, .string m, .int .i64 nm, .slice A l.length c]] w fun e w' => e = .returned (.tuple #[.string R1, .bool R2]) ∧ Below w.heap.size w w' := by
  obtain ⟨⟨hk, ht1, hm1, hn1, hs1⟩, ht, hm, hn5⟩ := hg
  have HR := Aside0.mk hr
  have HYES := Aside0.mk hy
  have HNO := Aside0.mk hno
  clear hr hy hno
  have zm : m.toList = [] := by simpa using hm1
  have bm : (m.toList == ([] : List UInt8)) = true := beq_iff_eq.mpr zm
  have em : (m.toList != ([] : List UInt8)) = false := bne_eq_false_iff_eq.mpr zm
  have Zm := Aside0.mk zm
  clear zm
  have zn : nm = 0 := by simpa using hn1
  have bn : (nm == 0) = true := beq_iff_eq.mpr zn
  have en : (nm != 0) = false := bne_eq_false_iff_eq.mpr zn
  clear zn
  clear hk ht1 hm1 hn1 hs1
  obtain ⟨W1, hW1⟩ : ∃ W, w.alloc (.cells #[.int .i64 1, .string t, .string m, .int .i64 nm, .slice A l.length c] 29) = W := ⟨_, rfl⟩
  have hb1 : Below w.heap.size w W1 := by rw [← hW1]; exact (Below.refl _ w).alloc (Nat.le_refl _) _
  have hx1 : W1.heap[w.heap.size]? = some (.cells #[.int .i64 1, .string t, .string m, .int .i64 nm, .slice A l.length c] 29 (0, 0)) := by rw [← hW1]; exact blk_new w _
  have c0 : W1.cell? ⟨w.heap.size, 0, none⟩ = some (.int .i64 1) := (blk_cell hx1 0).trans rfl
  have c1 : W1.cell? ⟨w.heap.size, 1, none⟩ = some (.string t) := (blk_cell hx1 1).trans rfl
  have c2 : W1.cell? ⟨w.heap.size, 2, none⟩ = some (.string m) := (blk_cell hx1 2).trans rfl
  have c3 : W1.cell? ⟨w.heap.size, 3, none⟩ = some (.int .i64 nm) := (blk_cell hx1 3).trans rfl
  have c4 : W1.cell? ⟨w.heap.size, 4, none⟩ = some (.slice A l.length c) := (blk_cell hx1 4).trans rfl
  have HB1 := Aside0.mk hb1
  have HX1 := Aside0.mk hx1
  clear hb1 hx1
  go_enter Try.func21, Try.ntmps21
  go_wp2_with fail
  clear hW1
  refine (spec_l1Between.calls 1 1 6 true W1 (by rw [spec_l1Between.f]; simp)).mono ?_
  rintro e W2 ⟨rfl, hd2⟩
  have hb2 := hd2.below
  have hx2 := (hb2.block _ (blk_lt HX1.out)).trans HX1.out
  have HB2 := Aside0.mk (below_then HB1.out HB1.out.size hb2)
  have d0 : W2.cell? ⟨w.heap.size, 0, none⟩ = some (.int .i64 1) := (blk_cell hx2 0).trans rfl
  have d1 : W2.cell? ⟨w.heap.size, 1, none⟩ = some (.string t) := (blk_cell hx2 1).trans rfl
  have d2 : W2.cell? ⟨w.heap.size, 2, none⟩ = some (.string m) := (blk_cell hx2 2).trans rfl
  have d3 : W2.cell? ⟨w.heap.size, 3, none⟩ = some (.int .i64 nm) := (blk_cell hx2 3).trans rfl
  have d4 : W2.cell? ⟨w.heap.size, 4, none⟩ = some (.slice A l.length c) := (blk_cell hx2 4).trans rfl
  have HX2 := Aside0.mk hx2
  clear c0 c1 c2 c3 c4 hd2 hb2 hx2
  go_wp2_with fail
  obtain ⟨K1, hK1⟩ := num_ev 1 (by decide) 1
  refine (spec_l2Num.calls K1 1 1 (Num.bytes 1 1) W2 hK1).mono ?_
  rintro e W3 ⟨rfl, hb3⟩
  obtain ⟨v0, W4, hv, ho, hb4⟩ := Byt.conv W3 (Num.bytes 1 1) (by rw [num_size]; omega)
  have hs : Sq w v0 (nL 1 1) #[.int .i64 1, .string t, .string m, .int .i64 nm, .slice A l.length c] W4 := by
    have h1 := (hb3.block _ (blk_lt HX2.out)).trans HX2.out
    have h2 := below_then HB2.out HB2.out.size hb3
    exact ⟨ho.weaken h2.size, (hb4.block _ (blk_lt h1)).trans h1, below_then h2 h2.size hb4⟩
  obtain ⟨f0, f1, f2, f3, f4⟩ := hs.cells
  have HS0 := Aside0.mk hs
  clear d0 d1 d2 d3 d4 hb3 ho hb4 hs HX2 HB2 hK1
  go_wp2_with fail
  clear hv
  obtain ⟨Kt, hKt⟩ := s8_ev t (by omega)
  refine (spec_l2S8.calls Kt t (s8B t) W4 hKt).mono ?_
  rintro e W5 ⟨rfl, hb5⟩
  have HS1 := Aside0.mk (HS0.out.below hb5)
  obtain ⟨f0, f1, f2, f3, f4⟩ := HS1.out.cells
  clear hb5 HS0
  clear hKt
  go_wp2_with (at_builtin; refine Byt.wpList_append rfl (.tmp 107) (.tmp 110) rfl w.heap.size v0 (nL 1 1) (s8B t) rfl rfl HS1.out.own HS1.out.bel.size ?hl ?_; (case hl => simp only [List.length_append, List.length_nil, nL_length, s8L_length, s16L_length, s8B_size, s16B_size, num_size]; omega); intro v1 W6 ho hg; rw [s8B_list] at ho; have HS2 := Aside0.mk (HS1.out.app (L' := nL 1 1 ++ s8L t) ho hg); obtain ⟨f0, f1, f2, f3, f4⟩ := HS2.out.cells; clear ho hg HS1)
  obtain ⟨Kn, hKn⟩ := num_ev 2 (by decide) l.length
  refine (spec_l2Num.calls Kn 2 l.length (Num.bytes 2 l.length) W6 hKn).mono ?_
  rintro e W7 ⟨rfl, hb7⟩
  have HS3 := Aside0.mk (HS2.out.below hb7)
  obtain ⟨f0, f1, f2, f3, f4⟩ := HS3.out.cells
  clear hb7 HS2
  clear hKn
  go_wp2_with (at_builtin; refine Byt.wpList_append rfl (.tmp 129) (.tmp 133) rfl w.heap.size v1 (nL 1 1 ++ s8L t) (Num.bytes 2 l.length) rfl rfl HS3.out.own HS3.out.bel.size ?hl ?_; (case hl => simp only [List.length_append, List.length_nil, nL_length, s8L_length, s16L_length, s8B_size, s16B_size, num_size]; omega); intro v2 W8 ho hg; have HS4 := Aside0.mk (HS3.out.app (L' := nL 1 1 ++ s8L t ++ nL 2 l.length) ho hg); obtain ⟨f0, f1, f2, f3, f4⟩ := HS4.out.cells; clear ho hg HS3)
  obtain ⟨L0, hL0⟩ : ∃ L0, L0 = nL 1 1 ++ s8L t ++ nL 2 l.length := ⟨_, rfl⟩
  rw [← hL0] at HS4
  have hL0n : L0.length ≤ 1000 := by rw [hL0]; simp only [List.length_append, nL_length, s8L_length]; omega
  have hbody : bodyL 1 t m nm l = L0 ++ sampsL l := by rw [hL0]; unfold bodyL headL; simp
  have HBD := Aside0.mk hbody
  clear hbody hL0
  clear f0 f1 f2 f3 f4
  go_loopw [138, 7] (fun i s7 wr => ∃ j : Nat, i = .int .i64 j ∧ j ≤ l.length ∧ Aside0 (Sq w s7 (L0 ++ sampsL (l.take j)) #[.int .i64 1, .string t, .string m, .int .i64 nm, .slice A l.length c] wr) ∧ Aside0 (∀ y ∈ l.take j, SampOK y)) (fun i _ _ => l.length - (intOf i).toNat)
  case atStart => exact ⟨0, rfl, Nat.zero_le _, ⟨by simpa [sampsL] using HS4.out⟩, ⟨by simp⟩⟩
  case round =>
    obtain ⟨j, rfl, hj, HSr, HOr⟩ := hrel
    by_cases hlt : j < l.length
    · obtain ⟨ad, A0, c0, ea, x0, x1, hc0, hC0⟩ := at_T65 HR.out (j : Int) (by omega) (by omega)
      subst ea
      rw [Int.toNat_natCast] at x0 x1
      rw [rd_S l j hlt] at x0 x1 hc0 hC0
      replace x0 := (HSr.out.bel.cell (World.block_lt_of_cell? w _ x0)).trans x0
      replace x1 := (HSr.out.bel.cell (World.block_lt_of_cell? w _ x1)).trans x1
      obtain ⟨x, hx⟩ : ∃ x, x = l[j] := ⟨_, rfl⟩
      rw [← hx] at x0 x1 hc0 hC0
      have HX := Aside0.mk hx
      have HC0 := Aside0.mk hC0
      have hLr : (sampsL (l.take j)).length ≤ 500 * 16777224 := by
        have h1 := sampsL_le (l.take j) HOr.out
        have h2 : (l.take j).length ≤ 500 := by rw [List.length_take]; omega
        have h3 : (l.take j).length * 16777224 ≤ 500 * 16777224 := Nat.mul_le_mul_right _ h2
        exact Nat.le_trans h1 h3
      have HLr := Aside0.mk hLr
      clear hx hC0 hLr
      obtain ⟨Wa, hWa⟩ : ∃ W, wr.alloc (.cells #[.slice A0 x.f0.length c0, .int .i64 x.f1] 65) = W := ⟨_, rfl⟩
      obtain ⟨g5, hg5⟩ : ∃ g, wr.heap.size = g := ⟨_, rfl⟩
      have hxa : Wa.heap[g5]? = some (.cells #[.slice A0 x.f0.length c0, .int .i64 x.f1] 65 (0, 0)) := by rw [← hWa, ← hg5]; exact blk_new wr _
      have HSa : Aside0 (Sq w _ (L0 ++ sampsL (l.take j)) #[.int .i64 1, .string t, .string m, .int .i64 nm, .slice (some ad) l.length c] Wa) := ⟨by rw [← hWa]; exact HSr.out.alloc _⟩
      have u0 : Wa.cell? ⟨g5, 0, none⟩ = some (.slice A0 x.f0.length c0) := (blk_cell hxa 0).trans rfl
      have u1 : Wa.cell? ⟨g5, 1, none⟩ = some (.int .i64 x.f1) := (blk_cell hxa 1).trans rfl
      have HXa := Aside0.mk hxa
      clear hxa
      by_cases hbig : 255 < x.f0.length
      · have hq := Aside0.mk (HNO.out (fun h => by have := (h x (by rw [HX.out]; exact List.getElem_mem _)).1; omega))
        go_wp2_with fail
        go_ret2
        exact ⟨by rw [hq.out.1, hq.out.2]; rfl, HSa.out.bel⟩
      · go_wp2_with fail
        clear hWa hg5 x0 x1
        obtain ⟨Ka, hKa⟩ := num_ev 1 (by decide) x.f0.length
        refine (spec_l2Num.calls Ka 1 x.f0.length (Num.bytes 1 x.f0.length) Wa hKa).mono ?_
        rintro e Wb ⟨rfl, hbb⟩
        have HSb := Aside0.mk (HSa.out.below hbb)
        have HXb := Aside0.mk ((hbb.block _ (blk_lt HXa.out)).trans HXa.out)
        clear hbb HSa HXa u0 u1 hKa
        go_wp2_with (at_builtin; refine Byt.wpList_append rfl (.tmp 146) (.tmp 150) rfl w.heap.size _ _ (Num.bytes 1 x.f0.length) rfl rfl HSb.out.own HSb.out.bel.size ?hl ?_; (case hl => have := HLr.out; simp only [List.length_append, num_size]; omega); intro v8 Wc ho hg; have HSc := Aside0.mk (HSb.out.app (L' := L0 ++ sampsL (l.take j) ++ nL 1 x.f0.length) ho hg); have HXc := Aside0.mk (blk_grown HXb.out hg (HSb.out.own.ne HXb.out (by decide))); have u0 : Wc.cell? ⟨g5, 0, none⟩ = some (.slice A0 x.f0.length c0) := (blk_cell HXc.out 0).trans rfl; have u1 : Wc.cell? ⟨g5, 1, none⟩ = some (.int .i64 x.f1) := (blk_cell HXc.out 1).trans rfl; clear ho hg HSb HXb)
        obtain ⟨L1, hL1⟩ : ∃ L1, L1 = L0 ++ sampsL (l.take j) ++ nL 1 x.f0.length := ⟨_, rfl⟩
        rw [← hL1] at HSc
        have HL1n : Aside0 (L1.length ≤ 500 * 16777224 + 1001) := ⟨by rw [hL1]; have := HLr.out; simp only [List.length_append, nL_length]; omega⟩
        have HL1 := Aside0.mk hL1
        clear hL1
        clear u0 u1
        go_loopw [155, 7] (fun i s7 wi => ∃ q : Nat, i = .int .i64 q ∧ q ≤ x.f0.length ∧ Aside0 (Sq w s7 (L1 ++ labsL (x.f0.take q)) #[.int .i64 1, .string t, .string m, .int .i64 nm, .slice (some ad) l.length c] wi) ∧ Aside0 (∀ y ∈ x.f0.take q, LabOK y) ∧ Aside0 (wi.heap[g5]? = some (.cells #[.slice A0 x.f0.length c0, .int .i64 x.f1] 65 (0, 0)))) (fun i _ _ => x.f0.length - (intOf i).toNat)
        case atStart => exact ⟨0, rfl, Nat.zero_le _, ⟨by simpa [labsL] using HSc.out⟩, ⟨by simp⟩, HXc⟩
        case round =>
          obtain ⟨q, rfl, hq, HSq, HOq, HXq⟩ := hrel
          have HLq : Aside0 ((labsL (x.f0.take q)).length ≤ 255 * 65793) := ⟨by
            have h1 := labsL_le (x.f0.take q) HOq.out
            have h2 : (x.f0.take q).length ≤ 255 := by rw [List.length_take]; omega
            have h3 : (x.f0.take q).length * 65793 ≤ 255 * 65793 := Nat.mul_le_mul_right _ h2
            exact Nat.le_trans h1 h3⟩
          by_cases hqt : q < x.f0.length
          · obtain ⟨ad2, eb, y0, y1⟩ := at_T67 (Kd.C_below HC0.out HSq.out.bel) (q : Int) (by omega) (by omega)
            subst eb
            rw [Int.toNat_natCast] at y0 y1
            rw [rd_L x.f0 q hqt] at y0 y1
            obtain ⟨y, hy⟩ : ∃ y, y = x.f0[q] := ⟨_, rfl⟩
            rw [← hy] at y0 y1
            have HY := Aside0.mk hy
            clear hy
            obtain ⟨Wd, hWd⟩ : ∃ W, wr.alloc (.cells #[.string y.f0, .string y.f1] 67) = W := ⟨_, rfl⟩
            obtain ⟨g7, hg7⟩ : ∃ g, wr.heap.size = g := ⟨_, rfl⟩
            have hyd : Wd.heap[g7]? = some (.cells #[.string y.f0, .string y.f1] 67 (0, 0)) := by rw [← hWd, ← hg7]; exact blk_new wr _
            have HSd : Aside0 (Sq w _ (L1 ++ labsL (x.f0.take q)) #[.int .i64 1, .string t, .string m, .int .i64 nm, .slice (some ad) l.length c] Wd) := ⟨by rw [← hWd]; exact HSq.out.alloc _⟩
            have HXd : Aside0 (Wd.heap[g5]? = some (.cells #[.slice (some ad2) x.f0.length c0, .int .i64 x.f1] 65 (0, 0))) := ⟨by rw [← hWd]; exact blk_alloc HXq.out _⟩
            have v0 : Wd.cell? ⟨g7, 0, none⟩ = some (.string y.f0) := (blk_cell hyd 0).trans rfl
            have v1 : Wd.cell? ⟨g7, 1, none⟩ = some (.string y.f1) := (blk_cell hyd 1).trans rfl
            have HYd := Aside0.mk hyd
            clear hyd
            by_cases hn1 : 255 < y.f0.size
            · have hq := Aside0.mk (HNO.out (fun h => by have := ((h x (by rw [HX.out]; exact List.getElem_mem _)).2 y (by rw [HY.out]; exact List.getElem_mem _)).1; omega))
              go_wp2_with fail
              go_ret2
              exact ⟨by rw [hq.out.1, hq.out.2]; rfl, HSd.out.bel⟩
            · by_cases hn2 : 65535 < y.f1.size
              · have hq := Aside0.mk (HNO.out (fun h => by have := ((h x (by rw [HX.out]; exact List.getElem_mem _)).2 y (by rw [HY.out]; exact List.getElem_mem _)).2; omega))
                go_wp2_with fail
                go_ret2
                exact ⟨by rw [hq.out.1, hq.out.2]; rfl, HSd.out.bel⟩
              · go_wp2_with fail
                clear hWd hg7 y0 y1
                obtain ⟨Kb, hKb⟩ := s8_ev y.f0 (by omega)
                obtain ⟨Kc, hKc⟩ := s16_ev y.f1 (by omega)
                have HKb := Aside0.mk hKb
                have HKc := Aside0.mk hKc
                have hcat : (s8B y.f0).size + (s16B y.f1).size ≤ 9223372036854775807 := by rw [s8B_size, s16B_size]; omega
                have hcat0 := eq_true hcat
                have hcat1 : decide ((s8B y.f0).size + (s16B y.f1).size ≤ 9223372036854775807) = true := decide_eq_true hcat
                have hcat2 : (9223372036854775807 < (s8B y.f0).size + (s16B y.f1).size) = False := eq_false (Nat.not_lt.2 hcat)
                clear hKb hKc hcat
                go_region_held3 (fun W' => W'.cell? ⟨g7, 0, none⟩ = some (.string y.f0) ∧ W'.cell? ⟨g7, 1, none⟩ = some (.string y.f1))
                  (first | exact ⟨v0, v1⟩ | exact ⟨e0, e1⟩ | exact ⟨p0, p1⟩ | exact ⟨q0, q1⟩)
                  (first | (go_at_call 35; refine (spec_l2S8.calls Kb y.f0 (s8B y.f0) _ HKb.out).mono ?_; rintro e We ⟨rfl, hbe⟩; have HSe := Aside0.mk (HSd.out.drew.below hbe); have HXe := Aside0.mk ((hbe.block _ (blk_lt HXd.out)).trans HXd.out); have HYe := Aside0.mk ((hbe.block _ (blk_lt HYd.out)).trans HYd.out); have e0 : We.cell? ⟨g7, 0, none⟩ = some (.string y.f0) := (blk_cell HYe.out 0).trans rfl; have e1 : We.cell? ⟨g7, 1, none⟩ = some (.string y.f1) := (blk_cell HYe.out 1).trans rfl; clear hbe)
                         | (go_at_call 36; refine (spec_l2S16.calls Kc y.f1 (s16B y.f1) _ HKc.out).mono ?_; rintro e Wf ⟨rfl, hbf⟩; have HSf := Aside0.mk (HSe.out.below hbf); have HXf := Aside0.mk ((hbf.block _ (blk_lt HXe.out)).trans HXe.out); have HYf := Aside0.mk ((hbf.block _ (blk_lt HYe.out)).trans HYe.out); have p0 : Wf.cell? ⟨g7, 0, none⟩ = some (.string y.f0) := (blk_cell HYf.out 0).trans rfl; have p1 : Wf.cell? ⟨g7, 1, none⟩ = some (.string y.f1) := (blk_cell HYf.out 1).trans rfl; clear hbf)
                         | (refine Byt.step_append (by rfl) (.tmp 169) (.tmp 176) (by rfl) w.heap.size _ _ (s8B y.f0 ++ s16B y.f1) (by rfl) (by rfl) HSf.out.own HSf.out.bel.size ?_ ?_; (· have h1 := HLq.out; have h2 := HL1n.out; rw [ByteArray.size_append, s8B_size, s16B_size]; simp only [List.length_append]; omega); intro v9 Wg ho hg; have HSg := Aside0.mk (HSf.out.app ho hg); have HXg := Aside0.mk (blk_grown HXf.out hg (HSf.out.own.ne HXf.out (by decide))); have HYg := Aside0.mk (blk_grown HYf.out hg (HSf.out.own.ne HYf.out (by decide))); have q0 : Wg.cell? ⟨g7, 0, none⟩ = some (.string y.f0) := (blk_cell HYg.out 0).trans rfl; have q1 : Wg.cell? ⟨g7, 1, none⟩ = some (.string y.f1) := (blk_cell HYg.out 1).trans rfl; clear ho hg))
                clear hcat0 hcat1 hcat2
                go_wp2_with fail
                go_roundw
                case rel =>
                  refine ⟨q + 1, by go_num, by omega, ⟨?_⟩, ⟨take_all LabOK x.f0 q hqt HOq.out (by rw [← HY.out]; exact ⟨by omega, by omega⟩)⟩, HXg⟩
                  have e1 : labsL (x.f0.take (q + 1)) = labsL (x.f0.take q) ++ labL y := by unfold labsL; rw [take_flat labL x.f0 q hqt, HY.out]
                  have e2 : L1 ++ labsL (x.f0.take q) ++ (s8B y.f0 ++ s16B y.f1).data.toList = L1 ++ labsL (x.f0.take (q + 1)) := by rw [e1, app_, s8B_list, s16B_list, List.append_assoc]; rfl
                  have := HSg.out
                  rw [← e2]
                  exact this
                case measure => simp [intOf]; omega
          · obtain rfl : q = x.f0.length := by omega
            have u0 : wr.cell? ⟨g5, 0, none⟩ = some (.slice A0 x.f0.length c0) := (blk_cell HXq.out 0).trans rfl
            have u1 : wr.cell? ⟨g5, 1, none⟩ = some (.int .i64 x.f1) := (blk_cell HXq.out 1).trans rfl
            go_wp2_with fail
            obtain ⟨Kz, hKz⟩ := num_ev 8 (by decide) x.f1
            refine (spec_l2Num.calls Kz 8 x.f1 (Num.bytes 8 x.f1) wr hKz).mono ?_
            rintro e Wi ⟨rfl, hbi⟩
            have HSi := Aside0.mk (HSq.out.below hbi)
            clear hbi u0 u1 hKz
            go_wp2_with (at_builtin; refine Byt.wpList_append rfl (.tmp 179) (.tmp 182) rfl w.heap.size _ _ (Num.bytes 8 x.f1) rfl rfl HSi.out.own HSi.out.bel.size ?hl ?_; (case hl => have h1 := HLq.out; have h2 := HL1n.out; simp only [List.length_append, num_size]; omega); intro v10 Wj ho hg; have HSj := Aside0.mk (HSi.out.app ho hg); clear ho hg HSi)
            go_roundw
            case rel =>
              refine ⟨j + 1, by go_num, by omega, ⟨?_⟩, ⟨take_all SampOK l j hlt HOr.out (by rw [← HX.out]; exact ⟨by omega, by have := HOq.out; rwa [List.take_of_length_le (Nat.le_refl _)] at this⟩)⟩⟩
              have e1 : sampsL (l.take (j + 1)) = sampsL (l.take j) ++ sampL x := by unfold sampsL; rw [take_flat sampL l j hlt, HX.out]
              have e2 : L1 ++ labsL (x.f0.take x.f0.length) ++ (Num.bytes 8 x.f1).data.toList = L0 ++ sampsL (l.take (j + 1)) := by
                rw [e1, HL1.out, List.take_of_length_le (Nat.le_refl _)]
                unfold sampL
                simp only [List.append_assoc]
                rfl
              have := HSj.out
              rw [← e2]
              exact this
            case measure => simp [intOf]; omega
    · obtain rfl : j = l.length := by omega
      have hst := HSr.out
      have hall := HOr.out
      rw [List.take_of_length_le (Nat.le_refl _)] at hst hall
      have HSz := Aside0.mk hst
      have hq := Aside0.mk (HYES.out hall)
      clear hst hall
      have hx := Byt.text _ _ _ _ HSz.out.own
      obtain ⟨sR, hsR⟩ : ∃ s : ByteArray, s = ⟨(L0 ++ sampsL l).toArray⟩ := ⟨_, rfl⟩
      rw [← hsR] at hx
      have HsR := Aside0.mk hsR
      clear hsR
      go_wp2_with fail
      go_ret2
      exact ⟨by rw [hq.out.1, hq.out.2, HBD.out, ← HsR.out]; rfl, HSz.out.bel⟩

/-- What l6Bytes answers. -/
noncomputable def l6 (k : Int) (t m : ByteArray) (nm : Int) (l : List Sm) : ByteArray × Bool := @ite _ (Good k t m nm l ∧ ∀ y ∈ l, SampOK y) (Classical.propDecidable _) (⟨(bodyL k t m nm l).toArray⟩, true) (⟨#[]⟩, false)
theorem l6_calls (k : Int) (t m : ByteArray) (nm : Int) (A : Option Addr) (c : Nat) (l : List S65) (w : World) (hr : Kd.C k65 w A l.length l) (hc : l.length ≤ c) :
    Calls Try.prog 21 #[.agg #[.int .i64 k, .string t, .string m, .int .i64 nm, .slice A l.length c]] w fun e w' => e = .returned (.tuple #[.string (l6 k t m nm l).1, .bool (l6 k t m nm l).2]) ∧ Below w.heap.size w w' := by
  by_cases hg : Good k t m nm l
  · have hk : 1 ≤ k ∧ k ≤ 6 := hg.1.1
    by_cases h1 : k = 1
    · subst h1
      refine l6_good1 t m nm A c l w hr hc hg _ _ (fun h => ?_) (fun h => ?_)
      · unfold l6; rw [if_pos ⟨hg, h⟩]; exact ⟨rfl, rfl⟩
      · unfold l6; rw [if_neg (fun hh => h hh.2)]; exact ⟨rfl, rfl⟩
    · have h0 : l.length = 0 := by
        have := hg.1.2.2.2.2
        rcases this with h | h
        · exact absurd h h1
        · exact h
      have he : l = [] := List.length_eq_zero_iff.1 h0
      subst he
      have hl : l6 k t m nm [] = (⟨(headL k t m nm).toArray⟩, true) := by
        unfold l6; rw [if_pos ⟨hg, by simp⟩]; unfold bodyL; rw [if_neg h1, List.append_nil]
      rw [hl]
      have : k = 2 ∨ k = 3 ∨ k = 4 ∨ k = 5 ∨ k = 6 := by omega
      rcases this with rfl | rfl | rfl | rfl | rfl
      · exact l6_good2 t m nm A 0 c w hc hg
      · exact l6_good3 t m nm A 0 c w hc hg
      · exact l6_good4 t m nm A 0 c w hc hg
      · exact l6_good5 t m nm A 0 c w hc hg
      · exact l6_good6 t m nm A 0 c w hc hg
  · have hl : l6 k t m nm l = (⟨#[]⟩, false) := by unfold l6; exact if_neg (fun h => hg h.1)
    rw [hl]
    by_cases hk : 1 ≤ k ∧ k ≤ 6
    · have : k = 1 ∨ k = 2 ∨ k = 3 ∨ k = 4 ∨ k = 5 ∨ k = 6 := by omega
      rcases this with rfl | rfl | rfl | rfl | rfl | rfl
      · exact l6_bad1 t m nm A l.length c w hc hg
      · exact l6_bad2 t m nm A l.length c w hc hg
      · exact l6_bad3 t m nm A l.length c w hc hg
      · exact l6_bad4 t m nm A l.length c w hc hg
      · exact l6_bad5 t m nm A l.length c w hc hg
      · exact l6_bad6 t m nm A l.length c w hc hg
    · exact l6_out k t m nm A l.length c w hc hk
end Enc
noncomputable def spec_EncodeRequest.f (k : Int) (t m : ByteArray) (nm : Int) (l : List S65) : Option ByteArray := some (Enc.req k t m nm l)
open Enc in
set_option maxHeartbeats 1000000 in
set_option maxRecDepth 100000 in
theorem spec_EncodeRequest.calls (k : Int) (t m : ByteArray) (nm : Int) (A : Option Addr) (c : Nat) (l : List S65) (r : ByteArray) (w : World) (hr : Kd.C k65 w A l.length l) (hc : l.length ≤ c) (h : spec_EncodeRequest.f k t m nm l = some r) :
    Calls Try.prog 7 #[.agg #[.int .i64 k, .string t, .string m, .int .i64 nm, .slice A l.length c]] w fun e w' => e = .returned (.string r) ∧ Below w.heap.size w w' := by
  have hr0 := Option.some.inj h
  clear h
  have HR := Aside0.mk hr
  have HQ := Aside0.mk hr0
  clear hr hr0
  obtain ⟨n, hn⟩ : ∃ n, n = l.length := ⟨_, rfl⟩
  obtain ⟨s, hs⟩ : ∃ s, s = (l6 k t m nm l).1 := ⟨_, rfl⟩
  obtain ⟨ok, hok⟩ : ∃ ok, ok = (l6 k t m nm l).2 := ⟨_, rfl⟩
  have HP : ∀ W : World, Below w.heap.size w W → Calls Try.prog 21 #[.agg #[.int .i64 k, .string t, .string m, .int .i64 nm, .slice A n c]] W fun e w' => e = .returned (.tuple #[.string s, .bool ok]) ∧ Below W.heap.size W w' := by
    intro W hb
    rw [hn, hs, hok]
    exact l6_calls k t m nm A c l W (Kd.C_below HR.out hb) hc
  have HP' := Aside0.mk HP
  rw [← hn] at hc ⊢
  have HS := Aside0.mk hs
  have HOK := Aside0.mk hok
  clear HP hn HR hs hok
  obtain ⟨W1, hW1⟩ : ∃ W, w.alloc (.cells #[.int .i64 k, .string t, .string m, .int .i64 nm, .slice A n c] 29) = W := ⟨_, rfl⟩
  have HB1 : Aside0 (Below w.heap.size w W1) := ⟨by rw [← hW1]; exact (Below.refl _ w).alloc (Nat.le_refl _) _⟩
  have hx1 : W1.heap[w.heap.size]? = some (.cells #[.int .i64 k, .string t, .string m, .int .i64 nm, .slice A n c] 29 (0, 0)) := by rw [← hW1]; exact blk_new w _
  have c0 : W1.cell? ⟨w.heap.size, 0, none⟩ = some (.int .i64 k) := (blk_cell hx1 0).trans rfl
  have c1 : W1.cell? ⟨w.heap.size, 1, none⟩ = some (.string t) := (blk_cell hx1 1).trans rfl
  have c2 : W1.cell? ⟨w.heap.size, 2, none⟩ = some (.string m) := (blk_cell hx1 2).trans rfl
  have c3 : W1.cell? ⟨w.heap.size, 3, none⟩ = some (.int .i64 nm) := (blk_cell hx1 3).trans rfl
  have c4 : W1.cell? ⟨w.heap.size, 4, none⟩ = some (.slice A n c) := (blk_cell hx1 4).trans rfl
  clear hx1
  go_enter Try.func7, Try.ntmps7
  go_wp2_with fail
  clear hW1
  refine (HP'.out W1 HB1.out).mono ?_
  rintro e W2 ⟨rfl, hb2⟩
  have HB2 := Aside0.mk (below_then HB1.out HB1.out.size hb2)
  clear c0 c1 c2 c3 c4 hb2
  by_cases hg : Enc.Good k t m nm l ∧ ∀ y ∈ l, SampOK y
  · have h1 : l6 k t m nm l = (⟨(bodyL k t m nm l).toArray⟩, true) := by unfold l6; exact if_pos hg
    obtain rfl : ok = true := by rw [HOK.out, h1]
    have h2 : s = ⟨(bodyL k t m nm l).toArray⟩ := by rw [HS.out, h1]
    have h3 : s.size = (bodyL k t m nm l).length := by rw [h2]; rfl
    by_cases hbig : 60000 < s.size
    · have hq : r = ⟨#[]⟩ := HQ.out.symm.trans (req_no (fun hh => by omega))
      have Hq := Aside0.mk hq
      clear hg h1 h2 h3 hq
      go_wp2_with fail
      go_ret
      exact ⟨by rw [Hq.out]; rfl, HB2.out⟩
    · have hq : r = s := HQ.out.symm.trans ((req_yes hg.1 hg.2 (by omega)).trans h2.symm)
      have Hq := Aside0.mk hq
      clear hg h1 h2 h3 hq
      go_wp2_with fail
      go_ret
      exact ⟨by rw [Hq.out]; rfl, HB2.out⟩
  · have h1 : l6 k t m nm l = (⟨#[]⟩, false) := by unfold l6; exact if_neg hg
    obtain rfl : ok = false := by rw [HOK.out, h1]
    have hq : r = ⟨#[]⟩ := HQ.out.symm.trans (req_no (fun hh => hg ⟨hh.1, hh.2.1⟩))
    have Hq := Aside0.mk hq
    clear hg h1 hq
    go_wp2_with fail
    go_ret
    exact ⟨by rw [Hq.out]; rfl, HB2.out⟩
namespace Enc
end Enc
end Go.Proofs.Ytbhjbbanhmjgnaa.M
