/- Some of this seat's texts, joined by prune.py. -/
import Derived.Test.YtikbfjnbhogihaaGreatDoorM0
import Derived.Test.YtikbfjnbhogihaaGreatDoorS0
import Derived.Test.YtikbfjnbhogihaaGreatDoorF161
import Derived.WalkKit
import Derived.Lib.ConvBytes
import Derived.Lib.SmallJoins
import Derived.Laws.Cover1
import Derived.Test.YtikbfjnbhogihaaGreatDoorLoops
/- Some of this seat's texts, joined by prune.py. -/
-- By pp.py, a program of this repo, with the kit's printer: Lean checks it.
namespace Go.Proofs.YtikbfjnbhogihaaGreatDoor.M
open Go.RowKit Go.Proofs.YtikbfjnbhogihaaGreatDoorW.PrintWords Go.Proofs.YtikbfjnbhogihaaGreatDoorW.PrintLast Go.Proofs.YtikbfjnbhogihaaGreatDoorW.PrintMore
attribute [local go_sem] max2_int min2_int max_two min_two max_three min_three max_four min_four
set_option linter.unusedVariables false
set_option linter.unusedSimpArgs false
/-! ### laws_szMetricLimit: function 166 -/
def laws_szMetricLimit.f (a0_0 : ByteArray) (a0_1 : Int) (a1 : Int) : Option (Int) := if (wrap64 (a1 - (a0_0.size : Int))) < 0 then (some (-1)) else (some (wrap64 (a1 - (a0_0.size : Int))))
set_option maxHeartbeats 8000000 in
set_option maxRecDepth 100000 in
theorem laws_szMetricLimit.calls (a0_0 : ByteArray) (a0_1 : Int) (a1 : Int) (r : Int) (w : World) (h : laws_szMetricLimit.f a0_0 a0_1 a1 = some r) :
  Calls Tryz.prog 166 #[.agg #[.string a0_0, .int .i64 a0_1], .int .i64 a1] w fun e w' => e = .returned (.int .i64 r) ∧ Below w.heap.size w w' := by
 have hu223 := Tryz.underlying223
 have HB := Aside0.mk (Below.refl w.heap.size w)
 have H : (if (wrap64 (a1 - (a0_0.size : Int))) < 0 then (some (-1)) else (some (wrap64 (a1 - (a0_0.size : Int))))) = some r := h
 clear h
 by_cases c3 : (wrap64 (a1 - (a0_0.size : Int))) < 0
 ·rw [if_pos c3] at H
  have c3b0 : decide ((wrap64 (a1 - (a0_0.size : Int))) < 0) = true := decide_eq_true c3
  clear c3
  obtain rfl := Option.some.inj H
  go_enter Tryz.func166, Tryz.ntmps166
  go_wp2_with (first | ((with_reducible refine gate_dst (N := 2) rfl ?_); refine box_event ?hg (N := 2) ?hd (cs := #[.string a0_0, .int .i64 a0_1]) (t := 223) ?hr ?_; (case hd => rfl); (case hg => rfl); (case hr => first | (go_simp; done) | (go_simp; rfl)); intro gb101 hg w4 hbox hb; have n0_ := Aside0.mk (below_step (by repeat (first | (with_reducible first | exact HB.out | apply below_alloc | apply pw_below_drewN | apply below_drew1) | exact HB.out)) hb); have n1_ := Aside0.mk (hbox); have n2_ := Aside0.mk ((by rw [hg]; exact (below_size (by repeat (first | (with_reducible first | exact HB.out | apply below_alloc | apply pw_below_drewN | apply below_drew1) | exact HB.out))) : w.heap.size ≤ gb101)); have n3_ := Aside0.mk ((by rw [hg]; exact (below_size (by repeat (first | (with_reducible first | exact HB.out | apply below_alloc | apply pw_below_drewN | apply below_drew1) | exact HB.out))) : w.heap.size ≤ gb101)); clear HB; have HB := n0_; have BK101 := n1_; have GW101 := n2_; have GE101 := n3_; clear n0_ n1_ n2_ n3_; clear hb hbox hg; have hcz5_0 : w4.cell? ⟨gb101, 0, none⟩ = some (.string a0_0) := (blk_cell BK101.out 0).trans rfl; have hcz5_1 : w4.cell? ⟨gb101, 1, none⟩ = some (.int .i64 a0_1) := (blk_cell BK101.out 1).trans rfl; have hfz5_0 := blk_frozen BK101.out 0; have hfz5_1 := blk_frozen BK101.out 1))
  go_ret
  exact ⟨by first | rfl | (simp [errW_none, errW_some] <;> rfl) | (simp [*, errW_none, errW_some] <;> rfl), by repeat (first | (with_reducible first | exact HB.out | apply below_alloc | apply pw_below_drewN | apply below_drew1 | refine below_set ?_ GE101.out) | exact HB.out)⟩
 ·rw [if_neg c3] at H
  have c3b0 : decide ((wrap64 (a1 - (a0_0.size : Int))) < 0) = false := decide_eq_false c3
  clear c3
  obtain rfl := Option.some.inj H
  go_enter Tryz.func166, Tryz.ntmps166
  go_wp2_with (first | ((with_reducible refine gate_dst (N := 2) rfl ?_); refine box_event ?hg (N := 2) ?hd (cs := #[.string a0_0, .int .i64 a0_1]) (t := 223) ?hr ?_; (case hd => rfl); (case hg => rfl); (case hr => first | (go_simp; done) | (go_simp; rfl)); intro gb101 hg w6 hbox hb; have n0_ := Aside0.mk (below_step (by repeat (first | (with_reducible first | exact HB.out | apply below_alloc | apply pw_below_drewN | apply below_drew1) | exact HB.out)) hb); have n1_ := Aside0.mk (hbox); have n2_ := Aside0.mk ((by rw [hg]; exact (below_size (by repeat (first | (with_reducible first | exact HB.out | apply below_alloc | apply pw_below_drewN | apply below_drew1) | exact HB.out))) : w.heap.size ≤ gb101)); have n3_ := Aside0.mk ((by rw [hg]; exact (below_size (by repeat (first | (with_reducible first | exact HB.out | apply below_alloc | apply pw_below_drewN | apply below_drew1) | exact HB.out))) : w.heap.size ≤ gb101)); clear HB; have HB := n0_; have BK101 := n1_; have GW101 := n2_; have GE101 := n3_; clear n0_ n1_ n2_ n3_; clear hb hbox hg; have hcz7_0 : w6.cell? ⟨gb101, 0, none⟩ = some (.string a0_0) := (blk_cell BK101.out 0).trans rfl; have hcz7_1 : w6.cell? ⟨gb101, 1, none⟩ = some (.int .i64 a0_1) := (blk_cell BK101.out 1).trans rfl; have hfz7_0 := blk_frozen BK101.out 0; have hfz7_1 := blk_frozen BK101.out 1))
  go_ret
  exact ⟨by first | rfl | (simp [errW_none, errW_some] <;> rfl) | (simp [*, errW_none, errW_some] <;> rfl), by repeat (first | (with_reducible first | exact HB.out | apply below_alloc | apply pw_below_drewN | apply below_drew1 | refine below_set ?_ GE101.out) | exact HB.out)⟩
end Go.Proofs.YtikbfjnbhogihaaGreatDoor.M
-- By pp.py, a program of this repo, with the kit's printer: Lean checks it.
namespace Go.Proofs.YtikbfjnbhogihaaGreatDoor.M
open Go.RowKit Go.Proofs.YtikbfjnbhogihaaGreatDoorW.PrintWords Go.Proofs.YtikbfjnbhogihaaGreatDoorW.PrintLast Go.Proofs.YtikbfjnbhogihaaGreatDoorW.PrintMore
attribute [local go_sem] max2_int min2_int max_two min_two max_three min_three max_four min_four
set_option linter.unusedVariables false
set_option linter.unusedSimpArgs false
/-! ### impl_source_s8: function 134 -/
def impl_source_s8.f (s0_0 : ByteArray) : Option (ByteArray × ByteArray) := (impl_source_num.f s0_0 1).bind fun bt231 => ((impl_source_text.f bt231.2 bt231.1).bind fun bt233 => (some (bt233.1, bt233.2)))
set_option maxHeartbeats 8000000 in
set_option maxRecDepth 100000 in
theorem impl_source_s8.calls (g : Nat) (s0_0 : ByteArray) (r1 : ByteArray) (r2 : ByteArray) (w0 w : World) (hI : IsS189 w0 w g s0_0) (hB : Below w0.heap.size w0 w) (h : impl_source_s8.f s0_0 = some (r1, r2)) :
  Calls Tryz.prog 134 #[.pointer (some ⟨g, 0, none⟩)] w fun e w' => e = .returned (.string r1) ∧ IsS189 w0 w' g r2 ∧ Below w0.heap.size w0 w' ∧ KeepBut w w' g none := by
 have HI0 := Aside0.mk hI
 have HK := Aside0.mk (KeepBut.refl w g none)
 have HL := Aside0.mk hB.size
 clear hI
 have HW0 := Aside0.mk hB.size
 have HB := Aside0.mk hB
 clear hB
 have H : ((impl_source_num.f s0_0 1).bind fun bt231 => ((impl_source_text.f bt231.2 bt231.1).bind fun bt233 => (some (bt233.1, bt233.2)))) = some (r1, r2) := h
 clear h
 replace H := Option.bind_eq_some_iff.mp H
 obtain ⟨⟨t231, t232⟩, A20, H⟩ := H
 replace H : ((impl_source_text.f t232 t231).bind fun bt233 => (some (bt233.1, bt233.2))) = some (r1, r2) := H
 have A2 := Aside0.mk A20
 clear A20
 replace H := Option.bind_eq_some_iff.mp H
 obtain ⟨⟨t233, t234⟩, A30, H⟩ := H
 replace H : (some (t233, t234)) = some (r1, r2) := H
 have A3 := Aside0.mk A30
 clear A30
 simp only [Option.some.injEq, Prod.mk.injEq] at H
 obtain ⟨rfl, rfl⟩ := H
 go_enter Tryz.func134, Tryz.ntmps134
 go_wp2_with (first | ((with_reducible refine gate_callee (f := 133) rfl ?_); refine goesL_ (some 5) rfl rfl Tryz.func133 (by kernel_rfl) rfl #[.pointer (some ⟨g, 0, none⟩), .int .i64 1] rfl (by (try simp only [List.map_toArray, List.map_cons, List.map_nil]); first | done | rfl | (simp only [List.length_drop, List.length_take]; rfl)) ?_; (with_reducible refine (impl_source_num.calls g s0_0 1 t231 t232 w0 _ ?side1 ?side2 A2.out).mono ?_); (case side1 => repeat (first | (with_reducible first | exact HI0.out | apply IsS189.alloc | apply IsS189.drewN | apply IsS189.drew | apply IsS189.set_0) | exact HI0.out)); (case side2 => repeat (first | (with_reducible first | exact HB.out | apply below_alloc | apply pw_below_drewN | apply below_drew1 | refine below_set ?_ (IsS189.ge HI0.out)) | exact HB.out)); rintro e w4 ⟨rfl, hi, hb, hk⟩; refine ⟨_, rfl, ?_⟩; have n0_ := Aside0.mk (KeepBut.trans (by repeat (first | (with_reducible first | exact HK.out | apply KeepBut.set_ | apply keep_drewN | apply keep_drew | apply keep_alloc) | exact HK.out)) hk (.inl rfl)); have n1_ := Aside0.mk (hb); have n2_ := Aside0.mk (hi); clear HK; clear HB; clear HI0; have HK := n0_; have HB := n1_; have HI0 := n2_; clear n0_ n1_ n2_; (try clear hb); (try clear hb2); (try clear hk); (try clear hi)) | ((with_reducible refine gate_callee (f := 157) rfl ?_); refine goesL_ (some 6) rfl rfl Tryz.func157 (by kernel_rfl) rfl #[.pointer (some ⟨g, 0, none⟩), .int .i64 t231] rfl (by (try simp only [List.map_toArray, List.map_cons, List.map_nil]); first | done | rfl | (simp only [List.length_drop, List.length_take]; rfl)) ?_; (with_reducible refine (impl_source_text.calls g t232 t231 t233 t234 w0 _ ?side1 ?side2 A3.out).mono ?_); (case side1 => repeat (first | (with_reducible first | exact HI0.out | apply IsS189.alloc | apply IsS189.drewN | apply IsS189.drew | apply IsS189.set_0) | exact HI0.out)); (case side2 => repeat (first | (with_reducible first | exact HB.out | apply below_alloc | apply pw_below_drewN | apply below_drew1 | refine below_set ?_ (IsS189.ge HI0.out)) | exact HB.out)); rintro e w5 ⟨rfl, hi, hb, hk⟩; refine ⟨_, rfl, ?_⟩; have n0_ := Aside0.mk (KeepBut.trans (by repeat (first | (with_reducible first | exact HK.out | apply KeepBut.set_ | apply keep_drewN | apply keep_drew | apply keep_alloc) | exact HK.out)) hk (.inl rfl)); have n1_ := Aside0.mk (hb); have n2_ := Aside0.mk (hi); clear HK; clear HB; clear HI0; have HK := n0_; have HB := n1_; have HI0 := n2_; clear n0_ n1_ n2_; (try clear hb); (try clear hb2); (try clear hk); (try clear hi)))
 go_ret
 exact ⟨by first | rfl | (simp [errW_none, errW_some] <;> rfl) | (simp [*, errW_none, errW_some] <;> rfl), by repeat (first | (with_reducible first | exact HI0.out | apply IsS189.alloc | apply IsS189.drewN | apply IsS189.drew | apply IsS189.set_0) | exact HI0.out), by repeat (first | (with_reducible first | exact HB.out | apply below_alloc | apply pw_below_drewN | apply below_drew1 | refine below_set ?_ (IsS189.ge HI0.out)) | exact HB.out), by repeat (first | (with_reducible first | exact HK.out | apply KeepBut.set_ | apply keep_drewN | apply keep_drew | apply keep_alloc) | exact HK.out)⟩
end Go.Proofs.YtikbfjnbhogihaaGreatDoor.M
/- Some of this seat's texts, joined by prune.py. -/
-- By pp.py, a program of this repo, with the kit's printer: Lean checks it.
namespace Go.Proofs.YtikbfjnbhogihaaGreatDoor.M
open Go.RowKit Go.Proofs.YtikbfjnbhogihaaGreatDoorW.PrintWords Go.Proofs.YtikbfjnbhogihaaGreatDoorW.PrintLast Go.Proofs.YtikbfjnbhogihaaGreatDoorW.PrintMore
attribute [local go_sem] max2_int min2_int max_two min_two max_three min_three max_four min_four
set_option linter.unusedVariables false
set_option linter.unusedSimpArgs false
/-! ### impl_source_s16: function 135 -/
def impl_source_s16.f (s0_0 : ByteArray) : Option (ByteArray × ByteArray) := (impl_source_num.f s0_0 2).bind fun bt235 => ((impl_source_text.f bt235.2 bt235.1).bind fun bt237 => (some (bt237.1, bt237.2)))
set_option maxHeartbeats 8000000 in
set_option maxRecDepth 100000 in
theorem impl_source_s16.calls (g : Nat) (s0_0 : ByteArray) (r1 : ByteArray) (r2 : ByteArray) (w0 w : World) (hI : IsS189 w0 w g s0_0) (hB : Below w0.heap.size w0 w) (h : impl_source_s16.f s0_0 = some (r1, r2)) :
  Calls Tryz.prog 135 #[.pointer (some ⟨g, 0, none⟩)] w fun e w' => e = .returned (.string r1) ∧ IsS189 w0 w' g r2 ∧ Below w0.heap.size w0 w' ∧ KeepBut w w' g none := by
 have HI0 := Aside0.mk hI
 have HK := Aside0.mk (KeepBut.refl w g none)
 have HL := Aside0.mk hB.size
 clear hI
 have HW0 := Aside0.mk hB.size
 have HB := Aside0.mk hB
 clear hB
 have H : ((impl_source_num.f s0_0 2).bind fun bt235 => ((impl_source_text.f bt235.2 bt235.1).bind fun bt237 => (some (bt237.1, bt237.2)))) = some (r1, r2) := h
 clear h
 replace H := Option.bind_eq_some_iff.mp H
 obtain ⟨⟨t235, t236⟩, A20, H⟩ := H
 replace H : ((impl_source_text.f t236 t235).bind fun bt237 => (some (bt237.1, bt237.2))) = some (r1, r2) := H
 have A2 := Aside0.mk A20
 clear A20
 replace H := Option.bind_eq_some_iff.mp H
 obtain ⟨⟨t237, t238⟩, A30, H⟩ := H
 replace H : (some (t237, t238)) = some (r1, r2) := H
 have A3 := Aside0.mk A30
 clear A30
 simp only [Option.some.injEq, Prod.mk.injEq] at H
 obtain ⟨rfl, rfl⟩ := H
 go_enter Tryz.func135, Tryz.ntmps135
 go_wp2_with (first | ((with_reducible refine gate_callee (f := 133) rfl ?_); refine goesL_ (some 5) rfl rfl Tryz.func133 (by kernel_rfl) rfl #[.pointer (some ⟨g, 0, none⟩), .int .i64 2] rfl (by (try simp only [List.map_toArray, List.map_cons, List.map_nil]); first | done | rfl | (simp only [List.length_drop, List.length_take]; rfl)) ?_; (with_reducible refine (impl_source_num.calls g s0_0 2 t235 t236 w0 _ ?side1 ?side2 A2.out).mono ?_); (case side1 => repeat (first | (with_reducible first | exact HI0.out | apply IsS189.alloc | apply IsS189.drewN | apply IsS189.drew | apply IsS189.set_0) | exact HI0.out)); (case side2 => repeat (first | (with_reducible first | exact HB.out | apply below_alloc | apply pw_below_drewN | apply below_drew1 | refine below_set ?_ (IsS189.ge HI0.out)) | exact HB.out)); rintro e w4 ⟨rfl, hi, hb, hk⟩; refine ⟨_, rfl, ?_⟩; have n0_ := Aside0.mk (KeepBut.trans (by repeat (first | (with_reducible first | exact HK.out | apply KeepBut.set_ | apply keep_drewN | apply keep_drew | apply keep_alloc) | exact HK.out)) hk (.inl rfl)); have n1_ := Aside0.mk (hb); have n2_ := Aside0.mk (hi); clear HK; clear HB; clear HI0; have HK := n0_; have HB := n1_; have HI0 := n2_; clear n0_ n1_ n2_; (try clear hb); (try clear hb2); (try clear hk); (try clear hi)) | ((with_reducible refine gate_callee (f := 157) rfl ?_); refine goesL_ (some 6) rfl rfl Tryz.func157 (by kernel_rfl) rfl #[.pointer (some ⟨g, 0, none⟩), .int .i64 t235] rfl (by (try simp only [List.map_toArray, List.map_cons, List.map_nil]); first | done | rfl | (simp only [List.length_drop, List.length_take]; rfl)) ?_; (with_reducible refine (impl_source_text.calls g t236 t235 t237 t238 w0 _ ?side1 ?side2 A3.out).mono ?_); (case side1 => repeat (first | (with_reducible first | exact HI0.out | apply IsS189.alloc | apply IsS189.drewN | apply IsS189.drew | apply IsS189.set_0) | exact HI0.out)); (case side2 => repeat (first | (with_reducible first | exact HB.out | apply below_alloc | apply pw_below_drewN | apply below_drew1 | refine below_set ?_ (IsS189.ge HI0.out)) | exact HB.out)); rintro e w5 ⟨rfl, hi, hb, hk⟩; refine ⟨_, rfl, ?_⟩; have n0_ := Aside0.mk (KeepBut.trans (by repeat (first | (with_reducible first | exact HK.out | apply KeepBut.set_ | apply keep_drewN | apply keep_drew | apply keep_alloc) | exact HK.out)) hk (.inl rfl)); have n1_ := Aside0.mk (hb); have n2_ := Aside0.mk (hi); clear HK; clear HB; clear HI0; have HK := n0_; have HB := n1_; have HI0 := n2_; clear n0_ n1_ n2_; (try clear hb); (try clear hb2); (try clear hk); (try clear hi)))
 go_ret
 exact ⟨by first | rfl | (simp [errW_none, errW_some] <;> rfl) | (simp [*, errW_none, errW_some] <;> rfl), by repeat (first | (with_reducible first | exact HI0.out | apply IsS189.alloc | apply IsS189.drewN | apply IsS189.drew | apply IsS189.set_0) | exact HI0.out), by repeat (first | (with_reducible first | exact HB.out | apply below_alloc | apply pw_below_drewN | apply below_drew1 | refine below_set ?_ (IsS189.ge HI0.out)) | exact HB.out), by repeat (first | (with_reducible first | exact HK.out | apply KeepBut.set_ | apply keep_drewN | apply keep_drew | apply keep_alloc) | exact HK.out)⟩
end Go.Proofs.YtikbfjnbhogihaaGreatDoor.M
/- impl.isTenant: a range over a string's bytes. -/
namespace Go.Proofs.YtikbfjnbhogihaaGreatDoor.M
open Go.RowKit Go.Proofs.YtikbfjnbhogihaaGreatDoorW.PrintWords Go.Proofs.YtikbfjnbhogihaaGreatDoorW.PrintLast Go.Proofs.YtikbfjnbhogihaaGreatDoorW.PrintMore
set_option linter.unusedVariables false
set_option linter.unusedSimpArgs false
namespace TenN
def okB (c : Int) : Bool := decide (97 ≤ c ∧ c ≤ 122 ∨ 48 ≤ c ∧ c ≤ 57 ∨ c = 45)
def chars (s : ByteArray) : Nat → Bool
 | 0 => true
 | n + 1 => okB (bt s ((s.size - (n + 1) : Nat) : Int)) && chars s n
def ok (s : ByteArray) : Bool := decide (1 ≤ s.size ∧ s.size ≤ 32) && chars s s.size
theorem step (s : ByteArray) (k : Nat) (h : k < s.size) : chars s (s.size - k) = (okB (bt s (k : Int)) && chars s (s.size - (k + 1))) := by
 obtain ⟨n, hn⟩ : ∃ n, s.size - k = n + 1 := ⟨s.size - k - 1, by omega⟩
 rw [hn, show s.size - (k + 1) = n by omega]
 show (okB (bt s ((s.size - (n + 1) : Nat) : Int)) && chars s n) = _
 rw [show s.size - (n + 1) = k by omega]
theorem size_zero {a : ByteArray} (h : a.toList = []) : a.size = 0 := by
 rw [ByteArray.toList_eq] at h
 have : a.data.toList.length = 0 := by rw [h]; rfl
 exact this
theorem size_pos {a : ByteArray} (h : ¬ a.toList = []) : 1 ≤ a.size := by
 rw [ByteArray.toList_eq] at h
 by_cases h0 : a.size = 0
 ·exact absurd (List.length_eq_zero_iff.1 (show a.data.toList.length = 0 from h0)) h
 ·omega
end TenN
def impl_isTenant.f (a0 : ByteArray) : Option Bool := some (TenN.ok a0)
set_option maxHeartbeats 4000000 in
set_option maxRecDepth 100000 in
theorem impl_isTenant.calls (a0 : ByteArray) (r : Bool) (w : World) (h : impl_isTenant.f a0 = some r) :
  Calls Tryz.prog 62 #[.string a0] w fun e w' => e = .returned (.bool r) ∧ Below w.heap.size w w' := by
 have H := Aside0.mk (Option.some.inj h)
 clear h
 by_cases h0 : a0.toList = []
 ·have hb : (a0.toList == ([] : List UInt8)) = true := by rw [h0]; rfl
  have hf := Aside0.mk (show TenN.ok a0 = false by unfold TenN.ok; rw [decide_eq_false (by have := TenN.size_zero h0; omega)]; rfl)
  clear h0
  go_enter Tryz.func62, Tryz.ntmps62
  go_wp2_with fail
  go_ret
  exact ⟨by rw [← H.out, hf.out]; rfl, Below.refl _ _⟩
 ·have hb : (a0.toList == ([] : List UInt8)) = false := by simpa using h0
  have hp := TenN.size_pos h0
  clear h0
  by_cases h1 : 32 < a0.size
  ·have hf := Aside0.mk (show TenN.ok a0 = false by unfold TenN.ok; rw [decide_eq_false (by omega)]; rfl)
   go_enter Tryz.func62, Tryz.ntmps62
   go_wp2_with fail
   go_ret
   exact ⟨by rw [← H.out, hf.out]; rfl, Below.refl _ _⟩
  ·have hf := Aside0.mk (show TenN.ok a0 = TenN.chars a0 a0.size by unfold TenN.ok; rw [decide_eq_true (by omega)]; rfl)
   have hcv := Lib.run_convert_string_bytes (P := Tryz.prog) w 9 53 5 a0 Tryz.underlying9 Tryz.underlying53 Tryz.underlying5
   go_enter Tryz.func62, Tryz.ntmps62
   go_wp2_with fail
   have HC := Aside0.mk (bytes_reads w 5 a0 (by omega))
   have HB2 := Aside0.mk (Joins.below_bytesWorld w.heap.size w 5 a0 (Nat.le_refl _))
   clear hcv hb
   generalize Lib.bytesWorld w 5 a0 = W2 at HC HB2 ⊢
   go_loop [15] (fun i => ∃ k : Nat, k ≤ a0.size ∧ i = .int .i64 k ∧ Aside0 (TenN.chars a0 a0.size = TenN.chars a0 (a0.size - k))) (fun i => a0.size - (intOf i).toNat)
   case atStart => exact ⟨0, by omega, by simp, ⟨rfl⟩⟩
   case round =>
    obtain ⟨k, hk, rfl, HU⟩ := hrel
    obtain hk5 | hk6 : a0.size ≤ k ∨ k < a0.size := by omega
    ·obtain rfl : k = a0.size := by omega
     have he := Aside0.mk (show TenN.chars a0 (a0.size - a0.size) = true by rw [Nat.sub_self]; rfl)
     go_wp2
     go_ret
     exact ⟨by rw [← H.out, hf.out, HU.out, he.out]; rfl, HB2.out⟩
    ·obtain ⟨ad, e, hcell⟩ := HC.out.at_ (k : Int) (by omega) (by omega)
     obtain rfl : (⟨w.heap.size, 0, none⟩ : Addr) = ad := by injection e
     rw [rd_bytesOf, add_plain, Int.toNat_natCast] at hcell
     clear e
     have hs := TenN.step a0 k hk6
     obtain ⟨c, hc⟩ : ∃ c, c = bt a0 (k : Int) := ⟨_, rfl⟩
     rw [← hc] at hcell hs
     have hcs : (c = 45 ∨ (48 ≤ c ∧ c ≤ 57) ∨ (97 ≤ c ∧ c ≤ 122)) ∨ (c < 45 ∨ (45 < c ∧ c < 48) ∨ (57 < c ∧ c < 97) ∨ 122 < c) := by omega
     have HS := Aside0.mk hs
     clear hs hc
     rcases hcs with hg | hg
     ·have ho := Aside0.mk (show TenN.okB c = true from decide_eq_true (by omega))
      rcases hg with h2 | h2 | h2
      all_goals
       go_wp2
       go_round
       case rel => exact ⟨k + 1, by omega, by go_num, ⟨by rw [HU.out, HS.out, ho.out, Bool.true_and]⟩⟩
       case measure => simp [intOf]; omega
     ·have ho := Aside0.mk (show TenN.okB c = false from decide_eq_false (by omega))
      have h45 : (c == 45) = false := beq_eq_false_iff_ne.2 (by omega)
      rcases hg with h2 | h2 | h2 | h2
      all_goals
       (try have hd1 : decide (c ≤ 57) = false := decide_eq_false (by omega))
       (try have hd2 : decide (c ≤ 122) = false := decide_eq_false (by omega))
       go_wp2
       go_ret
       exact ⟨by rw [← H.out, hf.out, HU.out, HS.out, ho.out]; rfl, HB2.out⟩
end Go.Proofs.YtikbfjnbhogihaaGreatDoor.M
