/- Some of this seat's texts, joined by prune.py. -/
import Derived.Test.YtdfgfhnbcifheaaDoorM0
import Derived.Test.YtdfgfhnbcifheaaDoorF24
import Derived.Test.YtdfgfhnbcifheaaDoorF10
import Derived.WalkKit
import Derived.Laws.RangeAny
import Derived.Test.YtdfgfhnbcifheaaDoorUtf
import Derived.Test.YtdfgfhnbcifheaaDoorShelf
/- Some of this seat's texts, joined by prune.py. -/
-- By pp.py, a program of this repo, with the kit's printer: Lean checks it.
namespace Go.Proofs.YtdfgfhnbcifheaaDoor.M
open Go.RowKit Go.Proofs.YtdfgfhnbcifheaaDoorW.PrintWords Go.Proofs.YtdfgfhnbcifheaaDoorW.PrintLast Go.Proofs.YtdfgfhnbcifheaaDoorW.PrintMore
attribute [local go_sem] max2_int min2_int max_two min_two max_three min_three max_four min_four
set_option linter.unusedVariables false
set_option linter.unusedSimpArgs false

/-! ### impl_source_s8: function 48 -/
def impl_source_s8.f (s0_0 : ByteArray) : Option (ByteArray × ByteArray) := (impl_source_num.f s0_0 1).bind fun bt286 => ((impl_source_text.f bt286.2 bt286.1).bind fun bt288 => (some (bt288.1, bt288.2)))
set_option maxHeartbeats 8000000 in
set_option maxRecDepth 100000 in
theorem impl_source_s8.calls (g : Nat) (s0_0 : ByteArray) (r1 : ByteArray) (r2 : ByteArray) (w0 w : World) (hI : IsS61 w0 w g s0_0) (hB : Below w0.heap.size w0 w) (h : impl_source_s8.f s0_0 = some (r1, r2)) :
    Calls Tryd.prog 48 #[.pointer (some ⟨g, 0, none⟩)] w fun e w' => e = .returned (.string r1) ∧ IsS61 w0 w' g r2 ∧ Below w0.heap.size w0 w' ∧ KeepBut w w' g none := by
  have HI0 := Aside0.mk hI
  have HK := Aside0.mk (KeepBut.refl w g none)
  have HL := Aside0.mk hB.size
  clear hI
  have HW0 := Aside0.mk hB.size
  have HB := Aside0.mk hB
  clear hB
  have H : ((impl_source_num.f s0_0 1).bind fun bt286 => ((impl_source_text.f bt286.2 bt286.1).bind fun bt288 => (some (bt288.1, bt288.2)))) = some (r1, r2) := h
  clear h
  replace H := Option.bind_eq_some_iff.mp H
  obtain ⟨⟨t286, t287⟩, A20, H⟩ := H
  replace H : ((impl_source_text.f t287 t286).bind fun bt288 => (some (bt288.1, bt288.2))) = some (r1, r2) := H
  have A2 := Aside0.mk A20
  clear A20
  replace H := Option.bind_eq_some_iff.mp H
  obtain ⟨⟨t288, t289⟩, A30, H⟩ := H
  replace H : (some (t288, t289)) = some (r1, r2) := H
  have A3 := Aside0.mk A30
  clear A30
  simp only [Option.some.injEq, Prod.mk.injEq] at H
  obtain ⟨rfl, rfl⟩ := H
  go_enter Tryd.func48, Tryd.ntmps48
  go_wp2_with (first | ((with_reducible refine gate_callee (f := 47) rfl ?_); refine goesL_ (some 5) rfl rfl Tryd.func47 (by kernel_rfl) rfl #[.pointer (some ⟨g, 0, none⟩), .int .i64 1] rfl (by (try simp only [List.map_toArray, List.map_cons, List.map_nil]); first | done | rfl | (simp only [List.length_drop, List.length_take]; rfl)) ?_; (with_reducible refine (impl_source_num.calls g s0_0 1 t286 t287 w0 _ ?side1 ?side2 A2.out).mono ?_); (case side1 => repeat (first | (with_reducible first | exact HI0.out | apply IsS61.alloc | apply IsS61.drewN | apply IsS61.drew | apply IsS61.set_0) | exact HI0.out)); (case side2 => repeat (first | (with_reducible first | exact HB.out | apply below_alloc | apply pw_below_drewN | apply below_drew1 | refine below_set ?_ (IsS61.ge HI0.out)) | exact HB.out)); rintro e w4 ⟨rfl, hi, hb, hk⟩; refine ⟨_, rfl, ?_⟩; have n0_ := Aside0.mk (KeepBut.trans (by repeat (first | (with_reducible first | exact HK.out | apply KeepBut.set_ | apply keep_drewN | apply keep_drew | apply keep_alloc) | exact HK.out)) hk (.inl rfl)); have n1_ := Aside0.mk (hb); have n2_ := Aside0.mk (hi); clear HK; clear HB; clear HI0; have HK := n0_; have HB := n1_; have HI0 := n2_; clear n0_ n1_ n2_; (try clear hb); (try clear hb2); (try clear hk); (try clear hi)) | ((with_reducible refine gate_callee (f := 62) rfl ?_); refine goesL_ (some 6) rfl rfl Tryd.func62 (by kernel_rfl) rfl #[.pointer (some ⟨g, 0, none⟩), .int .i64 t286] rfl (by (try simp only [List.map_toArray, List.map_cons, List.map_nil]); first | done | rfl | (simp only [List.length_drop, List.length_take]; rfl)) ?_; (with_reducible refine (impl_source_text.calls g t287 t286 t288 t289 w0 _ ?side1 ?side2 A3.out).mono ?_); (case side1 => repeat (first | (with_reducible first | exact HI0.out | apply IsS61.alloc | apply IsS61.drewN | apply IsS61.drew | apply IsS61.set_0) | exact HI0.out)); (case side2 => repeat (first | (with_reducible first | exact HB.out | apply below_alloc | apply pw_below_drewN | apply below_drew1 | refine below_set ?_ (IsS61.ge HI0.out)) | exact HB.out)); rintro e w5 ⟨rfl, hi, hb, hk⟩; refine ⟨_, rfl, ?_⟩; have n0_ := Aside0.mk (KeepBut.trans (by repeat (first | (with_reducible first | exact HK.out | apply KeepBut.set_ | apply keep_drewN | apply keep_drew | apply keep_alloc) | exact HK.out)) hk (.inl rfl)); have n1_ := Aside0.mk (hb); have n2_ := Aside0.mk (hi); clear HK; clear HB; clear HI0; have HK := n0_; have HB := n1_; have HI0 := n2_; clear n0_ n1_ n2_; (try clear hb); (try clear hb2); (try clear hk); (try clear hi)))
  go_ret
  exact ⟨by first | rfl | (simp [errW_none, errW_some] <;> rfl) | (simp [*, errW_none, errW_some] <;> rfl), by repeat (first | (with_reducible first | exact HI0.out | apply IsS61.alloc | apply IsS61.drewN | apply IsS61.drew | apply IsS61.set_0) | exact HI0.out), by repeat (first | (with_reducible first | exact HB.out | apply below_alloc | apply pw_below_drewN | apply below_drew1 | refine below_set ?_ (IsS61.ge HI0.out)) | exact HB.out), by repeat (first | (with_reducible first | exact HK.out | apply KeepBut.set_ | apply keep_drewN | apply keep_drew | apply keep_alloc) | exact HK.out)⟩

end Go.Proofs.YtdfgfhnbcifheaaDoor.M
-- By pp.py, a program of this repo, with the kit's printer: Lean checks it.
namespace Go.Proofs.YtdfgfhnbcifheaaDoor.M
open Go.RowKit Go.Proofs.YtdfgfhnbcifheaaDoorW.PrintWords Go.Proofs.YtdfgfhnbcifheaaDoorW.PrintLast Go.Proofs.YtdfgfhnbcifheaaDoorW.PrintMore
attribute [local go_sem] max2_int min2_int max_two min_two max_three min_three max_four min_four
set_option linter.unusedVariables false
set_option linter.unusedSimpArgs false

/-! ### impl_source_s16: function 49 -/
def impl_source_s16.f (s0_0 : ByteArray) : Option (ByteArray × ByteArray) := (impl_source_num.f s0_0 2).bind fun bt290 => ((impl_source_text.f bt290.2 bt290.1).bind fun bt292 => (some (bt292.1, bt292.2)))
set_option maxHeartbeats 8000000 in
set_option maxRecDepth 100000 in
theorem impl_source_s16.calls (g : Nat) (s0_0 : ByteArray) (r1 : ByteArray) (r2 : ByteArray) (w0 w : World) (hI : IsS61 w0 w g s0_0) (hB : Below w0.heap.size w0 w) (h : impl_source_s16.f s0_0 = some (r1, r2)) :
    Calls Tryd.prog 49 #[.pointer (some ⟨g, 0, none⟩)] w fun e w' => e = .returned (.string r1) ∧ IsS61 w0 w' g r2 ∧ Below w0.heap.size w0 w' ∧ KeepBut w w' g none := by
  have HI0 := Aside0.mk hI
  have HK := Aside0.mk (KeepBut.refl w g none)
  have HL := Aside0.mk hB.size
  clear hI
  have HW0 := Aside0.mk hB.size
  have HB := Aside0.mk hB
  clear hB
  have H : ((impl_source_num.f s0_0 2).bind fun bt290 => ((impl_source_text.f bt290.2 bt290.1).bind fun bt292 => (some (bt292.1, bt292.2)))) = some (r1, r2) := h
  clear h
  replace H := Option.bind_eq_some_iff.mp H
  obtain ⟨⟨t290, t291⟩, A20, H⟩ := H
  replace H : ((impl_source_text.f t291 t290).bind fun bt292 => (some (bt292.1, bt292.2))) = some (r1, r2) := H
  have A2 := Aside0.mk A20
  clear A20
  replace H := Option.bind_eq_some_iff.mp H
  obtain ⟨⟨t292, t293⟩, A30, H⟩ := H
  replace H : (some (t292, t293)) = some (r1, r2) := H
  have A3 := Aside0.mk A30
  clear A30
  simp only [Option.some.injEq, Prod.mk.injEq] at H
  obtain ⟨rfl, rfl⟩ := H
  go_enter Tryd.func49, Tryd.ntmps49
  go_wp2_with (first | ((with_reducible refine gate_callee (f := 47) rfl ?_); refine goesL_ (some 5) rfl rfl Tryd.func47 (by kernel_rfl) rfl #[.pointer (some ⟨g, 0, none⟩), .int .i64 2] rfl (by (try simp only [List.map_toArray, List.map_cons, List.map_nil]); first | done | rfl | (simp only [List.length_drop, List.length_take]; rfl)) ?_; (with_reducible refine (impl_source_num.calls g s0_0 2 t290 t291 w0 _ ?side1 ?side2 A2.out).mono ?_); (case side1 => repeat (first | (with_reducible first | exact HI0.out | apply IsS61.alloc | apply IsS61.drewN | apply IsS61.drew | apply IsS61.set_0) | exact HI0.out)); (case side2 => repeat (first | (with_reducible first | exact HB.out | apply below_alloc | apply pw_below_drewN | apply below_drew1 | refine below_set ?_ (IsS61.ge HI0.out)) | exact HB.out)); rintro e w4 ⟨rfl, hi, hb, hk⟩; refine ⟨_, rfl, ?_⟩; have n0_ := Aside0.mk (KeepBut.trans (by repeat (first | (with_reducible first | exact HK.out | apply KeepBut.set_ | apply keep_drewN | apply keep_drew | apply keep_alloc) | exact HK.out)) hk (.inl rfl)); have n1_ := Aside0.mk (hb); have n2_ := Aside0.mk (hi); clear HK; clear HB; clear HI0; have HK := n0_; have HB := n1_; have HI0 := n2_; clear n0_ n1_ n2_; (try clear hb); (try clear hb2); (try clear hk); (try clear hi)) | ((with_reducible refine gate_callee (f := 62) rfl ?_); refine goesL_ (some 6) rfl rfl Tryd.func62 (by kernel_rfl) rfl #[.pointer (some ⟨g, 0, none⟩), .int .i64 t290] rfl (by (try simp only [List.map_toArray, List.map_cons, List.map_nil]); first | done | rfl | (simp only [List.length_drop, List.length_take]; rfl)) ?_; (with_reducible refine (impl_source_text.calls g t291 t290 t292 t293 w0 _ ?side1 ?side2 A3.out).mono ?_); (case side1 => repeat (first | (with_reducible first | exact HI0.out | apply IsS61.alloc | apply IsS61.drewN | apply IsS61.drew | apply IsS61.set_0) | exact HI0.out)); (case side2 => repeat (first | (with_reducible first | exact HB.out | apply below_alloc | apply pw_below_drewN | apply below_drew1 | refine below_set ?_ (IsS61.ge HI0.out)) | exact HB.out)); rintro e w5 ⟨rfl, hi, hb, hk⟩; refine ⟨_, rfl, ?_⟩; have n0_ := Aside0.mk (KeepBut.trans (by repeat (first | (with_reducible first | exact HK.out | apply KeepBut.set_ | apply keep_drewN | apply keep_drew | apply keep_alloc) | exact HK.out)) hk (.inl rfl)); have n1_ := Aside0.mk (hb); have n2_ := Aside0.mk (hi); clear HK; clear HB; clear HI0; have HK := n0_; have HB := n1_; have HI0 := n2_; clear n0_ n1_ n2_; (try clear hb); (try clear hb2); (try clear hk); (try clear hi)))
  go_ret
  exact ⟨by first | rfl | (simp [errW_none, errW_some] <;> rfl) | (simp [*, errW_none, errW_some] <;> rfl), by repeat (first | (with_reducible first | exact HI0.out | apply IsS61.alloc | apply IsS61.drewN | apply IsS61.drew | apply IsS61.set_0) | exact HI0.out), by repeat (first | (with_reducible first | exact HB.out | apply below_alloc | apply pw_below_drewN | apply below_drew1 | refine below_set ?_ (IsS61.ge HI0.out)) | exact HB.out), by repeat (first | (with_reducible first | exact HK.out | apply KeepBut.set_ | apply keep_drewN | apply keep_drew | apply keep_alloc) | exact HK.out)⟩

end Go.Proofs.YtdfgfhnbcifheaaDoor.M
/- impl.valueFault: a range over a text's runes. -/
namespace Go.Proofs.YtdfgfhnbcifheaaDoor.M
open Go.RowKit Go.Proofs.YtdfgfhnbcifheaaDoorW.PrintWords Go.Proofs.YtdfgfhnbcifheaaDoorW.PrintLast Go.Proofs.YtdfgfhnbcifheaaDoorW.PrintMore
set_option linter.unusedVariables false
set_option linter.unusedSimpArgs false
/-- The two tables of unicode/utf8, as the program's text lays them. -/
def Tabs (w : World) : Prop := Lib.Utf8Tabs (Tryd.lays197_ren.g 3) (Tryd.lays197_ren.g 4) w
theorem Tabs.below {w w' : World} (h : Tabs w) (hb : Below w.heap.size w w') : Tabs w' := by
  have up : ∀ {a : Addr} {v : Value}, w.cell? a = some v → w'.cell? a = some v := fun hc => (hb.cell (World.block_lt_of_cell? w _ hc)).trans hc
  exact ⟨fun c hc => up (h.1 c hc), fun i hi => ⟨up (h.2 i hi).1, up (h.2 i hi).2⟩⟩
namespace Vf
open Utf
theorem get_cut (s : ByteArray) (pos k : Nat) (h : pos ≤ s.size) : (s.extract pos s.size).get! k = s.get! (pos + k) := by
  have hz : (s.extract pos s.size).size = s.size - pos := by rw [ByteArray.size_extract]; omega
  by_cases hk : pos + k < s.size
  · rw [Utf8W.get!_of_lt _ k (by omega), Utf8W.get!_of_lt s (pos + k) hk, ByteArray.getElem_extract]
  · have e1 : (s.extract pos s.size).get! k = default := by
      cases hs : s.extract pos s.size with
      | mk d =>
        have : ¬ k < d.size := by rw [hs] at hz; have : d.size = s.size - pos := hz; omega
        exact getElem!_neg d k this
    have e2 : s.get! (pos + k) = default := by
      cases s with
      | mk d => exact getElem!_neg d (pos + k) hk
    rw [e1, e2]
theorem decode_cut (s : ByteArray) (pos : Nat) (h : pos < s.size) : Lib.decodeGo (s.extract pos s.size) = Utf8.decode s pos := by
  have hz : (s.extract pos s.size).size = s.size - pos := by rw [ByteArray.size_extract]; omega
  unfold Lib.decodeGo
  rw [if_neg (by omega), Lib.decode_at, Lib.decode_at, hz, get_cut s pos _ (by omega), get_cut s pos _ (by omega), get_cut s pos _ (by omega), get_cut s pos _ (by omega), Nat.sub_zero, Nat.add_zero]
section
variable {P : Program}
theorem next_at (W : World) (g : Nat) (s : ByteArray) (pos : Nat) (hb : W.heap[g]? = some (.stringIter s pos)) (h : pos < s.size) (ty : TypeId) :
    (Instr.next (.pointer (some ⟨g, 0, none⟩)) true ty).run P W = .ok (.tuple #[.bool true, .int .i64 pos, .int .i32 (Utf8.decode s pos).1]) { W with heap := W.heap.setIfInBounds g (.stringIter s (pos + (Utf8.decode s pos).2)) } := by
  simp only [Instr.next, getObj, setObj, Sem.run_bind, Sem.run, hb, Result.andThen, h, if_true]
  simp [goInt]
theorem next_end (W : World) (g : Nat) (s : ByteArray) (pos : Nat) (hb : W.heap[g]? = some (.stringIter s pos)) (h : ¬ pos < s.size) (ty : TypeId) :
    (Instr.next (.pointer (some ⟨g, 0, none⟩)) true ty).run P W = .ok (.tuple #[.bool false]) W := by
  simp [Instr.next, getObj, Sem.run, hb, h]
end
theorem ctl_int (r : Nat) : ctl r = (decide ((r : Int) < 32) || (decide ((127 : Int) ≤ (r : Int)) && decide ((r : Int) ≤ 159))) := by
  unfold ctl
  rw [Bool.eq_iff_iff]
  simp only [Bool.or_eq_true, Bool.and_eq_true, decide_eq_true_eq]
  omega
theorem moved {w W : World} {g : Nat} {o o' : Obj} (hb : W.heap[g]? = some o) (hB : Below w.heap.size w W) (hg : w.heap.size ≤ g) :
    ({ W with heap := W.heap.setIfInBounds g o' } : World).heap[g]? = some o' ∧ Below w.heap.size w { W with heap := W.heap.setIfInBounds g o' } := by
  have hlt := blk_lt hb
  refine ⟨by simp [Array.getElem?_setIfInBounds, hlt], ⟨hB.os, hB.tape, hB.output, by simpa using hB.size, fun k hk => ?_⟩⟩
  show (W.heap.setIfInBounds g o')[k]? = _
  rw [Array.getElem?_setIfInBounds, if_neg (by omega)]
  exact hB.block k hk
set_option maxHeartbeats 8000000 in
set_option maxRecDepth 100000 in
theorem walk (s : ByteArray) (w : World) (hz : s.size ≤ 4611686018427387904) (hT : Tabs w) :
    Calls Tryd.prog 29 #[.string s] w fun e w' => e = .returned (.int .i64 (vf s)) ∧ Below w.heap.size w w' := by
  have HT := Aside0.mk hT
  clear hT
  go_enter Tryd.func29, Tryd.ntmps29
  go_wp2
  have hx0 : Aside0 ((w.iter s 0).heap[w.heap.size]? = some (.stringIter s 0)) := ⟨World.iter_heap w s 0⟩
  have hB0 : Aside0 (Below w.heap.size w (w.iter s 0)) := ⟨below_alloc (Below.refl _ w) _⟩
  go_loopw [3, 4] (fun n c wr => ∃ (pos b k : Nat) (cc : Bool), n = .int .i64 k ∧ c = .bool cc ∧ Aside0 (wr.heap[w.heap.size]? = some (.stringIter s pos)) ∧ Aside0 (Below w.heap.size w wr) ∧ Aside0 (fin k cc (scan s b pos) = vf s) ∧ Aside0 (s.size ≤ pos + b) ∧ Aside0 (k ≤ pos))
    (fun _ _ wr => s.size - wr.iterPos w.heap.size)
  case atStart => exact ⟨0, s.size, 0, false, rfl, rfl, hx0, hB0, ⟨rfl⟩, ⟨by omega⟩, ⟨Nat.le_refl _⟩⟩
  case round =>
    obtain ⟨pos, b, k, cc, rfl, rfl, HX, HB, HV, HS, HK⟩ := hrel
    by_cases hp : pos < s.size
    · have hw := width_pos s pos hp
      obtain ⟨r, hr⟩ : ∃ r, r = (Utf8.decode s pos).1 := ⟨_, rfl⟩
      obtain ⟨d, hd⟩ : ∃ d, d = (Utf8.decode s pos).2 := ⟨_, rfl⟩
      obtain ⟨hx1, hb1⟩ := moved (o' := .stringIter s (pos + d)) HX.out HB.out (Nat.le_refl _)
      obtain ⟨W1, hW1⟩ : ∃ W1, ({ wr with heap := wr.heap.setIfInBounds w.heap.size (.stringIter s (pos + d)) } : World) = W1 := ⟨_, rfl⟩
      rw [hW1] at hx1 hb1
      have hnx : ∀ ty, (Instr.next (.pointer (some ⟨w.heap.size, 0, none⟩)) true ty).run Tryd.prog wr = .ok (.tuple #[.bool true, .int .i64 pos, .int .i32 r]) W1 := fun ty => by
        have := next_at (P := Tryd.prog) wr w.heap.size s pos HX.out hp ty
        rw [← hr, ← hd, hW1] at this
        exact this
      rw [← hd] at hw
      have hip : wr.iterPos w.heap.size = pos := by unfold World.iterPos; rw [HX.out]
      have HX1 := Aside0.mk hx1
      have HB1 := Aside0.mk hb1
      have HR := Aside0.mk hr
      have HD := Aside0.mk hd
      have HIP := Aside0.mk hip
      have HW := Aside0.mk hw
      clear hx1 hb1 hr hd hip hw hW1
      obtain ⟨b, rfl⟩ : ∃ b', b = b' + 1 := ⟨b - 1, by have := HS.out; omega⟩
      have hkw : wrap64 ((k : Int) + 1) = ((k + 1 : Nat) : Int) := by have := HK.out; unfold wrap64; omega
      have HKW := Aside0.mk hkw
      clear hkw
      have h0 : (0 : Int) ≤ (pos : Int) := Int.natCast_nonneg pos
      have h1 : (pos : Int) ≤ (s.size : Int) := by omega
      have done : ∀ (W2 : World) (cc' : Bool), W2.heap[w.heap.size]? = some (.stringIter s (pos + d)) → Below w.heap.size w W2 → cc' = (cc || ctl r) → ¬ bad s pos →
          (∃ (pos' b' k' : Nat) (c2 : Bool), Value.int .i64 (wrap64 ((k : Int) + 1)) = .int .i64 k' ∧ Value.bool cc' = .bool c2 ∧ Aside0 (W2.heap[w.heap.size]? = some (.stringIter s pos')) ∧ Aside0 (Below w.heap.size w W2) ∧ Aside0 (fin k' c2 (scan s b' pos') = vf s) ∧ Aside0 (s.size ≤ pos' + b') ∧ Aside0 (k' ≤ pos')) ∧ s.size - W2.iterPos w.heap.size < s.size - wr.iterPos w.heap.size := by
        intro W2 cc' hx hb hc hbad
        have hv := HV.out
        rw [scan_step s b pos hp hbad, fin_map, ← HR.out, ← HD.out, ← hc] at hv
        refine ⟨⟨pos + d, b, k + 1, cc', by rw [HKW.out], rfl, ⟨hx⟩, ⟨hb⟩, ⟨hv⟩, ⟨by have := HS.out; have := HW.out; omega⟩, ⟨by have := HK.out; have := HW.out; omega⟩⟩, ?_⟩
        rw [HIP.out, show W2.iterPos w.heap.size = pos + d by unfold World.iterPos; rw [hx]]
        have := HW.out
        omega
      have HDone := Aside0.mk done
      clear done
      by_cases hr5 : r = 65533
      · have hr5' : (r : Int) = 65533 := by omega
        have HR5 := Aside0.mk hr5
        clear hr5
        go_wp2_with fail
        refine (Tryd.utf8_DecodeRuneInString (s.extract pos s.size) W1 (Tabs.below HT.out HB1.out)).mono ?_
        rintro e w2 ⟨rfl, hb2⟩
        rw [decode_cut s pos hp, ← HR.out, ← HD.out]
        have HX2 := Aside0.mk ((hb2.block _ (blk_lt HX1.out)).trans HX1.out)
        have HB2 := Aside0.mk (below_then HB1.out HB1.out.size hb2)
        clear hb2
        by_cases hd1 : d = 1
        · have hd1' : (d : Int) = 1 := by omega
          have hv := HV.out
          rw [scan_bad s b pos hp ⟨by rw [← HR.out]; exact HR5.out, by rw [← HD.out]; exact hd1⟩, fin_none] at hv
          have HV2 := Aside0.mk hv
          clear hv hd1
          go_wp2
          go_ret
          exact ⟨by rw [← HV2.out]; rfl, HB2.out⟩
        · have hd1' : ¬ (d : Int) = 1 := by omega
          have hbad : ¬ bad s pos := fun h => hd1 (HD.out.trans h.2)
          have hctl : ctl r = false := by rw [HR5.out]; rfl
          cases cc with
          | true =>
            go_wp2
            go_round
            case rel => exact (HDone.out _ _ HX2.out HB2.out rfl hbad).1
            case measure => exact (HDone.out _ true HX2.out HB2.out rfl hbad).2
          | false =>
            have HC := Aside0.mk hctl
            clear hctl
            go_wp2
            go_round
            case rel => exact (HDone.out _ _ HX2.out HB2.out (by rw [HC.out]; rfl) hbad).1
            case measure => exact (HDone.out _ false HX2.out HB2.out (by rw [HC.out]; rfl) hbad).2
      · have hr5' : ¬ (r : Int) = 65533 := by omega
        have hbad : ¬ bad s pos := fun h => hr5 (HR.out.trans h.1)
        have HBad := Aside0.mk hbad
        clear hbad hr5
        cases cc with
        | true =>
          obtain h32 | h32 : (r : Int) < 32 ∨ ¬ (r : Int) < 32 := by omega
          all_goals obtain h127 | h127 : (127 : Int) ≤ (r : Int) ∨ ¬ (127 : Int) ≤ (r : Int) := by omega
          all_goals obtain h159 | h159 : (r : Int) ≤ 159 ∨ ¬ (r : Int) ≤ 159 := by omega
          all_goals first | (exfalso; omega) | skip
          all_goals go_wp2
          all_goals go_round
          all_goals first | exact (HDone.out _ true HX1.out HB1.out rfl HBad.out).1 | exact (HDone.out _ true HX1.out HB1.out rfl HBad.out).2
        | false =>
          obtain h32 | h32 : (r : Int) < 32 ∨ ¬ (r : Int) < 32 := by omega
          all_goals obtain h127 | h127 : (127 : Int) ≤ (r : Int) ∨ ¬ (127 : Int) ≤ (r : Int) := by omega
          all_goals obtain h159 | h159 : (r : Int) ≤ 159 ∨ ¬ (r : Int) ≤ 159 := by omega
          all_goals first | (exfalso; omega) | skip
          all_goals (have hctl := ctl_int r)
          all_goals (have HC := Aside0.mk hctl; clear hctl)
          all_goals go_wp2
          all_goals go_round
          all_goals first | exact (HDone.out _ (false || ctl r) HX1.out HB1.out rfl HBad.out).2 | exact (HDone.out _ _ HX1.out HB1.out (by rw [HC.out]; simp [h32, h127, h159]) HBad.out).1
    · have hnx : ∀ ty, (Instr.next (.pointer (some ⟨w.heap.size, 0, none⟩)) true ty).run Tryd.prog wr = _ := fun ty => next_end wr w.heap.size s pos HX.out hp ty
      have hv := HV.out
      rw [scan_end s b pos (by omega)] at hv
      have hv2 : (if 128 < k then (43 : Int) else if cc = true then 44 else 0) = vf s := by rw [← hv]; simp [fin]
      have HV2 := Aside0.mk hv2
      clear hv hv2
      by_cases hk : 128 < k
      · go_wp2
        go_ret
        exact ⟨by rw [← HV2.out, if_pos hk]; rfl, HB.out⟩
      · cases cc
        · go_wp2
          go_ret
          exact ⟨by rw [← HV2.out, if_neg hk]; rfl, HB.out⟩
        · go_wp2
          go_ret
          exact ⟨by rw [← HV2.out, if_neg hk]; rfl, HB.out⟩
end Vf
def impl_valueFault.f (a0 : ByteArray) : Option Int := if a0.size ≤ 4611686018427387904 then some (Utf.vf a0) else none
theorem impl_valueFault.calls (a0 : ByteArray) (r : Int) (w : World) (h : impl_valueFault.f a0 = some r) (hT : Tabs w) :
    Calls Tryd.prog 29 #[.string a0] w fun e w' => e = .returned (.int .i64 r) ∧ Below w.heap.size w w' := by
  unfold impl_valueFault.f at h
  by_cases hz : a0.size ≤ 4611686018427387904
  · rw [if_pos hz] at h
    obtain rfl := Option.some.inj h
    exact Vf.walk a0 w hz hT
  · rw [if_neg hz] at h; cases h
end Go.Proofs.YtdfgfhnbcifheaaDoor.M
