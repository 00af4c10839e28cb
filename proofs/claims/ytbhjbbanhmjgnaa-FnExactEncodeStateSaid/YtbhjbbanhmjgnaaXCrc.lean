/- Crc32c: the table of bytes' remainders, and the walk over a string's bytes. -/
import Derived.Test.YtbhjbbanhmjgnaaM0
import Derived.Laws.Tables
import Derived.Laws.Rows
namespace Go.Proofs.Ytbhjbbanhmjgnaa.M
open Go.RowKit Go.Proofs.YtbhjbbanhmjgnaaW.PrintWords Go.Proofs.YtbhjbbanhmjgnaaW.PrintLast Go.Proofs.YtbhjbbanhmjgnaaW.PrintMore
set_option linter.unusedVariables false
set_option linter.unusedSimpArgs false
namespace Crc
/-- One bit. -/
def stp (c : Int) : Int := Go.bits .xor .u32 (c / 2) (2197175160 * Go.bits .and .u32 c 1 % 4294967296)
def stps (c : Int) : Nat → Int
  | 0 => c
  | k + 1 => stp (stps c k)
/-- The table's entry. -/
def ent (p : Nat) : Int := stps p 8
def tabArr (k : Nat) : Array Value := ((List.range 256).map fun p => Value.int .u32 (if p < k then ent p else 0)).toArray
theorem zero_tab : Try.zeroCells116 = tabArr 0 := by kernel_rfl
theorem tab_size (k : Nat) : (tabArr k).size = 256 := by simp [tabArr]
theorem tab_one (k : Nat) : (tabArr k).all (·.oneCell') = true := by
  rw [Array.all_eq_true_iff_forall_mem]
  intro x hx
  obtain ⟨p, _, rfl⟩ := List.mem_map.1 (List.mem_toArray.1 hx)
  rfl
theorem tab_at (k p : Nat) (h : p < 256) : (tabArr k)[p]? = some (.int .u32 (if p < k then ent p else 0)) := by
  rw [tabArr, List.getElem?_toArray, List.getElem?_map, List.getElem?_range h]; rfl
theorem tab_old (k : Nat) (h : k < 256) : (tabArr k)[k]? = some (.int .u32 0) := by
  rw [tab_at k k h, if_neg (by omega)]
theorem tab_set (k : Nat) (h : k < 256) : (tabArr k).setIfInBounds k (.int .u32 (ent k)) = tabArr (k + 1) := by
  apply Array.ext_getElem?
  intro i
  rw [Array.getElem?_setIfInBounds]
  by_cases hi : k = i
  · subst hi
    rw [if_pos rfl, if_pos (by rw [tab_size]; exact h), tab_at _ _ h, if_pos (by omega)]
  · rw [if_neg hi]
    by_cases hi' : i < 256
    · rw [tab_at _ _ hi', tab_at _ _ hi']
      by_cases h2 : i < k
      · rw [if_pos h2, if_pos (by omega)]
      · rw [if_neg h2, if_neg (by omega)]
    · rw [Array.getElem?_eq_none (by rw [tab_size]; omega), Array.getElem?_eq_none (by rw [tab_size]; omega)]
theorem u32_range (x y : Int) (op : BinOp) : 0 ≤ Go.bits op .u32 x y ∧ Go.bits op .u32 x y ≤ 4294967295 := by
  unfold Go.bits
  simp only [IntKind.wrap_u32]
  omega
theorem stps_range (c : Int) (h0 : 0 ≤ c) (h1 : c ≤ 4294967295) : ∀ k, 0 ≤ stps c k ∧ stps c k ≤ 4294967295
  | 0 => ⟨h0, h1⟩
  | k + 1 => by show 0 ≤ stp (stps c k) ∧ stp (stps c k) ≤ 4294967295; exact u32_range _ _ _
end Crc
open Crc in
set_option maxHeartbeats 2000000 in
set_option maxRecDepth 100000 in
theorem castagnoli_calls (w : World) :
    Calls Try.prog 56 #[] w fun e w' => e = .returned (.agg (tabArr 256)) ∧ Below w.heap.size w w' := by
  have HZ := Aside0.mk zero_tab
  go_enter Try.func56, Try.ntmps56
  go_wp2
  go_loopw [2, 3, 4, 9] (fun _ _ i _ wr => ∃ k : Nat, k ≤ 256 ∧ i = .int .i64 k ∧ wr = (w.alloc (.cells Try.zeroCells116 116)).alloc (.cells (tabArr k) 116)) (fun _ _ i _ _ => 256 - (intOf i).toNat)
  case atStart => exact ⟨0, by omega, by simp, by rw [← HZ.out]⟩
  case round =>
    obtain ⟨k, hk, rfl, rfl⟩ := hrel
    obtain hk5 | hk6 : 256 ≤ k ∨ k < 256 := by omega
    · have HG := Aside0.mk (heap_alloc2_new w (.cells Try.zeroCells116 116 (0, 0)) (.cells (tabArr k) 116 (0, 0)))
      have HG0 := Aside0.mk (heap_alloc2_old w (.cells Try.zeroCells116 116 (0, 0)) (.cells (tabArr k) 116 (0, 0)))
      have HS := Aside0.mk (tab_size k)
      have HO := Aside0.mk (tab_one k)
      have HI := Aside0.mk (show (Try.prog.info? 116).map (·.size) = some (tabArr k).size by rw [tab_size]; kernel_rfl)
      have HZS := Aside0.mk (show (Try.zeroCells116 : Array Value).size = (tabArr k).size by rw [zero_tab, tab_size, tab_size])
      go_wp2_with (first | (with_reducible refine wpList_load_row rfl 116 _ rfl (w.heap.size + 1) rfl 116 _ (0, 0) _ HG.out Try.underlying116 rfl HI.out ?_) | (with_reducible refine wpList_store_row rfl 116 _ _ rfl w.heap.size (tabArr k) rfl rfl 116 _ HG0.out HI.out HZS.out HO.out ?_))
      have HB := ((Below.refl w.heap.size w).alloc (Nat.le_refl _) (.cells Try.zeroCells116 116 (0, 0))).alloc (by simp) (.cells (tabArr k) 116 (0, 0))
      refine bodyPost_ret (v := .agg (tabArr k)) (results_cell_row (p := 0) rfl _ _ w.heap.size 116 (tabArr k) (0, 0) _ rfl (setRow_heap _ _ _ _ _ _ HG0.out) Try.underlying116 rfl HI.out) rfl ⟨?_, ?_⟩
      · obtain rfl : k = 256 := by omega
        rfl
      · exact ⟨HB.os, HB.tape, HB.output, by rw [size_setRow]; exact HB.size, fun i hi => (setRow_other _ _ i _ (by omega)).trans (HB.block i hi)⟩
    · have ho := tab_old k hk6
      go_wp2
      go_loop [3, 9] (fun c i => ∃ j : Nat, j ≤ 8 ∧ i = .int .i64 j ∧ c = .int .u32 (stps k j)) (fun _ i => 8 - (intOf i).toNat)
      case atStart => exact ⟨0, by omega, by simp, by simp [stps]⟩
      case round =>
        obtain ⟨j, hj, rfl, rfl⟩ := hrel
        obtain ⟨s0, s1⟩ := stps_range k (by omega) (by omega) j
        obtain hj7 | hj8 : 8 ≤ j ∨ j < 8 := by omega
        · obtain rfl : j = 8 := by omega
          go_wp2
          refine ⟨⟨k + 1, by omega, by go_num, ?_⟩, ?_⟩
          · rw [← tab_set k hk6]; rfl
          · simp [intOf]; omega
        · go_wp2
          go_round
          case rel => exact ⟨j + 1, by omega, by go_num, rfl⟩
          case measure => simp [intOf]; omega
namespace Crc
/-- One byte. -/
def byt (c b : Int) : Int := Go.bits .xor .u32 (c / 256) (ent (Go.bits .xor .u8 (c % 256) b).toNat)
def upto (s : ByteArray) : Nat → Int
  | 0 => 4294967295
  | k + 1 => byt (upto s k) (bt s (k : Int))
theorem upto_range (s : ByteArray) : ∀ k, 0 ≤ upto s k ∧ upto s k ≤ 4294967295
  | 0 => by show 0 ≤ (4294967295 : Int) ∧ (4294967295 : Int) ≤ 4294967295; omega
  | k + 1 => by show 0 ≤ byt _ _ ∧ byt _ _ ≤ 4294967295; exact u32_range _ _ _
theorem u8_range (x y : Int) (op : BinOp) : 0 ≤ Go.bits op .u8 x y ∧ Go.bits op .u8 x y < 256 := by
  unfold Go.bits
  simp only [IntKind.wrap_u8]
  omega
end Crc
def impl_Crc32c.f (a0 : ByteArray) : Option (Int) := if a0.size ≤ 9223372036854775807 then some (wrap64 (Go.bits .xor .u32 IntKind.u32.max (Crc.upto a0 a0.size))) else none
open Crc in
set_option maxHeartbeats 2000000 in
set_option maxRecDepth 100000 in
theorem impl_Crc32c.calls (a0 : ByteArray) (r : Int) (w : World) (h : impl_Crc32c.f a0 = some r) :
    Calls Try.prog 39 #[.string a0] w fun e w' => e = .returned (.int .i64 r) ∧ Below w.heap.size w w' := by
  have hz : a0.size ≤ 9223372036854775807 := by
    unfold impl_Crc32c.f at h
    split at h
    · assumption
    · cases h
  unfold impl_Crc32c.f at h
  rw [if_pos hz] at h
  have H := Aside0.mk (Option.some.inj h)
  clear h
  have HI := Aside0.mk (show (Try.prog.info? 116).map (·.size) = some (tabArr 256).size by rw [tab_size]; kernel_rfl)
  have HZS := Aside0.mk (show (Try.zeroCells116 : Array Value).size = (tabArr 256).size by rw [zero_tab, tab_size, tab_size])
  have HO := Aside0.mk (tab_one 256)
  go_enter Try.func39, Try.ntmps39
  go_wp2_with fail
  refine (castagnoli_calls _).mono ?_
  rintro e w1 ⟨rfl, hb⟩
  have HB := Aside0.mk hb
  clear hb
  go_wp2_with ((with_reducible refine wpList_store_row rfl 116 _ _ rfl w1.heap.size (tabArr 256) rfl rfl 116 _ (heap_alloc_new w1 _) HI.out HZS.out HO.out ?_); generalize HW : World.setRow _ _ _ = W2; have HW' := Aside0.mk HW; clear HW)
  have HG := Aside0.mk (show W2.heap[w1.heap.size]? = some (.cells (tabArr 256) 116 (0, 0)) by rw [← HW'.out]; exact setRow_heap _ _ _ _ _ _ (heap_alloc_new w1 _))
  have HB2 := Aside0.mk (show Below w.heap.size w W2 by
    have hb1 := HB.out.alloc HB.out.size (.cells Try.zeroCells116 116 (0, 0))
    rw [← HW'.out]
    exact ⟨hb1.os, hb1.tape, hb1.output, by rw [size_setRow]; exact hb1.size, fun i hi => (setRow_other _ _ i _ (by have := HB.out.size; omega)).trans (hb1.block i hi)⟩)
  clear HW' HB
  go_loop [4, 9] (fun c i => ∃ k : Nat, k ≤ a0.size ∧ i = .int .i64 k ∧ c = .int .u32 (upto a0 k)) (fun _ i => a0.size - (intOf i).toNat)
  case atStart => exact ⟨0, by omega, by simp, rfl⟩
  case round =>
    obtain ⟨k, hk, rfl, rfl⟩ := hrel
    obtain ⟨s0, s1⟩ := upto_range a0 k
    obtain hk5 | hk6 : a0.size ≤ k ∨ k < a0.size := by omega
    · obtain rfl : k = a0.size := by omega
      go_wp2
      go_ret
      exact ⟨by rw [← H.out]; rfl, HB2.out⟩
    · have hx : bt a0 (k : Int) = (a0[k].toNat : Int) := (bt_at a0 (k : Int) hk6).symm
      obtain ⟨b0, b1⟩ := u8_range (upto a0 k % 256) (a0[k].toNat : Int) .xor
      have hc : W2.cell? ⟨w1.heap.size, (Go.bits .xor .u8 (upto a0 k % 256) (a0[k].toNat : Int)).toNat, none⟩ = some (.int .u32 (ent (Go.bits .xor .u8 (upto a0 k % 256) (a0[k].toNat : Int)).toNat)) := by
        rw [cell_of_row _ _ _ _ _ _ HG.out, tab_at _ _ (by omega), if_pos (by omega)]
      have HX := Aside0.mk hx
      clear hx
      go_wp2
      go_round
      case rel => exact ⟨k + 1, by omega, by go_num, by show _ = Value.int .u32 (byt _ _); rw [HX.out]; rfl⟩
      case measure => simp [intOf]; omega
end Go.Proofs.Ytbhjbbanhmjgnaa.M
