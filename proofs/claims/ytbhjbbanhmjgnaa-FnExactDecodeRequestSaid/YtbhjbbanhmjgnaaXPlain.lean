/- plain: whether the fields that a request's kind doesn't use are empty: a map that the call makes, and one row of it. -/
import Derived.Test.YtbhjbbanhmjgnaaM0
import Derived.WideMake
import Derived.Carry
import Derived.BigQuiet
import Derived.Lib.SliceRun
namespace Go.Proofs.Ytbhjbbanhmjgnaa.M
open Go.RowKit Go.Proofs.YtbhjbbanhmjgnaaW.PrintWords Go.Proofs.YtbhjbbanhmjgnaaW.PrintLast Go.Proofs.YtbhjbbanhmjgnaaW.PrintMore
set_option linter.unusedVariables false
set_option linter.unusedSimpArgs false
namespace Plain
def Ok (k : Int) (t m : ByteArray) (nm : Int) (n : Nat) : Prop := (1 ≤ k ∧ k ≤ 6) ∧ ((k = 1 ∨ k = 3 ∨ k = 5 ∨ k = 6) ∨ t.toList = []) ∧ ((k = 3 ∨ k = 5) ∨ m.toList = []) ∧ ((k = 2 ∨ k = 3) ∨ nm = 0) ∧ (k = 1 ∨ n = 0)
instance (k : Int) (t m : ByteArray) (nm : Int) (n : Nat) : Decidable (Ok k t m nm n) := by unfold Ok; infer_instance
def row (a b c d : Int) : Value := .agg #[.int .i64 a, .int .i64 b, .int .i64 c, .int .i64 d]
theorem upd (W0 : World) (es : Array MapEntry) (ck : Nat) (key : Int) (v : Value) (hf : Instr.findNow (.int .i64) (.int .i64 key) es.toList 0 = some none) :
    (Instr.mapUpdate 101 (.map (some W0.heap.size)) (.int .i64 key) v).run Try.prog (W0.alloc (.map es ck)) = .ok () (W0.alloc (.map (es.push { key := .int .i64 key, val := v, born := ck }) (ck + 1))) := by
  have hb : (W0.alloc (.map es ck)).heap[W0.heap.size]? = some (.map es ck) := (MapKept.heap_alloc W0 _).1
  have hc : (Instr.checkKey false 10000 3 (.int .i64 key)).run Try.prog (W0.alloc (.map es ck)) = .ok () (W0.alloc (.map es ck)) := MapKept.run_checkKey (k := .int .i64 key) Try.underlying3 (by simp [MapKept.IsKey]) false 9999
  simp [Instr.mapUpdate, run_underlying Try.underlying101, MapKept.run_getObj_map hb, hc, MapKept.run_findKey Try.underlying3 hf, MapKept.run_setObj_map _ hb, Result.andThen]
  have e : ∀ (H : Array Obj) (a b : Obj), (H.push a).setIfInBounds H.size b = H.push b := by
    intro H a b
    apply Array.ext'
    simp [Array.toList_setIfInBounds, List.set_append]
  show (⟨_, _, _, _, _⟩ : World) = _
  rw [show (W0.alloc (.map es ck)).heap = W0.heap.push (.map es ck) from rfl, e]
  rfl
theorem lookR (W0 : World) (es : Array MapEntry) (ck : Nat) (key : Int) (i : Nat) (v : Value) (hf : Instr.findNow (.int .i64) (.int .i64 key) es.toList 0 = some (some (i, v))) (he : es.isEmpty = false) :
    (Instr.lookup 101 (.map (some W0.heap.size)) (.int .i64 key) true).run Try.prog (W0.alloc (.map es ck)) = .ok (.tuple #[v, .bool true]) (W0.alloc (.map es ck)) := by
  have hb : (W0.alloc (.map es ck)).heap[W0.heap.size]? = some (.map es ck) := (MapKept.heap_alloc W0 _).1
  have hc : (Instr.checkKey false 10000 3 (.int .i64 key)).run Try.prog (W0.alloc (.map es ck)) = .ok () (W0.alloc (.map es ck)) := MapKept.run_checkKey (k := .int .i64 key) Try.underlying3 (by simp [MapKept.IsKey]) false 9999
  simp [Instr.lookup, run_underlying Try.underlying101, MapKept.run_getObj_map hb, he, hc, MapKept.run_findKey Try.underlying3 hf, Result.andThen]
theorem zero4 (w : World) : (zeroValue 100).run Try.prog w = .ok (row 0 0 0 0) w := by kernel_rfl
theorem miss (W0 : World) (es : Array MapEntry) (ck : Nat) (key : Int) (hf : Instr.findNow (.int .i64) (.int .i64 key) es.toList 0 = some none) (he : es.isEmpty = false) :
    (Instr.lookup 101 (.map (some W0.heap.size)) (.int .i64 key) true).run Try.prog (W0.alloc (.map es ck)) = .ok (.tuple #[row 0 0 0 0, .bool false]) (W0.alloc (.map es ck)) := by
  have hb : (W0.alloc (.map es ck)).heap[W0.heap.size]? = some (.map es ck) := (MapKept.heap_alloc W0 _).1
  have hc : (Instr.checkKey false 10000 3 (.int .i64 key)).run Try.prog (W0.alloc (.map es ck)) = .ok () (W0.alloc (.map es ck)) := MapKept.run_checkKey (k := .int .i64 key) Try.underlying3 (by simp [MapKept.IsKey]) false 9999
  simp [Instr.lookup, run_underlying Try.underlying101, MapKept.run_getObj_map hb, he, hc, MapKept.run_findKey Try.underlying3 hf, zero4, Result.andThen, row]
def E (k : Int) (v : Value) (b : Nat) : MapEntry := { key := .int .i64 k, val := v, born := b }
def all : Array MapEntry := #[E 1 (row 1 0 0 1) 0, E 2 (row 0 0 1 0) 1, E 3 (row 1 1 1 0) 2, E 4 (row 0 0 0 0) 3, E 5 (row 1 1 0 0) 4, E 6 (row 1 0 0 0) 5]
theorem none_ (k : Int) (h : ¬ (1 ≤ k ∧ k ≤ 6)) : Instr.findNow (.int .i64) (.int .i64 k) all.toList 0 = some none := by
  have h1 : ¬ k = 1 := by omega
  have h2 : ¬ k = 2 := by omega
  have h3 : ¬ k = 3 := by omega
  have h4 : ¬ k = 4 := by omega
  have h5 : ¬ k = 5 := by omega
  have h6 : ¬ k = 6 := by omega
  have b1 : (k == 1) = false := beq_eq_false_iff_ne.2 h1
  have b2 : (k == 2) = false := beq_eq_false_iff_ne.2 h2
  have b3 : (k == 3) = false := beq_eq_false_iff_ne.2 h3
  have b4 : (k == 4) = false := beq_eq_false_iff_ne.2 h4
  have b5 : (k == 5) = false := beq_eq_false_iff_ne.2 h5
  have b6 : (k == 6) = false := beq_eq_false_iff_ne.2 h6
  simp [all, E, Instr.findNow, Instr.sameNow, b1, b2, b3, b4, b5, b6]
end Plain
def impl_plain.f (k : Int) (t m : ByteArray) (nm : Int) (l : List S65) : Option Bool := some (decide (Plain.Ok k t m nm l.length))
open Plain in
set_option maxHeartbeats 4000000 in
set_option maxRecDepth 100000 in
theorem impl_plain.calls (k : Int) (t m : ByteArray) (nm : Int) (A : Option Addr) (c : Nat) (l : List S65) (r : Bool) (w : World) (hr : Kd.C k65 w A l.length l) (hc : l.length ≤ c) (h : impl_plain.f k t m nm l = some r) :
    Calls Try.prog 23 #[.agg #[.int .i64 k, .string t, .string m, .int .i64 nm, .slice A l.length c]] w fun e w' => e = .returned (.bool r) ∧ Below w.heap.size w w' := by
  obtain ⟨n, hn⟩ : ∃ n, n = l.length := ⟨_, rfl⟩
  rw [← hn] at hc ⊢
  unfold impl_plain.f at h
  rw [← hn] at h
  clear hr hn
  obtain rfl := Option.some.inj h
  clear h
  obtain ⟨BOX, hBOX⟩ : ∃ B, w.alloc (.cells #[.int .i64 k, .string t, .string m, .int .i64 nm, .slice A n c] 29) = B := ⟨_, rfl⟩
  have hs : BOX.heap.size = w.heap.size + 1 := by rw [← hBOX]; simp
  have hb : Below w.heap.size w BOX := by rw [← hBOX]; exact (Below.refl _ w).alloc (Nat.le_refl _) _
  have c0 : BOX.cell? ⟨w.heap.size, 0, none⟩ = some (.int .i64 k) := by rw [← hBOX]; exact (blk_cell (blk_new w _) 0).trans rfl
  have c1 : BOX.cell? ⟨w.heap.size, 1, none⟩ = some (.string t) := by rw [← hBOX]; exact (blk_cell (blk_new w _) 1).trans rfl
  have c2 : BOX.cell? ⟨w.heap.size, 2, none⟩ = some (.string m) := by rw [← hBOX]; exact (blk_cell (blk_new w _) 2).trans rfl
  have c3 : BOX.cell? ⟨w.heap.size, 3, none⟩ = some (.int .i64 nm) := by rw [← hBOX]; exact (blk_cell (blk_new w _) 3).trans rfl
  have c4 : BOX.cell? ⟨w.heap.size, 4, none⟩ = some (.slice A n c) := by rw [← hBOX]; exact (blk_cell (blk_new w _) 4).trans rfl
  obtain ⟨W6, hW6⟩ : ∃ W, BOX.alloc (.map all 6) = W := ⟨_, rfl⟩
  have hb6 : Below w.heap.size w W6 := by rw [← hW6]; exact hb.alloc hb.size _
  have d0 : W6.cell? ⟨w.heap.size, 0, none⟩ = some (.int .i64 k) := by rw [← hW6]; exact Lib.cell?_alloc_some _ c0
  have d1 : W6.cell? ⟨w.heap.size, 1, none⟩ = some (.string t) := by rw [← hW6]; exact Lib.cell?_alloc_some _ c1
  have d2 : W6.cell? ⟨w.heap.size, 2, none⟩ = some (.string m) := by rw [← hW6]; exact Lib.cell?_alloc_some _ c2
  have d3 : W6.cell? ⟨w.heap.size, 3, none⟩ = some (.int .i64 nm) := by rw [← hW6]; exact Lib.cell?_alloc_some _ c3
  have d4 : W6.cell? ⟨w.heap.size, 4, none⟩ = some (.slice A n c) := by rw [← hW6]; exact Lib.cell?_alloc_some _ c4
  have hL : ∃ (a b d e : Int) (ok : Bool), (Instr.lookup 101 (.map (some BOX.heap.size)) (.int .i64 k) true).run Try.prog W6 = .ok (.tuple #[.agg #[.int .i64 a, .int .i64 b, .int .i64 d, .int .i64 e], .bool ok]) W6 ∧ 
      (decide (Ok k t m nm n) = (ok && (decide (a = 1) || decide (t.toList = [])) && (decide (b = 1) || decide (m.toList = [])) && (decide (d = 1) || decide (nm = 0)) && (decide (e = 1) || decide (n = 0)))) := by
    rw [← hW6]
    by_cases hk : 1 ≤ k ∧ k ≤ 6
    · have : k = 1 ∨ k = 2 ∨ k = 3 ∨ k = 4 ∨ k = 5 ∨ k = 6 := by omega
      rcases this with rfl | rfl | rfl | rfl | rfl | rfl
      · exact ⟨1, 0, 0, 1, true, lookR BOX all 6 1 0 _ rfl rfl, by unfold Ok; simp [Bool.and_assoc]⟩
      · exact ⟨0, 0, 1, 0, true, lookR BOX all 6 2 1 _ rfl rfl, by unfold Ok; simp [Bool.and_assoc]⟩
      · exact ⟨1, 1, 1, 0, true, lookR BOX all 6 3 2 _ rfl rfl, by unfold Ok; simp [Bool.and_assoc]⟩
      · exact ⟨0, 0, 0, 0, true, lookR BOX all 6 4 3 _ rfl rfl, by unfold Ok; simp [Bool.and_assoc]⟩
      · exact ⟨1, 1, 0, 0, true, lookR BOX all 6 5 4 _ rfl rfl, by unfold Ok; simp [Bool.and_assoc]⟩
      · exact ⟨1, 0, 0, 0, true, lookR BOX all 6 6 5 _ rfl rfl, by unfold Ok; simp [Bool.and_assoc]⟩
    · exact ⟨0, 0, 0, 0, false, miss BOX all 6 k (none_ k hk) rfl, by unfold Ok; simp [hk]⟩
  obtain ⟨a, b, d, e, ok, hL, hO⟩ := hL
  have u1 := upd BOX #[] 0 1 (row 1 0 0 1) rfl
  have u2 := upd BOX #[E 1 (row 1 0 0 1) 0] 1 2 (row 0 0 1 0) rfl
  have u3 := upd BOX #[E 1 (row 1 0 0 1) 0, E 2 (row 0 0 1 0) 1] 2 3 (row 1 1 1 0) rfl
  have u4 := upd BOX #[E 1 (row 1 0 0 1) 0, E 2 (row 0 0 1 0) 1, E 3 (row 1 1 1 0) 2] 3 4 (row 0 0 0 0) rfl
  have u5 := upd BOX #[E 1 (row 1 0 0 1) 0, E 2 (row 0 0 1 0) 1, E 3 (row 1 1 1 0) 2, E 4 (row 0 0 0 0) 3] 4 5 (row 1 1 0 0) rfl
  have u6 := upd BOX #[E 1 (row 1 0 0 1) 0, E 2 (row 0 0 1 0) 1, E 3 (row 1 1 1 0) 2, E 4 (row 0 0 0 0) 3, E 5 (row 1 1 0 0) 4] 5 6 (row 1 0 0 0) rfl
  have hm0 := @run_makeMap Try.prog 101 BOX
  rw [hs] at u1 u2 u3 u4 u5 u6 hL hm0
  have hW6' : BOX.alloc (.map (#[E 1 (row 1 0 0 1) 0, E 2 (row 0 0 1 0) 1, E 3 (row 1 1 1 0) 2, E 4 (row 0 0 0 0) 3, E 5 (row 1 1 0 0) 4].push { key := .int .i64 6, val := row 1 0 0 0, born := 5 }) (5 + 1)) = W6 := hW6
  rw [hW6'] at u6
  have HO := Aside0.mk hO
  have HB := Aside0.mk hb6
  clear hO hb6 hW6 hW6' hb c0 c1 c2 c3 c4
  have z0 : w.heap.size < W6.heap.size := by have := World.block_lt_of_cell? _ _ d0; simpa using this
  simp only [row, E] at u1 u2 u3 u4 u5 u6 
  go_enter Try.func23, Try.ntmps23
  go_wp2_with fail
  all_goals
    go_ret
    refine ⟨?_, below_alloc HB.out _⟩
    have h := HO.out
    clear HO HB
    rw [h]
    first
      | (simp [*]; done)
      | (by_cases he : e = 1 <;> by_cases hn : n = 0 <;> simp_all)
end Go.Proofs.Ytbhjbbanhmjgnaa.M
