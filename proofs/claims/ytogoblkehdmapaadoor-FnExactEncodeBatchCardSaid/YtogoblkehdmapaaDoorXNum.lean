/- num: the lowest 1, 2, 4 or 8 bytes of a whole number, high byte first. -/
import Derived.Test.YtogoblkehdmapaaDoorM0
namespace Go.Proofs.YtogoblkehdmapaaDoor.M
open Go.RowKit Go.Proofs.YtogoblkehdmapaaDoorW.PrintWords Go.Proofs.YtogoblkehdmapaaDoorW.PrintLast Go.Proofs.YtogoblkehdmapaaDoorW.PrintMore
set_option linter.unusedVariables false
set_option linter.unusedSimpArgs false
namespace Num
def byte8 (N : Int) (p : Nat) : Int := (N / 256 ^ (7 - p)) % 256
def arr8 (N : Int) (j : Nat) : Array Value := ((List.range 8).map fun p => Value.int .u8 (if 8 - j ≤ p then byte8 N p else 0)).toArray
theorem arr8_old (N : Int) (j : Nat) (h : j < 8) : (arr8 N j)[7 - j]? = some (.int .u8 0) := by
  rw [arr8, List.getElem?_toArray, List.getElem?_map, List.getElem?_range (by omega)]
  simp; omega
theorem arr8_set (N : Int) (j : Nat) (h : j < 8) : (arr8 N j).setIfInBounds (7 - j) (.int .u8 (N / 256 ^ j % 256)) = arr8 N (j + 1) := by
  have : j = 0 ∨ j = 1 ∨ j = 2 ∨ j = 3 ∨ j = 4 ∨ j = 5 ∨ j = 6 ∨ j = 7 := by omega
  rcases this with rfl | rfl | rfl | rfl | rfl | rfl | rfl | rfl <;> rfl
theorem arr8_div (N : Int) (j : Nat) : N / 256 ^ j / 256 = N / 256 ^ (j + 1) := by
  rw [Int.pow_succ, Int.ediv_ediv_of_nonneg]
  exact Int.pow_nonneg (by decide)
def nums8 (m : Nat) (N : Int) : List Int := (List.range m).map fun p => byte8 N (8 - m + p)
/-- The lowest m bytes of N. -/
def bytes (m : Nat) (N : Int) : ByteArray := strOfNums (nums8 m N)
theorem conv (w : World) (N : Int) (m : Nat) (hm : m ≤ 8) : (convert 44 9 (.slice (some ⟨w.heap.size, 8 - m, none⟩) m m)).run Tryd.prog (w.alloc (.cells (arr8 N 8) 93)) = .ok (.string (bytes m N)) (w.alloc (.cells (arr8 N 8) 93)) := by
  refine run_convert_bytes_arg _ 44 5 Tryd.underlying44 Tryd.underlying5 w.heap.size (8 - m) m m (nums8 m N) (by simp [nums8]) (fun i hi => ?_) 9 Tryd.underlying9
  rw [World.cell?_alloc_mark]
  simp only [arr8, nums8]
  rw [List.getElem?_toArray, List.getElem?_map, List.getElem?_range (by omega)]
  simp [List.getD, List.getElem?_map, List.getElem?_range hi]
end Num
def impl_num.f (a0 : Int) (a1 : Int) : Option (ByteArray) := if a0 = 1 then some (Num.bytes 1 a1) else if a0 = 2 then some (Num.bytes 2 a1) else if a0 = 4 then some (Num.bytes 4 a1) else if a0 = 8 then some (Num.bytes 8 a1) else none
open Num in
set_option maxHeartbeats 1000000 in
set_option maxRecDepth 100000 in
theorem impl_num.calls (a0 : Int) (a1 : Int) (r : ByteArray) (w : World) (h : impl_num.f a0 a1 = some r) :
    Calls Tryd.prog 45 #[.int .i64 a0, .int .i64 a1] w fun e w' => e = .returned (.string r) ∧ Below w.heap.size w w' := by
  have hc : ∃ m : Nat, (m = 1 ∨ m = 2 ∨ m = 4 ∨ m = 8) ∧ a0 = (m : Int) ∧ r = Num.bytes m a1 := by
    unfold impl_num.f at h
    split at h
    · rename_i e; exact ⟨1, by omega, e, (Option.some.inj h).symm⟩
    split at h
    · rename_i e; exact ⟨2, by omega, e, (Option.some.inj h).symm⟩
    split at h
    · rename_i e; exact ⟨4, by omega, e, (Option.some.inj h).symm⟩
    split at h
    · rename_i e; exact ⟨8, by omega, e, (Option.some.inj h).symm⟩
    · cases h
  clear h
  obtain ⟨m, hm, rfl, rfl⟩ := hc
  have hconv := conv w a1 m (by omega)
  have hb : Below w.heap.size w (w.alloc (.cells (arr8 a1 8) 93)) := (Below.refl _ _).alloc (Nat.le_refl _) _
  have HB := Aside0.mk hb
  clear hb
  rcases hm with rfl | rfl | rfl | rfl
  all_goals
    simp only [Nat.reduceSub] at hconv
    go_enter Tryd.func45, Tryd.ntmps45
    go_wp2
    go_loopw [1, 6] (fun n i wr => ∃ j : Nat, j ≤ 8 ∧ i = .int .i64 (7 - j) ∧ n = .int .i64 (a1 / 256 ^ j) ∧ wr = w.alloc (.cells (arr8 a1 j) 93)) (fun _ i _ => (intOf i + 1).toNat)
    case atStart => exact ⟨0, by omega, by simp, by simp, by simp [arr8, List.range, List.range.loop]⟩
    case round =>
      obtain ⟨j, hj, rfl, rfl, rfl⟩ := hrel
      obtain rfl | hj8 : j = 8 ∨ j < 8 := by omega
      · go_wp2
        go_ret
        exact ⟨rfl, HB.out⟩
      · have hg : (0 : Int) ≤ 7 - (j : Int) := by omega
        have ho := arr8_old a1 j hj8
        go_wp2
        refine ⟨⟨j + 1, by omega, ?_, ?_, ?_⟩, ?_⟩
        · congr 1; omega
        · rw [arr8_div]
        · rw [arr8_set a1 j hj8]
        · simp [intOf]; omega
end Go.Proofs.YtogoblkehdmapaaDoor.M
