/- impl.lift: what a record is made of; a panic where it is none. -/
import Derived.WalkKit
import Derived.Tactics
import Derived.Tactics2
import Derived.Defers
import Derived.Recover
import Derived.Laws.Pointers
import Derived.Test.YtogoblkehdmapaaDoorM0
import Derived.Test.YtogoblkehdmapaaDoorF20
namespace Go.Proofs.YtogoblkehdmapaaDoor.M
open Go.RowKit Go.Proofs.YtogoblkehdmapaaDoorW.PrintWords Go.Proofs.YtogoblkehdmapaaDoorW.PrintLast Go.Proofs.YtogoblkehdmapaaDoorW.PrintMore
set_option linter.unusedVariables false
set_option linter.unusedSimpArgs false
namespace Bat
/-- The variable errShape holds an error. -/
def Shp (u : TypeId) (v : Value) (w : World) : Prop := w.cell? ⟨0, 0, none⟩ = some (.iface u v)
theorem Shp.below {u : TypeId} {v : Value} {n : Nat} {w w' : World} (h : Shp u v w) (hn : w.heap.size ≤ n) (hb : Below n w w') : Shp u v w' := by
  unfold Shp at h ⊢
  have hl := World.block_lt_of_cell? w _ h
  exact (hb.cell (Nat.lt_of_lt_of_le hl hn)).trans h
abbrev Rc := S47
/-- A record's fields are those of its kind. -/
def recB (x : Rc) : Bool := if x.f0 = 1 then decide (x.f3 = 0) else if x.f0 = 2 then (x.f1.toList == []) && (x.f2.toList == []) else decide (x.f0 = 3)
set_option maxHeartbeats 1000000 in
theorem lift_one (tn tx : ByteArray) (w : World) :
    Calls Tryd.prog 46 #[.agg #[.int .i64 1, .string tn, .string tx, .int .i64 0]] w fun e w' => (∃ v, e = .returned v) ∧ Below w.heap.size w w' := by
  have HB := Aside0.mk ((Below.refl w.heap.size w).alloc (Nat.le_refl _) (.cells #[.int .i64 1, .string tn, .string tx, .int .i64 0] 47))
  have hx := blk_new w (.cells #[.int .i64 1, .string tn, .string tx, .int .i64 0] 47 (0, 0))
  have c0 : (w.alloc (.cells #[.int .i64 1, .string tn, .string tx, .int .i64 0] 47)).cell? ⟨w.heap.size, 0, none⟩ = some (.int .i64 1) := (blk_cell hx 0).trans rfl
  have c1 : (w.alloc (.cells #[.int .i64 1, .string tn, .string tx, .int .i64 0] 47)).cell? ⟨w.heap.size, 1, none⟩ = some (.string tn) := (blk_cell hx 1).trans rfl
  have c2 : (w.alloc (.cells #[.int .i64 1, .string tn, .string tx, .int .i64 0] 47)).cell? ⟨w.heap.size, 2, none⟩ = some (.string tx) := (blk_cell hx 2).trans rfl
  have c3 : (w.alloc (.cells #[.int .i64 1, .string tn, .string tx, .int .i64 0] 47)).cell? ⟨w.heap.size, 3, none⟩ = some (.int .i64 0) := (blk_cell hx 3).trans rfl
  clear hx
  go_enter Tryd.func46, Tryd.ntmps46
  go_wp2
  go_ret
  exact ⟨⟨_, rfl⟩, HB.out⟩
set_option maxHeartbeats 1000000 in
theorem lift_two (tn tx : ByteArray) (num : Int) (w : World) (h0 : (tn.toList == ([] : List UInt8)) = true) (h1 : (tx.toList == ([] : List UInt8)) = true) :
    Calls Tryd.prog 46 #[.agg #[.int .i64 2, .string tn, .string tx, .int .i64 num]] w fun e w' => (∃ v, e = .returned v) ∧ Below w.heap.size w w' := by
  have HB := Aside0.mk ((Below.refl w.heap.size w).alloc (Nat.le_refl _) (.cells #[.int .i64 2, .string tn, .string tx, .int .i64 num] 47))
  have hx := blk_new w (.cells #[.int .i64 2, .string tn, .string tx, .int .i64 num] 47 (0, 0))
  have c0 : (w.alloc (.cells #[.int .i64 2, .string tn, .string tx, .int .i64 num] 47)).cell? ⟨w.heap.size, 0, none⟩ = some (.int .i64 2) := (blk_cell hx 0).trans rfl
  have c1 : (w.alloc (.cells #[.int .i64 2, .string tn, .string tx, .int .i64 num] 47)).cell? ⟨w.heap.size, 1, none⟩ = some (.string tn) := (blk_cell hx 1).trans rfl
  have c2 : (w.alloc (.cells #[.int .i64 2, .string tn, .string tx, .int .i64 num] 47)).cell? ⟨w.heap.size, 2, none⟩ = some (.string tx) := (blk_cell hx 2).trans rfl
  have c3 : (w.alloc (.cells #[.int .i64 2, .string tn, .string tx, .int .i64 num] 47)).cell? ⟨w.heap.size, 3, none⟩ = some (.int .i64 num) := (blk_cell hx 3).trans rfl
  clear hx
  go_enter Tryd.func46, Tryd.ntmps46
  go_wp2
  go_ret
  exact ⟨⟨_, rfl⟩, HB.out⟩
set_option maxHeartbeats 1000000 in
theorem lift_three (tn tx : ByteArray) (num : Int) (w : World) :
    Calls Tryd.prog 46 #[.agg #[.int .i64 3, .string tn, .string tx, .int .i64 num]] w fun e w' => (∃ v, e = .returned v) ∧ Below w.heap.size w w' := by
  have HB := Aside0.mk ((Below.refl w.heap.size w).alloc (Nat.le_refl _) (.cells #[.int .i64 3, .string tn, .string tx, .int .i64 num] 47))
  have hx := blk_new w (.cells #[.int .i64 3, .string tn, .string tx, .int .i64 num] 47 (0, 0))
  have c0 : (w.alloc (.cells #[.int .i64 3, .string tn, .string tx, .int .i64 num] 47)).cell? ⟨w.heap.size, 0, none⟩ = some (.int .i64 3) := (blk_cell hx 0).trans rfl
  have c1 : (w.alloc (.cells #[.int .i64 3, .string tn, .string tx, .int .i64 num] 47)).cell? ⟨w.heap.size, 1, none⟩ = some (.string tn) := (blk_cell hx 1).trans rfl
  have c2 : (w.alloc (.cells #[.int .i64 3, .string tn, .string tx, .int .i64 num] 47)).cell? ⟨w.heap.size, 2, none⟩ = some (.string tx) := (blk_cell hx 2).trans rfl
  have c3 : (w.alloc (.cells #[.int .i64 3, .string tn, .string tx, .int .i64 num] 47)).cell? ⟨w.heap.size, 3, none⟩ = some (.int .i64 num) := (blk_cell hx 3).trans rfl
  clear hx
  go_enter Tryd.func46, Tryd.ntmps46
  go_wp2
  go_ret
  exact ⟨⟨_, rfl⟩, HB.out⟩
set_option maxHeartbeats 1000000 in
theorem lift_bad1 (tn tx : ByteArray) (num : Int) (w : World) (h0 : (num == 0) = false) (u : TypeId) (v : Value) (hS : Shp u v w) :
    Calls Tryd.prog 46 #[.agg #[.int .i64 1, .string tn, .string tx, .int .i64 num]] w fun e w' => e = .panicked [{ v := .iface u v, recovered := false }] ∧ Below w.heap.size w w' := by
  have HB := Aside0.mk ((Below.refl w.heap.size w).alloc (Nat.le_refl _) (.cells #[.int .i64 1, .string tn, .string tx, .int .i64 num] 47))
  have hg : (w.alloc (.cells #[.int .i64 1, .string tn, .string tx, .int .i64 num] 47)).cell? ⟨0, 0, none⟩ = some (.iface u v) := hS.below (Nat.le_refl _) HB.out
  have hx := blk_new w (.cells #[.int .i64 1, .string tn, .string tx, .int .i64 num] 47 (0, 0))
  have c0 : (w.alloc (.cells #[.int .i64 1, .string tn, .string tx, .int .i64 num] 47)).cell? ⟨w.heap.size, 0, none⟩ = some (.int .i64 1) := (blk_cell hx 0).trans rfl
  have c1 : (w.alloc (.cells #[.int .i64 1, .string tn, .string tx, .int .i64 num] 47)).cell? ⟨w.heap.size, 1, none⟩ = some (.string tn) := (blk_cell hx 1).trans rfl
  have c2 : (w.alloc (.cells #[.int .i64 1, .string tn, .string tx, .int .i64 num] 47)).cell? ⟨w.heap.size, 2, none⟩ = some (.string tx) := (blk_cell hx 2).trans rfl
  have c3 : (w.alloc (.cells #[.int .i64 1, .string tn, .string tx, .int .i64 num] 47)).cell? ⟨w.heap.size, 3, none⟩ = some (.int .i64 num) := (blk_cell hx 3).trans rfl
  clear hx hS
  go_enter Tryd.func46, Tryd.ntmps46
  go_wp2
  exact ⟨rfl, rfl, HB.out⟩
set_option maxHeartbeats 1000000 in
theorem lift_bad2 (tn tx : ByteArray) (num : Int) (w : World) (h0 : (tn.toList == ([] : List UInt8)) = false) (u : TypeId) (v : Value) (hS : Shp u v w) :
    Calls Tryd.prog 46 #[.agg #[.int .i64 2, .string tn, .string tx, .int .i64 num]] w fun e w' => e = .panicked [{ v := .iface u v, recovered := false }] ∧ Below w.heap.size w w' := by
  have HB := Aside0.mk ((Below.refl w.heap.size w).alloc (Nat.le_refl _) (.cells #[.int .i64 2, .string tn, .string tx, .int .i64 num] 47))
  have hg : (w.alloc (.cells #[.int .i64 2, .string tn, .string tx, .int .i64 num] 47)).cell? ⟨0, 0, none⟩ = some (.iface u v) := hS.below (Nat.le_refl _) HB.out
  have hx := blk_new w (.cells #[.int .i64 2, .string tn, .string tx, .int .i64 num] 47 (0, 0))
  have c0 : (w.alloc (.cells #[.int .i64 2, .string tn, .string tx, .int .i64 num] 47)).cell? ⟨w.heap.size, 0, none⟩ = some (.int .i64 2) := (blk_cell hx 0).trans rfl
  have c1 : (w.alloc (.cells #[.int .i64 2, .string tn, .string tx, .int .i64 num] 47)).cell? ⟨w.heap.size, 1, none⟩ = some (.string tn) := (blk_cell hx 1).trans rfl
  have c2 : (w.alloc (.cells #[.int .i64 2, .string tn, .string tx, .int .i64 num] 47)).cell? ⟨w.heap.size, 2, none⟩ = some (.string tx) := (blk_cell hx 2).trans rfl
  have c3 : (w.alloc (.cells #[.int .i64 2, .string tn, .string tx, .int .i64 num] 47)).cell? ⟨w.heap.size, 3, none⟩ = some (.int .i64 num) := (blk_cell hx 3).trans rfl
  clear hx hS
  go_enter Tryd.func46, Tryd.ntmps46
  go_wp2
  exact ⟨rfl, rfl, HB.out⟩
set_option maxHeartbeats 1000000 in
theorem lift_bad3 (tn tx : ByteArray) (num : Int) (w : World) (h0 : (tn.toList == ([] : List UInt8)) = true) (h1 : (tx.toList == ([] : List UInt8)) = false) (u : TypeId) (v : Value) (hS : Shp u v w) :
    Calls Tryd.prog 46 #[.agg #[.int .i64 2, .string tn, .string tx, .int .i64 num]] w fun e w' => e = .panicked [{ v := .iface u v, recovered := false }] ∧ Below w.heap.size w w' := by
  have HB := Aside0.mk ((Below.refl w.heap.size w).alloc (Nat.le_refl _) (.cells #[.int .i64 2, .string tn, .string tx, .int .i64 num] 47))
  have hg : (w.alloc (.cells #[.int .i64 2, .string tn, .string tx, .int .i64 num] 47)).cell? ⟨0, 0, none⟩ = some (.iface u v) := hS.below (Nat.le_refl _) HB.out
  have hx := blk_new w (.cells #[.int .i64 2, .string tn, .string tx, .int .i64 num] 47 (0, 0))
  have c0 : (w.alloc (.cells #[.int .i64 2, .string tn, .string tx, .int .i64 num] 47)).cell? ⟨w.heap.size, 0, none⟩ = some (.int .i64 2) := (blk_cell hx 0).trans rfl
  have c1 : (w.alloc (.cells #[.int .i64 2, .string tn, .string tx, .int .i64 num] 47)).cell? ⟨w.heap.size, 1, none⟩ = some (.string tn) := (blk_cell hx 1).trans rfl
  have c2 : (w.alloc (.cells #[.int .i64 2, .string tn, .string tx, .int .i64 num] 47)).cell? ⟨w.heap.size, 2, none⟩ = some (.string tx) := (blk_cell hx 2).trans rfl
  have c3 : (w.alloc (.cells #[.int .i64 2, .string tn, .string tx, .int .i64 num] 47)).cell? ⟨w.heap.size, 3, none⟩ = some (.int .i64 num) := (blk_cell hx 3).trans rfl
  clear hx hS
  go_enter Tryd.func46, Tryd.ntmps46
  go_wp2
  exact ⟨rfl, rfl, HB.out⟩
set_option maxHeartbeats 1000000 in
theorem lift_bad4 (tn tx : ByteArray) (K num : Int) (w : World) (h0 : (K == 1) = false) (h1 : (K == 2) = false) (h2 : (K == 3) = false) (u : TypeId) (v : Value) (hS : Shp u v w) :
    Calls Tryd.prog 46 #[.agg #[.int .i64 K, .string tn, .string tx, .int .i64 num]] w fun e w' => e = .panicked [{ v := .iface u v, recovered := false }] ∧ Below w.heap.size w w' := by
  have HB := Aside0.mk ((Below.refl w.heap.size w).alloc (Nat.le_refl _) (.cells #[.int .i64 K, .string tn, .string tx, .int .i64 num] 47))
  have hg : (w.alloc (.cells #[.int .i64 K, .string tn, .string tx, .int .i64 num] 47)).cell? ⟨0, 0, none⟩ = some (.iface u v) := hS.below (Nat.le_refl _) HB.out
  have hx := blk_new w (.cells #[.int .i64 K, .string tn, .string tx, .int .i64 num] 47 (0, 0))
  have c0 : (w.alloc (.cells #[.int .i64 K, .string tn, .string tx, .int .i64 num] 47)).cell? ⟨w.heap.size, 0, none⟩ = some (.int .i64 K) := (blk_cell hx 0).trans rfl
  have c1 : (w.alloc (.cells #[.int .i64 K, .string tn, .string tx, .int .i64 num] 47)).cell? ⟨w.heap.size, 1, none⟩ = some (.string tn) := (blk_cell hx 1).trans rfl
  have c2 : (w.alloc (.cells #[.int .i64 K, .string tn, .string tx, .int .i64 num] 47)).cell? ⟨w.heap.size, 2, none⟩ = some (.string tx) := (blk_cell hx 2).trans rfl
  have c3 : (w.alloc (.cells #[.int .i64 K, .string tn, .string tx, .int .i64 num] 47)).cell? ⟨w.heap.size, 3, none⟩ = some (.int .i64 num) := (blk_cell hx 3).trans rfl
  clear hx hS
  go_enter Tryd.func46, Tryd.ntmps46
  go_wp2
  exact ⟨rfl, rfl, HB.out⟩
theorem lift_ok (x : Rc) (w : World) (h : recB x = true) :
    Calls Tryd.prog 46 #[.agg #[.int .i64 x.f0, .string x.f1, .string x.f2, .int .i64 x.f3]] w fun e w' => (∃ v, e = .returned v) ∧ Below w.heap.size w w' := by
  unfold recB at h
  by_cases h1 : x.f0 = 1
  · rw [if_pos h1] at h
    rw [h1, of_decide_eq_true h]
    exact lift_one x.f1 x.f2 w
  · rw [if_neg h1] at h
    by_cases h2 : x.f0 = 2
    · rw [if_pos h2, Bool.and_eq_true] at h
      rw [h2]
      exact lift_two x.f1 x.f2 x.f3 w h.1 h.2
    · rw [if_neg h2] at h
      rw [of_decide_eq_true h]
      exact lift_three x.f1 x.f2 x.f3 w
theorem lift_bad (x : Rc) (w : World) (h : recB x = false) (u : TypeId) (v : Value) (hS : Shp u v w) :
    Calls Tryd.prog 46 #[.agg #[.int .i64 x.f0, .string x.f1, .string x.f2, .int .i64 x.f3]] w fun e w' => e = .panicked [{ v := .iface u v, recovered := false }] ∧ Below w.heap.size w w' := by
  unfold recB at h
  by_cases h1 : x.f0 = 1
  · rw [if_pos h1] at h
    rw [h1]
    exact lift_bad1 x.f1 x.f2 x.f3 w (beq_eq_false_iff_ne.2 (of_decide_eq_false h)) u v hS
  · rw [if_neg h1] at h
    by_cases h2 : x.f0 = 2
    · rw [if_pos h2] at h
      rw [h2]
      cases ht : x.f1.toList == ([] : List UInt8) with
      | false => exact lift_bad2 x.f1 x.f2 x.f3 w ht u v hS
      | true =>
        rw [ht, Bool.true_and] at h
        exact lift_bad3 x.f1 x.f2 x.f3 w ht h u v hS
    · rw [if_neg h2] at h
      exact lift_bad4 x.f1 x.f2 x.f0 x.f3 w (beq_eq_false_iff_ne.2 h1) (beq_eq_false_iff_ne.2 h2) (beq_eq_false_iff_ne.2 (of_decide_eq_false h)) u v hS
end Bat
/-- The variable errShape holds some error. -/
def Tabs (w : World) : Prop := ∃ u v, Bat.Shp u v w
theorem Tabs.below {w w' : World} (h : Tabs w) (hb : Below w.heap.size w w') : Tabs w' := by
  obtain ⟨u, v, h⟩ := h
  exact ⟨u, v, h.below (Nat.le_refl _) hb⟩
end Go.Proofs.YtogoblkehdmapaaDoor.M
