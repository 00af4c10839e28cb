/- impl.batchText: a batch's bytes; what is no batch is given up by a panic that its own deferred closure catches. -/
import Derived.Deep.RegionHeld3
import Derived.Deep.DeepCutAuto
import Derived.BigQuiet
import Derived.WalkSmall
import Derived.Test.YtogoblkehdmapaaDoorXLift
import Derived.Test.YtogoblkehdmapaaDoorXBld
import Derived.Test.YtogoblkehdmapaaDoorEncBat
namespace Go.Proofs.YtogoblkehdmapaaDoor.M
open Go.RowKit Go.Shelf Go.Proofs.YtogoblkehdmapaaDoorW.PrintWords Go.Proofs.YtogoblkehdmapaaDoorW.PrintLast Go.Proofs.YtogoblkehdmapaaDoorW.PrintMore
set_option linter.unusedVariables false
set_option linter.unusedSimpArgs false
namespace Bat
open Go.Proofs.YtogoblkehdmapaaDoor.M.Enc
set_option maxHeartbeats 1000000 in
theorem catch_pan (p q : Addr) (s : ByteArray) (b : Bool) (u : TypeId) (pv : Value) (older : List PanicEntry) (w : World) (hp : w.cell? p = some (.string s)) (hpz : w.frozen? p = false) (hq : (w.setCell p (.string ⟨#[]⟩)).cell? q = some (.bool b)) (hqz : (w.setCell p (.string ⟨#[]⟩)).frozen? q = false) :
    CallsD Tryd.prog 42 #[.pointer (some p), .pointer (some q)] (.panicking ({ v := .iface u pv, recovered := false } :: older)) w fun e u' w' =>
      e = .returned (.tuple #[]) ∧ u' = .panicking ({ v := .iface u pv, recovered := true } :: older) ∧ w' = (w.setCell p (.string ⟨#[]⟩)).setCell q (.bool false) := by
  refine callsD_of_wpS Tryd.func42 rfl fun c₀ cs hu => ?_
  apply wpS_seq
  apply wpS_region
  simp [wpOpsS, go_sem, recoverD, hu, Tryd.ntmps42, Exit.thenS]
  apply wpS_seq
  apply wpS_region
  simp [wpOpsS, go_sem, Exit.thenS]
  refine wpS_cond (t := true) (by simp [Act.eval, Array.replicate]) ?_
  simp only [if_true]
  apply wpS_region
  simp [wpOpsS, go_sem, hp, hpz, hq, hqz, bodyPostS, results, Tryd.results42]
theorem catch_idle (p q : Addr) (w : World) :
    CallsD Tryd.prog 42 #[.pointer (some p), .pointer (some q)] .returning w fun e u' w' => e = .returned (.tuple #[]) ∧ u' = .returning ∧ w' = w := by
  refine callsD_of_wpS Tryd.func42 rfl fun c₀ cs hu => ?_
  apply wpS_seq
  apply wpS_region
  simp [wpOpsS, go_sem, recoverD, hu, Tryd.ntmps42, Exit.thenS]
  apply wpS_seq
  apply wpS_region
  simp [wpOpsS, go_sem, Exit.thenS]
  refine wpS_cond (t := false) (by simp [Act.eval, Array.replicate]) ?_
  simp only [Bool.false_eq_true, if_false]
  refine wpS_of_wp (wp_skip ?_)
  cases c₀
  simp_all [bodyPostS, results, Tryd.results42]
theorem res2 (tm : Array Value) (p q : Addr) (s : ByteArray) (b : Bool) (W : World) (h2 : tm.getD 2 undef = .pointer (some p)) (h3 : tm.getD 3 undef = .pointer (some q)) (hp : W.cell? p = some (.string s)) (hq : W.cell? q = some (.bool b)) :
    (results Tryd.f25 tm).run Tryd.prog W = .ok (.tuple #[.string s, .bool b]) W := by
  have g2 : tm[2]?.getD undef = .pointer (some p) := by simpa using h2
  have g3 : tm[3]?.getD undef = .pointer (some q) := by simpa using h3
  simp [results, Tryd.results25, go_sem]
  rw [g2, g3]
  simp [go_sem, hp, hq]
/-- The door, behind a panic: it is caught, and what was no batch gives no text. -/
theorem door_bad (w W : World) (BX : Array Value) (u : TypeId) (v : Value) (tm : Array Value) (h2 : tm.getD 2 undef = .pointer (some ⟨w.heap.size + 1, 0, none⟩)) (h3 : tm.getD 3 undef = .pointer (some ⟨w.heap.size + 2, 0, none⟩))
    (ho : W.heap[w.heap.size + 1]? = some (.cells #[.string ⟨#[]⟩] 9 (0, 0))) (hk : W.heap[w.heap.size + 2]? = some (.cells #[.bool false] 4 (0, 0))) (hB : Below w.heap.size w W) :
    bodyPostD Tryd.prog Tryd.f25 (fun e w' => e = .returned (.tuple #[.string ⟨#[]⟩, .bool false]) ∧ Below w.heap.size w w') (Exit.panic [{ v := .iface u v, recovered := false }])
      { tmps := tm, defers := [{ target := Target.fn (Fn.func 42) #[.pointer (some ⟨w.heap.size + 1, 0, none⟩), .pointer (some ⟨w.heap.size + 2, 0, none⟩)], args := #[] }] } W := by
  have c1 : W.cell? ⟨w.heap.size + 1, 0, none⟩ = some (.string ⟨#[]⟩) := (blk_cell ho 0).trans rfl
  have k1 : (W.setCell ⟨w.heap.size + 1, 0, none⟩ (.string ⟨#[]⟩)).heap[w.heap.size + 2]? = some (.cells #[.bool false] 4 (0, 0)) := blk_far (p := ⟨w.heap.size + 1, 0, none⟩) hk (by simp) _
  have k2 : (W.setCell ⟨w.heap.size + 1, 0, none⟩ (.string ⟨#[]⟩)).cell? ⟨w.heap.size + 2, 0, none⟩ = some (.bool false) := (blk_cell k1 0).trans rfl
  refine leaves_cons (f := 42) (args := #[.pointer (some ⟨w.heap.size + 1, 0, none⟩), .pointer (some ⟨w.heap.size + 2, 0, none⟩)]) (by simp) (by simp [go_sem]) ?_
  refine (catch_pan ⟨w.heap.size + 1, 0, none⟩ ⟨w.heap.size + 2, 0, none⟩ ⟨#[]⟩ false u v [] W c1 (blk_frozen ho _) k2 (blk_frozen k1 _)).mono ?_
  rintro e u' w'' ⟨rfl, rfl, rfl⟩
  have o1 : (W.setCell ⟨w.heap.size + 1, 0, none⟩ (.string ⟨#[]⟩)).heap[w.heap.size + 1]? = some (.cells #[.string ⟨#[]⟩] 9 (0, 0)) := (blk_set ho _ _).trans rfl
  have o2 := blk_far (p := ⟨w.heap.size + 2, 0, none⟩) o1 (by simp) (.bool false)
  have k3 : ((W.setCell ⟨w.heap.size + 1, 0, none⟩ (.string ⟨#[]⟩)).setCell ⟨w.heap.size + 2, 0, none⟩ (.bool false)).heap[w.heap.size + 2]? = some (.cells #[.bool false] 4 (0, 0)) := (blk_set k1 _ _).trans rfl
  refine ⟨_, res2 tm ⟨w.heap.size + 1, 0, none⟩ ⟨w.heap.size + 2, 0, none⟩ ⟨#[]⟩ false _ h2 h3 ((blk_cell o2 0).trans rfl) ((blk_cell k3 0).trans rfl), rfl, ?_⟩
  exact below_set (below_set hB (by simp)) (by simp)
set_option maxHeartbeats 8000000 in
set_option maxRecDepth 100000 in
theorem bad_head (n : Int) (A : Option Addr) (c : Nat) (l : List Rc) (w : World) (hc : l.length ≤ c) (u : TypeId) (v : Value) (hS : Shp u v w) (hn : ¬ (1 ≤ n ∧ n ≤ 1000000000000000) ∨ ¬ (1 ≤ l.length ∧ l.length ≤ 500)) :
    Calls Tryd.prog 25 #[.agg #[.int .i64 n, .slice A l.length c]] w fun e w' => e = .returned (.tuple #[.string ⟨#[]⟩, .bool false]) ∧ Below w.heap.size w w' := by
  have hmf : ∀ (fn : Fn) (first cap : Array Value) (w : World), (Instr.makeFunc fn first cap).run Tryd.prog w = .ok (.func fn first cap) w := fun _ _ _ _ => rfl
  obtain ⟨W1, hW1⟩ : ∃ W, w.alloc (.cells #[.int .i64 n, .slice A l.length c] 29) = W := ⟨_, rfl⟩
  obtain ⟨W2, hW2⟩ : ∃ W, W1.alloc (.cells #[.string ⟨#[]⟩] 9) = W := ⟨_, rfl⟩
  obtain ⟨W3, hW3⟩ : ∃ W, W2.alloc (.cells #[.bool false] 4) = W := ⟨_, rfl⟩
  have z1 : W1.heap.size = w.heap.size + 1 := by rw [← hW1]; simp
  have z2 : W2.heap.size = w.heap.size + 2 := by rw [← hW2, World.size_alloc, z1]
  have hb1 : Below w.heap.size w W1 := by rw [← hW1]; exact (Below.refl _ w).alloc (Nat.le_refl _) _
  have hb2 : Below w.heap.size w W2 := by rw [← hW2]; exact hb1.alloc hb1.size _
  have hb3 : Below w.heap.size w W3 := by rw [← hW3]; exact hb2.alloc hb2.size _
  have hx1 : W1.heap[w.heap.size]? = some (.cells #[.int .i64 n, .slice A l.length c] 29 (0, 0)) := by rw [← hW1]; exact blk_new w _
  have hx2 : W2.heap[w.heap.size]? = some (.cells #[.int .i64 n, .slice A l.length c] 29 (0, 0)) := by rw [← hW2]; exact blk_alloc hx1 _
  have hx3 : W3.heap[w.heap.size]? = some (.cells #[.int .i64 n, .slice A l.length c] 29 (0, 0)) := by rw [← hW3]; exact blk_alloc hx2 _
  have ho2 : W2.heap[w.heap.size + 1]? = some (.cells #[.string ⟨#[]⟩] 9 (0, 0)) := by rw [← hW2, ← z1]; exact blk_new W1 _
  have ho3 : W3.heap[w.heap.size + 1]? = some (.cells #[.string ⟨#[]⟩] 9 (0, 0)) := by rw [← hW3]; exact blk_alloc ho2 _
  have hk3 : W3.heap[w.heap.size + 2]? = some (.cells #[.bool false] 4 (0, 0)) := by rw [← hW3, ← z2]; exact blk_new W2 _
  have hg : W3.cell? ⟨0, 0, none⟩ = some (.iface u v) := hS.below (Nat.le_refl _) hb3
  have c0 : W3.cell? ⟨w.heap.size, 0, none⟩ = some (.int .i64 n) := (blk_cell hx3 0).trans rfl
  have c1 : W3.cell? ⟨w.heap.size, 1, none⟩ = some (.slice A l.length c) := (blk_cell hx3 1).trans rfl
  have HX := Aside0.mk hx3
  have HO := Aside0.mk ho3
  have HK := Aside0.mk hk3
  have HB := Aside0.mk hb3
  clear hb1 hb2 hb3 hx1 hx2 hx3 ho2 ho3 hk3 hS
  have hcs : n < 1 ∨ (1 ≤ n ∧ 1000000000000000 < n) ∨ (1 ≤ n ∧ n ≤ 1000000000000000 ∧ l.length < 1) ∨ (1 ≤ n ∧ n ≤ 1000000000000000 ∧ 1 ≤ l.length ∧ 500 < l.length) := by omega
  clear hn
  go_enter_defers Tryd.func25, Tryd.ntmps25
  rcases hcs with h | h | h | h
  all_goals
    go_wp2
  all_goals
    exact door_bad w W3 #[.int .i64 n, .slice A l.length c] u v _ rfl rfl HO.out HK.out HB.out
end Bat
end Go.Proofs.YtogoblkehdmapaaDoor.M
