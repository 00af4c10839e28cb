/- Some of this seat's texts, joined by prune.py. -/
import Derived.Test.YtogoblkehdmapaaDoorM0
import Derived.Test.YtogoblkehdmapaaDoorF20
import Derived.Test.YtogoblkehdmapaaDoorF47
import Derived.Test.YtogoblkehdmapaaDoorXLift
import Derived.Test.YtogoblkehdmapaaDoorXBld
import Derived.Deep.RegionHeld3
import Derived.Deep.DeepCutAuto
import Derived.BigQuiet
import Derived.WalkSmall
/- Some of this seat's texts, joined by prune.py. -/
/- Some of this seat's texts, joined by prune.py. -/
-- By pp.py, a program of this repo, with the kit's printer: Lean checks it.
namespace Go.Proofs.YtogoblkehdmapaaDoor.M
open Go.RowKit Go.Proofs.YtogoblkehdmapaaDoorW.PrintWords Go.Proofs.YtogoblkehdmapaaDoorW.PrintLast Go.Proofs.YtogoblkehdmapaaDoorW.PrintMore
attribute [local go_sem] max2_int min2_int max_two min_two max_three min_three max_four min_four
set_option linter.unusedVariables false
set_option linter.unusedSimpArgs false

/-! ### spec_l1Between: function 19 -/
def spec_l1Between.f (a0 : Int) (a1 : Int) (a2 : Int) : Option (Bool) := if a1 ≤ a0 then (some (decide (a0 ≤ a2))) else (some false)
set_option maxHeartbeats 8000000 in
set_option maxRecDepth 100000 in
theorem spec_l1Between.calls (a0 : Int) (a1 : Int) (a2 : Int) (r : Bool) (w : World) (h : spec_l1Between.f a0 a1 a2 = some r) :
    Calls Tryd.prog 19 #[.int .i64 a0, .int .i64 a1, .int .i64 a2] w fun e w' => e = .returned (.bool r) ∧ Drawn0 w w' := by
  have H : (if a1 ≤ a0 then (some (decide (a0 ≤ a2))) else (some false)) = some r := h
  clear h
  by_cases c4 : a1 ≤ a0
  · rw [if_pos c4] at H
    have c4b0 : decide (a1 ≤ a0) = true := decide_eq_true c4
    clear c4
    obtain rfl := Option.some.inj H
    go_enter Tryd.func19, Tryd.ntmps19
    go_wp2
    go_ret
    exact ⟨by first | rfl | (simp; done) | (simp [*]; done), by repeat (first | exact Drawn0.refl _ | apply Drawn0.step)⟩
  · rw [if_neg c4] at H
    have c4b0 : decide (a1 ≤ a0) = false := decide_eq_false c4
    clear c4
    obtain rfl := Option.some.inj H
    go_enter Tryd.func19, Tryd.ntmps19
    go_wp2
    go_ret
    exact ⟨by first | rfl | (simp; done) | (simp [*]; done), by repeat (first | exact Drawn0.refl _ | apply Drawn0.step)⟩

end Go.Proofs.YtogoblkehdmapaaDoor.M
/- Texts as bytes: plain. -/
namespace Go.Proofs.YtogoblkehdmapaaDoor.M
open Go.RowKit Go.Proofs.YtogoblkehdmapaaDoorW.PrintWords Go.Proofs.YtogoblkehdmapaaDoorW.PrintLast Go.Proofs.YtogoblkehdmapaaDoorW.PrintMore
namespace Enc
/-- The lowest m bytes of v. -/
def nL (m : Nat) (v : Int) : List UInt8 := (Num.bytes m v).data.toList
theorem num_size (m : Nat) (v : Int) : (Num.bytes m v).size = m := by
  unfold Num.bytes
  rw [strOfNums_size]
  simp [Num.nums8]
theorem nL_length (m : Nat) (v : Int) : (nL m v).length = m := num_size m v
theorem num1 (v : Int) : impl_num.f 1 v = some (Num.bytes 1 v) := by unfold impl_num.f; simp
theorem num2 (v : Int) : impl_num.f 2 v = some (Num.bytes 2 v) := by unfold impl_num.f; simp
theorem num8 (v : Int) : impl_num.f 8 v = some (Num.bytes 8 v) := by unfold impl_num.f; simp
def s8L (s : ByteArray) : List UInt8 := nL 1 s.size ++ s.data.toList
def s16L (s : ByteArray) : List UInt8 := nL 2 s.size ++ s.data.toList
theorem len_ (s : ByteArray) : s.data.toList.length = s.size := rfl
theorem s8L_length (s : ByteArray) : (s8L s).length = 1 + s.size := by unfold s8L; rw [List.length_append, nL_length, len_]
theorem s16L_length (s : ByteArray) : (s16L s).length = 2 + s.size := by unfold s16L; rw [List.length_append, nL_length, len_]
def s8B (s : ByteArray) : ByteArray := Num.bytes 1 s.size ++ s
def s16B (s : ByteArray) : ByteArray := Num.bytes 2 s.size ++ s
theorem app_ (a b : ByteArray) : (a ++ b).data.toList = a.data.toList ++ b.data.toList := by
  rw [show (a ++ b).data = a.data ++ b.data from ByteArray.data_append]; simp
theorem s8B_list (s : ByteArray) : (s8B s).data.toList = s8L s := app_ _ _
theorem s16B_list (s : ByteArray) : (s16B s).data.toList = s16L s := app_ _ _
theorem s8B_size (s : ByteArray) : (s8B s).size = 1 + s.size := by have := s8L_length s; rw [← s8B_list] at this; exact this
theorem s16B_size (s : ByteArray) : (s16B s).size = 2 + s.size := by have := s16L_length s; rw [← s16B_list] at this; exact this
theorem s8f (s : ByteArray) (h : s.size ≤ 9223372036854775000) : impl_s8.f s = some (s8B s) := by
  unfold impl_s8.f
  rw [num1, Option.bind_some, if_pos (by rw [num_size]; omega)]; rfl
theorem s16f (s : ByteArray) (h : s.size ≤ 9223372036854775000) : impl_s16.f s = some (s16B s) := by
  unfold impl_s16.f
  rw [num2, Option.bind_some, if_pos (by rw [num_size]; omega)]; rfl
end Enc
end Go.Proofs.YtogoblkehdmapaaDoor.M
/- Batches as bytes: plain. -/
namespace Go.Proofs.YtogoblkehdmapaaDoor.M
open Go.RowKit Go.Proofs.YtogoblkehdmapaaDoorW.PrintWords Go.Proofs.YtogoblkehdmapaaDoorW.PrintLast Go.Proofs.YtogoblkehdmapaaDoorW.PrintMore
set_option linter.unusedVariables false
namespace Bat
open Go.Proofs.YtogoblkehdmapaaDoor.M.Enc
def recL (x : Rc) : List UInt8 := nL 1 x.f0 ++ (s8L x.f1 ++ (s16L x.f2 ++ nL 8 x.f3))
def recsL (l : List Rc) : List UInt8 := l.flatMap recL
def hdL (n : Int) (l : List Rc) : List UInt8 := nL 8 n ++ nL 2 l.length
/-- A record that a batch may have. -/
def okR (x : Rc) : Bool := recB x && (decide (x.f1.size ≤ 255) && decide (x.f2.size ≤ 65535))
def batOK (n : Int) (l : List Rc) : Bool := decide (1 ≤ n ∧ n ≤ 1000000000000000) && (decide (1 ≤ l.length ∧ l.length ≤ 500) && l.all okR)
def bat (n : Int) (l : List Rc) : ByteArray := if batOK n l = true then ⟨(hdL n l ++ recsL l).toArray⟩ else ⟨#[]⟩
theorem hdL_length (n : Int) (l : List Rc) : (hdL n l).length = 10 := by unfold hdL; rw [List.length_append, nL_length, nL_length]
theorem recL_length (x : Rc) : (recL x).length = 12 + x.f1.size + x.f2.size := by
  unfold recL
  simp only [List.length_append, nL_length, s8L_length, s16L_length]; omega
theorem recL_le (x : Rc) (h : okR x = true) : (recL x).length ≤ 65802 := by
  unfold okR at h
  simp only [Bool.and_eq_true, decide_eq_true_eq] at h
  rw [recL_length]; omega
theorem recs_le : ∀ l : List Rc, (∀ x ∈ l, okR x = true) → (recsL l).length ≤ l.length * 65802
  | [], _ => Nat.zero_le _
  | x :: l, h => by
    have h1 := recL_le x (h x List.mem_cons_self)
    have h2 := recs_le l (fun y hy => h y (List.mem_cons_of_mem _ hy))
    show (recL x ++ recsL l).length ≤ _
    rw [List.length_append, List.length_cons]; omega
theorem recs_snoc (l : List Rc) (x : Rc) : recsL (l ++ [x]) = recsL l ++ recL x := by unfold recsL; rw [List.flatMap_append]; simp
theorem take_snoc (l : List Rc) (j : Nat) (h : j < l.length) : l.take (j + 1) = l.take j ++ [l[j]] := by
  rw [List.take_add_one, List.getElem?_eq_getElem h]; rfl
theorem rd_rec (l : List Rc) (j : Nat) (h : j < l.length) : rd_T47 l (j : Int) = l[j] := by
  unfold rd_T47
  rw [Int.toNat_natCast, List.getD_eq_getElem?_getD, List.getElem?_eq_getElem h]; rfl
theorem bat_no (n : Int) (l : List Rc) (x : Rc) (hx : x ∈ l) (h : okR x = false) : bat n l = ⟨#[]⟩ ∧ l.all okR = false := by
  have ha : l.all okR = false := by
    rw [List.all_eq_false]
    exact ⟨x, hx, by rw [h]; decide⟩
  refine ⟨?_, ha⟩
  unfold bat batOK
  rw [ha]
  simp
/-- What the walk of batchText carries. -/
structure Sb (w : World) (b : Nat) (L : List UInt8) (BX : Array Value) (W : World) : Prop where
  is : Bld.Is b b L W
  box : W.heap[w.heap.size]? = some (.cells BX 29 (0, 0))
  out : W.heap[w.heap.size + 1]? = some (.cells #[.string ⟨#[]⟩] 9 (0, 0))
  ok : W.heap[w.heap.size + 2]? = some (.cells #[.bool false] 4 (0, 0))
  bel : Below w.heap.size w W
  ge : w.heap.size + 2 < b
theorem Sb.below {w : World} {b : Nat} {L : List UInt8} {BX : Array Value} {W W' : World} (h : Sb w b L BX W) (hb : Below W.heap.size W W') : Sb w b L BX W' :=
  ⟨h.is.below hb, (hb.block _ (blk_lt h.box)).trans h.box, (hb.block _ (blk_lt h.out)).trans h.out, (hb.block _ (blk_lt h.ok)).trans h.ok, below_then h.bel h.bel.size hb, h.ge⟩
theorem Sb.write {w : World} {b : Nat} {L L' : List UInt8} {BX : Array Value} {W W' : World} (h : Sb w b L BX W) (hi : Bld.Is b b L' W') (hb : Below b W W') : Sb w b L' BX W' := by
  have hg := h.ge
  exact ⟨hi, (hb.block _ (by omega)).trans h.box, (hb.block _ (by omega)).trans h.out, (hb.block _ (by omega)).trans h.ok, h.bel.trans (hb.mono (by omega)), h.ge⟩
theorem Sb.alloc {w : World} {b : Nat} {L : List UInt8} {BX : Array Value} {W : World} (h : Sb w b L BX W) (o : Obj) : Sb w b L BX (W.alloc o) := h.below ((Below.refl _ W).alloc (Nat.le_refl _) _)
theorem Sb.drew {w : World} {b : Nat} {L : List UInt8} {BX : Array Value} {W : World} (h : Sb w b L BX W) : Sb w b L BX W.drew := ⟨h.is.drew, h.box, h.out, h.ok, below_drew1 h.bel, h.ge⟩
end Bat
end Go.Proofs.YtogoblkehdmapaaDoor.M
/- impl.batchText: a batch's bytes; what is no batch is given up by a panic that its own deferred closure catches. -/
namespace Go.Proofs.YtogoblkehdmapaaDoor.M
open Go.RowKit Go.Shelf Go.Proofs.YtogoblkehdmapaaDoorW.PrintWords Go.Proofs.YtogoblkehdmapaaDoorW.PrintLast Go.Proofs.YtogoblkehdmapaaDoorW.PrintMore
set_option linter.unusedVariables false
set_option linter.unusedSimpArgs false
namespace Bat
open Go.Proofs.YtogoblkehdmapaaDoor.M.Enc
set_option maxHeartbeats 1000000 in
theorem catch_pan (p q : Addr) (s : ByteArray) (b : Bool) (u : TypeId) (pv : Value) (older : List PanicEntry) (w : World) (hp : w.cell? p = some (.string s)) (hpz : w.frozen? p = false) (hq : (w.setCell p (.string ⟨#[]⟩)).cell? q = some (.bool b)) (hqz : (w.setCell p (.string ⟨#[]⟩)).frozen? q = false) :
    CallsD Tryd.prog 42 #[.pointer (some p), .pointer (some q)] (.panicking ({ v := .iface u pv, recovered := false } :: older)) w fun e u' w' =>
      e = .returned (.tuple #[]) ∧ u' = .panicking ({ v := .iface u pv, recovered := true } :: older) ∧ w' = (w.setCell p (.string ⟨#[]⟩)).setCell q (.bool false) := by
  refine callsD_of_wpS Tryd.func42 rfl fun c₀ cs hu => ?_
  apply wpS_seq
  apply wpS_region
  simp [wpOpsS, go_sem, recoverD, hu, Tryd.ntmps42, Exit.thenS]
  apply wpS_seq
  apply wpS_region
  simp [wpOpsS, go_sem, Exit.thenS]
  refine wpS_cond (t := true) (by simp [Act.eval, Array.replicate]) ?_
  simp only [if_true]
  apply wpS_region
  simp [wpOpsS, go_sem, hp, hpz, hq, hqz, bodyPostS, results, Tryd.results42]
theorem catch_idle (p q : Addr) (w : World) :
    CallsD Tryd.prog 42 #[.pointer (some p), .pointer (some q)] .returning w fun e u' w' => e = .returned (.tuple #[]) ∧ u' = .returning ∧ w' = w := by
  refine callsD_of_wpS Tryd.func42 rfl fun c₀ cs hu => ?_
  apply wpS_seq
  apply wpS_region
  simp [wpOpsS, go_sem, recoverD, hu, Tryd.ntmps42, Exit.thenS]
  apply wpS_seq
  apply wpS_region
  simp [wpOpsS, go_sem, Exit.thenS]
  refine wpS_cond (t := false) (by simp [Act.eval, Array.replicate]) ?_
  simp only [Bool.false_eq_true, if_false]
  refine wpS_of_wp (wp_skip ?_)
  cases c₀
  simp_all [bodyPostS, results, Tryd.results42]
theorem res2 (tm : Array Value) (p q : Addr) (s : ByteArray) (b : Bool) (W : World) (h2 : tm.getD 2 undef = .pointer (some p)) (h3 : tm.getD 3 undef = .pointer (some q)) (hp : W.cell? p = some (.string s)) (hq : W.cell? q = some (.bool b)) :
    (results Tryd.f25 tm).run Tryd.prog W = .ok (.tuple #[.string s, .bool b]) W := by
  have g2 : tm[2]?.getD undef = .pointer (some p) := by simpa using h2
  have g3 : tm[3]?.getD undef = .pointer (some q) := by simpa using h3
  simp [results, Tryd.results25, go_sem]
  rw [g2, g3]
  simp [go_sem, hp, hq]
/-- The door, behind a panic: it is caught, and what was no batch gives no text. -/
theorem door_bad (w W : World) (BX : Array Value) (u : TypeId) (v : Value) (tm : Array Value) (h2 : tm.getD 2 undef = .pointer (some ⟨w.heap.size + 1, 0, none⟩)) (h3 : tm.getD 3 undef = .pointer (some ⟨w.heap.size + 2, 0, none⟩))
    (ho : W.heap[w.heap.size + 1]? = some (.cells #[.string ⟨#[]⟩] 9 (0, 0))) (hk : W.heap[w.heap.size + 2]? = some (.cells #[.bool false] 4 (0, 0))) (hB : Below w.heap.size w W) :
    bodyPostD Tryd.prog Tryd.f25 (fun e w' => e = .returned (.tuple #[.string ⟨#[]⟩, .bool false]) ∧ Below w.heap.size w w') (Exit.panic [{ v := .iface u v, recovered := false }])
      { tmps := tm, defers := [{ target := Target.fn (Fn.func 42) #[.pointer (some ⟨w.heap.size + 1, 0, none⟩), .pointer (some ⟨w.heap.size + 2, 0, none⟩)], args := #[] }] } W := by
  have c1 : W.cell? ⟨w.heap.size + 1, 0, none⟩ = some (.string ⟨#[]⟩) := (blk_cell ho 0).trans rfl
  have k1 : (W.setCell ⟨w.heap.size + 1, 0, none⟩ (.string ⟨#[]⟩)).heap[w.heap.size + 2]? = some (.cells #[.bool false] 4 (0, 0)) := blk_far (p := ⟨w.heap.size + 1, 0, none⟩) hk (by simp) _
  have k2 : (W.setCell ⟨w.heap.size + 1, 0, none⟩ (.string ⟨#[]⟩)).cell? ⟨w.heap.size + 2, 0, none⟩ = some (.bool false) := (blk_cell k1 0).trans rfl
  refine leaves_cons (f := 42) (args := #[.pointer (some ⟨w.heap.size + 1, 0, none⟩), .pointer (some ⟨w.heap.size + 2, 0, none⟩)]) (by simp) (by simp [go_sem]) ?_
  refine (catch_pan ⟨w.heap.size + 1, 0, none⟩ ⟨w.heap.size + 2, 0, none⟩ ⟨#[]⟩ false u v [] W c1 (blk_frozen ho _) k2 (blk_frozen k1 _)).mono ?_
  rintro e u' w'' ⟨rfl, rfl, rfl⟩
  have o1 : (W.setCell ⟨w.heap.size + 1, 0, none⟩ (.string ⟨#[]⟩)).heap[w.heap.size + 1]? = some (.cells #[.string ⟨#[]⟩] 9 (0, 0)) := (blk_set ho _ _).trans rfl
  have o2 := blk_far (p := ⟨w.heap.size + 2, 0, none⟩) o1 (by simp) (.bool false)
  have k3 : ((W.setCell ⟨w.heap.size + 1, 0, none⟩ (.string ⟨#[]⟩)).setCell ⟨w.heap.size + 2, 0, none⟩ (.bool false)).heap[w.heap.size + 2]? = some (.cells #[.bool false] 4 (0, 0)) := (blk_set k1 _ _).trans rfl
  refine ⟨_, res2 tm ⟨w.heap.size + 1, 0, none⟩ ⟨w.heap.size + 2, 0, none⟩ ⟨#[]⟩ false _ h2 h3 ((blk_cell o2 0).trans rfl) ((blk_cell k3 0).trans rfl), rfl, ?_⟩
  exact below_set (below_set hB (by simp)) (by simp)
set_option maxHeartbeats 8000000 in
set_option maxRecDepth 100000 in
theorem bad_head (n : Int) (A : Option Addr) (c : Nat) (l : List Rc) (w : World) (hc : l.length ≤ c) (u : TypeId) (v : Value) (hS : Shp u v w) (hn : ¬ (1 ≤ n ∧ n ≤ 1000000000000000) ∨ ¬ (1 ≤ l.length ∧ l.length ≤ 500)) :
    Calls Tryd.prog 25 #[.agg #[.int .i64 n, .slice A l.length c]] w fun e w' => e = .returned (.tuple #[.string ⟨#[]⟩, .bool false]) ∧ Below w.heap.size w w' := by
  have hmf : ∀ (fn : Fn) (first cap : Array Value) (w : World), (Instr.makeFunc fn first cap).run Tryd.prog w = .ok (.func fn first cap) w := fun _ _ _ _ => rfl
  obtain ⟨W1, hW1⟩ : ∃ W, w.alloc (.cells #[.int .i64 n, .slice A l.length c] 29) = W := ⟨_, rfl⟩
  obtain ⟨W2, hW2⟩ : ∃ W, W1.alloc (.cells #[.string ⟨#[]⟩] 9) = W := ⟨_, rfl⟩
  obtain ⟨W3, hW3⟩ : ∃ W, W2.alloc (.cells #[.bool false] 4) = W := ⟨_, rfl⟩
  have z1 : W1.heap.size = w.heap.size + 1 := by rw [← hW1]; simp
  have z2 : W2.heap.size = w.heap.size + 2 := by rw [← hW2, World.size_alloc, z1]
  have hb1 : Below w.heap.size w W1 := by rw [← hW1]; exact (Below.refl _ w).alloc (Nat.le_refl _) _
  have hb2 : Below w.heap.size w W2 := by rw [← hW2]; exact hb1.alloc hb1.size _
  have hb3 : Below w.heap.size w W3 := by rw [← hW3]; exact hb2.alloc hb2.size _
  have hx1 : W1.heap[w.heap.size]? = some (.cells #[.int .i64 n, .slice A l.length c] 29 (0, 0)) := by rw [← hW1]; exact blk_new w _
  have hx2 : W2.heap[w.heap.size]? = some (.cells #[.int .i64 n, .slice A l.length c] 29 (0, 0)) := by rw [← hW2]; exact blk_alloc hx1 _
  have hx3 : W3.heap[w.heap.size]? = some (.cells #[.int .i64 n, .slice A l.length c] 29 (0, 0)) := by rw [← hW3]; exact blk_alloc hx2 _
  have ho2 : W2.heap[w.heap.size + 1]? = some (.cells #[.string ⟨#[]⟩] 9 (0, 0)) := by rw [← hW2, ← z1]; exact blk_new W1 _
  have ho3 : W3.heap[w.heap.size + 1]? = some (.cells #[.string ⟨#[]⟩] 9 (0, 0)) := by rw [← hW3]; exact blk_alloc ho2 _
  have hk3 : W3.heap[w.heap.size + 2]? = some (.cells #[.bool false] 4 (0, 0)) := by rw [← hW3, ← z2]; exact blk_new W2 _
  have hg : W3.cell? ⟨0, 0, none⟩ = some (.iface u v) := hS.below (Nat.le_refl _) hb3
  have c0 : W3.cell? ⟨w.heap.size, 0, none⟩ = some (.int .i64 n) := (blk_cell hx3 0).trans rfl
  have c1 : W3.cell? ⟨w.heap.size, 1, none⟩ = some (.slice A l.length c) := (blk_cell hx3 1).trans rfl
  have HX := Aside0.mk hx3
  have HO := Aside0.mk ho3
  have HK := Aside0.mk hk3
  have HB := Aside0.mk hb3
  clear hb1 hb2 hb3 hx1 hx2 hx3 ho2 ho3 hk3 hS
  have hcs : n < 1 ∨ (1 ≤ n ∧ 1000000000000000 < n) ∨ (1 ≤ n ∧ n ≤ 1000000000000000 ∧ l.length < 1) ∨ (1 ≤ n ∧ n ≤ 1000000000000000 ∧ 1 ≤ l.length ∧ 500 < l.length) := by omega
  clear hn
  go_enter_defers Tryd.func25, Tryd.ntmps25
  rcases hcs with h | h | h | h
  all_goals
    go_wp2
  all_goals
    exact door_bad w W3 #[.int .i64 n, .slice A l.length c] u v _ rfl rfl HO.out HK.out HB.out
end Bat
end Go.Proofs.YtogoblkehdmapaaDoor.M
