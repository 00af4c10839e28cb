/- spec.EncodeBatch: the batch's bytes, in a slice of bytes. -/
import Derived.Lib.SliceRun
import Derived.Deep.RegionHeld3
import Derived.Deep.DeepCutAuto
import Derived.BigQuiet
import Derived.Test.YtogoblkehdmapaaDoorXByt
import Derived.Test.YtogoblkehdmapaaDoorF20
import Derived.Test.YtogoblkehdmapaaDoorO0
import Derived.Test.YtogoblkehdmapaaDoorF19
import Derived.Test.YtogoblkehdmapaaDoorF22
import Derived.Test.YtogoblkehdmapaaDoorF21
namespace Go.Proofs.YtogoblkehdmapaaDoor.M
open Go.RowKit Go.Shelf Go.Proofs.YtogoblkehdmapaaDoorW.PrintWords Go.Proofs.YtogoblkehdmapaaDoorW.PrintLast Go.Proofs.YtogoblkehdmapaaDoorW.PrintMore
set_option linter.unusedVariables false
set_option linter.unusedSimpArgs false
namespace BatS
open Enc Bat
theorem num_ev (m : Nat) (hm : m ≤ 8) (v : Int) : ∃ K, spec_l2Num.f K (m : Int) v = some (Num.bytes m v) := by
  obtain ⟨K, h⟩ := NumPlain.spec_num v m hm
  exact ⟨K, h K (Nat.le_refl _)⟩
theorem s8_ev (s : ByteArray) (h : s.size ≤ 9223372036854775000) : ∃ K, spec_l2S8.f K s = some (s8B s) := by
  obtain ⟨K, hK⟩ := num_ev 1 (by decide) s.size
  refine ⟨K, ?_⟩
  have hK' : spec_l2Num.f K 1 (s.size : Int) = some (Num.bytes 1 s.size) := hK
  unfold spec_l2S8.f
  rw [hK', Option.bind_some, if_pos (by rw [num_size]; omega)]; rfl
theorem s16_ev (s : ByteArray) (h : s.size ≤ 9223372036854775000) : ∃ K, spec_l2S16.f K s = some (s16B s) := by
  obtain ⟨K, hK⟩ := num_ev 2 (by decide) s.size
  refine ⟨K, ?_⟩
  have hK' : spec_l2Num.f K 2 (s.size : Int) = some (Num.bytes 2 s.size) := hK
  unfold spec_l2S16.f
  rw [hK', Option.bind_some, if_pos (by rw [num_size]; omega)]; rfl
theorem if_gate {c : Prop} [Decidable c] {X Y : Prop} (h : if c then X else Y) : if c then X else Y := h
section
variable {ops : Array Oper} {rest : List Oper} {o : Oper} {a : Act} {Q : Exit → Act → World → Prop} {w : World}
theorem step_app {c : Prop} [Decidable c] {K : Act → World → Prop} {E : Prop} (hw : c) (sl x : Operand) (ho : o.op = .call { callee := .builtin .append, args := #[sl, x], argTypes := #[44, 9] }) (base : Nat) (v : Value) (l : List UInt8) (s : ByteArray) (hs : a.eval sl = v) (hx : a.eval x = .string s)
    (hown : Byt.Own base v l w) (hb : base ≤ w.heap.size) (hn : l.length + s.size ≤ 140737488355328)
    (h : ∀ v' w', Byt.Own base v' (l ++ s.data.toList) w' → w.grownBy w' v.ownBlock → K (a.put o.dst v') w') : if c then Oper.wp Tryd.prog o a w K Q else E := by
  rw [if_pos hw]
  exact Byt.wp_append sl x ho base v l s hs hx hown hb hn h
end
/-- The world of a call that holds a batch's box. -/
structure Sg (w : World) (BX : Array Value) (W : World) : Prop where
  box : W.heap[w.heap.size]? = some (.cells BX 29 (0, 0))
  bel : Below w.heap.size w W
theorem Sg.below {w : World} {BX : Array Value} {W W' : World} (h : Sg w BX W) (hb : Below W.heap.size W W') : Sg w BX W' :=
  ⟨(hb.block _ (blk_lt h.box)).trans h.box, below_then h.bel h.bel.size hb⟩
theorem Sg.drew {w : World} {BX : Array Value} {W : World} (h : Sg w BX W) : Sg w BX W.drew := ⟨h.box, below_drew1 h.bel⟩
/-- The world of a call that holds a batch's box and a slice of bytes. -/
structure Sv (w : World) (v : Value) (L : List UInt8) (BX : Array Value) (W : World) : Prop where
  own : Byt.Own w.heap.size v L W
  box : W.heap[w.heap.size]? = some (.cells BX 29 (0, 0))
  bel : Below w.heap.size w W
theorem Sg.start {w : World} {v : Value} {L : List UInt8} {BX : Array Value} {W W' : World} (h : Sg w BX W) (ho : Byt.Own W.heap.size v L W') (hb : Below W.heap.size W W') : Sv w v L BX W' :=
  ⟨ho.weaken h.bel.size, (h.below hb).box, (h.below hb).bel⟩
theorem Sv.below {w : World} {v : Value} {L : List UInt8} {BX : Array Value} {W W' : World} (h : Sv w v L BX W) (hb : Below W.heap.size W W') : Sv w v L BX W' :=
  ⟨h.own.below hb, (hb.block _ (blk_lt h.box)).trans h.box, below_then h.bel h.bel.size hb⟩
theorem Sv.alloc {w : World} {v : Value} {L : List UInt8} {BX : Array Value} {W : World} (h : Sv w v L BX W) (o : Obj) : Sv w v L BX (W.alloc o) := h.below ((Below.refl _ W).alloc (Nat.le_refl _) _)
theorem Sv.drew {w : World} {v : Value} {L : List UInt8} {BX : Array Value} {W : World} (h : Sv w v L BX W) : Sv w v L BX W.drew := ⟨h.own.drew, h.box, below_drew1 h.bel⟩
theorem Sv.app {w : World} {v v' : Value} {L L' : List UInt8} {BX : Array Value} {W W' : World} (h : Sv w v L BX W) (ho : Byt.Own w.heap.size v' L' W') (hg : W.grownBy W' v.ownBlock) : Sv w v' L' BX W' :=
  ⟨ho, blk_grown h.box hg (h.own.ne h.box (by decide)), h.bel.grown hg h.bel.size h.own.ge⟩
theorem Sv.name {w : World} {v : Value} {L : List UInt8} {BX : Array Value} {W : World} (_h : Sv w v L BX W) : ∃ s, s = v := ⟨v, rfl⟩
theorem hds_eq (n : Int) (l : List Rc) : (Num.bytes 8 n ++ Num.bytes 2 l.length).data.toList = hdL n l := by rw [app_]; rfl
theorem rec_ev (x : Rc) : ∃ K, spec_l5RecOK.f K x.f0 x.f1 x.f2 x.f3 = some (okR x) := by
  refine ⟨1, ?_⟩
  unfold spec_l5RecOK.f okR recB
  by_cases h1 : 255 < x.f1.size
  · rw [decide_eq_false (show ¬ x.f1.size ≤ 255 by omega), if_pos (show (x.f1.size : Int) > 255 by omega), Bool.false_and, Bool.and_false]
    simp only [spec_l5RecOK.j0, if_true]
  · rw [decide_eq_true (show x.f1.size ≤ 255 by omega), if_neg (show ¬ (x.f1.size : Int) > 255 by omega), Bool.true_and]
    by_cases h2 : 65535 < x.f2.size
    · rw [decide_eq_false (show ¬ x.f2.size ≤ 65535 by omega), decide_eq_true (show (x.f2.size : Int) > 65535 by omega), Bool.and_false]
      simp only [spec_l5RecOK.j0, if_true]
    · rw [decide_eq_true (show x.f2.size ≤ 65535 by omega), decide_eq_false (show ¬ (x.f2.size : Int) > 65535 by omega), Bool.and_true]
      simp only [spec_l5RecOK.j0, Bool.false_eq_true, if_false]
      by_cases k1 : x.f0 = 1
      · simp [k1]
        by_cases k3 : x.f3 = 0 <;> simp [k3]
      · by_cases k2 : x.f0 = 2
        · simp [k2]
          by_cases q1 : x.f1.toList = [] <;> simp [q1]
        · by_cases k3 : x.f0 = 3 <;> simp [k1, k2, k3]
theorem bat_no2 (n : Int) (l : List Rc) (h : ¬ (1 ≤ n ∧ n ≤ 1000000000000000) ∨ ¬ (1 ≤ l.length ∧ l.length ≤ 500)) : bat n l = ⟨#[]⟩ := by
  unfold bat batOK
  rcases h with h | h
  · rw [decide_eq_false h]; rfl
  · rw [decide_eq_false h, Bool.false_and, Bool.and_false]; rfl
set_option maxHeartbeats 40000000 in
set_option maxRecDepth 100000 in
theorem bad1 (n : Int) (A : Option Addr) (c : Nat) (l : List Rc) (w : World) (hr : Kd.C k47 w A l.length l) (hc : l.length ≤ c) (hn : ¬ (1 ≤ n ∧ n ≤ 1000000000000000)) :
    Calls Tryd.prog 7 #[.agg #[.int .i64 n, .slice A l.length c]] w fun e w' => e = .returned (.string (bat n l)) ∧ Below w.heap.size w w' := by
  obtain ⟨R, hR⟩ : ∃ R, R = bat n l := ⟨_, rfl⟩
  rw [← hR]
  have HRq := Aside0.mk hR
  have HR := Aside0.mk hr
  clear hR hr
  obtain ⟨W1, hW1⟩ : ∃ W, w.alloc (.cells #[.int .i64 n, .slice A l.length c] 29) = W := ⟨_, rfl⟩
  have HB1 : Aside0 (Below w.heap.size w W1) := ⟨by rw [← hW1]; exact (Below.refl _ w).alloc (Nat.le_refl _) _⟩
  have hx1 : W1.heap[w.heap.size]? = some (.cells #[.int .i64 n, .slice A l.length c] 29 (0, 0)) := by rw [← hW1]; exact blk_new w _
  have HX1 := Aside0.mk hx1
  have ca0 : W1.cell? ⟨w.heap.size, 0, none⟩ = some (.int .i64 n) := (blk_cell hx1 0).trans rfl
  have ca1 : W1.cell? ⟨w.heap.size, 1, none⟩ = some (.slice A l.length c) := (blk_cell hx1 1).trans rfl
  clear hx1
  have hq := Aside0.mk (HRq.out.trans (bat_no2 n l (.inl hn)))
  have HN := Aside0.mk hn
  clear hn
  go_enter Tryd.func7, Tryd.ntmps7
  go_wp2_with fail
  clear hW1
  refine (spec_l1Between.calls n 1 1000000000000000 false W1 (by rw [FramePlain.between_eq, decide_eq_false (by have := HN.out; omega)])).mono ?_
  rintro e W2 ⟨rfl, hd⟩
  have hb := hd.below
  have HG2 := Aside0.mk (Sg.below ⟨HX1.out, HB1.out⟩ hb)
  have c20 : W2.cell? ⟨w.heap.size, 0, none⟩ = some (.int .i64 n) := (blk_cell HG2.out.box 0).trans rfl
  have c21 : W2.cell? ⟨w.heap.size, 1, none⟩ = some (.slice A l.length c) := (blk_cell HG2.out.box 1).trans rfl
  clear hd hb
  go_wp2_with fail
  go_ret
  exact ⟨by rw [hq.out]; rfl, HG2.out.bel⟩
set_option maxHeartbeats 40000000 in
set_option maxRecDepth 100000 in
theorem bad2 (n : Int) (A : Option Addr) (c : Nat) (l : List Rc) (w : World) (hr : Kd.C k47 w A l.length l) (hc : l.length ≤ c) (hn : 1 ≤ n ∧ n ≤ 1000000000000000) (hl : ¬ (1 ≤ l.length ∧ l.length ≤ 500)) :
    Calls Tryd.prog 7 #[.agg #[.int .i64 n, .slice A l.length c]] w fun e w' => e = .returned (.string (bat n l)) ∧ Below w.heap.size w w' := by
  obtain ⟨R, hR⟩ : ∃ R, R = bat n l := ⟨_, rfl⟩
  rw [← hR]
  have HRq := Aside0.mk hR
  have HR := Aside0.mk hr
  clear hR hr
  obtain ⟨W1, hW1⟩ : ∃ W, w.alloc (.cells #[.int .i64 n, .slice A l.length c] 29) = W := ⟨_, rfl⟩
  have HB1 : Aside0 (Below w.heap.size w W1) := ⟨by rw [← hW1]; exact (Below.refl _ w).alloc (Nat.le_refl _) _⟩
  have hx1 : W1.heap[w.heap.size]? = some (.cells #[.int .i64 n, .slice A l.length c] 29 (0, 0)) := by rw [← hW1]; exact blk_new w _
  have HX1 := Aside0.mk hx1
  have ca0 : W1.cell? ⟨w.heap.size, 0, none⟩ = some (.int .i64 n) := (blk_cell hx1 0).trans rfl
  have ca1 : W1.cell? ⟨w.heap.size, 1, none⟩ = some (.slice A l.length c) := (blk_cell hx1 1).trans rfl
  clear hx1
  have hq := Aside0.mk (HRq.out.trans (bat_no2 n l (.inr hl)))
  have HN := Aside0.mk hn
  have HL := Aside0.mk hl
  clear hn hl
  go_enter Tryd.func7, Tryd.ntmps7
  go_wp2_with fail
  clear hW1
  refine (spec_l1Between.calls n 1 1000000000000000 true W1 (by rw [FramePlain.between_eq, decide_eq_true (by have := HN.out; omega)])).mono ?_
  rintro e W2 ⟨rfl, hd⟩
  have hb := hd.below
  have HG2 := Aside0.mk (Sg.below ⟨HX1.out, HB1.out⟩ hb)
  have c20 : W2.cell? ⟨w.heap.size, 0, none⟩ = some (.int .i64 n) := (blk_cell HG2.out.box 0).trans rfl
  have c21 : W2.cell? ⟨w.heap.size, 1, none⟩ = some (.slice A l.length c) := (blk_cell HG2.out.box 1).trans rfl
  clear hd hb
  go_wp2_with fail
  refine (spec_l1Between.calls l.length 1 500 false W2 (by rw [FramePlain.between_eq, decide_eq_false (by have := HL.out; omega)])).mono ?_
  rintro e W3 ⟨rfl, hd⟩
  have hb := hd.below
  have HG3 := Aside0.mk (HG2.out.below hb)
  have c30 : W3.cell? ⟨w.heap.size, 0, none⟩ = some (.int .i64 n) := (blk_cell HG3.out.box 0).trans rfl
  have c31 : W3.cell? ⟨w.heap.size, 1, none⟩ = some (.slice A l.length c) := (blk_cell HG3.out.box 1).trans rfl
  clear hd hb
  go_wp2_with fail
  go_ret
  exact ⟨by rw [hq.out]; rfl, HG3.out.bel⟩
set_option maxHeartbeats 40000000 in
set_option maxRecDepth 100000 in
theorem good (n : Int) (A : Option Addr) (c : Nat) (l : List Rc) (w : World) (hr : Kd.C k47 w A l.length l) (hc : l.length ≤ c) (hn : 1 ≤ n ∧ n ≤ 1000000000000000) (hl : 1 ≤ l.length ∧ l.length ≤ 500) :
    Calls Tryd.prog 7 #[.agg #[.int .i64 n, .slice A l.length c]] w fun e w' => e = .returned (.string (bat n l)) ∧ Below w.heap.size w w' := by
  obtain ⟨R, hR⟩ : ∃ R, R = bat n l := ⟨_, rfl⟩
  rw [← hR]
  have HRq := Aside0.mk hR
  have HR := Aside0.mk hr
  clear hR hr
  obtain ⟨W1, hW1⟩ : ∃ W, w.alloc (.cells #[.int .i64 n, .slice A l.length c] 29) = W := ⟨_, rfl⟩
  have HB1 : Aside0 (Below w.heap.size w W1) := ⟨by rw [← hW1]; exact (Below.refl _ w).alloc (Nat.le_refl _) _⟩
  have hx1 : W1.heap[w.heap.size]? = some (.cells #[.int .i64 n, .slice A l.length c] 29 (0, 0)) := by rw [← hW1]; exact blk_new w _
  have HX1 := Aside0.mk hx1
  have ca0 : W1.cell? ⟨w.heap.size, 0, none⟩ = some (.int .i64 n) := (blk_cell hx1 0).trans rfl
  have ca1 : W1.cell? ⟨w.heap.size, 1, none⟩ = some (.slice A l.length c) := (blk_cell hx1 1).trans rfl
  clear hx1
  have HN := Aside0.mk hn
  have HL := Aside0.mk hl
  have hl6 : l.length ≤ 500 := hl.2
  clear hn hl
  go_enter Tryd.func7, Tryd.ntmps7
  go_wp2_with fail
  clear hW1
  refine (spec_l1Between.calls n 1 1000000000000000 true W1 (by rw [FramePlain.between_eq, decide_eq_true (by have := HN.out; omega)])).mono ?_
  rintro e W2 ⟨rfl, hd⟩
  have hb := hd.below
  have HG2 := Aside0.mk (Sg.below ⟨HX1.out, HB1.out⟩ hb)
  have c20 : W2.cell? ⟨w.heap.size, 0, none⟩ = some (.int .i64 n) := (blk_cell HG2.out.box 0).trans rfl
  have c21 : W2.cell? ⟨w.heap.size, 1, none⟩ = some (.slice A l.length c) := (blk_cell HG2.out.box 1).trans rfl
  clear hd hb
  go_wp2_with fail
  refine (spec_l1Between.calls l.length 1 500 true W2 (by rw [FramePlain.between_eq, decide_eq_true (by have := HL.out; omega)])).mono ?_
  rintro e W3 ⟨rfl, hd⟩
  have hb := hd.below
  have HG3 := Aside0.mk (HG2.out.below hb)
  have c30 : W3.cell? ⟨w.heap.size, 0, none⟩ = some (.int .i64 n) := (blk_cell HG3.out.box 0).trans rfl
  have c31 : W3.cell? ⟨w.heap.size, 1, none⟩ = some (.slice A l.length c) := (blk_cell HG3.out.box 1).trans rfl
  clear hd hb
  go_wp2_with fail
  clear ca0 ca1 c20 c21 HG2 HX1 HB1
  obtain ⟨K1, hK1⟩ := num_ev 8 (by decide) n
  obtain ⟨K2, hK2⟩ := num_ev 2 (by decide) l.length
  have HK1 := Aside0.mk hK1
  have HK2 := Aside0.mk hK2
  clear hK1 hK2
  have hcat : (Num.bytes 8 n).size + (Num.bytes 2 l.length).size ≤ 9223372036854775807 := by (try simp only [ByteArray.size_append, num_size, s8B_size, s16B_size]); omega
  have kh0xa := eq_true hcat
  have kh0xb : decide ((Num.bytes 8 n).size + (Num.bytes 2 l.length).size ≤ 9223372036854775807) = true := decide_eq_true hcat
  have kh0xc : (9223372036854775807 < (Num.bytes 8 n).size + (Num.bytes 2 l.length).size) = False := eq_false (Nat.not_lt.2 hcat)
  clear hcat
  have HSb := HG3
  clear HG3
  refine wp_region_noPanic ?_
  refine wp_region_held_drew (S := fun W' => W'.cell? ⟨w.heap.size, 0, none⟩ = some (.int .i64 n) ∧ W'.cell? ⟨w.heap.size, 1, none⟩ = some (.slice A l.length c)) (by kernel_rfl) ⟨c30, c31⟩ (fun hHeld => ?_)
  refine wpAnyH_take (i := 0) (oi := { dst := some 17, op := Op.fieldAddr 29 (Operand.tmp 1) 0, type := 0, pos := "l5_node.go:24", after := #[], guard := none }) (v := ?v0) rfl (by kernel_rfl) (by kernel_rfl) (by kernel_rfl) (fun _ _ _ h => h) (Or.inl ⟨by rfl, ?hy0⟩) (by assumption) ?rest0
  case hy0 => (intro w hSw; (try dsimp only at hSw); go_simp <;> with_reducible rfl)
  try simp only [Act.put, List.setIfInBounds_toArray, List.set_cons_zero, List.set_cons_succ]
  refine wpAnyH_take (i := 1) (oi := { dst := some 18, op := Op.load 3 (Operand.tmp 17), type := 3, pos := "l5_node.go:24", after := #[{ on := 0, ground := Ground.data }], guard := none }) (v := ?v1) rfl (by kernel_rfl) (by kernel_rfl) (by kernel_rfl) (fun _ _ _ h => h) (Or.inl ⟨by rfl, ?hy1⟩) (by assumption) ?rest1
  case hy1 => (intro w hSw; (try dsimp only at hSw); go_simp <;> with_reducible rfl)
  try simp only [Act.put, List.setIfInBounds_toArray, List.set_cons_zero, List.set_cons_succ]
  refine wpAnyH_take (i := 3) (oi := { dst := some 20, op := Op.fieldAddr 29 (Operand.tmp 1) 1, type := 0, pos := "l5_node.go:24", after := #[], guard := none }) (v := ?v3) rfl (by kernel_rfl) (by kernel_rfl) (by kernel_rfl) (fun _ _ _ h => h) (Or.inl ⟨by rfl, ?hy3⟩) (by assumption) ?rest3
  case hy3 => (intro w hSw; (try dsimp only at hSw); go_simp <;> with_reducible rfl)
  try simp only [Act.put, List.setIfInBounds_toArray, List.set_cons_zero, List.set_cons_succ]
  refine wpAnyH_take (i := 4) (oi := { dst := some 21, op := Op.load 27 (Operand.tmp 20), type := 27, pos := "l5_node.go:24", after := #[{ on := 3, ground := Ground.data }], guard := none }) (v := ?v4) rfl (by kernel_rfl) (by kernel_rfl) (by kernel_rfl) (fun _ _ _ h => h) (Or.inl ⟨by rfl, ?hy4⟩) (by assumption) ?rest4
  case hy4 => (intro w hSw; (try dsimp only at hSw); go_simp <;> with_reducible rfl)
  try simp only [Act.put, List.setIfInBounds_toArray, List.set_cons_zero, List.set_cons_succ]
  refine wpAnyH_take (i := 5) (oi := { dst := some 22, op := Op.call { callee := Callee.builtin Builtin.len, args := #[Operand.tmp 21], argTypes := #[27] }, type := 3, pos := "l5_node.go:24", after := #[{ on := 4, ground := Ground.data }], guard := none }) (v := ?v5) rfl (by kernel_rfl) (by kernel_rfl) (by kernel_rfl) (fun _ _ _ h => h) (Or.inl ⟨by rfl, ?hy5⟩) (by assumption) ?rest5
  case hy5 => (intro w hSw; (try dsimp only at hSw); go_simp <;> with_reducible rfl)
  try simp only [Act.put, List.setIfInBounds_toArray, List.set_cons_zero, List.set_cons_succ]
  refine wpAnyH_ready (rs := [2]) (by kernel_rfl) (by simp) ?_
  refine AllReadyH.cons (o := { dst := some 19, op := Op.call { callee := Callee.value (Operand.func 20), args := #[Operand.const (Value.int IntKind.i64 8), Operand.tmp 18], argTypes := #[3, 3] }, type := 9, pos := "l5_node.go:24", after := #[{ on := 1, ground := Ground.data }], guard := none }) rfl (fun K hK => ?_) AllReadyH.nil
  go_simp
  go_at_call 20
  have _t := HSb
  clear _t
  refine (spec_l2Num.calls K1 8 n (Num.bytes 8 n) _ HK1.out).mono ?_
  rintro e Wd ⟨rfl, hb⟩
  have HSd := Aside0.mk (HSb.out.drew.below hb)
  have cd0 : Wd.cell? ⟨w.heap.size, 0, none⟩ = some (.int .i64 n) := (blk_cell HSd.out.box 0).trans rfl
  have cd1 : Wd.cell? ⟨w.heap.size, 1, none⟩ = some (.slice A l.length c) := (blk_cell HSd.out.box 1).trans rfl
  clear hb HSb
  refine hK.out _ _ ⟨cd0, cd1⟩ (fun hHeld => ?_)
  clear hK K
  try simp only [Act.put, List.setIfInBounds_toArray, List.set_cons_zero, List.set_cons_succ]
  refine wpAnyH_ready (rs := [6]) (by kernel_rfl) (by simp) ?_
  refine AllReadyH.cons (o := { dst := some 23, op := Op.call { callee := Callee.value (Operand.func 20), args := #[Operand.const (Value.int IntKind.i64 2), Operand.tmp 22], argTypes := #[3, 3] }, type := 9, pos := "l5_node.go:24", after := #[{ on := 5, ground := Ground.data }, { on := 2, ground := Ground.chain }], guard := none }) rfl (fun K hK => ?_) AllReadyH.nil
  go_simp
  go_at_call 20
  have _t := HSd
  clear _t
  refine (spec_l2Num.calls K2 2 l.length (Num.bytes 2 l.length) _ HK2.out).mono ?_
  rintro e We ⟨rfl, hb⟩
  have HSe := Aside0.mk (HSd.out.below hb)
  have ce0 : We.cell? ⟨w.heap.size, 0, none⟩ = some (.int .i64 n) := (blk_cell HSe.out.box 0).trans rfl
  have ce1 : We.cell? ⟨w.heap.size, 1, none⟩ = some (.slice A l.length c) := (blk_cell HSe.out.box 1).trans rfl
  clear hb HSd
  obtain ⟨vf, Wf, hvf, hof, hbf⟩ := Byt.conv We (Num.bytes 8 n ++ Num.bytes 2 l.length) (by (try simp only [ByteArray.size_append, num_size, s8B_size, s16B_size]); omega)
  have HSf := Aside0.mk (HSe.out.start hof hbf)
  have cf0 : Wf.cell? ⟨w.heap.size, 0, none⟩ = some (.int .i64 n) := (blk_cell HSf.out.box 0).trans rfl
  have cf1 : Wf.cell? ⟨w.heap.size, 1, none⟩ = some (.slice A l.length c) := (blk_cell HSf.out.box 1).trans rfl
  clear hof hbf HSe
  refine hK.out _ _ ⟨ce0, ce1⟩ (fun hHeld => ?_)
  clear hK K
  try simp only [Act.put, List.setIfInBounds_toArray, List.set_cons_zero, List.set_cons_succ]
  refine wpAnyH_take (i := 7) (oi := { dst := some 24, op := Op.binOp BinOp.add 9 (Operand.tmp 19) (Operand.tmp 23) 9, type := 9, pos := "l5_node.go:24", after := #[{ on := 2, ground := Ground.data }, { on := 6, ground := Ground.data }], guard := none }) (v := ?v7) rfl (by kernel_rfl) (by kernel_rfl) (by kernel_rfl) (fun _ _ _ h => h) (Or.inl ⟨by rfl, ?hy7⟩) (by assumption) ?rest7
  case hy7 => (intro w hSw; (try dsimp only at hSw); go_simp <;> with_reducible rfl)
  try simp only [Act.put, List.setIfInBounds_toArray, List.set_cons_zero, List.set_cons_succ]
  refine wpAnyH_ready (rs := [8]) (by kernel_rfl) (by simp) ?_
  refine AllReadyH.cons (o := { dst := some 25, op := Op.convert 9 44 (Operand.tmp 24), type := 44, pos := "l5_node.go:24", after := #[{ on := 7, ground := Ground.data }], guard := none }) rfl (fun K hK => ?_) AllReadyH.nil
  go_simp
  refine hK.out _ _ ⟨cf0, cf1⟩ (fun hHeld => ?_)
  clear hK K
  try simp only [Act.put, List.setIfInBounds_toArray, List.set_cons_zero, List.set_cons_succ]
  refine wpAnyH_take (i := 9) (oi := { dst := some 3, op := Op.assign (Operand.tmp 25), type := 44, pos := "l5_node.go:24", after := #[{ on := 8, ground := Ground.data }, { on := 6, ground := Ground.chain }, { on := 0, ground := Ground.phase }, { on := 1, ground := Ground.phase }, { on := 2, ground := Ground.phase }, { on := 3, ground := Ground.phase }, { on := 4, ground := Ground.phase }, { on := 5, ground := Ground.phase }, { on := 6, ground := Ground.phase }, { on := 7, ground := Ground.phase }, { on := 8, ground := Ground.phase }], guard := none }) (v := ?v9) rfl (by kernel_rfl) (by kernel_rfl) (by kernel_rfl) (fun _ _ _ h => h) (Or.inl ⟨by rfl, ?hy9⟩) (by assumption) ?rest9
  case hy9 => (intro w hSw; (try dsimp only at hSw); go_simp <;> with_reducible rfl)
  try simp only [Act.put, List.setIfInBounds_toArray, List.set_cons_zero, List.set_cons_succ]
  refine wpAnyH_done (by kernel_rfl) ?_ _
  refine NoPanic.normal ?_
  go_wp2_with fail
  have hs0 : Sv w vf (hdL n l) #[.int .i64 n, .slice A l.length c] Wf := by rw [← hds_eq]; exact HSf.out
  have HS0 := Aside0.mk hs0
  clear kh0xa kh0xb kh0xc
  clear hs0 HSf cf0 cf1 ce0 ce1 hvf
  go_loopw [29, 3] (fun i s3 wr => ∃ j : Nat, i = .int .i64 j ∧ j ≤ l.length ∧ Aside0 (Sv w s3 (hdL n l ++ recsL (l.take j)) #[.int .i64 n, .slice A l.length c] wr) ∧ Aside0 (∀ y ∈ l.take j, okR y = true)) (fun i _ _ => l.length - (intOf i).toNat)
  case atStart => exact ⟨0, rfl, Nat.zero_le _, ⟨by simpa [recsL] using HS0.out⟩, ⟨by simp⟩⟩
  case round =>
    obtain ⟨j, rfl, hj, HSr, HOr⟩ := hrel
    by_cases hlt : j < l.length
    · obtain ⟨ad, ea, x0, x1, x2, x3⟩ := at_T47 HR.out (j : Int) (by omega) (by omega)
      subst ea
      rw [Int.toNat_natCast] at x0 x1 x2 x3
      rw [rd_rec l j hlt] at x0 x1 x2 x3
      replace x0 := (HSr.out.bel.cell (World.block_lt_of_cell? w _ x0)).trans x0
      replace x1 := (HSr.out.bel.cell (World.block_lt_of_cell? w _ x1)).trans x1
      replace x2 := (HSr.out.bel.cell (World.block_lt_of_cell? w _ x2)).trans x2
      replace x3 := (HSr.out.bel.cell (World.block_lt_of_cell? w _ x3)).trans x3
      obtain ⟨x, hx⟩ : ∃ x, x = l[j] := ⟨_, rfl⟩
      rw [← hx] at x0 x1 x2 x3
      have HX := Aside0.mk hx
      clear hx
      obtain ⟨Wd, hWd⟩ : ∃ W, wr.alloc (.cells #[.int .i64 x.f0, .string x.f1, .string x.f2, .int .i64 x.f3] 47) = W := ⟨_, rfl⟩
      obtain ⟨g9, hg9⟩ : ∃ g, wr.heap.size = g := ⟨_, rfl⟩
      have hyd : Wd.heap[g9]? = some (.cells #[.int .i64 x.f0, .string x.f1, .string x.f2, .int .i64 x.f3] 47 (0, 0)) := by rw [← hWd, ← hg9]; exact blk_new wr _
      have HSd : Aside0 (Sv w _ (hdL n l ++ recsL (l.take j)) #[.int .i64 n, .slice (some ad) l.length c] Wd) := ⟨by rw [← hWd]; exact HSr.out.alloc _⟩
      have v0 : Wd.cell? ⟨g9, 0, none⟩ = some (.int .i64 x.f0) := (blk_cell hyd 0).trans rfl
      have v1 : Wd.cell? ⟨g9, 1, none⟩ = some (.string x.f1) := (blk_cell hyd 1).trans rfl
      have v2 : Wd.cell? ⟨g9, 2, none⟩ = some (.string x.f2) := (blk_cell hyd 2).trans rfl
      have v3 : Wd.cell? ⟨g9, 3, none⟩ = some (.int .i64 x.f3) := (blk_cell hyd 3).trans rfl
      have HYd := Aside0.mk hyd
      clear hyd
      go_wp2_with fail
      obtain ⟨Kr, hKr⟩ := rec_ev x
      refine (spec_l5RecOK.calls Kr x.f0 x.f1 x.f2 x.f3 (okR x) Wd hKr).mono ?_
      rintro e Wl ⟨rfl, hbl⟩
      have HSL := Aside0.mk (HSd.out.below hbl)
      have HYL := Aside0.mk ((hbl.block _ (blk_lt HYd.out)).trans HYd.out)
      clear hbl HSd HYd v0 v1 v2 v3 hWd hg9 x0 x1 x2 x3 hKr
      have v0 : Wl.cell? ⟨g9, 0, none⟩ = some (.int .i64 x.f0) := (blk_cell HYL.out 0).trans rfl
      have v1 : Wl.cell? ⟨g9, 1, none⟩ = some (.string x.f1) := (blk_cell HYL.out 1).trans rfl
      have v2 : Wl.cell? ⟨g9, 2, none⟩ = some (.string x.f2) := (blk_cell HYL.out 2).trans rfl
      have v3 : Wl.cell? ⟨g9, 3, none⟩ = some (.int .i64 x.f3) := (blk_cell HYL.out 3).trans rfl
      cases hok : okR x with
      | false =>
        have hq := Aside0.mk (HRq.out.trans (bat_no n l x (by rw [HX.out]; exact List.getElem_mem _) hok).1)
        clear hok
        go_wp2_with fail
        go_ret
        exact ⟨by rw [hq.out]; rfl, HSL.out.bel⟩
      | true =>
        have HOK := Aside0.mk hok
        clear hok
        go_wp2_with fail
        have hss : x.f1.size ≤ 255 ∧ x.f2.size ≤ 65535 := by
          have := HOK.out
          unfold okR at this
          simp only [Bool.and_eq_true, decide_eq_true_eq] at this
          exact this.2
        obtain ⟨hs1, hs2⟩ := hss
        obtain ⟨Ka, hKa⟩ := num_ev 1 (by decide) x.f0
        obtain ⟨Kb, hKb⟩ := s8_ev x.f1 (by omega)
        obtain ⟨Kc, hKc⟩ := s16_ev x.f2 (by omega)
        obtain ⟨Kd, hKd⟩ := num_ev 8 (by decide) x.f3
        obtain ⟨N1, hN1⟩ : ∃ S, S = Num.bytes 1 x.f0 := ⟨_, rfl⟩
        obtain ⟨S8, hS8⟩ : ∃ S, S = s8B x.f1 := ⟨_, rfl⟩
        obtain ⟨S6, hS6⟩ : ∃ S, S = s16B x.f2 := ⟨_, rfl⟩
        obtain ⟨N8, hN8⟩ : ∃ S, S = Num.bytes 8 x.f3 := ⟨_, rfl⟩
        rw [← hN1] at hKa
        rw [← hS8] at hKb
        rw [← hS6] at hKc
        rw [← hN8] at hKd
        have zN1 : N1.size = 1 := by rw [hN1, num_size]
        have zS8 : S8.size ≤ 256 := by rw [hS8, s8B_size]; omega
        have zS6 : S6.size ≤ 65537 := by rw [hS6, s16B_size]; omega
        have zN8 : N8.size = 8 := by rw [hN8, num_size]
        have HKa := Aside0.mk hKa
        have HKb := Aside0.mk hKb
        have HKc := Aside0.mk hKc
        have HKd := Aside0.mk hKd
        have HN1 := Aside0.mk hN1
        have HS8 := Aside0.mk hS8
        have HS6 := Aside0.mk hS6
        have HN8 := Aside0.mk hN8
        have ZN1 := Aside0.mk zN1
        have ZS8 := Aside0.mk zS8
        have ZS6 := Aside0.mk zS6
        have ZN8 := Aside0.mk zN8
        have HLn : Aside0 ((hdL n l ++ recsL (l.take j)).length ≤ 40000000) := ⟨by
          have e1 := recs_le (l.take j) HOr.out
          rw [List.length_append, hdL_length]
          rw [List.length_take] at e1
          have e2 : min j l.length * 65802 ≤ 500 * 65802 := Nat.mul_le_mul_right _ (by omega)
          omega⟩
        clear hKa hKb hKc hKd hN1 hS8 hS6 hN8
        have hcat : (N1).size + (S8).size ≤ 9223372036854775807 := by (try simp only [ByteArray.size_append]); omega
        have kt0xa := eq_true hcat
        have kt0xb : decide ((N1).size + (S8).size ≤ 9223372036854775807) = true := decide_eq_true hcat
        have kt0xc : (9223372036854775807 < (N1).size + (S8).size) = False := eq_false (Nat.not_lt.2 hcat)
        clear hcat
        have hcat : (N1 ++ S8).size + (S6).size ≤ 9223372036854775807 := by (try simp only [ByteArray.size_append]); omega
        have kt1xa := eq_true hcat
        have kt1xb : decide ((N1 ++ S8).size + (S6).size ≤ 9223372036854775807) = true := decide_eq_true hcat
        have kt1xc : (9223372036854775807 < (N1 ++ S8).size + (S6).size) = False := eq_false (Nat.not_lt.2 hcat)
        clear hcat
        have hcat : (N1).size + (S8).size + (S6).size ≤ 9223372036854775807 := by (try simp only [ByteArray.size_append]); omega
        have kt1ya := eq_true hcat
        have kt1yb : decide ((N1).size + (S8).size + (S6).size ≤ 9223372036854775807) = true := decide_eq_true hcat
        have kt1yc : (9223372036854775807 < (N1).size + (S8).size + (S6).size) = False := eq_false (Nat.not_lt.2 hcat)
        clear hcat
        have hcat : (N1 ++ S8 ++ S6).size + (N8).size ≤ 9223372036854775807 := by (try simp only [ByteArray.size_append]); omega
        have kt2xa := eq_true hcat
        have kt2xb : decide ((N1 ++ S8 ++ S6).size + (N8).size ≤ 9223372036854775807) = true := decide_eq_true hcat
        have kt2xc : (9223372036854775807 < (N1 ++ S8 ++ S6).size + (N8).size) = False := eq_false (Nat.not_lt.2 hcat)
        clear hcat
        have hcat : (N1).size + (S8).size + (S6).size + (N8).size ≤ 9223372036854775807 := by (try simp only [ByteArray.size_append]); omega
        have kt2ya := eq_true hcat
        have kt2yb : decide ((N1).size + (S8).size + (S6).size + (N8).size ≤ 9223372036854775807) = true := decide_eq_true hcat
        have kt2yc : (9223372036854775807 < (N1).size + (S8).size + (S6).size + (N8).size) = False := eq_false (Nat.not_lt.2 hcat)
        clear hcat
        clear zN1 zS8 zS6 zN8 hs1 hs2
        go_region_held3 (fun W' => W'.cell? ⟨g9, 0, none⟩ = some (.int .i64 x.f0) ∧ W'.cell? ⟨g9, 1, none⟩ = some (.string x.f1) ∧ W'.cell? ⟨g9, 2, none⟩ = some (.string x.f2) ∧ W'.cell? ⟨g9, 3, none⟩ = some (.int .i64 x.f3))
          (first | exact ⟨v0, v1, v2, v3⟩ | exact ⟨ct10, ct11, ct12, ct13⟩ | exact ⟨ct20, ct21, ct22, ct23⟩ | exact ⟨ct30, ct31, ct32, ct33⟩ | exact ⟨ct40, ct41, ct42, ct43⟩ | exact ⟨ct50, ct51, ct52, ct53⟩)
          (first | (go_at_call 20; have _t := HSL; clear _t; refine (spec_l2Num.calls Ka 1 x.f0 N1 _ HKa.out).mono ?_; rintro e Wt1 ⟨rfl, hbt1⟩; have HSt1 := Aside0.mk (HSL.out.drew.below hbt1); have Hybt1 := Aside0.mk ((hbt1.block _ (blk_lt HYL.out)).trans HYL.out); have ct10 : Wt1.cell? ⟨g9, 0, none⟩ = some (.int .i64 x.f0) := (blk_cell Hybt1.out 0).trans rfl; have ct11 : Wt1.cell? ⟨g9, 1, none⟩ = some (.string x.f1) := (blk_cell Hybt1.out 1).trans rfl; have ct12 : Wt1.cell? ⟨g9, 2, none⟩ = some (.string x.f2) := (blk_cell Hybt1.out 2).trans rfl; have ct13 : Wt1.cell? ⟨g9, 3, none⟩ = some (.int .i64 x.f3) := (blk_cell Hybt1.out 3).trans rfl; clear hbt1 HSL)
                 | (go_at_call 22; have _t := HSt1; clear _t; refine (spec_l2S8.calls Kb x.f1 S8 _ HKb.out).mono ?_; rintro e Wt2 ⟨rfl, hbt2⟩; have HSt2 := Aside0.mk (HSt1.out.below hbt2); have Hybt2 := Aside0.mk ((hbt2.block _ (blk_lt Hybt1.out)).trans Hybt1.out); have ct20 : Wt2.cell? ⟨g9, 0, none⟩ = some (.int .i64 x.f0) := (blk_cell Hybt2.out 0).trans rfl; have ct21 : Wt2.cell? ⟨g9, 1, none⟩ = some (.string x.f1) := (blk_cell Hybt2.out 1).trans rfl; have ct22 : Wt2.cell? ⟨g9, 2, none⟩ = some (.string x.f2) := (blk_cell Hybt2.out 2).trans rfl; have ct23 : Wt2.cell? ⟨g9, 3, none⟩ = some (.int .i64 x.f3) := (blk_cell Hybt2.out 3).trans rfl; clear hbt2 HSt1)
                 | (go_at_call 23; have _t := HSt2; clear _t; refine (spec_l2S16.calls Kc x.f2 S6 _ HKc.out).mono ?_; rintro e Wt3 ⟨rfl, hbt3⟩; have HSt3 := Aside0.mk (HSt2.out.below hbt3); have Hybt3 := Aside0.mk ((hbt3.block _ (blk_lt Hybt2.out)).trans Hybt2.out); have ct30 : Wt3.cell? ⟨g9, 0, none⟩ = some (.int .i64 x.f0) := (blk_cell Hybt3.out 0).trans rfl; have ct31 : Wt3.cell? ⟨g9, 1, none⟩ = some (.string x.f1) := (blk_cell Hybt3.out 1).trans rfl; have ct32 : Wt3.cell? ⟨g9, 2, none⟩ = some (.string x.f2) := (blk_cell Hybt3.out 2).trans rfl; have ct33 : Wt3.cell? ⟨g9, 3, none⟩ = some (.int .i64 x.f3) := (blk_cell Hybt3.out 3).trans rfl; clear hbt3 HSt2)
                 | (go_at_call 20; have _t := HSt3; clear _t; refine (spec_l2Num.calls Kd 8 x.f3 N8 _ HKd.out).mono ?_; rintro e Wt4 ⟨rfl, hbt4⟩; have HSt4 := Aside0.mk (HSt3.out.below hbt4); have Hybt4 := Aside0.mk ((hbt4.block _ (blk_lt Hybt3.out)).trans Hybt3.out); have ct40 : Wt4.cell? ⟨g9, 0, none⟩ = some (.int .i64 x.f0) := (blk_cell Hybt4.out 0).trans rfl; have ct41 : Wt4.cell? ⟨g9, 1, none⟩ = some (.string x.f1) := (blk_cell Hybt4.out 1).trans rfl; have ct42 : Wt4.cell? ⟨g9, 2, none⟩ = some (.string x.f2) := (blk_cell Hybt4.out 2).trans rfl; have ct43 : Wt4.cell? ⟨g9, 3, none⟩ = some (.int .i64 x.f3) := (blk_cell Hybt4.out 3).trans rfl; clear hbt4 HSt3)
                 | (have _t := HSt4; clear _t; (with_reducible refine if_gate ?_); refine step_app ?hw_t5 (.tmp 36) (.tmp 51) (by rfl) w.heap.size _ _ (N1 ++ S8 ++ S6 ++ N8) (by rfl) (by rfl) HSt4.out.own HSt4.out.bel.size ?hl_t5 ?_; (case hw_t5 => rfl); (case hl_t5 => have h1 := HLn.out; have h2 := ZS8.out; have h3 := ZS6.out; have h4 := ZN1.out; have h5 := ZN8.out; simp only [ByteArray.size_append]; omega); intro vt5 Wt5 ho hg; have HSt5 := Aside0.mk (HSt4.out.app ho hg); have Hybt5 := Aside0.mk (blk_grown Hybt4.out hg (HSt4.out.own.ne Hybt4.out (by decide))); have ct50 : Wt5.cell? ⟨g9, 0, none⟩ = some (.int .i64 x.f0) := (blk_cell Hybt5.out 0).trans rfl; have ct51 : Wt5.cell? ⟨g9, 1, none⟩ = some (.string x.f1) := (blk_cell Hybt5.out 1).trans rfl; have ct52 : Wt5.cell? ⟨g9, 2, none⟩ = some (.string x.f2) := (blk_cell Hybt5.out 2).trans rfl; have ct53 : Wt5.cell? ⟨g9, 3, none⟩ = some (.int .i64 x.f3) := (blk_cell Hybt5.out 3).trans rfl; clear ho hg HSt4))
        clear kt0xa kt0xb kt0xc kt1xa kt1xb kt1xc kt1ya kt1yb kt1yc kt2xa kt2xb kt2xc kt2ya kt2yb kt2yc
        go_wp2_with fail
        go_roundw
        case rel =>
          refine ⟨j + 1, by go_num, by omega, ⟨?_⟩, ⟨fun y hy => ?_⟩⟩
          · have := HSt5.out
            have e2 : hdL n l ++ recsL (l.take j) ++ (N1 ++ S8 ++ S6 ++ N8).data.toList = hdL n l ++ recsL (l.take (j + 1)) := by
              rw [take_snoc l j hlt, recs_snoc, ← HX.out, app_, app_, app_, HN1.out, HS8.out, HS6.out, HN8.out, s8B_list, s16B_list]
              unfold recL nL
              simp only [List.append_assoc]
            rw [← e2]
            exact this
          · rw [take_snoc l j hlt] at hy
            rcases List.mem_append.1 hy with hy | hy
            · exact HOr.out y hy
            · rw [List.mem_singleton] at hy
              rw [hy, ← HX.out]
              exact HOK.out
        case measure => simp [intOf]; omega
    · obtain rfl : j = l.length := by omega
      have hfin := Aside0.mk (show bat n l = ⟨(hdL n l ++ recsL (l.take l.length)).toArray⟩ by
        have ha : l.all okR = true := by
          have := HOr.out
          rw [List.take_of_length_le (Nat.le_refl _)] at this
          exact List.all_eq_true.2 this
        unfold bat batOK
        rw [ha, decide_eq_true HN.out, decide_eq_true HL.out, List.take_of_length_le (Nat.le_refl _)]
        rfl)
      have htx := Byt.text wr w.heap.size _ _ HSr.out.own
      rw [← hfin.out, ← HRq.out] at htx
      go_wp2_with fail
      go_ret
      exact ⟨rfl, HSr.out.bel⟩
end BatS
def spec_EncodeBatch.f (n : Int) (l : List Bat.Rc) : Option ByteArray := some (Bat.bat n l)
theorem spec_EncodeBatch.calls (n : Int) (A : Option Addr) (c : Nat) (l : List Bat.Rc) (r : ByteArray) (w : World) (hr : Kd.C k47 w A l.length l) (hc : l.length ≤ c) (h : spec_EncodeBatch.f n l = some r) :
    Calls Tryd.prog 7 #[.agg #[.int .i64 n, .slice A l.length c]] w fun e w' => e = .returned (.string r) ∧ Below w.heap.size w w' := by
  obtain rfl := Option.some.inj h
  by_cases hn : 1 ≤ n ∧ n ≤ 1000000000000000
  · by_cases hl : 1 ≤ l.length ∧ l.length ≤ 500
    · exact BatS.good n A c l w hr hc hn hl
    · exact BatS.bad2 n A c l w hr hc hn hl
  · exact BatS.bad1 n A c l w hr hc hn
end Go.Proofs.YtogoblkehdmapaaDoor.M
