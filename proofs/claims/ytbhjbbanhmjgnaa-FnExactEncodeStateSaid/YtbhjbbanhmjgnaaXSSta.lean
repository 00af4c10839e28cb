/- spec.EncodeState: the state's bytes, in a slice of bytes. -/
import Derived.Deep.RegionHeld3
import Derived.Deep.DeepCutAuto
import Derived.BigQuiet
import Derived.Test.YtbhjbbanhmjgnaaXSta
import Derived.Test.YtbhjbbanhmjgnaaXByt
import Derived.Test.YtbhjbbanhmjgnaaSpecNum
import Derived.Test.YtbhjbbanhmjgnaaSmall
import Derived.Test.YtbhjbbanhmjgnaaF33
import Derived.Test.YtbhjbbanhmjgnaaF35
import Derived.Test.YtbhjbbanhmjgnaaF36
import Derived.Test.YtbhjbbanhmjgnaaF37
namespace Go.Proofs.Ytbhjbbanhmjgnaa.M
open Go.RowKit Go.Shelf Go.Proofs.YtbhjbbanhmjgnaaW.PrintWords Go.Proofs.YtbhjbbanhmjgnaaW.PrintLast Go.Proofs.YtbhjbbanhmjgnaaW.PrintMore
set_option linter.unusedVariables false
set_option linter.unusedSimpArgs false
namespace EncS
open Enc
theorem num_ev (m : Nat) (hm : m ≤ 8) (v : Int) : ∃ K, spec_l2Num.f K (m : Int) v = some (Num.bytes m v) := by
  obtain ⟨K, h⟩ := NumPlain.spec_num v m hm
  exact ⟨K, h K (Nat.le_refl _)⟩
theorem s8_ev (s : ByteArray) (h : s.size ≤ 9223372036854775000) : ∃ K, spec_l2S8.f K s = some (s8B s) := by
  obtain ⟨K, hK⟩ := num_ev 1 (by decide) s.size
  refine ⟨K, ?_⟩
  have hK' : spec_l2Num.f K 1 (s.size : Int) = some (Num.bytes 1 s.size) := hK
  unfold spec_l2S8.f
  rw [hK', Option.bind_some, if_pos (by rw [num_size]; omega)]; rfl
theorem s16_ev (s : ByteArray) (h : s.size ≤ 9223372036854775000) : ∃ K, spec_l2S16.f K s = some (s16B s) := by
  obtain ⟨K, hK⟩ := num_ev 2 (by decide) s.size
  refine ⟨K, ?_⟩
  have hK' : spec_l2Num.f K 2 (s.size : Int) = some (Num.bytes 2 s.size) := hK
  unfold spec_l2S16.f
  rw [hK', Option.bind_some, if_pos (by rw [num_size]; omega)]; rfl
theorem if_gate {c : Prop} [Decidable c] {X Y : Prop} (h : if c then X else Y) : if c then X else Y := h
section
variable {ops : Array Oper} {rest : List Oper} {o : Oper} {a : Act} {Q : Exit → Act → World → Prop} {w : World}
theorem step_conv {K : Act → World → Prop} {E : Prop} (hgd : o.guard = none) (x : Operand) (ho : o.op = .convert 9 54 x) (s : ByteArray) (hx : a.eval x = .string s) (hs : s.size ≤ 140737488355328)
    (h : ∀ v' w', Byt.Own w.heap.size v' s.data.toList w' → Below w.heap.size w w' → K (a.put o.dst v') w') : if Region.wanted o (yielded ops a.tmps) = true then Oper.wp Try.prog o a w K Q else E := by
  have hw : Region.wanted o (yielded ops a.tmps) = true := by simp [Region.wanted, hgd]
  rw [if_pos hw]
  obtain ⟨v', w', hr, h2, h3⟩ := Byt.conv w s hs
  unfold Oper.wp execOp
  simp only [ho, Sem.run_bind, Sem.run_pure, Result.andThen_ok, hx, hr]
  exact h v' w' h2 h3
theorem step_app {c : Prop} [Decidable c] {K : Act → World → Prop} {E : Prop} (hw : c) (sl x : Operand) (ho : o.op = .call { callee := .builtin .append, args := #[sl, x], argTypes := #[54, 9] }) (base : Nat) (v : Value) (l : List UInt8) (s : ByteArray) (hs : a.eval sl = v) (hx : a.eval x = .string s)
    (hown : Byt.Own base v l w) (hb : base ≤ w.heap.size) (hn : l.length + s.size ≤ 140737488355328)
    (h : ∀ v' w', Byt.Own base v' (l ++ s.data.toList) w' → w.grownBy w' v.ownBlock → K (a.put o.dst v') w') : if c then Oper.wp Try.prog o a w K Q else E := by
  rw [if_pos hw]
  exact Byt.wp_append sl x ho base v l s hs hx hown hb hn h
end
/-- The world of a call that holds a state's box. -/
structure Sg (w : World) (BX : Array Value) (W : World) : Prop where
  box : W.heap[w.heap.size]? = some (.cells BX 40 (0, 0))
  bel : Below w.heap.size w W
theorem Sg.below {w : World} {BX : Array Value} {W W' : World} (h : Sg w BX W) (hb : Below W.heap.size W W') : Sg w BX W' :=
  ⟨(hb.block _ (blk_lt h.box)).trans h.box, below_then h.bel h.bel.size hb⟩
theorem Sg.drew {w : World} {BX : Array Value} {W : World} (h : Sg w BX W) : Sg w BX W.drew := ⟨h.box, below_drew1 h.bel⟩
/-- The world of a call that holds a state's box and a slice of bytes. -/
structure Sv (w : World) (v : Value) (L : List UInt8) (BX : Array Value) (W : World) : Prop where
  own : Byt.Own w.heap.size v L W
  box : W.heap[w.heap.size]? = some (.cells BX 40 (0, 0))
  bel : Below w.heap.size w W
theorem Sg.start {w : World} {v : Value} {L : List UInt8} {BX : Array Value} {W W' : World} (h : Sg w BX W) (ho : Byt.Own W.heap.size v L W') (hb : Below W.heap.size W W') : Sv w v L BX W' :=
  ⟨ho.weaken h.bel.size, (h.below hb).box, (h.below hb).bel⟩
theorem Sv.below {w : World} {v : Value} {L : List UInt8} {BX : Array Value} {W W' : World} (h : Sv w v L BX W) (hb : Below W.heap.size W W') : Sv w v L BX W' :=
  ⟨h.own.below hb, (hb.block _ (blk_lt h.box)).trans h.box, below_then h.bel h.bel.size hb⟩
theorem Sv.alloc {w : World} {v : Value} {L : List UInt8} {BX : Array Value} {W : World} (h : Sv w v L BX W) (o : Obj) : Sv w v L BX (W.alloc o) := h.below ((Below.refl _ W).alloc (Nat.le_refl _) _)
theorem Sv.drew {w : World} {v : Value} {L : List UInt8} {BX : Array Value} {W : World} (h : Sv w v L BX W) : Sv w v L BX W.drew := ⟨h.own.drew, h.box, below_drew1 h.bel⟩
theorem Sv.app {w : World} {v v' : Value} {L L' : List UInt8} {BX : Array Value} {W W' : World} (h : Sv w v L BX W) (ho : Byt.Own w.heap.size v' L' W') (hg : W.grownBy W' v.ownBlock) : Sv w v' L' BX W' :=
  ⟨ho, blk_grown h.box hg (h.own.ne h.box (by decide)), h.bel.grown hg h.bel.size h.own.ge⟩
theorem hds_eq (n now : Int) (l : List S77) : ((⟨#[67, 75, 80, 84]⟩ : ByteArray) ++ Num.bytes 8 n ++ Num.bytes 8 now ++ Num.bytes 4 l.length).data.toList = hdL n now l := by
  rw [app_, app_, app_]
  rfl
theorem crc_spec (l : List UInt8) (h : l.length ≤ 9223372036854775807) : ∃ K, spec_Crc32c.f K ⟨l.toArray⟩ = some (crcOf l) := by
  obtain ⟨c, ⟨K, h1⟩, h2, _⟩ := CrcPlain.spec_crc ⟨l.toArray⟩ h
  refine ⟨K, ?_⟩
  unfold crcOf
  rw [h2, h1]; rfl
theorem Sv.name {w : World} {v : Value} {L : List UInt8} {BX : Array Value} {W : World} (_h : Sv w v L BX W) : ∃ s, s = v := ⟨v, rfl⟩
theorem cat_le {a b : ByteArray} {n : Nat} (h : a.size + b.size ≤ n) : (a ++ b).size ≤ n := by rw [ByteArray.size_append]; exact h

set_option maxHeartbeats 40000000 in
set_option maxRecDepth 100000 in
theorem sta_bad (n now : Int) (A : Option Addr) (c : Nat) (l : List S77) (w : World) (hr : Kd.C k77 w A l.length l) (hc : l.length ≤ c) (hn : ¬ (0 ≤ n ∧ n ≤ 1000000000000000)) :
    Calls Try.prog 12 #[.int .i64 n, .agg #[.int .i64 now, .slice A l.length c]] w fun e w' => e = .returned (.string (sta n now l)) ∧ Below w.heap.size w w' := by
  obtain ⟨R, hR⟩ : ∃ R, R = sta n now l := ⟨_, rfl⟩
  rw [← hR]
  have HRq := Aside0.mk hR
  have HR := Aside0.mk hr
  clear hR hr
  obtain ⟨W1, hW1⟩ : ∃ W, w.alloc (.cells #[.int .i64 now, .slice A l.length c] 40) = W := ⟨_, rfl⟩
  have HB1 : Aside0 (Below w.heap.size w W1) := ⟨by rw [← hW1]; exact (Below.refl _ w).alloc (Nat.le_refl _) _⟩
  have hx1 : W1.heap[w.heap.size]? = some (.cells #[.int .i64 now, .slice A l.length c] 40 (0, 0)) := by rw [← hW1]; exact blk_new w _
  have HX1 := Aside0.mk hx1
  have ca0 : W1.cell? ⟨w.heap.size, 0, none⟩ = some (.int .i64 now) := (blk_cell hx1 0).trans rfl
  have ca1 : W1.cell? ⟨w.heap.size, 1, none⟩ = some (.slice A l.length c) := (blk_cell hx1 1).trans rfl
  clear hx1
  have hq := Aside0.mk (HRq.out.trans (sta_no (fun h => hn h.1)))
  have HN := Aside0.mk hn
  clear hn
  go_enter Try.func12, Try.ntmps12
  go_wp2_with fail
  clear hW1
  refine (spec_l1Between.calls n 0 1000000000000000 false W1 (by rw [FramePlain.between_eq, decide_eq_false (by have := HN.out; omega)])).mono ?_
  rintro e W2 ⟨rfl, hd2⟩
  have hb2 := hd2.below
  have HG := Aside0.mk (Sg.below ⟨HX1.out, HB1.out⟩ hb2)
  have cb0 : W2.cell? ⟨w.heap.size, 0, none⟩ = some (.int .i64 now) := (blk_cell HG.out.box 0).trans rfl
  have cb1 : W2.cell? ⟨w.heap.size, 1, none⟩ = some (.slice A l.length c) := (blk_cell HG.out.box 1).trans rfl
  clear ca0 ca1 hd2 hb2 HX1 HB1
  go_wp2_with fail
  go_ret
  exact ⟨by rw [hq.out]; rfl, HG.out.bel⟩

set_option maxHeartbeats 40000000 in
set_option maxRecDepth 100000 in
theorem sta_good (n now : Int) (A : Option Addr) (c : Nat) (l : List S77) (w : World) (hr : Kd.C k77 w A l.length l) (hc : l.length ≤ c) (hf : Fits l) (hn : 0 ≤ n ∧ n ≤ 1000000000000000) :
    Calls Try.prog 12 #[.int .i64 n, .agg #[.int .i64 now, .slice A l.length c]] w fun e w' => e = .returned (.string (sta n now l)) ∧ Below w.heap.size w w' := by
  obtain ⟨R, hR⟩ : ∃ R, R = sta n now l := ⟨_, rfl⟩
  rw [← hR]
  have HRq := Aside0.mk hR
  have HR := Aside0.mk hr
  clear hR hr
  obtain ⟨W1, hW1⟩ : ∃ W, w.alloc (.cells #[.int .i64 now, .slice A l.length c] 40) = W := ⟨_, rfl⟩
  have HB1 : Aside0 (Below w.heap.size w W1) := ⟨by rw [← hW1]; exact (Below.refl _ w).alloc (Nat.le_refl _) _⟩
  have hx1 : W1.heap[w.heap.size]? = some (.cells #[.int .i64 now, .slice A l.length c] 40 (0, 0)) := by rw [← hW1]; exact blk_new w _
  have HX1 := Aside0.mk hx1
  have ca0 : W1.cell? ⟨w.heap.size, 0, none⟩ = some (.int .i64 now) := (blk_cell hx1 0).trans rfl
  have ca1 : W1.cell? ⟨w.heap.size, 1, none⟩ = some (.slice A l.length c) := (blk_cell hx1 1).trans rfl
  clear hx1
  have hl6 : l.length ≤ 1048576 := by unfold Fits at hf; omega
  have HFit := Aside0.mk (tens_fit hf)
  have HN := Aside0.mk hn
  clear hf hn
  go_enter Try.func12, Try.ntmps12
  go_wp2_with fail
  clear hW1
  refine (spec_l1Between.calls n 0 1000000000000000 true W1 (by rw [FramePlain.between_eq, decide_eq_true (by have := HN.out; omega)])).mono ?_
  rintro e W2 ⟨rfl, hd2⟩
  have hb2 := hd2.below
  have HG := Aside0.mk (Sg.below ⟨HX1.out, HB1.out⟩ hb2)
  have cb0 : W2.cell? ⟨w.heap.size, 0, none⟩ = some (.int .i64 now) := (blk_cell HG.out.box 0).trans rfl
  have cb1 : W2.cell? ⟨w.heap.size, 1, none⟩ = some (.slice A l.length c) := (blk_cell HG.out.box 1).trans rfl
  clear ca0 ca1 hd2 hb2 HX1 HB1
  go_wp2_with fail
  obtain ⟨K1, hK1⟩ := num_ev 8 (by decide) n
  obtain ⟨K2, hK2⟩ := num_ev 8 (by decide) now
  obtain ⟨K3, hK3⟩ := num_ev 4 (by decide) l.length
  have HK1 := Aside0.mk hK1
  have HK2 := Aside0.mk hK2
  have HK3 := Aside0.mk hK3
  clear hK1 hK2 hK3
  have hcat : ((⟨#[67, 75, 80, 84]⟩ : ByteArray)).size + (Num.bytes 8 n).size ≤ 9223372036854775807 := by (try simp only [ByteArray.size_append, num_size, s8B_size, s16B_size, show (⟨#[67, 75, 80, 84]⟩ : ByteArray).size = 4 from rfl]); omega
  have kh0xa := eq_true hcat
  have kh0xb : decide (((⟨#[67, 75, 80, 84]⟩ : ByteArray)).size + (Num.bytes 8 n).size ≤ 9223372036854775807) = true := decide_eq_true hcat
  have kh0xc : (9223372036854775807 < ((⟨#[67, 75, 80, 84]⟩ : ByteArray)).size + (Num.bytes 8 n).size) = False := eq_false (Nat.not_lt.2 hcat)
  clear hcat
  have hcat : 4 + (Num.bytes 8 n).size ≤ 9223372036854775807 := by (try simp only [ByteArray.size_append, num_size, s8B_size, s16B_size, show (⟨#[67, 75, 80, 84]⟩ : ByteArray).size = 4 from rfl]); omega
  have kh0ya := eq_true hcat
  have kh0yb : decide (4 + (Num.bytes 8 n).size ≤ 9223372036854775807) = true := decide_eq_true hcat
  have kh0yc : (9223372036854775807 < 4 + (Num.bytes 8 n).size) = False := eq_false (Nat.not_lt.2 hcat)
  clear hcat
  have hcat : ((⟨#[67, 75, 80, 84]⟩ : ByteArray) ++ Num.bytes 8 n).size + (Num.bytes 8 now).size ≤ 9223372036854775807 := by (try simp only [ByteArray.size_append, num_size, s8B_size, s16B_size, show (⟨#[67, 75, 80, 84]⟩ : ByteArray).size = 4 from rfl]); omega
  have kh1xa := eq_true hcat
  have kh1xb : decide (((⟨#[67, 75, 80, 84]⟩ : ByteArray) ++ Num.bytes 8 n).size + (Num.bytes 8 now).size ≤ 9223372036854775807) = true := decide_eq_true hcat
  have kh1xc : (9223372036854775807 < ((⟨#[67, 75, 80, 84]⟩ : ByteArray) ++ Num.bytes 8 n).size + (Num.bytes 8 now).size) = False := eq_false (Nat.not_lt.2 hcat)
  clear hcat
  have hcat : ((⟨#[67, 75, 80, 84]⟩ : ByteArray)).size + (Num.bytes 8 n).size + (Num.bytes 8 now).size ≤ 9223372036854775807 := by (try simp only [ByteArray.size_append, num_size, s8B_size, s16B_size, show (⟨#[67, 75, 80, 84]⟩ : ByteArray).size = 4 from rfl]); omega
  have kh1ya := eq_true hcat
  have kh1yb : decide (((⟨#[67, 75, 80, 84]⟩ : ByteArray)).size + (Num.bytes 8 n).size + (Num.bytes 8 now).size ≤ 9223372036854775807) = true := decide_eq_true hcat
  have kh1yc : (9223372036854775807 < ((⟨#[67, 75, 80, 84]⟩ : ByteArray)).size + (Num.bytes 8 n).size + (Num.bytes 8 now).size) = False := eq_false (Nat.not_lt.2 hcat)
  clear hcat
  have hcat : 4 + (Num.bytes 8 n).size + (Num.bytes 8 now).size ≤ 9223372036854775807 := by (try simp only [ByteArray.size_append, num_size, s8B_size, s16B_size, show (⟨#[67, 75, 80, 84]⟩ : ByteArray).size = 4 from rfl]); omega
  have kh1za := eq_true hcat
  have kh1zb : decide (4 + (Num.bytes 8 n).size + (Num.bytes 8 now).size ≤ 9223372036854775807) = true := decide_eq_true hcat
  have kh1zc : (9223372036854775807 < 4 + (Num.bytes 8 n).size + (Num.bytes 8 now).size) = False := eq_false (Nat.not_lt.2 hcat)
  clear hcat
  have hcat : ((⟨#[67, 75, 80, 84]⟩ : ByteArray) ++ Num.bytes 8 n ++ Num.bytes 8 now).size + (Num.bytes 4 l.length).size ≤ 9223372036854775807 := by (try simp only [ByteArray.size_append, num_size, s8B_size, s16B_size, show (⟨#[67, 75, 80, 84]⟩ : ByteArray).size = 4 from rfl]); omega
  have kh2xa := eq_true hcat
  have kh2xb : decide (((⟨#[67, 75, 80, 84]⟩ : ByteArray) ++ Num.bytes 8 n ++ Num.bytes 8 now).size + (Num.bytes 4 l.length).size ≤ 9223372036854775807) = true := decide_eq_true hcat
  have kh2xc : (9223372036854775807 < ((⟨#[67, 75, 80, 84]⟩ : ByteArray) ++ Num.bytes 8 n ++ Num.bytes 8 now).size + (Num.bytes 4 l.length).size) = False := eq_false (Nat.not_lt.2 hcat)
  clear hcat
  have hcat : ((⟨#[67, 75, 80, 84]⟩ : ByteArray)).size + (Num.bytes 8 n).size + (Num.bytes 8 now).size + (Num.bytes 4 l.length).size ≤ 9223372036854775807 := by (try simp only [ByteArray.size_append, num_size, s8B_size, s16B_size, show (⟨#[67, 75, 80, 84]⟩ : ByteArray).size = 4 from rfl]); omega
  have kh2ya := eq_true hcat
  have kh2yb : decide (((⟨#[67, 75, 80, 84]⟩ : ByteArray)).size + (Num.bytes 8 n).size + (Num.bytes 8 now).size + (Num.bytes 4 l.length).size ≤ 9223372036854775807) = true := decide_eq_true hcat
  have kh2yc : (9223372036854775807 < ((⟨#[67, 75, 80, 84]⟩ : ByteArray)).size + (Num.bytes 8 n).size + (Num.bytes 8 now).size + (Num.bytes 4 l.length).size) = False := eq_false (Nat.not_lt.2 hcat)
  clear hcat
  have hcat : 4 + (Num.bytes 8 n).size + (Num.bytes 8 now).size + (Num.bytes 4 l.length).size ≤ 9223372036854775807 := by (try simp only [ByteArray.size_append, num_size, s8B_size, s16B_size, show (⟨#[67, 75, 80, 84]⟩ : ByteArray).size = 4 from rfl]); omega
  have kh2za := eq_true hcat
  have kh2zb : decide (4 + (Num.bytes 8 n).size + (Num.bytes 8 now).size + (Num.bytes 4 l.length).size ≤ 9223372036854775807) = true := decide_eq_true hcat
  have kh2zc : (9223372036854775807 < 4 + (Num.bytes 8 n).size + (Num.bytes 8 now).size + (Num.bytes 4 l.length).size) = False := eq_false (Nat.not_lt.2 hcat)
  clear hcat
  refine wp_region_noPanic ?_
  refine wp_region_held_drew (S := fun W' => W'.cell? ⟨w.heap.size, 0, none⟩ = some (.int .i64 now) ∧ W'.cell? ⟨w.heap.size, 1, none⟩ = some (.slice A l.length c)) (by kernel_rfl) ⟨cb0, cb1⟩ (fun hHeld => ?_)
  refine wpAnyH_take (i := 0) (oi := { dst := some 15, op := Op.move (Operand.tmp 0), type := 3, pos := "l5_node.go:101", after := #[], guard := none }) (v := ?v0) rfl (by kernel_rfl) (by kernel_rfl) (by kernel_rfl) (fun _ _ _ h => h) (Or.inl ⟨by rfl, ?hy0⟩) (by assumption) ?rest0
  case hy0 => (intro w hSw; (try dsimp only at hSw); go_simp <;> with_reducible rfl)
  try simp only [Act.put, List.setIfInBounds_toArray, List.set_cons_zero, List.set_cons_succ]
  refine wpAnyH_take (i := 3) (oi := { dst := some 18, op := Op.fieldAddr 40 (Operand.tmp 3) 0, type := 0, pos := "l5_node.go:101", after := #[], guard := none }) (v := ?v3) rfl (by kernel_rfl) (by kernel_rfl) (by kernel_rfl) (fun _ _ _ h => h) (Or.inl ⟨by rfl, ?hy3⟩) (by assumption) ?rest3
  case hy3 => (intro w hSw; (try dsimp only at hSw); go_simp <;> with_reducible rfl)
  try simp only [Act.put, List.setIfInBounds_toArray, List.set_cons_zero, List.set_cons_succ]
  refine wpAnyH_take (i := 4) (oi := { dst := some 19, op := Op.load 3 (Operand.tmp 18), type := 3, pos := "l5_node.go:101", after := #[{ on := 3, ground := Ground.data }], guard := none }) (v := ?v4) rfl (by kernel_rfl) (by kernel_rfl) (by kernel_rfl) (fun _ _ _ h => h) (Or.inl ⟨by rfl, ?hy4⟩) (by assumption) ?rest4
  case hy4 => (intro w hSw; (try dsimp only at hSw); go_simp <;> with_reducible rfl)
  try simp only [Act.put, List.setIfInBounds_toArray, List.set_cons_zero, List.set_cons_succ]
  refine wpAnyH_take (i := 7) (oi := { dst := some 22, op := Op.fieldAddr 40 (Operand.tmp 3) 1, type := 0, pos := "l5_node.go:101", after := #[], guard := none }) (v := ?v7) rfl (by kernel_rfl) (by kernel_rfl) (by kernel_rfl) (fun _ _ _ h => h) (Or.inl ⟨by rfl, ?hy7⟩) (by assumption) ?rest7
  case hy7 => (intro w hSw; (try dsimp only at hSw); go_simp <;> with_reducible rfl)
  try simp only [Act.put, List.setIfInBounds_toArray, List.set_cons_zero, List.set_cons_succ]
  refine wpAnyH_take (i := 8) (oi := { dst := some 23, op := Op.load 38 (Operand.tmp 22), type := 38, pos := "l5_node.go:101", after := #[{ on := 7, ground := Ground.data }], guard := none }) (v := ?v8) rfl (by kernel_rfl) (by kernel_rfl) (by kernel_rfl) (fun _ _ _ h => h) (Or.inl ⟨by rfl, ?hy8⟩) (by assumption) ?rest8
  case hy8 => (intro w hSw; (try dsimp only at hSw); go_simp <;> with_reducible rfl)
  try simp only [Act.put, List.setIfInBounds_toArray, List.set_cons_zero, List.set_cons_succ]
  refine wpAnyH_take (i := 9) (oi := { dst := some 24, op := Op.call { callee := Callee.builtin Builtin.len, args := #[Operand.tmp 23], argTypes := #[38] }, type := 3, pos := "l5_node.go:101", after := #[{ on := 8, ground := Ground.data }], guard := none }) (v := ?v9) rfl (by kernel_rfl) (by kernel_rfl) (by kernel_rfl) (fun _ _ _ h => h) (Or.inl ⟨by rfl, ?hy9⟩) (by assumption) ?rest9
  case hy9 => (intro w hSw; (try dsimp only at hSw); go_simp <;> with_reducible rfl)
  try simp only [Act.put, List.setIfInBounds_toArray, List.set_cons_zero, List.set_cons_succ]
  refine wpAnyH_ready (rs := [1]) (by kernel_rfl) (by simp) ?_
  refine AllReadyH.cons (o := { dst := some 16, op := Op.call { callee := Callee.value (Operand.func 34), args := #[Operand.const (Value.int IntKind.i64 8), Operand.tmp 15], argTypes := #[3, 3] }, type := 9, pos := "l5_node.go:101", after := #[{ on := 0, ground := Ground.data }], guard := none }) rfl (fun K hK => ?_) AllReadyH.nil
  go_simp
  go_at_call 34
  have _t := HG
  clear _t
  refine (spec_l2Num.calls K1 8 n (Num.bytes 8 n) _ HK1.out).mono ?_
  rintro e Wc ⟨rfl, hbc⟩
  have HSc := Aside0.mk (HG.out.drew.below hbc)
  have cc0 : Wc.cell? ⟨w.heap.size, 0, none⟩ = some (.int .i64 now) := (blk_cell HSc.out.box 0).trans rfl
  have cc1 : Wc.cell? ⟨w.heap.size, 1, none⟩ = some (.slice A l.length c) := (blk_cell HSc.out.box 1).trans rfl
  clear hbc HG
  refine hK.out _ _ ⟨cc0, cc1⟩ (fun hHeld => ?_)
  clear hK K
  try simp only [Act.put, List.setIfInBounds_toArray, List.set_cons_zero, List.set_cons_succ]
  refine wpAnyH_take (i := 2) (oi := { dst := some 17, op := Op.binOp BinOp.add 9 (Operand.const (Value.string { data := #[67, 75, 80, 84] })) (Operand.tmp 16) 9, type := 9, pos := "l5_node.go:101", after := #[{ on := 1, ground := Ground.data }], guard := none }) (v := ?v2) rfl (by kernel_rfl) (by kernel_rfl) (by kernel_rfl) (fun _ _ _ h => h) (Or.inl ⟨by rfl, ?hy2⟩) (by assumption) ?rest2
  case hy2 => (intro w hSw; (try dsimp only at hSw); go_simp <;> with_reducible rfl)
  try simp only [Act.put, List.setIfInBounds_toArray, List.set_cons_zero, List.set_cons_succ]
  refine wpAnyH_ready (rs := [5]) (by kernel_rfl) (by simp) ?_
  refine AllReadyH.cons (o := { dst := some 20, op := Op.call { callee := Callee.value (Operand.func 34), args := #[Operand.const (Value.int IntKind.i64 8), Operand.tmp 19], argTypes := #[3, 3] }, type := 9, pos := "l5_node.go:101", after := #[{ on := 4, ground := Ground.data }, { on := 1, ground := Ground.chain }], guard := none }) rfl (fun K hK => ?_) AllReadyH.nil
  go_simp
  go_at_call 34
  have _t := HSc
  clear _t
  refine (spec_l2Num.calls K2 8 now (Num.bytes 8 now) _ HK2.out).mono ?_
  rintro e Wd ⟨rfl, hbd⟩
  have HSd := Aside0.mk (HSc.out.below hbd)
  have cd0 : Wd.cell? ⟨w.heap.size, 0, none⟩ = some (.int .i64 now) := (blk_cell HSd.out.box 0).trans rfl
  have cd1 : Wd.cell? ⟨w.heap.size, 1, none⟩ = some (.slice A l.length c) := (blk_cell HSd.out.box 1).trans rfl
  clear hbd HSc
  refine hK.out _ _ ⟨cd0, cd1⟩ (fun hHeld => ?_)
  clear hK K
  try simp only [Act.put, List.setIfInBounds_toArray, List.set_cons_zero, List.set_cons_succ]
  refine wpAnyH_take (i := 6) (oi := { dst := some 21, op := Op.binOp BinOp.add 9 (Operand.tmp 17) (Operand.tmp 20) 9, type := 9, pos := "l5_node.go:101", after := #[{ on := 2, ground := Ground.data }, { on := 5, ground := Ground.data }], guard := none }) (v := ?v6) rfl (by kernel_rfl) (by kernel_rfl) (by kernel_rfl) (fun _ _ _ h => h) (Or.inl ⟨by rfl, ?hy6⟩) (by assumption) ?rest6
  case hy6 => (intro w hSw; (try dsimp only at hSw); go_simp <;> with_reducible rfl)
  try simp only [Act.put, List.setIfInBounds_toArray, List.set_cons_zero, List.set_cons_succ]
  refine wpAnyH_ready (rs := [10]) (by kernel_rfl) (by simp) ?_
  refine AllReadyH.cons (o := { dst := some 25, op := Op.call { callee := Callee.value (Operand.func 34), args := #[Operand.const (Value.int IntKind.i64 4), Operand.tmp 24], argTypes := #[3, 3] }, type := 9, pos := "l5_node.go:101", after := #[{ on := 9, ground := Ground.data }, { on := 5, ground := Ground.chain }], guard := none }) rfl (fun K hK => ?_) AllReadyH.nil
  go_simp
  go_at_call 34
  have _t := HSd
  clear _t
  refine (spec_l2Num.calls K3 4 l.length (Num.bytes 4 l.length) _ HK3.out).mono ?_
  rintro e We ⟨rfl, hbe⟩
  have HSe := Aside0.mk (HSd.out.below hbe)
  have ce0 : We.cell? ⟨w.heap.size, 0, none⟩ = some (.int .i64 now) := (blk_cell HSe.out.box 0).trans rfl
  have ce1 : We.cell? ⟨w.heap.size, 1, none⟩ = some (.slice A l.length c) := (blk_cell HSe.out.box 1).trans rfl
  clear hbe HSd
  obtain ⟨vf, Wf, hvf, hof, hbf⟩ := Byt.conv We ((⟨#[67, 75, 80, 84]⟩ : ByteArray) ++ Num.bytes 8 n ++ Num.bytes 8 now ++ Num.bytes 4 l.length) (by (try simp only [ByteArray.size_append, num_size, s8B_size, s16B_size, show (⟨#[67, 75, 80, 84]⟩ : ByteArray).size = 4 from rfl]); omega)
  have HSf := Aside0.mk (HSe.out.start hof hbf)
  have cf0 : Wf.cell? ⟨w.heap.size, 0, none⟩ = some (.int .i64 now) := (blk_cell HSf.out.box 0).trans rfl
  have cf1 : Wf.cell? ⟨w.heap.size, 1, none⟩ = some (.slice A l.length c) := (blk_cell HSf.out.box 1).trans rfl
  clear hof hbf HSe
  refine hK.out _ _ ⟨ce0, ce1⟩ (fun hHeld => ?_)
  clear hK K
  try simp only [Act.put, List.setIfInBounds_toArray, List.set_cons_zero, List.set_cons_succ]
  refine wpAnyH_take (i := 11) (oi := { dst := some 26, op := Op.binOp BinOp.add 9 (Operand.tmp 21) (Operand.tmp 25) 9, type := 9, pos := "l5_node.go:101", after := #[{ on := 6, ground := Ground.data }, { on := 10, ground := Ground.data }], guard := none }) (v := ?v11) rfl (by kernel_rfl) (by kernel_rfl) (by kernel_rfl) (fun _ _ _ h => h) (Or.inl ⟨by rfl, ?hy11⟩) (by assumption) ?rest11
  case hy11 => (intro w hSw; (try dsimp only at hSw); go_simp <;> with_reducible rfl)
  try simp only [Act.put, List.setIfInBounds_toArray, List.set_cons_zero, List.set_cons_succ]
  refine wpAnyH_ready (rs := [12]) (by kernel_rfl) (by simp) ?_
  refine AllReadyH.cons (o := { dst := some 27, op := Op.convert 9 54 (Operand.tmp 26), type := 54, pos := "l5_node.go:101", after := #[{ on := 11, ground := Ground.data }], guard := none }) rfl (fun K hK => ?_) AllReadyH.nil
  go_simp
  refine hK.out _ _ ⟨cf0, cf1⟩ (fun hHeld => ?_)
  clear hK K
  try simp only [Act.put, List.setIfInBounds_toArray, List.set_cons_zero, List.set_cons_succ]
  refine wpAnyH_take (i := 13) (oi := { dst := some 5, op := Op.assign (Operand.tmp 27), type := 54, pos := "l5_node.go:101", after := #[{ on := 12, ground := Ground.data }, { on := 10, ground := Ground.chain }, { on := 0, ground := Ground.phase }, { on := 1, ground := Ground.phase }, { on := 2, ground := Ground.phase }, { on := 3, ground := Ground.phase }, { on := 4, ground := Ground.phase }, { on := 5, ground := Ground.phase }, { on := 6, ground := Ground.phase }, { on := 7, ground := Ground.phase }, { on := 8, ground := Ground.phase }, { on := 9, ground := Ground.phase }, { on := 10, ground := Ground.phase }, { on := 11, ground := Ground.phase }, { on := 12, ground := Ground.phase }], guard := none }) (v := ?v13) rfl (by kernel_rfl) (by kernel_rfl) (by kernel_rfl) (fun _ _ _ h => h) (Or.inl ⟨by rfl, ?hy13⟩) (by assumption) ?rest13
  case hy13 => (intro w hSw; (try dsimp only at hSw); go_simp <;> with_reducible rfl)
  try simp only [Act.put, List.setIfInBounds_toArray, List.set_cons_zero, List.set_cons_succ]
  refine wpAnyH_done (by kernel_rfl) ?_ _
  refine NoPanic.normal ?_
  go_wp2_with fail
  have hs0 : Sv w vf (hdL n now l) #[.int .i64 now, .slice A l.length c] Wf := by rw [← hds_eq]; exact HSf.out
  have HS0 := Aside0.mk hs0
  clear kh0xa kh0xb kh0xc kh0ya kh0yb kh0yc kh1xa kh1xb kh1xc kh1ya kh1yb kh1yc kh1za kh1zb kh1zc kh2xa kh2xb kh2xc kh2ya kh2yb kh2yc kh2za kh2zb kh2zc
  clear hs0 HSf cf0 cf1 ce0 ce1 hvf
  go_loopw [31, 5] (fun i s5 wr => ∃ j : Nat, i = .int .i64 j ∧ j ≤ l.length ∧ Aside0 (Sv w s5 (hdL n now l ++ tensL (l.take j)) #[.int .i64 now, .slice A l.length c] wr) ∧ Aside0 (∀ y ∈ l.take j, TenOK y)) (fun i _ _ => l.length - (intOf i).toNat)
  case atStart => exact ⟨0, rfl, Nat.zero_le _, ⟨by simpa [tensL] using HS0.out⟩, ⟨by simp⟩⟩
  case round =>
    obtain ⟨j, rfl, hj, HSr, HOr⟩ := hrel
    by_cases hlt : j < l.length
    · obtain ⟨ad, A2, c2, A3, c3, ea, x0, x1, x2, x3, hc2, hC2, hc3, hC3⟩ := at_T77 HR.out (j : Int) (by omega) (by omega)
      subst ea
      rw [Int.toNat_natCast] at x0 x1 x2 x3
      rw [rd_T l j hlt] at x0 x1 x2 x3 hc2 hC2 hc3 hC3
      replace x0 := (HSr.out.bel.cell (World.block_lt_of_cell? w _ x0)).trans x0
      replace x1 := (HSr.out.bel.cell (World.block_lt_of_cell? w _ x1)).trans x1
      replace x2 := (HSr.out.bel.cell (World.block_lt_of_cell? w _ x2)).trans x2
      replace x3 := (HSr.out.bel.cell (World.block_lt_of_cell? w _ x3)).trans x3
      obtain ⟨x, hx⟩ : ∃ x, x = l[j] := ⟨_, rfl⟩
      rw [← hx] at x0 x1 x2 x3 hc2 hC2 hc3 hC3
      have HX := Aside0.mk hx
      have HC2 := Aside0.mk hC2
      have HC3 := Aside0.mk hC3
      have HL0 : Aside0 ((tensL (l.take j)).length ≤ 30000000) := ⟨Nat.le_trans (flat_take_le tenL l j) HFit.out⟩
      have HTx : Aside0 ((tenL x).length ≤ 30000000) := ⟨Nat.le_trans (flat_mem_le tenL l x (by rw [hx]; exact List.getElem_mem _)) HFit.out⟩
      have HMx : Aside0 ((metsL x.f2).length ≤ 30000000) := ⟨Nat.le_trans (ten_mets x) HTx.out⟩
      have HRx : Aside0 ((sersL x.f3).length ≤ 30000000) := ⟨Nat.le_trans (ten_sers x) HTx.out⟩
      have hm6 : x.f2.length ≤ 30000000 := by have h1 := HMx.out; rw [mets_length] at h1; omega
      have hr6 : x.f3.length ≤ 30000000 := by have h1 := HRx.out; rw [sers_length] at h1; omega
      clear hx hC2 hC3
      obtain ⟨Wa, hWa⟩ : ∃ W, wr.alloc (.cells #[.string x.f0, .int .i64 x.f1, .slice A2 x.f2.length c2, .slice A3 x.f3.length c3] 77) = W := ⟨_, rfl⟩
      obtain ⟨g7, hg7⟩ : ∃ g, wr.heap.size = g := ⟨_, rfl⟩
      have hxa : Wa.heap[g7]? = some (.cells #[.string x.f0, .int .i64 x.f1, .slice A2 x.f2.length c2, .slice A3 x.f3.length c3] 77 (0, 0)) := by rw [← hWa, ← hg7]; exact blk_new wr _
      have HSa : Aside0 (Sv w _ (hdL n now l ++ tensL (l.take j)) #[.int .i64 now, .slice (some ad) l.length c] Wa) := ⟨by rw [← hWa]; exact HSr.out.alloc _⟩
      have u0 : Wa.cell? ⟨g7, 0, none⟩ = some (.string x.f0) := (blk_cell hxa 0).trans rfl
      have u1 : Wa.cell? ⟨g7, 1, none⟩ = some (.int .i64 x.f1) := (blk_cell hxa 1).trans rfl
      have u2 : Wa.cell? ⟨g7, 2, none⟩ = some (.slice A2 x.f2.length c2) := (blk_cell hxa 2).trans rfl
      have HXa := Aside0.mk hxa
      clear hxa
      by_cases hbig : 255 < x.f0.size
      · have hq := Aside0.mk (HRq.out.trans (sta_no (fun h => by have := (h.2 x (by rw [HX.out]; exact List.getElem_mem _)).1; omega)))
        go_wp2_with fail
        go_ret
        exact ⟨by rw [hq.out]; rfl, HSa.out.bel⟩
      · go_wp2_with fail
        clear hWa hg7 x0 x1 x2 x3
        obtain ⟨Ka, hKa⟩ := s8_ev x.f0 (by omega)
        obtain ⟨Kb, hKb⟩ := num_ev 8 (by decide) x.f1
        obtain ⟨Kc, hKc⟩ := num_ev 4 (by decide) x.f2.length
        obtain ⟨S8, hS8⟩ : ∃ S, S = s8B x.f0 := ⟨_, rfl⟩
        obtain ⟨N8, hN8⟩ : ∃ S, S = Num.bytes 8 x.f1 := ⟨_, rfl⟩
        obtain ⟨N4, hN4⟩ : ∃ S, S = Num.bytes 4 x.f2.length := ⟨_, rfl⟩
        rw [← hS8] at hKa
        rw [← hN8] at hKb
        rw [← hN4] at hKc
        have zS8 : S8.size ≤ 256 := by rw [hS8, s8B_size]; omega
        have zN8 : N8.size = 8 := by rw [hN8, num_size]
        have zN4 : N4.size = 4 := by rw [hN4, num_size]
        have HKa := Aside0.mk hKa
        have HKb := Aside0.mk hKb
        have HKc := Aside0.mk hKc
        have HS8 := Aside0.mk hS8
        have HN8 := Aside0.mk hN8
        have HN4 := Aside0.mk hN4
        have ZS8 := Aside0.mk zS8
        have ZN8 := Aside0.mk zN8
        have ZN4 := Aside0.mk zN4
        clear hKa hKb hKc hS8 hN8 hN4
        have hcat : (S8).size + (N8).size ≤ 9223372036854775807 := by (try simp only [ByteArray.size_append]); omega
        have kt0xa := eq_true hcat
        have kt0xb : decide ((S8).size + (N8).size ≤ 9223372036854775807) = true := decide_eq_true hcat
        have kt0xc : (9223372036854775807 < (S8).size + (N8).size) = False := eq_false (Nat.not_lt.2 hcat)
        clear hcat
        have hcat : (S8 ++ N8).size + (N4).size ≤ 9223372036854775807 := by (try simp only [ByteArray.size_append]); omega
        have kt1xa := eq_true hcat
        have kt1xb : decide ((S8 ++ N8).size + (N4).size ≤ 9223372036854775807) = true := decide_eq_true hcat
        have kt1xc : (9223372036854775807 < (S8 ++ N8).size + (N4).size) = False := eq_false (Nat.not_lt.2 hcat)
        clear hcat
        have hcat : (S8).size + (N8).size + (N4).size ≤ 9223372036854775807 := by (try simp only [ByteArray.size_append]); omega
        have kt1ya := eq_true hcat
        have kt1yb : decide ((S8).size + (N8).size + (N4).size ≤ 9223372036854775807) = true := decide_eq_true hcat
        have kt1yc : (9223372036854775807 < (S8).size + (N8).size + (N4).size) = False := eq_false (Nat.not_lt.2 hcat)
        clear hcat
        clear zS8 zN8 zN4
        go_region_held3 (fun W' => W'.cell? ⟨g7, 0, none⟩ = some (.string x.f0) ∧ W'.cell? ⟨g7, 1, none⟩ = some (.int .i64 x.f1) ∧ W'.cell? ⟨g7, 2, none⟩ = some (.slice A2 x.f2.length c2))
          (first | exact ⟨u0, u1, u2⟩ | exact ⟨ct10, ct11, ct12⟩ | exact ⟨ct20, ct21, ct22⟩ | exact ⟨ct30, ct31, ct32⟩ | exact ⟨ct40, ct41, ct42⟩)
          (first | (go_at_call 35; have _t := HSa; clear _t; refine (spec_l2S8.calls Ka x.f0 S8 _ HKa.out).mono ?_; rintro e Wt1 ⟨rfl, hbt1⟩; have HSt1 := Aside0.mk (HSa.out.drew.below hbt1); have Hxbt1 := Aside0.mk ((hbt1.block _ (blk_lt HXa.out)).trans HXa.out); have ct10 : Wt1.cell? ⟨g7, 0, none⟩ = some (.string x.f0) := (blk_cell Hxbt1.out 0).trans rfl; have ct11 : Wt1.cell? ⟨g7, 1, none⟩ = some (.int .i64 x.f1) := (blk_cell Hxbt1.out 1).trans rfl; have ct12 : Wt1.cell? ⟨g7, 2, none⟩ = some (.slice A2 x.f2.length c2) := (blk_cell Hxbt1.out 2).trans rfl; clear hbt1 HSa)
                 | (go_at_call 34; have _t := HSt1; clear _t; refine (spec_l2Num.calls Kb 8 x.f1 N8 _ HKb.out).mono ?_; rintro e Wt2 ⟨rfl, hbt2⟩; have HSt2 := Aside0.mk (HSt1.out.below hbt2); have Hxbt2 := Aside0.mk ((hbt2.block _ (blk_lt Hxbt1.out)).trans Hxbt1.out); have ct20 : Wt2.cell? ⟨g7, 0, none⟩ = some (.string x.f0) := (blk_cell Hxbt2.out 0).trans rfl; have ct21 : Wt2.cell? ⟨g7, 1, none⟩ = some (.int .i64 x.f1) := (blk_cell Hxbt2.out 1).trans rfl; have ct22 : Wt2.cell? ⟨g7, 2, none⟩ = some (.slice A2 x.f2.length c2) := (blk_cell Hxbt2.out 2).trans rfl; clear hbt2 HSt1)
                 | (go_at_call 34; have _t := HSt2; clear _t; refine (spec_l2Num.calls Kc 4 x.f2.length N4 _ HKc.out).mono ?_; rintro e Wt3 ⟨rfl, hbt3⟩; have HSt3 := Aside0.mk (HSt2.out.below hbt3); have Hxbt3 := Aside0.mk ((hbt3.block _ (blk_lt Hxbt2.out)).trans Hxbt2.out); have ct30 : Wt3.cell? ⟨g7, 0, none⟩ = some (.string x.f0) := (blk_cell Hxbt3.out 0).trans rfl; have ct31 : Wt3.cell? ⟨g7, 1, none⟩ = some (.int .i64 x.f1) := (blk_cell Hxbt3.out 1).trans rfl; have ct32 : Wt3.cell? ⟨g7, 2, none⟩ = some (.slice A2 x.f2.length c2) := (blk_cell Hxbt3.out 2).trans rfl; clear hbt3 HSt2)
                 | (have _t := HSt3; clear _t; (with_reducible refine if_gate ?_); refine step_app ?hw_t4 (.tmp 39) (.tmp 51) (by rfl) w.heap.size _ _ (S8 ++ N8 ++ N4) (by rfl) (by rfl) HSt3.out.own HSt3.out.bel.size ?hl_t4 ?_; (case hw_t4 => rfl); (case hl_t4 => have h1 := HL0.out; have h2 := ZS8.out; have h3 := ZN8.out; have h4 := ZN4.out; simp only [List.length_append, ByteArray.size_append, hdL_length]; omega); intro vt4 Wt4 ho hg; have HSt4 := Aside0.mk (HSt3.out.app ho hg); have Hxbt4 := Aside0.mk (blk_grown Hxbt3.out hg (HSt3.out.own.ne Hxbt3.out (by decide))); have ct40 : Wt4.cell? ⟨g7, 0, none⟩ = some (.string x.f0) := (blk_cell Hxbt4.out 0).trans rfl; have ct41 : Wt4.cell? ⟨g7, 1, none⟩ = some (.int .i64 x.f1) := (blk_cell Hxbt4.out 1).trans rfl; have ct42 : Wt4.cell? ⟨g7, 2, none⟩ = some (.slice A2 x.f2.length c2) := (blk_cell Hxbt4.out 2).trans rfl; clear ho hg HSt3))
        clear kt0xa kt0xb kt0xc kt1xa kt1xb kt1xc kt1ya kt1yb kt1yc
        go_wp2_with fail
        clear ct40 ct41 ct42
        obtain ⟨L1, hL1⟩ : ∃ L1, L1 = hdL n now l ++ tensL (l.take j) ++ (S8 ++ N8 ++ N4).data.toList := ⟨_, rfl⟩
        have hs1 : Sv w vt4 L1 #[.int .i64 now, .slice (some ad) l.length c] Wt4 := by rw [hL1]; exact HSt4.out
        have HSim := Aside0.mk hs1
        have HXim := Hxbt4
        have HL1n : Aside0 (L1.length ≤ 40000000) := ⟨by rw [hL1, app_, app_, HS8.out, HN8.out, HN4.out, s8B_list]; have := HL0.out; simp only [List.length_append, hdL_length, nb_length, s8L_length]; omega⟩
        have HL1 := Aside0.mk hL1
        clear hL1 hs1 HSt4 Hxbt4
        go_loopw [56, 5] (fun i s5 wi => ∃ q : Nat, i = .int .i64 q ∧ q ≤ x.f2.length ∧ Aside0 (Sv w s5 (L1 ++ metsL (x.f2.take q)) #[.int .i64 now, .slice (some ad) l.length c] wi) ∧ Aside0 (∀ y ∈ x.f2.take q, MetOK y) ∧ Aside0 (wi.heap[g7]? = some (.cells #[.string x.f0, .int .i64 x.f1, .slice A2 x.f2.length c2, .slice A3 x.f3.length c3] 77 (0, 0)))) (fun i _ _ => x.f2.length - (intOf i).toNat)
        case atStart => exact ⟨0, rfl, Nat.zero_le _, ⟨by simpa [metsL] using HSim.out⟩, ⟨by simp⟩, HXim⟩
        case round =>
          obtain ⟨q, rfl, hq, HSq, HOq, HXq⟩ := hrel
          have HLq : Aside0 ((metsL (x.f2.take q)).length ≤ 30000000) := ⟨Nat.le_trans (flat_take_le metL x.f2 q) HMx.out⟩
          by_cases hqt : q < x.f2.length
          · obtain ⟨ad2, eb, y0, y1⟩ := at_T79 (Kd.C_below HC2.out HSq.out.bel) (q : Int) (by omega) (by omega)
            subst eb
            rw [Int.toNat_natCast] at y0 y1
            rw [rd_M x.f2 q hqt] at y0 y1
            obtain ⟨y, hy⟩ : ∃ y, y = x.f2[q] := ⟨_, rfl⟩
            rw [← hy] at y0 y1
            have HY := Aside0.mk hy
            clear hy
            obtain ⟨Wd, hWd⟩ : ∃ W, wr.alloc (.cells #[.string y.f0, .int .i64 y.f1] 79) = W := ⟨_, rfl⟩
            obtain ⟨g9, hg9⟩ : ∃ g, wr.heap.size = g := ⟨_, rfl⟩
            have hyd : Wd.heap[g9]? = some (.cells #[.string y.f0, .int .i64 y.f1] 79 (0, 0)) := by rw [← hWd, ← hg9]; exact blk_new wr _
            have HSd : Aside0 (Sv w _ (L1 ++ metsL (x.f2.take q)) #[.int .i64 now, .slice (some ad) l.length c] Wd) := ⟨by rw [← hWd]; exact HSq.out.alloc _⟩
            have HXd : Aside0 (Wd.heap[g7]? = some (.cells #[.string x.f0, .int .i64 x.f1, .slice (some ad2) x.f2.length c2, .slice A3 x.f3.length c3] 77 (0, 0))) := ⟨by rw [← hWd]; exact blk_alloc HXq.out _⟩
            have v0 : Wd.cell? ⟨g9, 0, none⟩ = some (.string y.f0) := (blk_cell hyd 0).trans rfl
            have v1 : Wd.cell? ⟨g9, 1, none⟩ = some (.int .i64 y.f1) := (blk_cell hyd 1).trans rfl
            have HYd := Aside0.mk hyd
            clear hyd
            by_cases hn1 : 65535 < y.f0.size
            · have hq := Aside0.mk (HRq.out.trans (sta_no (fun h => by have h3 : y.f0.size ≤ 65535 := (h.2 x (by rw [HX.out]; exact List.getElem_mem _)).2.1 y (by rw [HY.out]; exact List.getElem_mem _); omega)))
              go_wp2_with fail
              go_ret
              exact ⟨by rw [hq.out]; rfl, HSd.out.bel⟩
            · go_wp2_with fail
              clear hWd hg9 y0 y1
              obtain ⟨Kb, hKb⟩ := s16_ev y.f0 (by omega)
              obtain ⟨Kc, hKc⟩ := num_ev 8 (by decide) y.f1
              obtain ⟨S6, hS6⟩ : ∃ S, S = s16B y.f0 := ⟨_, rfl⟩
              obtain ⟨M8, hM8⟩ : ∃ S, S = Num.bytes 8 y.f1 := ⟨_, rfl⟩
              rw [← hS6] at hKb
              rw [← hM8] at hKc
              have zS6 : S6.size ≤ 65537 := by rw [hS6, s16B_size]; omega
              have zM8 : M8.size = 8 := by rw [hM8, num_size]
              have HKb := Aside0.mk hKb
              have HKc := Aside0.mk hKc
              have HS6 := Aside0.mk hS6
              have HM8 := Aside0.mk hM8
              have ZS6 := Aside0.mk zS6
              have ZM8 := Aside0.mk zM8
              clear hKb hKc hS6 hM8
              have hcat : (S6).size + (M8).size ≤ 9223372036854775807 := by (try simp only [ByteArray.size_append]); omega
              have km0xa := eq_true hcat
              have km0xb : decide ((S6).size + (M8).size ≤ 9223372036854775807) = true := decide_eq_true hcat
              have km0xc : (9223372036854775807 < (S6).size + (M8).size) = False := eq_false (Nat.not_lt.2 hcat)
              clear hcat
              clear zS6 zM8
              go_region_held3 (fun W' => W'.cell? ⟨g9, 0, none⟩ = some (.string y.f0) ∧ W'.cell? ⟨g9, 1, none⟩ = some (.int .i64 y.f1))
                (first | exact ⟨v0, v1⟩ | exact ⟨cm10, cm11⟩ | exact ⟨cm20, cm21⟩ | exact ⟨cm30, cm31⟩)
                (first | (go_at_call 36; have _t := HSd; clear _t; refine (spec_l2S16.calls Kb y.f0 S6 _ HKb.out).mono ?_; rintro e Wm1 ⟨rfl, hbm1⟩; have HSm1 := Aside0.mk (HSd.out.drew.below hbm1); have Hxbm1 := Aside0.mk ((hbm1.block _ (blk_lt HXd.out)).trans HXd.out); have Hybm1 := Aside0.mk ((hbm1.block _ (blk_lt HYd.out)).trans HYd.out); have cm10 : Wm1.cell? ⟨g9, 0, none⟩ = some (.string y.f0) := (blk_cell Hybm1.out 0).trans rfl; have cm11 : Wm1.cell? ⟨g9, 1, none⟩ = some (.int .i64 y.f1) := (blk_cell Hybm1.out 1).trans rfl; clear hbm1 HSd)
                       | (go_at_call 34; have _t := HSm1; clear _t; refine (spec_l2Num.calls Kc 8 y.f1 M8 _ HKc.out).mono ?_; rintro e Wm2 ⟨rfl, hbm2⟩; have HSm2 := Aside0.mk (HSm1.out.below hbm2); have Hxbm2 := Aside0.mk ((hbm2.block _ (blk_lt Hxbm1.out)).trans Hxbm1.out); have Hybm2 := Aside0.mk ((hbm2.block _ (blk_lt Hybm1.out)).trans Hybm1.out); have cm20 : Wm2.cell? ⟨g9, 0, none⟩ = some (.string y.f0) := (blk_cell Hybm2.out 0).trans rfl; have cm21 : Wm2.cell? ⟨g9, 1, none⟩ = some (.int .i64 y.f1) := (blk_cell Hybm2.out 1).trans rfl; clear hbm2 HSm1)
                       | (have _t := HSm2; clear _t; (with_reducible refine if_gate ?_); refine step_app ?hw_m3 (.tmp 64) (.tmp 71) (by rfl) w.heap.size _ _ (S6 ++ M8) (by rfl) (by rfl) HSm2.out.own HSm2.out.bel.size ?hl_m3 ?_; (case hw_m3 => rfl); (case hl_m3 => have h1 := HLq.out; have h2 := HL1n.out; have h3 := ZS6.out; have h4 := ZM8.out; simp only [List.length_append, ByteArray.size_append]; omega); intro vm3 Wm3 ho hg; have HSm3 := Aside0.mk (HSm2.out.app ho hg); have Hxbm3 := Aside0.mk (blk_grown Hxbm2.out hg (HSm2.out.own.ne Hxbm2.out (by decide))); have Hybm3 := Aside0.mk (blk_grown Hybm2.out hg (HSm2.out.own.ne Hybm2.out (by decide))); have cm30 : Wm3.cell? ⟨g9, 0, none⟩ = some (.string y.f0) := (blk_cell Hybm3.out 0).trans rfl; have cm31 : Wm3.cell? ⟨g9, 1, none⟩ = some (.int .i64 y.f1) := (blk_cell Hybm3.out 1).trans rfl; clear ho hg HSm2))
              clear km0xa km0xb km0xc
              go_wp2_with fail
              go_roundw
              case rel =>
                refine ⟨q + 1, by go_num, by omega, ⟨?_⟩, ⟨take_all MetOK x.f2 q hqt HOq.out (by rw [← HY.out]; exact Nat.not_lt.1 hn1)⟩, Hxbm3⟩
                have e1 : metsL (x.f2.take (q + 1)) = metsL (x.f2.take q) ++ metL y := by unfold metsL; rw [take_flat metL x.f2 q hqt, HY.out]
                have e2 : L1 ++ metsL (x.f2.take q) ++ (S6 ++ M8).data.toList = L1 ++ metsL (x.f2.take (q + 1)) := by rw [e1, app_, HS6.out, HM8.out, s16B_list, List.append_assoc]; rfl
                have := HSm3.out
                rw [← e2]
                exact this
              case measure => simp [intOf]; omega
          · obtain rfl : q = x.f2.length := by omega
            have HMO : Aside0 (∀ y ∈ x.f2, MetOK y) := ⟨by have := HOq.out; rwa [List.take_of_length_le (Nat.le_refl _)] at this⟩
            have HSm : Aside0 (Sv w _ (L1 ++ metsL x.f2) #[.int .i64 now, .slice (some ad) l.length c] wr) := ⟨by have := HSq.out; rwa [List.take_of_length_le (Nat.le_refl _)] at this⟩
            clear HSq HOq HLq
            have u3 : wr.cell? ⟨g7, 3, none⟩ = some (.slice A3 x.f3.length c3) := (blk_cell HXq.out 3).trans rfl
            go_wp2_with fail
            obtain ⟨Kn, hKn⟩ := num_ev 4 (by decide) x.f3.length
            refine (spec_l2Num.calls Kn 4 x.f3.length (Num.bytes 4 x.f3.length) wr hKn).mono ?_
            rintro e Wi ⟨rfl, hbi⟩
            have HSn := Aside0.mk (HSm.out.below hbi)
            have HXn := Aside0.mk ((hbi.block _ (blk_lt HXq.out)).trans HXq.out)
            have u4 : Wi.cell? ⟨g7, 3, none⟩ = some (.slice A3 x.f3.length c3) := (blk_cell HXn.out 3).trans rfl
            clear hbi u3 HSm HXq hKn
            go_wp2_with (at_builtin; refine Byt.wpList_append rfl (.tmp 74) (.tmp 78) rfl w.heap.size _ _ (Num.bytes 4 x.f3.length) rfl rfl HSn.out.own HSn.out.bel.size ?hl ?_; (case hl => have h1 := HMx.out; have h2 := HL1n.out; simp only [List.length_append, num_size]; omega); intro vj Wj ho hg; have HSo := Aside0.mk (HSn.out.app ho hg); have HXis := Aside0.mk (blk_grown HXn.out hg (HSn.out.own.ne HXn.out (by decide))); have u5 : Wj.cell? ⟨g7, 3, none⟩ = some (.slice A3 x.f3.length c3) := (blk_cell HXis.out 3).trans rfl; clear ho hg u4 HSn HXn)
            obtain ⟨L2, hL2⟩ : ∃ L2, L2 = L1 ++ metsL x.f2 ++ (Num.bytes 4 x.f3.length).data.toList := ⟨_, rfl⟩
            have hs2 : Sv w vj L2 #[.int .i64 now, .slice (some ad) l.length c] Wj := by rw [hL2]; exact HSo.out
            have HSis := Aside0.mk hs2
            have HL2n : Aside0 (L2.length ≤ 80000000) := ⟨by rw [hL2]; have h1 := HL1n.out; have h2 := HMx.out; simp only [List.length_append, nb_length]; omega⟩
            have HL2 := Aside0.mk hL2
            clear HSo hL2 hs2 u5
            go_loopw [83, 5] (fun i s5 wi => ∃ q : Nat, i = .int .i64 q ∧ q ≤ x.f3.length ∧ Aside0 (Sv w s5 (L2 ++ sersL (x.f3.take q)) #[.int .i64 now, .slice (some ad) l.length c] wi) ∧ Aside0 (∀ y ∈ x.f3.take q, SerOK y) ∧ Aside0 (wi.heap[g7]? = some (.cells #[.string x.f0, .int .i64 x.f1, .slice A2 x.f2.length c2, .slice A3 x.f3.length c3] 77 (0, 0)))) (fun i _ _ => x.f3.length - (intOf i).toNat)
            case atStart => exact ⟨0, rfl, Nat.zero_le _, ⟨by simpa [sersL] using HSis.out⟩, ⟨by simp⟩, HXis⟩
            case round =>
              obtain ⟨q, rfl, hq, HSq, HOq, HXq⟩ := hrel
              have HLq : Aside0 ((sersL (x.f3.take q)).length ≤ 30000000) := ⟨Nat.le_trans (flat_take_le serL x.f3 q) HRx.out⟩
              by_cases hqt : q < x.f3.length
              · obtain ⟨ad2, eb, y0, y1⟩ := at_T81 (Kd.C_below HC3.out HSq.out.bel) (q : Int) (by omega) (by omega)
                subst eb
                rw [Int.toNat_natCast] at y0 y1
                rw [rd_R x.f3 q hqt] at y0 y1
                obtain ⟨y, hy⟩ : ∃ y, y = x.f3[q] := ⟨_, rfl⟩
                rw [← hy] at y0 y1
                have HY := Aside0.mk hy
                clear hy
                obtain ⟨Wd, hWd⟩ : ∃ W, wr.alloc (.cells #[.string y.f0, .int .i64 y.f1] 81) = W := ⟨_, rfl⟩
                obtain ⟨g9, hg9⟩ : ∃ g, wr.heap.size = g := ⟨_, rfl⟩
                have hyd : Wd.heap[g9]? = some (.cells #[.string y.f0, .int .i64 y.f1] 81 (0, 0)) := by rw [← hWd, ← hg9]; exact blk_new wr _
                have HSd : Aside0 (Sv w _ (L2 ++ sersL (x.f3.take q)) #[.int .i64 now, .slice (some ad) l.length c] Wd) := ⟨by rw [← hWd]; exact HSq.out.alloc _⟩
                have HXd : Aside0 (Wd.heap[g7]? = some (.cells #[.string x.f0, .int .i64 x.f1, .slice A2 x.f2.length c2, .slice (some ad2) x.f3.length c3] 77 (0, 0))) := ⟨by rw [← hWd]; exact blk_alloc HXq.out _⟩
                have v0 : Wd.cell? ⟨g9, 0, none⟩ = some (.string y.f0) := (blk_cell hyd 0).trans rfl
                have v1 : Wd.cell? ⟨g9, 1, none⟩ = some (.int .i64 y.f1) := (blk_cell hyd 1).trans rfl
                have HYd := Aside0.mk hyd
                clear hyd
                by_cases hn1 : 65535 < y.f0.size
                · have hq := Aside0.mk (HRq.out.trans (sta_no (fun h => by have h3 : y.f0.size ≤ 65535 := (h.2 x (by rw [HX.out]; exact List.getElem_mem _)).2.2 y (by rw [HY.out]; exact List.getElem_mem _); omega)))
                  go_wp2_with fail
                  go_ret
                  exact ⟨by rw [hq.out]; rfl, HSd.out.bel⟩
                · go_wp2_with fail
                  clear hWd hg9 y0 y1
                  obtain ⟨Kb, hKb⟩ := s16_ev y.f0 (by omega)
                  obtain ⟨Kc, hKc⟩ := num_ev 8 (by decide) y.f1
                  obtain ⟨S6, hS6⟩ : ∃ S, S = s16B y.f0 := ⟨_, rfl⟩
                  obtain ⟨M8, hM8⟩ : ∃ S, S = Num.bytes 8 y.f1 := ⟨_, rfl⟩
                  rw [← hS6] at hKb
                  rw [← hM8] at hKc
                  have zS6 : S6.size ≤ 65537 := by rw [hS6, s16B_size]; omega
                  have zM8 : M8.size = 8 := by rw [hM8, num_size]
                  have HKb := Aside0.mk hKb
                  have HKc := Aside0.mk hKc
                  have HS6 := Aside0.mk hS6
                  have HM8 := Aside0.mk hM8
                  have ZS6 := Aside0.mk zS6
                  have ZM8 := Aside0.mk zM8
                  clear hKb hKc hS6 hM8
                  have hcat : (S6).size + (M8).size ≤ 9223372036854775807 := by (try simp only [ByteArray.size_append]); omega
                  have km0xa := eq_true hcat
                  have km0xb : decide ((S6).size + (M8).size ≤ 9223372036854775807) = true := decide_eq_true hcat
                  have km0xc : (9223372036854775807 < (S6).size + (M8).size) = False := eq_false (Nat.not_lt.2 hcat)
                  clear hcat
                  clear zS6 zM8
                  go_region_held3 (fun W' => W'.cell? ⟨g9, 0, none⟩ = some (.string y.f0) ∧ W'.cell? ⟨g9, 1, none⟩ = some (.int .i64 y.f1))
                    (first | exact ⟨v0, v1⟩ | exact ⟨cs10, cs11⟩ | exact ⟨cs20, cs21⟩ | exact ⟨cs30, cs31⟩)
                    (first | (go_at_call 36; have _t := HSd; clear _t; refine (spec_l2S16.calls Kb y.f0 S6 _ HKb.out).mono ?_; rintro e Ws1 ⟨rfl, hbs1⟩; have HSs1 := Aside0.mk (HSd.out.drew.below hbs1); have Hxbs1 := Aside0.mk ((hbs1.block _ (blk_lt HXd.out)).trans HXd.out); have Hybs1 := Aside0.mk ((hbs1.block _ (blk_lt HYd.out)).trans HYd.out); have cs10 : Ws1.cell? ⟨g9, 0, none⟩ = some (.string y.f0) := (blk_cell Hybs1.out 0).trans rfl; have cs11 : Ws1.cell? ⟨g9, 1, none⟩ = some (.int .i64 y.f1) := (blk_cell Hybs1.out 1).trans rfl; clear hbs1 HSd)
                           | (go_at_call 34; have _t := HSs1; clear _t; refine (spec_l2Num.calls Kc 8 y.f1 M8 _ HKc.out).mono ?_; rintro e Ws2 ⟨rfl, hbs2⟩; have HSs2 := Aside0.mk (HSs1.out.below hbs2); have Hxbs2 := Aside0.mk ((hbs2.block _ (blk_lt Hxbs1.out)).trans Hxbs1.out); have Hybs2 := Aside0.mk ((hbs2.block _ (blk_lt Hybs1.out)).trans Hybs1.out); have cs20 : Ws2.cell? ⟨g9, 0, none⟩ = some (.string y.f0) := (blk_cell Hybs2.out 0).trans rfl; have cs21 : Ws2.cell? ⟨g9, 1, none⟩ = some (.int .i64 y.f1) := (blk_cell Hybs2.out 1).trans rfl; clear hbs2 HSs1)
                           | (have _t := HSs2; clear _t; (with_reducible refine if_gate ?_); refine step_app ?hw_s3 (.tmp 91) (.tmp 98) (by rfl) w.heap.size _ _ (S6 ++ M8) (by rfl) (by rfl) HSs2.out.own HSs2.out.bel.size ?hl_s3 ?_; (case hw_s3 => rfl); (case hl_s3 => have h1 := HLq.out; have h2 := HL2n.out; have h3 := ZS6.out; have h4 := ZM8.out; simp only [List.length_append, ByteArray.size_append]; omega); intro vs3 Ws3 ho hg; have HSs3 := Aside0.mk (HSs2.out.app ho hg); have Hxbs3 := Aside0.mk (blk_grown Hxbs2.out hg (HSs2.out.own.ne Hxbs2.out (by decide))); have Hybs3 := Aside0.mk (blk_grown Hybs2.out hg (HSs2.out.own.ne Hybs2.out (by decide))); have cs30 : Ws3.cell? ⟨g9, 0, none⟩ = some (.string y.f0) := (blk_cell Hybs3.out 0).trans rfl; have cs31 : Ws3.cell? ⟨g9, 1, none⟩ = some (.int .i64 y.f1) := (blk_cell Hybs3.out 1).trans rfl; clear ho hg HSs2))
                  clear km0xa km0xb km0xc
                  go_wp2_with fail
                  go_roundw
                  case rel =>
                    refine ⟨q + 1, by go_num, by omega, ⟨?_⟩, ⟨take_all SerOK x.f3 q hqt HOq.out (by rw [← HY.out]; exact Nat.not_lt.1 hn1)⟩, Hxbs3⟩
                    have e1 : sersL (x.f3.take (q + 1)) = sersL (x.f3.take q) ++ serL y := by unfold sersL; rw [take_flat serL x.f3 q hqt, HY.out]
                    have e2 : L2 ++ sersL (x.f3.take q) ++ (S6 ++ M8).data.toList = L2 ++ sersL (x.f3.take (q + 1)) := by rw [e1, app_, HS6.out, HM8.out, s16B_list, List.append_assoc]; rfl
                    have := HSs3.out
                    rw [← e2]
                    exact this
                  case measure => simp [intOf]; omega
              · obtain rfl : q = x.f3.length := by omega
                have HSO : Aside0 (∀ y ∈ x.f3, SerOK y) := ⟨by have := HOq.out; rwa [List.take_of_length_le (Nat.le_refl _)] at this⟩
                have HSz : Aside0 (Sv w _ (L2 ++ sersL x.f3) #[.int .i64 now, .slice (some ad) l.length c] wr) := ⟨by have := HSq.out; rwa [List.take_of_length_le (Nat.le_refl _)] at this⟩
                clear HSq HOq HLq
                go_wp2_with fail
                go_roundw
                case rel =>
                  refine ⟨j + 1, by go_num, by omega, ⟨?_⟩, ⟨take_all TenOK l j hlt HOr.out (by rw [← HX.out]; exact ⟨by omega, HMO.out, HSO.out⟩)⟩⟩
                  have e1 : tensL (l.take (j + 1)) = tensL (l.take j) ++ tenL x := by unfold tensL; rw [take_flat tenL l j hlt, HX.out]
                  have e2 : L2 ++ sersL x.f3 = hdL n now l ++ tensL (l.take (j + 1)) := by
                    rw [e1, HL2.out, HL1.out, app_, app_, HS8.out, HN8.out, HN4.out, s8B_list]
                    unfold tenL nL
                    simp only [List.append_assoc]
                  have := HSz.out
                  rw [← e2]
                  exact this
                case measure => simp [intOf]; omega
    · obtain rfl : j = l.length := by omega
      have hst := HSr.out
      have hall := HOr.out
      rw [List.take_of_length_le (Nat.le_refl _)] at hst hall
      have HSz := Aside0.mk (show Sv w _ (stL n now l) #[.int .i64 now, .slice A l.length c] wr from hst)
      obtain ⟨s5, rfl⟩ := Sv.name HSz.out
      have hq := Aside0.mk (HRq.out.trans (sta_yes HN.out hall))
      clear hst hall
      have hln : (stL n now l).length ≤ 40000000 := by unfold stL; rw [List.length_append, hdL_length]; have := HFit.out; omega
      have HLn := Aside0.mk hln
      clear hln
      go_wp2_with fail
      obtain ⟨sR, hsR⟩ : ∃ s : ByteArray, s = ⟨(stL n now l).toArray⟩ := ⟨_, rfl⟩
      have hsz : sR.size ≤ 40000000 := by rw [hsR]; exact HLn.out
      obtain ⟨cc, hcc⟩ : ∃ cc, cc = crcOf (stL n now l) := ⟨_, rfl⟩
      obtain ⟨Kc, hKc⟩ := crc_spec (stL n now l) (by have := HLn.out; omega)
      rw [← hcc, ← hsR] at hKc
      obtain ⟨Kn, hKn⟩ := num_ev 4 (by decide) cc
      have HKc := Aside0.mk hKc
      have HKn := Aside0.mk hKn
      have HCC := Aside0.mk hcc
      have HsR := Aside0.mk hsR
      have hx0 := Byt.text wr.drew _ _ _ HSz.out.own.drew
      rw [← hsR] at hx0
      clear hKc hKn hcc hsR
      have hcat : (sR).size + (Num.bytes 4 cc).size ≤ 9223372036854775807 := by rw [num_size]; omega
      have kz0xa := eq_true hcat
      have kz0xb : decide ((sR).size + (Num.bytes 4 cc).size ≤ 9223372036854775807) = true := decide_eq_true hcat
      have kz0xc : (9223372036854775807 < (sR).size + (Num.bytes 4 cc).size) = False := eq_false (Nat.not_lt.2 hcat)
      clear hcat
      go_region_held3 (fun W' => (convert 54 9 s5).run Try.prog W' = .ok (.string sR) W')
        (first | exact hx0 | exact hx1 | exact hx2)
        (first | (go_at_call 37; refine (spec_Crc32c.calls Kc sR cc _ HKc.out).mono ?_; rintro e Wm ⟨rfl, hdm⟩; have hbm := hdm.below; have HSm := Aside0.mk (HSz.out.drew.below hbm); have hx1 := Byt.text Wm _ _ _ HSm.out.own; rw [← HsR.out] at hx1; clear hbm hdm)
               | (go_at_call 34; refine (spec_l2Num.calls Kn 4 cc (Num.bytes 4 cc) _ HKn.out).mono ?_; rintro e Wn ⟨rfl, hbn⟩; have HSn := Aside0.mk (HSm.out.below hbn); have hx2 := Byt.text Wn _ _ _ HSn.out.own; rw [← HsR.out] at hx2; clear hbn))
      go_wp2_with fail
      go_ret
      refine ⟨?_, HSn.out.bel⟩
      have e1 : (sR ++ Num.bytes 4 cc) = ⟨(stL n now l ++ nL 4 (crcOf (stL n now l))).toArray⟩ := by
        rw [HsR.out, HCC.out]
        apply ByteArray.ext
        apply Array.ext'
        exact app_ _ _
      rw [hq.out, ← e1]; rfl

end EncS
/-- What spec.EncodeState answers (told where the statement's guard lets it be asked). -/
noncomputable def spec_EncodeState.f (n now : Int) (l : List S77) : Option ByteArray := @ite _ (Enc.Fits l) (Classical.propDecidable _) (some (Enc.sta n now l)) none
theorem spec_EncodeState.calls (n now : Int) (A : Option Addr) (c : Nat) (l : List S77) (r : ByteArray) (w : World) (hr : Kd.C k77 w A l.length l) (hc : l.length ≤ c) (h : spec_EncodeState.f n now l = some r) :
    Calls Try.prog 12 #[.int .i64 n, .agg #[.int .i64 now, .slice A l.length c]] w fun e w' => e = .returned (.string r) ∧ Below w.heap.size w w' := by
  obtain ⟨hf, rfl⟩ := Enc.fits_of h
  by_cases hn : 0 ≤ n ∧ n ≤ 1000000000000000
  · exact EncS.sta_good n now A c l w hr hc hf hn
  · exact EncS.sta_bad n now A c l w hr hc hn
end Go.Proofs.Ytbhjbbanhmjgnaa.M
