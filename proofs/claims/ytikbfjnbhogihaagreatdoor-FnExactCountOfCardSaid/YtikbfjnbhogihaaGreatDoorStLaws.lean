import Derived.Test.YtikbfjnbhogihaaGreatDoorF48
import Derived.Test.YtikbfjnbhogihaaGreatDoorF103
import Derived.Test.YtikbfjnbhogihaaGreatDoorF17
import Derived.Test.YtikbfjnbhogihaaGreatDoorOpn
import Derived.Test.YtikbfjnbhogihaaGreatDoorF4
import Derived.Test.YtikbfjnbhogihaaGreatDoorTie
import Derived.Test.YtikbfjnbhogihaaGreatDoorF168
import Derived.LaidLaws
import Derived.Lib.LaidU8
import Derived.Test.YtikbfjnbhogihaaGreatDoorCnt
/- States, as the laws copy, compare and weigh them: plain. -/
namespace Go.Proofs.YtikbfjnbhogihaaGreatDoor.StLaws
open Go.Proofs.YtikbfjnbhogihaaGreatDoor.M Go.Proofs.YtikbfjnbhogihaaGreatDoor.Loops Go.Proofs.YtikbfjnbhogihaaGreatDoorW.PrintWords Go.Proofs.YtikbfjnbhogihaaGreatDoorW.PrintLast Go.RowKit
abbrev MI := S223
abbrev MO := S91
abbrev RI := S225
abbrev RO := S93
abbrev TI := S159
abbrev TO := S87
def cM (x : MI) : MO := ⟨x.f0, x.f1⟩
def cR (x : RI) : RO := ⟨x.f0, x.f1⟩
def cT (x : TI) : TO := ⟨x.f0, x.f1, x.f2.map cM, x.f3.map cR⟩
def wtM (x : MI) : Nat := x.f0.size
def wtR (x : RI) : Nat := x.f0.size
def wtTI (x : TI) : Nat := x.f0.size + (x.f2.length + total wtM x.f2) + (x.f3.length + total wtR x.f3)
theorem to_mets (l : List MI) (h : l.length ≤ 1048576) : Ev (fun k => laws_toMetricLimitS.f k l) (l.map cM) := by
 unfold laws_toMetricLimitS.f
 refine Ev.ite_pos (by omega) (Ev.ite_pos (by omega) ?_)
 rw [Int.toNat_natCast]
 exact fill_all laws_toMetricLimitS.l0 (fun _ a => laws_toMetricLimit.f a.f0 a.f1) (fun c => (⟨c.1, c.2⟩ : MO)) z223 z91
  (fun k x y i => by simp only [laws_toMetricLimitS.l0]; rfl) (fun a => (a.f0, a.f1)) l (by omega) (fun a _ => Ev.now _)
theorem to_sers (l : List RI) (h : l.length ≤ 1048576) : Ev (fun k => laws_toSeriesS.f k l) (l.map cR) := by
 unfold laws_toSeriesS.f
 refine Ev.ite_pos (by omega) (Ev.ite_pos (by omega) ?_)
 rw [Int.toNat_natCast]
 exact fill_all laws_toSeriesS.l0 (fun _ a => laws_toSeries.f a.f0 a.f1) (fun c => (⟨c.1, c.2⟩ : RO)) z225 z93
  (fun k x y i => by simp only [laws_toSeriesS.l0]; rfl) (fun a => (a.f0, a.f1)) l (by omega) (fun a _ => Ev.now _)
theorem to_tens (l : List TI) (h : l.length ≤ 1048576) (hi : ∀ x ∈ l, x.f2.length ≤ 1048576 ∧ x.f3.length ≤ 1048576) : Ev (fun k => laws_toTenantS.f k l) (l.map cT) := by
 unfold laws_toTenantS.f
 refine Ev.ite_pos (by omega) (Ev.ite_pos (by omega) ?_)
 rw [Int.toNat_natCast]
 exact fill_all laws_toTenantS.l0 (fun k a => laws_toTenant.f k a.f0 a.f1 a.f2 a.f3) (fun c => (⟨c.1, c.2.1, c.2.2.1, c.2.2.2⟩ : TO)) z159 z87
  (fun k x y i => by simp only [laws_toTenantS.l0]; rfl) (fun a => (a.f0, a.f1, a.f2.map cM, a.f3.map cR)) l (by omega) (fun a ha => by
   unfold laws_toTenant.f
   exact Ev.bind (to_mets a.f2 (hi a ha).1) (Ev.bind (to_sers a.f3 (hi a ha).2) (Ev.now _)))
theorem to_state (now : Int) (l : List TI) (h : l.length ≤ 1048576) (hi : ∀ x ∈ l, x.f2.length ≤ 1048576 ∧ x.f3.length ≤ 1048576) : Ev (fun k => laws_toState.f k now l) (now, l.map cT) := by
 unfold laws_toState.f
 exact Ev.bind (to_tens l h hi) (Ev.now _)
theorem eq_mets (l : List MO) (h : l.length < 9223372036854775807) : Ev (fun k => laws_eqMetricLimitS.f k l l) true := by
 unfold laws_eqMetricLimitS.f
 refine Ev.ite_pos rfl ?_
 exact all_loop laws_eqMetricLimitS.l0 (fun _ x y => laws_eqMetricLimit.f x.f0 x.f1 y.f0 y.f1) z91 (fun k x y i => by simp only [laws_eqMetricLimitS.l0]; rfl) l h (fun a _ => by
  unfold laws_eqMetricLimit.f; simp only [if_true]; exact Ev.now _) l.length 0 (by omega)
theorem eq_sers (l : List RO) (h : l.length < 9223372036854775807) : Ev (fun k => laws_eqSeriesS.f k l l) true := by
 unfold laws_eqSeriesS.f
 refine Ev.ite_pos rfl ?_
 exact all_loop laws_eqSeriesS.l0 (fun _ x y => laws_eqSeries.f x.f0 x.f1 y.f0 y.f1) z93 (fun k x y i => by simp only [laws_eqSeriesS.l0]; rfl) l h (fun a _ => by
  unfold laws_eqSeries.f; simp only [if_true]; exact Ev.now _) l.length 0 (by omega)
theorem eq_tens (l : List TO) (h : l.length < 9223372036854775807) (hi : ∀ x ∈ l, x.f2.length < 9223372036854775807 ∧ x.f3.length < 9223372036854775807) : Ev (fun k => laws_eqTenantS.f k l l) true := by
 unfold laws_eqTenantS.f
 refine Ev.ite_pos rfl ?_
 exact all_loop laws_eqTenantS.l0 (fun k x y => laws_eqTenant.f k x.f0 x.f1 x.f2 x.f3 y.f0 y.f1 y.f2 y.f3) z87 (fun k x y i => by simp only [laws_eqTenantS.l0]; rfl) l h (fun a ha => by
  unfold laws_eqTenant.f
  simp only [if_true]
  exact Ev.bind (eq_mets a.f2 (hi a ha).1) (Ev.ite_pos rfl (Ev.bind (eq_sers a.f3 (hi a ha).2) (Ev.ite_pos rfl (Ev.now _))))) l.length 0 (by omega)
theorem eq_state (now : Int) (l : List TO) (h : l.length < 9223372036854775807) (hi : ∀ x ∈ l, x.f2.length < 9223372036854775807 ∧ x.f3.length < 9223372036854775807) : Ev (fun k => laws_eqState.f k now l now l) true := by
 unfold laws_eqState.f
 simp only [if_true]
 exact Ev.bind (eq_tens l h hi) (Ev.ite_pos rfl (Ev.now _))
theorem sz_mets (l : List MI) (hl : l.length ≤ maxLen) (hb : ∀ y ∈ l, b223 y) (a : Int) (h0 : 0 ≤ a) (h1 : a ≤ 1048576) :
  ∃ t, Ev (fun k => laws_szMetricLimitS.f k l a) t ∧ (0 ≤ t → t = a - ((l.length : Int) + (total wtM l : Nat))) := by
 unfold laws_szMetricLimitS.f
 refine sz_list laws_szMetricLimitS.l0 (fun _ x a => laws_szMetricLimit.f x.f0 x.f1 a) z223 wtM (fun k x a i => by simp only [laws_szMetricLimitS.l0]; rfl) l hl (fun e he a h0 h1 => ?_) a h0 h1
 obtain ⟨s0, _⟩ := hb e he
 obtain ⟨t, ht, hw⟩ := sz_one e.f0.size s0 a h0 h1
 exact ⟨t, ⟨0, fun _ _ => by unfold laws_szMetricLimit.f; exact ht⟩, hw⟩
theorem sz_sers (l : List RI) (hl : l.length ≤ maxLen) (hb : ∀ y ∈ l, b225 y) (a : Int) (h0 : 0 ≤ a) (h1 : a ≤ 1048576) :
  ∃ t, Ev (fun k => laws_szSeriesS.f k l a) t ∧ (0 ≤ t → t = a - ((l.length : Int) + (total wtR l : Nat))) := by
 unfold laws_szSeriesS.f
 refine sz_list laws_szSeriesS.l0 (fun _ x a => laws_szSeries.f x.f0 x.f1 a) z225 wtR (fun k x a i => by simp only [laws_szSeriesS.l0]; rfl) l hl (fun e he a h0 h1 => ?_) a h0 h1
 obtain ⟨s0, _⟩ := hb e he
 obtain ⟨t, ht, hw⟩ := sz_one e.f0.size s0 a h0 h1
 exact ⟨t, ⟨0, fun _ _ => by unfold laws_szSeries.f; exact ht⟩, hw⟩
theorem sz_tens (l : List TI) (hl : l.length ≤ maxLen) (hb : ∀ y ∈ l, b159 y) (a : Int) (h0 : 0 ≤ a) (h1 : a ≤ 1048576) :
  ∃ t, Ev (fun k => laws_szTenantS.f k l a) t ∧ (0 ≤ t → t = a - ((l.length : Int) + (total wtTI l : Nat))) := by
 unfold laws_szTenantS.f
 refine sz_list laws_szTenantS.l0 (fun k x a => laws_szTenant.f k x.f0 x.f1 x.f2 x.f3 a) z159 wtTI (fun k x a i => by simp only [laws_szTenantS.l0]; rfl) l hl (fun e he a h0 h1 => ?_) a h0 h1
 obtain ⟨s0, _, ⟨m0, m1⟩, r0, r1⟩ := hb e he
 have s0' : e.f0.size ≤ 9223372036854775807 := s0
 unfold laws_szTenant.f
 have e1 : wrap64 (a - (e.f0.size : Int)) = a - (e.f0.size : Int) := by unfold wrap64; omega
 rw [e1]
 by_cases hneg : a - (e.f0.size : Int) < 0
 ·exact ⟨-1, Ev.ite_pos hneg (Ev.now _), fun h => by omega⟩
 ·obtain ⟨t, ht, hw⟩ := sz_mets e.f2 m0 m1 (a - (e.f0.size : Int)) (by omega) (by omega)
  by_cases hneg2 : t < 0
  ·exact ⟨-1, Ev.ite_neg hneg (Ev.bind ht (Ev.ite_pos hneg2 (Ev.now _))), fun h => by omega⟩
  ·have h3 := hw (by omega)
   obtain ⟨u, hu, hw2⟩ := sz_sers e.f3 r0 r1 t (by omega) (by omega)
   obtain ⟨v, hv, hw3⟩ := sz_hand hu
   refine ⟨v, Ev.ite_neg hneg (Ev.bind ht (Ev.ite_neg hneg2 hv)), fun h => ?_⟩
   have h4 := hw3 h
   have h5 := hw2 (by omega)
   have h6 : wtTI e = e.f0.size + (e.f2.length + total wtM e.f2) + (e.f3.length + total wtR e.f3) := rfl
   omega
theorem sz_state (now : Int) (l : List TI) (hl : l.length ≤ maxLen) (hb : ∀ y ∈ l, b159 y) :
  ∃ t, Ev (fun k => laws_szState.f k now l 1048576) t ∧ (0 ≤ t → l.length + total wtTI l ≤ 1048576) := by
 unfold laws_szState.f
 obtain ⟨t, ht, hw⟩ := sz_tens l hl hb 1048576 (by omega) (by omega)
 obtain ⟨u, hu, hw2⟩ := sz_hand ht
 refine ⟨u, hu, fun h => ?_⟩
 have h3 := hw2 h
 have h4 := hw (by omega)
 omega
theorem in_bounds (l : List TI) (h : l.length + total wtTI l ≤ 1048576) : ∀ x ∈ l, x.f2.length ≤ 1048576 ∧ x.f3.length ≤ 1048576 := by
 intro x hx
 have h5 : wtTI x ≤ total wtTI l := wt_le_total wtTI l x hx
 have h6 : wtTI x = x.f0.size + (x.f2.length + total wtM x.f2) + (x.f3.length + total wtR x.f3) := rfl
 omega
theorem len_map (l : List TI) (hi : ∀ x ∈ l, x.f2.length ≤ 1048576 ∧ x.f3.length ≤ 1048576) : ∀ x ∈ l.map cT, x.f2.length ≤ 1048576 ∧ x.f3.length ≤ 1048576 := by
 intro x hx
 obtain ⟨y, hy, rfl⟩ := List.mem_map.1 hx
 have := hi y hy
 simpa [cT] using this
end Go.Proofs.YtikbfjnbhogihaaGreatDoor.StLaws
namespace Go.Proofs.YtikbfjnbhogihaaGreatDoor.M
open Go.RowKit Go.Proofs.YtikbfjnbhogihaaGreatDoorW.PrintWords Go.Proofs.YtikbfjnbhogihaaGreatDoorW.PrintLast Go.Proofs.YtikbfjnbhogihaaGreatDoorW.PrintMore
attribute [local go_sem] max2_int min2_int max_two min_two max_three min_three max_four min_four
set_option linter.unusedVariables false
set_option linter.unusedSimpArgs false
end Go.Proofs.YtikbfjnbhogihaaGreatDoor.M
namespace Go.Proofs.YtikbfjnbhogihaaGreatDoor.Pure
open Go.Proofs.YtikbfjnbhogihaaGreatDoor.M Go.RowKit
def FnExactCountOfPure : Prop := ∀ (a0_0 : Int) (a0_1 : Int) (a0_2 : Int) (a0_3 : Int) (a0_4 : Int) (a0_5 : Int) (a1_0 : Int) (l1_1 : List (S159)) (a2 : ByteArray) (a3 : ByteArray), (Lit.int .i64 a0_0).wf = true → (Lit.int .i64 a0_1).wf = true → (Lit.int .i64 a0_2).wf = true → (Lit.int .i64 a0_3).wf = true → (Lit.int .i64 a0_4).wf = true → (Lit.int .i64 a0_5).wf = true → (Lit.int .i64 a1_0).wf = true → (l1_1.length ≤ maxLen ∧ ∀ y_ ∈ l1_1, b159 y_) → a2.size ≤ maxLen → a3.size ≤ maxLen → ∃ k, laws_FnExactCountOf.f k a0_0 a0_1 a0_2 a0_3 a0_4 a0_5 a1_0 l1_1 a2 a3 = some true
end Go.Proofs.YtikbfjnbhogihaaGreatDoor.Pure
namespace Go.Proofs.YtikbfjnbhogihaaGreatDoor.M
end Go.Proofs.YtikbfjnbhogihaaGreatDoor.M
/- The two tables of unicode/utf8, as the rows list them: what a walk reads; a world that holds them. -/
namespace Go.Proofs.YtikbfjnbhogihaaGreatDoor.Laid
open Go Go.Lib Go.Proofs Go.Proofs.YtikbfjnbhogihaaGreatDoor.M
theorem extra : U8Extra Tryz.prog Tryz.lays260_ren where
 n3 := by kernel_rfl
 n4 := by kernel_rfl
 y3 := by kernel_rfl
 y4 := by kernel_rfl
 c5 := by kernel_rfl
 c119 := by kernel_rfl
 c138 := by kernel_rfl
theorem first_eq : Rows.laid_unicode_utf8_first = firstData := by kernel_rfl
theorem accept_eq : (Rows.laid_unicode_utf8_acceptRanges : DataW Unit) = acceptData := by kernel_rfl
theorem tabs {W : World} (h : laidMet Tryz.prog [("unicode/utf8.acceptRanges", Rows.laid_unicode_utf8_acceptRanges), ("unicode/utf8.first", Rows.laid_unicode_utf8_first)] W) : Tabs W := by
 rw [first_eq, accept_eq] at h
 exact utf8Tabs_of_reads Tryz.lays260 extra (laidMet.reads h (by simp)) (laidMet.reads h (by simp))
def firstCells : Array Value := (firstTab.map fun z => Value.int .u8 z).toArray
def acceptCells : Array Value := ((List.range 16).flatMap fun i => [Value.int .u8 (accLo i), Value.int .u8 (accHi i)]).toArray
def putRow_ (cs : Array Value) : Obj → Obj
 | .cells _ t frozen => .cells cs t frozen
 | o => o
noncomputable def laidWorld (os : Os) : World :=
 { World.holding Tryz.prog os ⟨#[], #[], []⟩ with heap := ((World.holding Tryz.prog os ⟨#[], #[], []⟩).heap.modify (Tryz.lays260_ren.g 3) (putRow_ firstCells)).modify (Tryz.lays260_ren.g 4) (putRow_ acceptCells) }
end Go.Proofs.YtikbfjnbhogihaaGreatDoor.Laid
/- FnExactCountOf: what is left, plain. -/
namespace Go.Proofs.YtikbfjnbhogihaaGreatDoor.Pure
open Go.Proofs.YtikbfjnbhogihaaGreatDoor.M Go.Proofs.YtikbfjnbhogihaaGreatDoor.Loops Go.Proofs.YtikbfjnbhogihaaGreatDoor.StLaws Go.Proofs.YtikbfjnbhogihaaGreatDoorW.PrintWords Go.Proofs.YtikbfjnbhogihaaGreatDoorW.PrintLast Go.RowKit
theorem small_all (l : List TI) (h : l.length + total wtTI l ≤ 1048576) : ∀ t ∈ l.map cT, StOK.Sm t := by
 intro t ht
 obtain ⟨x, hx, rfl⟩ := List.mem_map.1 ht
 have h5 : wtTI x ≤ total wtTI l := wt_le_total wtTI l x hx
 have h6 : wtTI x = x.f0.size + (x.f2.length + total wtM x.f2) + (x.f3.length + total wtR x.f3) := rfl
 refine ⟨?_, ?_, ?_, ?_, ?_⟩
 ·show (x.f2.map cM).length ≤ _; rw [List.length_map]; omega
 ·show (x.f3.map cR).length ≤ _; rw [List.length_map]; omega
 ·show x.f0.size ≤ _; omega
 ·intro m hm
  obtain ⟨y, hy, rfl⟩ := List.mem_map.1 hm
  have : wtM y ≤ total wtM x.f2 := wt_le_total wtM x.f2 y hy
  show wtM y ≤ _
  omega
 ·intro m hm
  obtain ⟨y, hy, rfl⟩ := List.mem_map.1 hm
  have : wtR y ≤ total wtR x.f3 := wt_le_total wtR x.f3 y hy
  show wtR y ≤ _
  omega
theorem FnExactCountOf : FnExactCountOfPure := by
 rintro a b c d e f now l n s _ _ _ _ _ _ _ ⟨hl, hbl⟩ hn hm
 obtain ⟨sz, hs, hw⟩ := sz_state now l hl hbl
 refine Ev.rounds ?_
 unfold laws_FnExactCountOf.f
 by_cases h1 : (n.size : Int) > 1048576
 ·exact Ev.ite_pos h1 (Ev.now _)
 by_cases h2 : (s.size : Int) > 1048576
 ·exact Ev.ite_neg h1 (Ev.ite_pos h2 (Ev.now _))
 refine Ev.ite_neg h1 (Ev.ite_neg h2 ?_)
 refine Ev.bind hs ?_
 by_cases hneg : sz < 0
 ·exact Ev.ite_pos hneg (Ev.now _)
 ·have hf := hw (by omega)
  have hi := in_bounds l hf
  have ht := to_state now l (by omega) hi
  have hi2 := len_map l hi
  have hsm := small_all l hf
  have hlen : (l.map cT).length ≤ 1048576 := by rw [List.length_map]; omega
  obtain ⟨R, hR⟩ : ∃ R, R = Bk.cntP b c (StOK.stB a b c d e f now (l.map cT)) (l.map cT) n s := ⟨_, rfl⟩
  have hsp : Ev (fun k => spec_CountOf.f a b c d e f now (l.map cT) n s) R := Ev.congr (fun k => by unfold spec_CountOf.f; rw [if_pos ⟨⟨hlen, hsm⟩, by omega, by omega⟩, hR]) (Ev.now _)
  have him : Ev (fun k => impl_CountOf.f a b c d e f now (l.map cT) n s) R := hsp
  refine Ev.ite_neg hneg ?_
  unfold laws_toConfig.f
  simp only [Option.bind_some]
  refine Ev.bind ht (Ev.bind hsp (Ev.bind ht (Ev.bind him (Ev.ite_pos rfl ?_))))
  refine Ev.step (f := fun k => (laws_toState.f k now l).bind fun q => (laws_eqState.f k now (l.map cT) q.1 q.2).bind fun u => if u = true then some true else none) (fun k => ?_) (Ev.bind ht (Ev.bind (eq_state now (l.map cT) (by omega) (fun x hx => by have := hi2 x hx; omega)) (Ev.ite_pos rfl (Ev.now _))))
  show (if (R.2 != R.2) = true then none else _) = _
  rw [if_neg (by simp)]
end Go.Proofs.YtikbfjnbhogihaaGreatDoor.Pure
