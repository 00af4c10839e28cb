/- impl.Scan: a loop over the iterator 'frames': the payloads of the frames and where the last one ends. -/
import Derived.RangeFuncBox
import Derived.RangeFuncNested
import Derived.RangeFuncLeaves
import Derived.Shelf.Abstract
import Derived.WalkKit
import Derived.OwnWalkIn
import Derived.TacticsInMore
import Derived.LoopNIn
import Derived.LoopIn
import Derived.Maps.AppendAt
import Derived.Test.YtagchfmclccfgaaXSrcNum
import Derived.Test.YtagchfmclccfgaaXCrc
namespace Go.Proofs.Ytagchfmclccfgaa.M
open Go.RowKit Go.Shelf Go.Proofs.YtagchfmclccfgaaW.PrintWords Go.Proofs.YtagchfmclccfgaaW.PrintLast Go.Proofs.YtagchfmclccfgaaW.PrintMore
set_option linter.unusedVariables false
set_option linter.unusedSimpArgs false
attribute [local go_sem] Oper.semAt_some
namespace Scan
/-- One round of 'frames' at the place i: nothing where it ends; else the payload and the place behind it. -/
def step (d : ByteArray) (i : Nat) : Option (Option (ByteArray × Int)) :=
  if (8 : Int) ≤ wrap64 ((d.size : Int) - (i : Int)) then
    (impl_source_num.f (d.extract i d.size) 4).bind fun a => (impl_source_num.f a.2 4).bind fun b =>
      if a.1 < 1 ∨ 60000 < a.1 ∨ (b.2.size : Int) < a.1 then some none else
        (impl_source_text.f b.2 a.1).bind fun c => (impl_Crc32c.f c.1).bind fun s =>
          if s = b.1 then some (some (c.1, wrap64 ((i : Int) + wrap64 (8 + a.1)))) else some none
  else some none
def from_ (d : ByteArray) : Nat → Nat → Option (List (ByteArray × Int))
  | 0, _ => none
  | k + 1, i => (step d i).bind fun r => match r with
    | none => some []
    | some x => if (i : Int) < x.2 ∧ x.2 ≤ (d.size : Int) then (from_ d k x.2.toNat).map (x :: ·) else none
def lastEnd (l : List (ByteArray × Int)) : Int := (l.getLast?.map (·.2)).getD 0
theorem lastEnd_snoc (l : List (ByteArray × Int)) (x : ByteArray × Int) : lastEnd (l ++ [x]) = x.2 := by simp [lastEnd]
theorem cell_lt {W : World} {b : Nat} {v : Value} (h : W.cell? ⟨b, 0, none⟩ = some v) : b < W.heap.size := by
  by_cases hb : b < W.heap.size
  · exact hb
  · simp [World.cell?, Array.getElem?_eq_none (Nat.le_of_not_lt hb)] at h
theorem grown_of {W W' : World} (h : Below W.heap.size W W') : W.grownBy W' none := grown_of_below h none
end Scan
def impl_Scan.f (d : ByteArray) : Option (List ByteArray × Int) := if d.size ≤ 1048576 then (Scan.from_ d (d.size + 1) 0).bind fun l => if l.length ≤ 1048576 then some (l.map (·.1), Scan.lastEnd l) else none else none
open Scan in
set_option maxRecDepth 100000 in
set_option maxHeartbeats 4000000 in
theorem Scan.frames1 (n : Nat) (hn : 1 ≤ n) (l Bn : Nat) (d : ByteArray) (hd : d.size ≤ 1048576) (L : List (ByteArray × Int)) (J Jx : List (ByteArray × Int) → World → Prop)
    (W : World) (hJ : AbidesFrom W.heap.size J)
    (hL : from_ d (d.size + 1) 0 = some L)
    (hY : ∀ pre x W1, J pre W1 → pre.length < L.length → YieldAt Fence.wide (n - 1) Try.prog l #[.string x.1, .int .i64 x.2] W1 fun e W' =>
      (e = .returned (.bool true) ∧ J (pre ++ [x]) W' ∧ (∀ v, W1.cell? ⟨Bn, 0, none⟩ = some v → W'.cell? ⟨Bn, 0, none⟩ = some v)) ∨ (e = .returned (.bool false) ∧ Jx (pre ++ [x]) W'))
    (hBn : W.cell? ⟨Bn, 0, none⟩ = some (.string d)) (h0 : J [] W) :
    CallsIn Fence.wide n Try.prog 68 #[.func (.yield l) #[] #[], .pointer (some ⟨Bn, 0, none⟩)] W fun e W' => (∃ v, e = .returned v) ∧
      ((∃ ys, ys = L ∧ J ys W') ∨ (∃ pre, True ∧ Jx pre W')) := by
  refine callsIn_of_wp Try.func68 rfl trivial ?_ rfl
  simp only [Try.ntmps68, List.size_toArray, List.length_cons, List.length_nil, Nat.reduceAdd, Nat.reduceSub, Array.replicate_succ, Array.replicate_zero, List.push_toArray, List.append_toArray, List.nil_append, List.cons_append]
  gi_wp2
  gi_loopw [3] (fun p wr => ∃ (k i : Nat) (pre rest : List (ByteArray × Int)), p = .int .i64 i ∧ i ≤ d.size ∧ L = pre ++ rest ∧ from_ d k i = some rest ∧ J pre wr ∧ wr.cell? ⟨Bn, 0, none⟩ = some (.string d) )
    (fun p _ => d.size - (intOf p).toNat)
  case atStart => exact ⟨_, 0, [], L, rfl, Nat.zero_le _, rfl, hL, h0, hBn⟩
  case round =>
    obtain ⟨k, i, pre, rest, rfl, hi, hx, hf, hJs, hcell⟩ := hrel
    cases k with
    | zero => cases hf
    | succ k =>
      rw [from_] at hf
      obtain ⟨r, hstep, hf⟩ := Option.bind_eq_some_iff.mp hf
      unfold step at hstep
      have hsub : wrap64 ((d.size : Int) - (i : Int)) = (d.size : Int) - (i : Int) := by unfold wrap64; omega
      rw [hsub] at hstep
      by_cases h8 : (8 : Int) ≤ (d.size : Int) - (i : Int)
      · rw [if_pos h8] at hstep
        obtain ⟨⟨n1, d1⟩, hn1, hstep⟩ := Option.bind_eq_some_iff.mp hstep
        obtain ⟨⟨n2, d2⟩, hn2, hstep⟩ := Option.bind_eq_some_iff.mp hstep
        dsimp only at hn2 hstep
        have HN1 := Aside0.mk hn1
        have HN2 := Aside0.mk hn2
        have HST := Aside0.mk hstep
        have HF := Aside0.mk hf
        clear hn1 hn2 hstep hf
        have fin : ∀ (w' : World), rest = [] → J pre w' → J L w' := by
          intro w' h hj
          rw [hx, h, List.append_nil]
          exact hj
        have hnew : (wr.alloc (.cells #[.string (d.extract i d.size)] 99)).heap[wr.heap.size]? = some (.cells #[.string (d.extract i d.size)] 99 (0, 0)) := World.alloc_heap_new wr _
        have HI0 : Aside0 (IsS99 wr (wr.alloc (.cells #[.string (d.extract i d.size)] 99)) wr.heap.size (d.extract i d.size)) := Aside0.mk ⟨hnew, Nat.le_refl _⟩
        have HB0 : Aside0 (Below wr.heap.size wr (wr.alloc (.cells #[.string (d.extract i d.size)] 99))) := Aside0.mk ((Below.refl _ wr).alloc (Nat.le_refl _) _)
        clear hnew
        gi_wp2
        refine ⟨trivial, (callsIn_wide.2 (impl_source_num.calls wr.heap.size (d.extract i d.size) 4 n1 d1 wr _ HI0.out HB0.out HN1.out)).mono ?_⟩
        rintro e w1 ⟨rfl, hI1, hB1, _⟩
        have HI1 := Aside0.mk hI1
        have HB1 := Aside0.mk hB1
        clear hI1 hB1
        gi_wp2
        refine ⟨trivial, (callsIn_wide.2 (impl_source_num.calls wr.heap.size d1 4 n2 d2 wr w1 HI1.out HB1.out HN2.out)).mono ?_⟩
        rintro e w2 ⟨rfl, hI2, hB2, _⟩
        have hc2 : w2.cell? ⟨wr.heap.size, 0, none⟩ = some (.string d2) := cellS99_0 hI2.1
        have HI2 := Aside0.mk hI2
        have HB2 := Aside0.mk hB2
        clear hI2 hB2
        have stop : r = none → rest = [] := by
          rintro rfl
          exact (Option.some.inj HF.out).symm
        have HJ2 := Aside0.mk (hJ pre wr w2 none hJs (grown_of HB2.out) (fun _ e => by cases e))
        by_cases c1 : n1 < 1
        · have hr0 := HST.out
          rw [if_pos (.inl c1)] at hr0
          have hrest := stop (Option.some.inj hr0).symm
          clear hr0
          gi_wp2
          refine bodyPost_ret (results_none rfl _ _ _) rfl ⟨⟨_, rfl⟩, .inl ⟨_, rfl, fin w2 hrest HJ2.out⟩⟩
        · by_cases c2 : 60000 < n1
          · have hr0 := HST.out
            rw [if_pos (.inr (.inl c2))] at hr0
            have hrest := stop (Option.some.inj hr0).symm
            clear hr0
            gi_wp2
            refine bodyPost_ret (results_none rfl _ _ _) rfl ⟨⟨_, rfl⟩, .inl ⟨_, rfl, fin w2 hrest HJ2.out⟩⟩
          · by_cases c3 : (d2.size : Int) < n1
            · have hr0 := HST.out
              rw [if_pos (.inr (.inr c3))] at hr0
              have hrest := stop (Option.some.inj hr0).symm
              clear hr0
              gi_wp2
              refine bodyPost_ret (results_none rfl _ _ _) rfl ⟨⟨_, rfl⟩, .inl ⟨_, rfl, fin w2 hrest HJ2.out⟩⟩
            · have hst := HST.out
              rw [if_neg (by omega)] at hst
              obtain ⟨⟨t1, t2⟩, ht, hst⟩ := Option.bind_eq_some_iff.mp hst
              obtain ⟨cs, hcs, hst⟩ := Option.bind_eq_some_iff.mp hst
              dsimp only at hcs hst
              have HT := Aside0.mk ht
              have HC := Aside0.mk hcs
              have HST2 := Aside0.mk hst
              clear ht hcs hst
              gi_wp2
              refine ⟨trivial, (callsIn_wide.2 (impl_source_text.calls wr.heap.size d2 n1 t1 t2 wr w2 HI2.out HB2.out HT.out)).mono ?_⟩
              rintro e w3 ⟨rfl, hI3, hB3, _⟩
              have HI3 := Aside0.mk hI3
              have HB3 := Aside0.mk hB3
              clear hI3 hB3
              gi_wp2
              refine ⟨trivial, (callsIn_wide.2 (impl_Crc32c.calls t1 cs w3 HC.out)).mono ?_⟩
              rintro e w4 ⟨rfl, hB4⟩
              have HB4 := Aside0.mk (below_then HB3.out HB3.out.size hB4)
              clear hB4
              have HJ4 := Aside0.mk (hJ pre wr w4 none hJs (grown_of HB4.out) (fun _ e => by cases e))
              have hcell4 : w4.cell? ⟨Bn, 0, none⟩ = some (.string d) := (HB4.out.cell (p := ⟨Bn, 0, none⟩) (cell_lt hcell)).trans hcell
              by_cases c4 : cs = n2
              · have hst := HST2.out
                rw [if_pos c4] at hst
                obtain rfl := Option.some.inj hst
                have hf := HF.out
                dsimp only at hf
                by_cases hend : (i : Int) < wrap64 ((i : Int) + wrap64 (8 + n1)) ∧ wrap64 ((i : Int) + wrap64 (8 + n1)) ≤ (d.size : Int)
                · rw [if_pos hend] at hf
                  obtain ⟨rest', hr', rfl⟩ := Option.map_eq_some_iff.mp hf
                  have hwi : wrap64 (8 + n1) = 8 + n1 := by unfold wrap64; omega
                  rw [hwi] at hend hr' hx hst
                  obtain ⟨at', hat⟩ : ∃ a : Nat, wrap64 ((i : Int) + (8 + n1)) = (a : Int) := ⟨_, (Int.toNat_of_nonneg (by omega)).symm⟩
                  rw [hat] at hend hr' hx
                  have hwj : (i : Int) + (8 + n1) = (at' : Int) := by rw [← hat]; unfold wrap64; omega
                  obtain ⟨fn, tmps, assign, body, hy, hR⟩ := hY pre (t1, (at' : Int)) w4 HJ4.out (by rw [hx]; simp)
                  dsimp only at hy
                  clear hst hf
                  gi_wp2
                  refine hR.mono ?_
                  rintro e w5 (⟨rfl, hJ5, hk5⟩ | ⟨rfl, hJx5⟩)
                  · have hcell5 := hk5 _ hcell4
                    gi_wp2
                    go_roundw
                    case rel => exact ⟨k, at', pre ++ [(t1, (at' : Int))], rest', rfl, by omega, by rw [hx]; simp, by simpa using hr', hJ5, hcell5⟩
                    case measure => simp [intOf]; omega
                  · gi_wp2
                    refine bodyPost_ret (results_none rfl _ _ _) rfl ⟨⟨_, rfl⟩, .inr ⟨_, trivial, hJx5⟩⟩
                · rw [if_neg hend] at hf; cases hf
              · have hst := HST2.out
                rw [if_neg c4] at hst
                have hrest := stop (Option.some.inj hst).symm
                clear hst
                gi_wp2
                refine bodyPost_ret (results_none rfl _ _ _) rfl ⟨⟨_, rfl⟩, .inl ⟨_, rfl, fin w4 hrest HJ4.out⟩⟩
      · rw [if_neg h8] at hstep
        obtain rfl := Option.some.inj hstep
        dsimp only at hf
        obtain hf : rest = [] := (Option.some.inj hf).symm
        gi_wp2
        go_end0
        first
          | exact ⟨⟨_, rfl⟩, .inl ⟨_, rfl, by rw [hx, hf, List.append_nil]; exact hJs⟩⟩
          | exact ⟨⟨_, rfl⟩, .inl hJs⟩
theorem Scan.cell_of_heap {A B : World} {b : Nat} (h : B.heap[b]? = A.heap[b]?) : B.cell? ⟨b, 0, none⟩ = A.cell? ⟨b, 0, none⟩ := by simp [World.cell?, h]
theorem Scan.cells_of_cell {A : World} {b : Nat} {v : Value} {o : Obj} (h : A.cell? ⟨b, 0, none⟩ = some v) (ho : A.heap[b]? = some o) : ¬ o.isCells = false := by
  intro hc
  simp only [World.cell?, ho] at h
  cases o <;> simp_all [Obj.isCells]
/-- What a round keeps: the box of the data. -/
def Scan.Kp (Bn : Nat) (A B : World) : Prop := ∀ v, A.cell? ⟨Bn, 0, none⟩ = some v → B.cell? ⟨Bn, 0, none⟩ = some v
theorem Scan.appended {w W w1 : World} {v v' E : Value} {k m : Nat} {xs ys : List Value} {tmp : Obj} (hsz : w.heap.size ≤ W.heap.size) (hv : Boxed W w.heap.size 45 v) (hE : Boxed W (w.heap.size + 1) 3 E)
    (hrow : W.ownsRow (w.heap.size + 3) 9 1 v k xs) (hown' : w1.ownsRow (w.heap.size + 3) 9 1 v' (m + 1) ys) (hgrow : (W.alloc tmp).grownBy w1 v.ownBlock) (E' : Value) :
    ∃ g' cap', v' = .slice (some ⟨g', 0, none⟩) (m + 1) cap' ∧ w1.cell? ⟨w.heap.size, 0, none⟩ = some v ∧ w1.frozen? ⟨w.heap.size, 0, none⟩ = false ∧
      (w1.setCell ⟨w.heap.size, 0, none⟩ v').cell? ⟨w.heap.size + 1, 0, none⟩ = some E ∧ (w1.setCell ⟨w.heap.size, 0, none⟩ v').frozen? ⟨w.heap.size + 1, 0, none⟩ = false ∧
      Boxed ((w1.setCell ⟨w.heap.size, 0, none⟩ v').setCell ⟨w.heap.size + 1, 0, none⟩ E') w.heap.size 45 v' ∧ Boxed ((w1.setCell ⟨w.heap.size, 0, none⟩ v').setCell ⟨w.heap.size + 1, 0, none⟩ E') (w.heap.size + 1) 3 E' ∧
      ((w1.setCell ⟨w.heap.size, 0, none⟩ v').setCell ⟨w.heap.size + 1, 0, none⟩ E').ownsRow (w.heap.size + 3) 9 1 v' (m + 1) ys ∧
      KeepsOthers W ((w1.setCell ⟨w.heap.size, 0, none⟩ v').setCell ⟨w.heap.size + 1, 0, none⟩ E') ∧ Below w.heap.size W ((w1.setCell ⟨w.heap.size, 0, none⟩ v').setCell ⟨w.heap.size + 1, 0, none⟩ E') ∧
      Scan.Kp (w.heap.size + 1 + 1) W ((w1.setCell ⟨w.heap.size, 0, none⟩ v').setCell ⟨w.heap.size + 1, 0, none⟩ E') := by
  obtain ⟨g', cap', rfl⟩ := ownsRow_succ hown'
  have hrow0 : W.ownsRow w.heap.size 9 1 v k xs := own_weaken hrow (by omega)
  obtain ⟨hv1, hv3, hr3, hk3, hb3⟩ := hv.appended (by decide) hrow0 hsz (Nat.le_refl _) (own_weaken hown' (by omega)) hgrow
  have hE1 : Boxed w1 (w.heap.size + 1) 3 E := (hE.alloc _).kept hgrow (hE.not_row (by decide) hrow)
  have hE2 := hE1.other (B' := w.heap.size) (by omega) (.slice (some ⟨g', 0, none⟩) (m + 1) cap')
  have hE3 := hE2.set E'
  have hv4 := hv3.other (B' := w.heap.size + 1) (by omega) E'
  have hgn : ∀ b, v.ownBlock = some b → w.heap.size + 3 ≤ b := by
    intro b hb
    rcases hrow.2 with ⟨rfl, _⟩ | ⟨g, cap, cur, rfl, hg, _⟩
    · simp [Value.ownBlock] at hb
    · obtain rfl : g = b := by simpa [Value.ownBlock] using hb
      exact hg
  refine ⟨g', cap', rfl, hv1.cell, hv1.frozen, hE2.cell, hE2.frozen, hv4, hE3, ?_, hk3.trans (KeepsOthers.setCell _ _ _), hb3.setCell (p := ⟨w.heap.size + 1, 0, none⟩) (by show w.heap.size ≤ w.heap.size + 1; omega) _, ?_⟩
  · have hr1 := hown'.kept (grownBy_setCell' w1 w.heap.size (.slice (some ⟨g', 0, none⟩) (m + 1) cap')) (.inr (hv1.not_row (by decide) hown').symm)
    exact hr1.kept (grownBy_setCell' _ (w.heap.size + 1) E') (.inr (hE2.not_row (by decide) hr1).symm)
  · intro u hu
    have hlt := Scan.cell_lt hu
    have h1 : w1.heap[w.heap.size + 1 + 1]? = W.heap[w.heap.size + 1 + 1]? := (hgrow.block _ (by rw [World.size_alloc]; omega) (fun e => by have := hgn _ e.symm; omega)).trans (Below.heap_alloc W tmp _ hlt)
    have h2 : (w1.setCell ⟨w.heap.size, 0, none⟩ (.slice (some ⟨g', 0, none⟩) (m + 1) cap')).heap[w.heap.size + 1 + 1]? = w1.heap[w.heap.size + 1 + 1]? := Below.heap_setCell _ _ _ _ (by show w.heap.size + 1 + 1 ≠ w.heap.size; omega)
    have h3 : ((w1.setCell ⟨w.heap.size, 0, none⟩ (.slice (some ⟨g', 0, none⟩) (m + 1) cap')).setCell ⟨w.heap.size + 1, 0, none⟩ E').heap[w.heap.size + 1 + 1]? = (w1.setCell ⟨w.heap.size, 0, none⟩ (.slice (some ⟨g', 0, none⟩) (m + 1) cap')).heap[w.heap.size + 1 + 1]? := Below.heap_setCell _ _ _ _ (by show w.heap.size + 1 + 1 ≠ w.heap.size + 1; omega)
    exact (Scan.cell_of_heap ((h3.trans h2).trans h1)).trans hu
open Scan in
theorem Scan.stops (n : Nat) (hn : 1 ≤ n) (Bn : Nat) (d : ByteArray) (hd : d.size ≤ 1048576) (L : List (ByteArray × Int)) (hL : from_ d (d.size + 1) 0 = some L) (w : World) (hc : w.cell? ⟨Bn, 0, none⟩ = some (.string d)) :
    SeqStopsK Fence.wide n Try.prog 68 #[.pointer (some ⟨Bn, 0, none⟩)] (fun x : ByteArray × Int => #[.string x.1, .int .i64 x.2]) (Kp Bn) (fun ys => ys = L) (fun _ => True) L.length w := fun l J Jx W hW hJ _ hY h0 =>
  Scan.frames1 n hn l Bn d hd L J Jx W hJ hL hY ((hW.cell (p := ⟨Bn, 0, none⟩) (cell_lt hc)).trans hc) h0
set_option maxHeartbeats 1000000 in
theorem Scan.frames (n : Nat) (d : ByteArray) (w : World) :
    CallsIn Fence.wide n Try.prog 55 #[.string d] w fun e w' => e = .returned (.func (.func 68) #[] #[.pointer (some ⟨w.heap.size, 0, none⟩)]) ∧ w' = w.alloc (.cells #[.string d] 9) := by
  refine callsIn_of_wp Try.func55 rfl trivial ?_ rfl
  simp only [Try.ntmps55, List.size_toArray, List.length_cons, List.length_nil, Nat.reduceAdd, Nat.reduceSub, Array.replicate_succ, Array.replicate_zero, List.push_toArray, List.append_toArray, List.nil_append, List.cons_append]
  gi_wp2
  go_ret
  exact ⟨rfl, rfl⟩
open Scan in
set_option maxRecDepth 100000 in
set_option maxHeartbeats 4000000 in
theorem impl_Scan.calls (a0 : ByteArray) (r1 : List ByteArray) (r2 : Int) (w : World) (h : impl_Scan.f a0 = some (r1, r2)) :
    Calls Try.prog 30 #[.string a0] w fun e w' => ∃ v0_ : Value, e = .returned (.tuple #[v0_, .int .i64 r2]) ∧ Kd.R Kd.string 9 w' w.heap.size (fun _ => True) v0_ r1 ∧ Below w.heap.size w w' := by
  unfold impl_Scan.f at h
  have hd : a0.size ≤ 1048576 := by
    by_cases hd : a0.size ≤ 1048576
    · exact hd
    · rw [if_neg hd] at h; cases h
  rw [if_pos hd] at h
  obtain ⟨L, hL, h⟩ := Option.bind_eq_some_iff.mp h
  have hl : L.length ≤ 1048576 := by
    by_cases hl : L.length ≤ 1048576
    · exact hl
    · rw [if_neg hl] at h; cases h
  rw [if_pos hl] at h
  obtain ⟨hr1, hr2⟩ := Prod.mk.inj (Option.some.inj h)
  clear h
  have HR1 := Aside0.mk hr1
  have HR2 := Aside0.mk hr2
  clear hr1 hr2
  have HL := Aside0.mk hL
  clear hL
  have hi9 : (Try.prog.info? 9).map (fun i => (i.zero, i.size, i.bytes)) = some (some (.string ByteArray.empty), 1, 16) := by kernel_rfl
  obtain ⟨i0, hi, hz0, hz1, hz2⟩ := info_parts hi9
  refine (callsIn_wide (n := 3)).1 ?_
  refine callsIn_of_wp_marks Try.func30 rfl trivial ?_ rfl
  simp only [Try.ntmps30, List.size_toArray, List.length_cons, List.length_nil, Nat.reduceAdd, Nat.reduceSub, Array.replicate_succ, Array.replicate_zero, List.push_toArray, List.append_toArray, List.nil_append, List.cons_append]
  gi_wp2
  refine ⟨trivial, (Scan.frames _ a0 _).mono ?_⟩
  rintro e w' ⟨rfl, rfl⟩
  gi_wp2
  have bO := Boxed.new w 45 (.slice none 0 0)
  have bE := Boxed.new (w.alloc (.cells #[.slice none 0 0] 45)) 3 (.int .i64 0)
  have bN := Boxed.new ((w.alloc (.cells #[.slice none 0 0] 45)).alloc (.cells #[.int .i64 0] 3)) 9 (.string a0)
  simp only [World.size_alloc] at bE bN
  have hB0 : Below w.heap.size w (((w.alloc (.cells #[.slice none 0 0] 45)).alloc (.cells #[.int .i64 0] 3)).alloc (.cells #[.string a0] 9)) := (((Below.refl _ w).alloc (Nat.le_refl _) _).alloc (by simp) _).alloc (by simp; omega) _
  refine wpIn_rangeFunc_ownG rfl (by omega) (gf := 68) (lb := #[.pointer (some ⟨w.heap.size + 1 + 1, 0, none⟩)]) rfl trivial (enters_of Try.func68 (by kernel_rfl) rfl)
    (Scan.stops _ (by omega) (w.heap.size + 1 + 1) a0 hd L HL.out _ bN.cell)
    (fun h k v hv => k v (h v hv)) (fun W l o o' hl ho hoc _ v hv => (cell_of_heap (World.putObj_heap_other (by rintro rfl; exact absurd hoc (Scan.cells_of_cell hv ho)))).trans hv) (Below.refl _ _) (fun _ => rfl)
    (fun pre W => (∃ v, Boxed W w.heap.size 45 v ∧ W.ownsRow (w.heap.size + 3) 9 1 v pre.length (pre.map fun x => Value.string x.1) ∧ True) ∧ Boxed W (w.heap.size + 1) 3 (.int .i64 (lastEnd pre)) ∧ Below w.heap.size w W)
    (fun _ _ _ => False)
    (OwnFrom.and (Own.from (holdsRow_own (w.heap.size + 3) w.heap.size 45 9 1 (fun pre : List (ByteArray × Int) => pre.length) (fun pre => pre.map fun x => Value.string x.1) (fun _ _ => True)) _)
      (OwnFrom.and (Own.from (fun s A B row hs hg hr => hs.kept hg (fun e' => by
        obtain ⟨o, ho, hc⟩ := hr _ e'.symm
        rw [show A.heap[w.heap.size + 1]? = _ from hs] at ho; cases ho; cases hc)) _) (ownFrom_below (Nat.le_refl _) (by simp; omega))))
    (fun _ _ _ _ _ hs _ _ => hs)
    ⟨⟨_, (bO.alloc _).alloc _, World.ownsRow_nil _ _ _ _, trivial⟩, bE.alloc _, hB0⟩
    (fun x => { tmps := #[.string a0, undef, .slice none 0 0, .int .i64 0, .pointer (some ⟨w.heap.size, 0, none⟩), .pointer (some ⟨w.heap.size + 1, 0, none⟩), .string x.1, .int .i64 x.2, .string a0, .func (.func 68) #[] #[.pointer (some ⟨w.heap.size + 1 + 1, 0, none⟩)], .string x.1, .int .i64 x.2, undef, undef, undef, undef, undef, undef, undef], defers := [] }) ?assign ?body ?done ?stop
  case assign =>
    intro l x W K hK
    gi_wp2
    exact hK
  case body =>
    rintro l pre x W ⟨⟨v, hv, hrow, _⟩, hv2, hB⟩ hlt
    have hc := hv.cell
    have hf0 := hv.frozen
    have hrow0 : W.ownsRow w.heap.size 9 1 v pre.length (pre.map fun x => Value.string x.1) := own_weaken hrow (by omega)
    gi_wp2_with (gi_at_builtin; refine wpListIn_append_own _ rfl _ _ 45 rfl (w.heap.size + 3) 9 i0 (.string ByteArray.empty) 1 16 Try.underlying45 hi hz0 hz1 hz2 rfl (by decide) _ _ _ rfl (hrow.alloc _) ⟨W.heap.size, 0, none⟩ 1 1 [.string x.1] rfl rfl (cell_one_new _ _ _) (by simp [Value.oneCell']) (by show pre.length + 1 ≤ maxLen; unfold maxLen; omega) (by omega) (by have := hB.size; have := hv2.lt; simp; omega) ?_; intro v' w1 hown' hgrow _; obtain ⟨g', cap', rfl, hc1, hf1, hcE, hfE, hend⟩ := Scan.appended hB.size hv hv2 hrow hown' hgrow (.int .i64 x.2); have HE := Aside0.mk hend; clear hend)
    obtain ⟨e1, e2, e3, e4, e5, e6⟩ := HE.out
    refine ⟨e4.from _, e6, ⟨_, e1, ?_, trivial⟩, ?_, hB.trans e5⟩
    · simpa using e3
    · rw [lastEnd_snoc]; exact e2
  case done =>
    rintro D ys W hD rfl ⟨⟨v, hv, hrow, _⟩, hv2, hB⟩ hK
    have hc := hv.cell
    have hc2 := hv2.cell
    gi_wp2
    gi_region
    all_goals gi_wp2
    all_goals
      refine ⟨by simp, .inl ⟨_, _, rfl, run_takeDeferred (w := W.drew) hK, ?_⟩⟩
      refine ⟨.tuple #[v, .int .i64 (lastEnd ys)], by simp [results, Try.f30, go_sem], v, by rw [HR2.out], ?_, ?_⟩
      · rw [← HR1.out]
        have ho : (W.drew.putObj D (.deferred none)).ownsRow w.heap.size 9 1 v (ys.map (·.1)).length (encs Value.string (ys.map (·.1))) := by
          have hr : W.drew.ownsRow w.heap.size 9 1 v ys.length (ys.map fun x => Value.string x.1) := own_weaken hrow (by omega)
          have := ownsRow_putObj hr (.deferred none) (show W.drew.heap[D]? = _ from hK) rfl
          simpa [encs, List.map_map, Function.comp_def] using this
        exact Kd.R_of_own ho (fun _ _ => trivial)
      · have hD' : w.heap.size ≤ D := by simp at hD; omega
        exact (hB.trans (Below.refl _ W).drew).trans (belowK_b (w := w) (Nat.le_refl _) W.drew D _ _ hD' hK rfl rfl)
  case stop =>
    rintro D c pre W _ _ h _
    exact h.elim
end Go.Proofs.Ytagchfmclccfgaa.M
