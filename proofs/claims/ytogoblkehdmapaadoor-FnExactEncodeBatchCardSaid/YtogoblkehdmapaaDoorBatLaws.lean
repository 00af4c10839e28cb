/- Some of this seat's texts, joined by prune.py. -/
import Derived.Test.YtogoblkehdmapaaDoorSz
import Derived.Test.YtogoblkehdmapaaDoorEncBat
import Derived.Test.YtogoblkehdmapaaDoorF6
import Derived.Test.YtogoblkehdmapaaDoorF8
import Derived.Test.YtogoblkehdmapaaDoorF10
import Derived.Test.YtogoblkehdmapaaDoorSmall
import Derived.Test.YtogoblkehdmapaaDoorF3
/- Batches, as the laws copy, compare and weigh them: plain. -/
namespace Go.Proofs.YtogoblkehdmapaaDoor.BatLaws
open Go.Proofs.YtogoblkehdmapaaDoor.M Go.Proofs.YtogoblkehdmapaaDoor.Loops Go.Proofs.YtogoblkehdmapaaDoorW.PrintWords Go.Proofs.YtogoblkehdmapaaDoorW.PrintLast Go.RowKit
abbrev RI := S73
abbrev RO := S47
def cR (x : RI) : RO := ⟨x.f0, x.f1, x.f2, x.f3⟩
theorem to_recs (l : List RI) (h : l.length ≤ 1048576) : Ev (fun k => laws_toRecS.f k l) (l.map cR) := by
  unfold laws_toRecS.f
  refine Ev.ite_pos (by omega) (Ev.ite_pos (by omega) ?_)
  rw [Int.toNat_natCast]
  exact fill_all laws_toRecS.l0 (fun _ a => laws_toRec.f a.f0 a.f1 a.f2 a.f3) (fun c => (⟨c.1, c.2.1, c.2.2.1, c.2.2.2⟩ : RO)) z73 z47
    (fun k x y i => by simp only [laws_toRecS.l0]; rfl) (fun a => (a.f0, a.f1, a.f2, a.f3)) l (by omega) (fun a _ => Ev.now _)
theorem to_batch (n : Int) (l : List RI) (h : l.length ≤ 1048576) : Ev (fun k => laws_toBatch.f k n l) (n, l.map cR) := by
  unfold laws_toBatch.f
  exact Ev.bind (to_recs l h) (Ev.now _)
theorem eq_recs (l : List RO) (h : l.length < 9223372036854775807) : Ev (fun k => laws_eqRecS.f k l l) true := by
  unfold laws_eqRecS.f
  refine Ev.ite_pos rfl ?_
  exact all_loop laws_eqRecS.l0 (fun _ x y => laws_eqRec.f x.f0 x.f1 x.f2 x.f3 y.f0 y.f1 y.f2 y.f3) z47 (fun k x y i => by simp only [laws_eqRecS.l0]; rfl) l h (fun a _ => by
    unfold laws_eqRec.f; simp only [if_true]; exact Ev.now _) l.length 0 (by omega)
theorem eq_batch (n : Int) (l : List RO) (h : l.length < 9223372036854775807) : Ev (fun k => laws_eqBatch.f k n l n l) true := by
  unfold laws_eqBatch.f
  simp only [if_true]
  exact Ev.bind (eq_recs l h) (Ev.ite_pos rfl (Ev.now _))
end Go.Proofs.YtogoblkehdmapaaDoor.BatLaws
/-! ### sizes -/
namespace Go.Proofs.YtogoblkehdmapaaDoor.BatLaws
open Go.Proofs.YtogoblkehdmapaaDoor.M Go.Proofs.YtogoblkehdmapaaDoor.Loops Go.Proofs.YtogoblkehdmapaaDoorW.PrintWords Go.Proofs.YtogoblkehdmapaaDoorW.PrintLast Go.RowKit
def wtI (x : RI) : Nat := x.f1.size + x.f2.size
theorem sz_recs (l : List RI) (hl : l.length ≤ maxLen) (hb : ∀ y ∈ l, b73 y) (a : Int) (h0 : 0 ≤ a) (h1 : a ≤ 1048576) :
    ∃ t, Ev (fun k => laws_szRecS.f k l a) t ∧ (0 ≤ t → t = a - ((l.length : Int) + (total wtI l : Nat))) := by
  unfold laws_szRecS.f
  refine sz_list laws_szRecS.l0 (fun _ x a => laws_szRec.f x.f0 x.f1 x.f2 x.f3 a) z73 wtI (fun k x a i => by simp only [laws_szRecS.l0]; rfl) l hl (fun e he a h0 h1 => ?_) a h0 h1
  obtain ⟨_, s0, s1, _⟩ := hb e he
  obtain ⟨t, ht, hw⟩ := sz_two e.f1.size e.f2.size s0 s1 a h0 h1
  exact ⟨t, ⟨0, fun _ _ => by unfold laws_szRec.f; exact ht⟩, hw⟩
theorem sz_batch (n : Int) (l : List RI) (hl : l.length ≤ maxLen) (hb : ∀ y ∈ l, b73 y) :
    ∃ t, Ev (fun k => laws_szBatch.f k n l 1048576) t ∧ (0 ≤ t → l.length + total wtI l ≤ 1048576) := by
  unfold laws_szBatch.f
  obtain ⟨t, ht, hw⟩ := sz_recs l hl hb 1048576 (by omega) (by omega)
  obtain ⟨u, hu, hw2⟩ := sz_hand ht
  refine ⟨u, hu, fun h => ?_⟩
  have h3 := hw2 h
  have h4 := hw (by omega)
  omega
end Go.Proofs.YtogoblkehdmapaaDoor.BatLaws
/- Some of this seat's texts, joined by prune.py. -/
-- By pp.py, a program of this repo, with the kit's printer: Lean checks it.
namespace Go.Proofs.YtogoblkehdmapaaDoor.M
open Go.RowKit Go.Proofs.YtogoblkehdmapaaDoorW.PrintWords Go.Proofs.YtogoblkehdmapaaDoorW.PrintLast Go.Proofs.YtogoblkehdmapaaDoorW.PrintMore
attribute [local go_sem] max2_int min2_int max_two min_two max_three min_three max_four min_four
set_option linter.unusedVariables false
set_option linter.unusedSimpArgs false

end Go.Proofs.YtogoblkehdmapaaDoor.M
namespace Go.Proofs.YtogoblkehdmapaaDoor.Pure
open Go.Proofs.YtogoblkehdmapaaDoor.M Go.RowKit
/-- What is left to prove of laws_FnExactEncodeBatch. -/
def FnExactEncodeBatchPure : Prop := ∀ (a0_0 : Int) (l0_1 : List (S73)), (Lit.int .i64 a0_0).wf = true → (l0_1.length ≤ maxLen ∧ ∀ y_ ∈ l0_1, b73 y_) → ∃ k, laws_FnExactEncodeBatch.f k a0_0 l0_1 = some true
end Go.Proofs.YtogoblkehdmapaaDoor.Pure
namespace Go.Proofs.YtogoblkehdmapaaDoor.M
end Go.Proofs.YtogoblkehdmapaaDoor.M
/- FnExactEncodeBatch: what is left, plain. -/
namespace Go.Proofs.YtogoblkehdmapaaDoor.Pure
open Go.Proofs.YtogoblkehdmapaaDoor.M Go.Proofs.YtogoblkehdmapaaDoor.Loops Go.Proofs.YtogoblkehdmapaaDoor.BatLaws Go.Proofs.YtogoblkehdmapaaDoorW.PrintWords Go.Proofs.YtogoblkehdmapaaDoorW.PrintLast Go.RowKit
theorem FnExactEncodeBatch : FnExactEncodeBatchPure := by
  rintro n l _ ⟨hl, hbl⟩
  obtain ⟨s, hs, hw⟩ := sz_batch n l hl hbl
  refine Ev.rounds ?_
  unfold laws_FnExactEncodeBatch.f
  refine Ev.bind hs ?_
  by_cases hneg : s < 0
  · exact Ev.ite_pos hneg (Ev.now _)
  · have hf := hw (by omega)
    have ht := to_batch n l (by omega)
    refine Ev.ite_neg hneg (Ev.bind ht ?_)
    unfold spec_EncodeBatch.f impl_EncodeBatch.f impl_batchText.f
    simp only [Option.bind_some]
    refine Ev.bind ht (Ev.ite_pos rfl (Ev.bind ht (Ev.bind (eq_batch n (l.map cR) (by rw [List.length_map]; omega)) (Ev.ite_pos rfl (Ev.now _)))))
end Go.Proofs.YtogoblkehdmapaaDoor.Pure
