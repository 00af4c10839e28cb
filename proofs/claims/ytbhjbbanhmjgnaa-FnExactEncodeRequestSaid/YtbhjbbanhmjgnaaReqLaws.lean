/- Some of this seat's texts, joined by prune.py. -/
import Derived.Test.YtbhjbbanhmjgnaaSz
import Derived.Test.YtbhjbbanhmjgnaaF6
import Derived.Test.YtbhjbbanhmjgnaaF8
import Derived.Test.YtbhjbbanhmjgnaaF10
import Derived.Test.YtbhjbbanhmjgnaaO0
import Derived.Test.YtbhjbbanhmjgnaaF3
/- Requests, as the laws copy, compare and weigh them: plain. -/
namespace Go.Proofs.Ytbhjbbanhmjgnaa.ReqLaws
open Go.Proofs.Ytbhjbbanhmjgnaa.M Go.Proofs.Ytbhjbbanhmjgnaa.Loops Go.Proofs.YtbhjbbanhmjgnaaW.PrintWords Go.Proofs.YtbhjbbanhmjgnaaW.PrintLast Go.RowKit
abbrev LI := S135
abbrev LO := S67
abbrev SI := S98
abbrev SO := S65
def cL (x : LI) : LO := ⟨x.f0, x.f1⟩
def cS (x : SI) : SO := ⟨x.f0.map cL, x.f1⟩
theorem to_labels (l : List LI) (h : l.length ≤ 1048576) : Ev (fun k => laws_toLabelS.f k l) (l.map cL) := by
  unfold laws_toLabelS.f
  refine Ev.ite_pos (by omega) (Ev.ite_pos (by omega) ?_)
  rw [Int.toNat_natCast]
  exact fill_all laws_toLabelS.l0 (fun _ a => laws_toLabel.f a.f0 a.f1) (fun c => (⟨c.1, c.2⟩ : LO)) z135 z67
    (fun k x y i => by simp only [laws_toLabelS.l0]; rfl) (fun a => (a.f0, a.f1)) l (by omega) (fun a _ => Ev.now _)
theorem to_samples (l : List SI) (h : l.length ≤ 1048576) (hi : ∀ x ∈ l, x.f0.length ≤ 1048576) : Ev (fun k => laws_toSampleS.f k l) (l.map cS) := by
  unfold laws_toSampleS.f
  refine Ev.ite_pos (by omega) (Ev.ite_pos (by omega) ?_)
  rw [Int.toNat_natCast]
  exact fill_all laws_toSampleS.l0 (fun k a => laws_toSample.f k a.f0 a.f1) (fun c => (⟨c.1, c.2⟩ : SO)) z98 z65
    (fun k x y i => by simp only [laws_toSampleS.l0]; rfl) (fun a => (a.f0.map cL, a.f1)) l (by omega) (fun a ha => by
      unfold laws_toSample.f
      exact Ev.bind (to_labels a.f0 (hi a ha)) (Ev.now _))
theorem to_request (a : Int) (b c : ByteArray) (d : Int) (l : List SI) (h : l.length ≤ 1048576) (hi : ∀ x ∈ l, x.f0.length ≤ 1048576) : Ev (fun k => laws_toRequest.f k a b c d l) (a, b, c, d, l.map cS) := by
  unfold laws_toRequest.f
  exact Ev.bind (to_samples l h hi) (Ev.now _)
theorem eq_labels (l : List LO) (h : l.length < 9223372036854775807) : Ev (fun k => laws_eqLabelS.f k l l) true := by
  unfold laws_eqLabelS.f
  refine Ev.ite_pos rfl ?_
  exact all_loop laws_eqLabelS.l0 (fun _ x y => laws_eqLabel.f x.f0 x.f1 y.f0 y.f1) z67 (fun k x y i => by simp only [laws_eqLabelS.l0]; rfl) l h (fun a _ => by
    unfold laws_eqLabel.f; simp only [if_true]; exact Ev.now _) l.length 0 (by omega)
theorem eq_samples (l : List SO) (h : l.length < 9223372036854775807) (hi : ∀ x ∈ l, x.f0.length < 9223372036854775807) : Ev (fun k => laws_eqSampleS.f k l l) true := by
  unfold laws_eqSampleS.f
  refine Ev.ite_pos rfl ?_
  exact all_loop laws_eqSampleS.l0 (fun k x y => laws_eqSample.f k x.f0 x.f1 y.f0 y.f1) z65 (fun k x y i => by simp only [laws_eqSampleS.l0]; rfl) l h (fun a ha => by
    unfold laws_eqSample.f
    exact Ev.bind (eq_labels a.f0 (hi a ha)) (Ev.ite_pos rfl (Ev.ite_pos rfl (Ev.now _)))) l.length 0 (by omega)
theorem eq_request (a : Int) (b c : ByteArray) (d : Int) (l : List SO) (h : l.length < 9223372036854775807) (hi : ∀ x ∈ l, x.f0.length < 9223372036854775807) : Ev (fun k => laws_eqRequest.f k a b c d l a b c d l) true := by
  unfold laws_eqRequest.f
  simp only [if_true]
  exact Ev.bind (eq_samples l h hi) (Ev.ite_pos rfl (Ev.now _))
def wtL (x : LI) : Nat := x.f0.size + x.f1.size
def wtS (x : SI) : Nat := x.f0.length + total wtL x.f0
theorem sz_labels (l : List LI) (hl : l.length ≤ maxLen) (hb : ∀ y ∈ l, b135 y) (a : Int) (h0 : 0 ≤ a) (h1 : a ≤ 1048576) :
    ∃ t, Ev (fun k => laws_szLabelS.f k l a) t ∧ (0 ≤ t → t = a - ((l.length : Int) + (total wtL l : Nat))) := by
  unfold laws_szLabelS.f
  refine sz_list laws_szLabelS.l0 (fun _ x a => laws_szLabel.f x.f0 x.f1 a) z135 wtL (fun k x a i => by simp only [laws_szLabelS.l0]; rfl) l hl (fun e he a h0 h1 => ?_) a h0 h1
  obtain ⟨s0, s1⟩ := hb e he
  obtain ⟨t, ht, hw⟩ := sz_two e.f0.size e.f1.size s0 s1 a h0 h1
  exact ⟨t, ⟨0, fun _ _ => by unfold laws_szLabel.f; exact ht⟩, hw⟩
theorem sz_samples (l : List SI) (hl : l.length ≤ maxLen) (hb : ∀ y ∈ l, b98 y) (a : Int) (h0 : 0 ≤ a) (h1 : a ≤ 1048576) :
    ∃ t, Ev (fun k => laws_szSampleS.f k l a) t ∧ (0 ≤ t → t = a - ((l.length : Int) + (total wtS l : Nat))) := by
  unfold laws_szSampleS.f
  refine sz_list laws_szSampleS.l0 (fun k x a => laws_szSample.f k x.f0 x.f1 a) z98 wtS (fun k x a i => by simp only [laws_szSampleS.l0]; rfl) l hl (fun e he a h0 h1 => ?_) a h0 h1
  obtain ⟨⟨s0, s1⟩, _⟩ := hb e he
  obtain ⟨t, ht, hw⟩ := sz_labels e.f0 s0 s1 a h0 h1
  obtain ⟨u, hu, hw2⟩ := sz_hand ht
  refine ⟨u, hu, fun h => ?_⟩
  have h3 := hw2 h
  rw [h3, hw (by omega)]
  unfold wtS
  omega
theorem sz_request (a : Int) (b c : ByteArray) (d : Int) (l : List SI) (hbz : b.size ≤ maxLen) (hcz : c.size ≤ maxLen) (hl : l.length ≤ maxLen) (hb : ∀ y ∈ l, b98 y) :
    ∃ t, Ev (fun k => laws_szRequest.f k a b c d l 1048576) t ∧ (0 ≤ t → l.length ≤ 1048576 ∧ ∀ x ∈ l, x.f0.length ≤ 1048576) := by
  have hbz' : b.size ≤ 9223372036854775807 := hbz
  have hcz' : c.size ≤ 9223372036854775807 := hcz
  unfold laws_szRequest.f
  have e1 : wrap64 (1048576 - (b.size : Int)) = 1048576 - (b.size : Int) := by unfold wrap64; omega
  rw [e1]
  by_cases hn1 : 1048576 - (b.size : Int) < 0
  · exact ⟨-1, Ev.ite_pos hn1 (Ev.now _), fun h => by omega⟩
  · have e2 : wrap64 (1048576 - (b.size : Int) - (c.size : Int)) = 1048576 - (b.size : Int) - (c.size : Int) := by unfold wrap64; omega
    rw [e2]
    by_cases hn2 : 1048576 - (b.size : Int) - (c.size : Int) < 0
    · exact ⟨-1, Ev.ite_neg hn1 (Ev.ite_pos hn2 (Ev.now _)), fun h => by omega⟩
    · obtain ⟨t, ht, hw⟩ := sz_samples l hl hb (1048576 - (b.size : Int) - (c.size : Int)) (by omega) (by omega)
      obtain ⟨u, hu, hw2⟩ := sz_hand ht
      refine ⟨u, Ev.ite_neg hn1 (Ev.ite_neg hn2 hu), fun h => ?_⟩
      have h3 := hw2 h
      have h4 := hw (by omega)
      refine ⟨by omega, fun x hx => ?_⟩
      have h5 : wtS x ≤ total wtS l := wt_le_total wtS l x hx
      have h6 : wtS x = x.f0.length + total wtL x.f0 := rfl
      omega
theorem len_map (l : List SI) (hi : ∀ x ∈ l, x.f0.length ≤ 1048576) : ∀ x ∈ l.map cS, x.f0.length ≤ 1048576 := by
  intro x hx
  obtain ⟨y, hy, rfl⟩ := List.mem_map.1 hx
  have := hi y hy
  simpa [cS] using this
end Go.Proofs.Ytbhjbbanhmjgnaa.ReqLaws
/- Some of this seat's texts, joined by prune.py. -/
-- By pp.py, a program of this repo, with the kit's printer: Lean checks it.
namespace Go.Proofs.Ytbhjbbanhmjgnaa.M
open Go.RowKit Go.Proofs.YtbhjbbanhmjgnaaW.PrintWords Go.Proofs.YtbhjbbanhmjgnaaW.PrintLast Go.Proofs.YtbhjbbanhmjgnaaW.PrintMore
attribute [local go_sem] max2_int min2_int max_two min_two max_three min_three max_four min_four
set_option linter.unusedVariables false
set_option linter.unusedSimpArgs false

end Go.Proofs.Ytbhjbbanhmjgnaa.M
namespace Go.Proofs.Ytbhjbbanhmjgnaa.Pure
open Go.Proofs.Ytbhjbbanhmjgnaa.M Go.RowKit
/-- What is left to prove of laws_FnExactEncodeRequest. -/
def FnExactEncodeRequestPure : Prop := ∀ (a0_0 : Int) (a0_1 : ByteArray) (a0_2 : ByteArray) (a0_3 : Int) (l0_4 : List (S98)), (Lit.int .i64 a0_0).wf = true → a0_1.size ≤ maxLen → a0_2.size ≤ maxLen → (Lit.int .i64 a0_3).wf = true → (l0_4.length ≤ maxLen ∧ ∀ y_ ∈ l0_4, b98 y_) → ∃ k, laws_FnExactEncodeRequest.f k a0_0 a0_1 a0_2 a0_3 l0_4 = some true
end Go.Proofs.Ytbhjbbanhmjgnaa.Pure
namespace Go.Proofs.Ytbhjbbanhmjgnaa.M
end Go.Proofs.Ytbhjbbanhmjgnaa.M
/- The program's EncodeRequest answers what the reference's answers, for every request that the statement's guard lets in, and leaves it as it was. No conditions. -/
namespace Go.Proofs.Ytbhjbbanhmjgnaa.Pure
open Go.Proofs.Ytbhjbbanhmjgnaa.M Go.Proofs.Ytbhjbbanhmjgnaa.Loops Go.Proofs.Ytbhjbbanhmjgnaa.ReqLaws Go.Proofs.YtbhjbbanhmjgnaaW.PrintWords Go.Proofs.YtbhjbbanhmjgnaaW.PrintLast Go.RowKit
theorem FnExactEncodeRequest : FnExactEncodeRequestPure := by
  rintro a b c d l _ hb hc _ ⟨hl, hbl⟩
  obtain ⟨s, hs, hw⟩ := sz_request a b c d l hb hc hl hbl
  refine Ev.rounds ?_
  unfold laws_FnExactEncodeRequest.f
  refine Ev.bind hs ?_
  by_cases hneg : s < 0
  · exact Ev.ite_pos hneg (Ev.now _)
  · obtain ⟨h1, h2⟩ := hw (by omega)
    have ht := to_request a b c d l h1 h2
    refine Ev.ite_neg hneg (Ev.bind ht ?_)
    simp only [spec_EncodeRequest.f, Option.bind_some]
    refine Ev.bind ht ?_
    simp only [impl_EncodeRequest.f, Option.bind_some, if_true]
    refine Ev.bind ht (Ev.bind (eq_request a b c d (l.map cS) (by rw [List.length_map]; omega) (fun x hx => by have := len_map l h2 x hx; omega)) (Ev.ite_pos rfl (Ev.now _)))
end Go.Proofs.Ytbhjbbanhmjgnaa.Pure
