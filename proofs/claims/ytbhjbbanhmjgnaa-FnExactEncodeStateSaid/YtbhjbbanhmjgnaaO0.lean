-- By pp.py, a program of this repo, with the kit's printer: Lean checks it.
import Derived.Test.YtbhjbbanhmjgnaaM0
import Derived.Test.YtbhjbbanhmjgnaaOpens
namespace Go.Proofs.Ytbhjbbanhmjgnaa.M
open Go.RowKit Go.Proofs.YtbhjbbanhmjgnaaW.PrintWords Go.Proofs.YtbhjbbanhmjgnaaW.PrintLast Go.Proofs.YtbhjbbanhmjgnaaW.PrintMore
attribute [local go_sem] max2_int min2_int max_two min_two max_three min_three max_four min_four
set_option linter.unusedVariables false
set_option linter.unusedSimpArgs false

open Go.Proofs.Ytbhjbbanhmjgnaa.Opn
instance : Inhabited S135 := ⟨z135⟩
def b135 (x : S135) : Prop := x.f0.size ≤ maxLen ∧ x.f1.size ≤ maxLen
theorem opens135 : Opens Try.prog 135 k135 b135 := Opens.iso (Opens.struct Try.underlying135 (by kernel_rfl) (OpensFrom.cons rfl (by kernel_rfl) (Opens.string Try.underlying9) (OpensFrom.one rfl (by kernel_rfl) (Opens.string Try.underlying9)))) (fun x : S135 => (x.f0, x.f1)) (fun a => (⟨a.1, a.2⟩ : S135)) (fun _ => rfl)
instance : Inhabited S98 := ⟨z98⟩
def b98 (x : S98) : Prop := (x.f0.length ≤ maxLen ∧ ∀ y_ ∈ x.f0, b135 y_) ∧ (Lit.int .i64 x.f1).wf = true
theorem opens98 : Opens Try.prog 98 k98 b98 := Opens.iso (Opens.struct Try.underlying98 (by kernel_rfl) (OpensFrom.cons rfl (by kernel_rfl) (Opens.slice Try.underlying96 (by kernel_rfl) opens135) (OpensFrom.one rfl (by kernel_rfl) (Opens.int Try.underlying3)))) (fun x : S98 => (x.f0, x.f1)) (fun a => (⟨a.1, a.2⟩ : S98)) (fun _ => rfl)
theorem opensP24 : Opens Try.prog 24 (Kd.pair (Kd.int .i64) (Kd.pair Kd.string (Kd.pair Kd.string (Kd.pair (Kd.int .i64) (Kd.slice 98 k98))))) (fun x => (Lit.int .i64 x.1).wf = true ∧ x.2.1.size ≤ maxLen ∧ x.2.2.1.size ≤ maxLen ∧ (Lit.int .i64 x.2.2.2.1).wf = true ∧ (x.2.2.2.2.length ≤ maxLen ∧ ∀ y_ ∈ x.2.2.2.2, b98 y_)) := Opens.struct Try.underlying24 (by kernel_rfl) (OpensFrom.cons rfl (by kernel_rfl) (Opens.int Try.underlying3) (OpensFrom.cons rfl (by kernel_rfl) (Opens.string Try.underlying9) (OpensFrom.cons rfl (by kernel_rfl) (Opens.string Try.underlying9) (OpensFrom.cons rfl (by kernel_rfl) (Opens.int Try.underlying3) (OpensFrom.one rfl (by kernel_rfl) (Opens.slice Try.underlying22 (by kernel_rfl) opens98))))))
instance : Inhabited S139 := ⟨z139⟩
def b139 (x : S139) : Prop := x.f0.size ≤ maxLen ∧ (Lit.int .i64 x.f1).wf = true
theorem opens139 : Opens Try.prog 139 k139 b139 := Opens.iso (Opens.struct Try.underlying139 (by kernel_rfl) (OpensFrom.cons rfl (by kernel_rfl) (Opens.string Try.underlying9) (OpensFrom.one rfl (by kernel_rfl) (Opens.int Try.underlying3)))) (fun x : S139 => (x.f0, x.f1)) (fun a => (⟨a.1, a.2⟩ : S139)) (fun _ => rfl)
instance : Inhabited S141 := ⟨z141⟩
def b141 (x : S141) : Prop := x.f0.size ≤ maxLen ∧ (Lit.int .i64 x.f1).wf = true
theorem opens141 : Opens Try.prog 141 k141 b141 := Opens.iso (Opens.struct Try.underlying141 (by kernel_rfl) (OpensFrom.cons rfl (by kernel_rfl) (Opens.string Try.underlying9) (OpensFrom.one rfl (by kernel_rfl) (Opens.int Try.underlying3)))) (fun x : S141 => (x.f0, x.f1)) (fun a => (⟨a.1, a.2⟩ : S141)) (fun _ => rfl)
instance : Inhabited S113 := ⟨z113⟩
def b113 (x : S113) : Prop := x.f0.size ≤ maxLen ∧ (Lit.int .i64 x.f1).wf = true ∧ (x.f2.length ≤ maxLen ∧ ∀ y_ ∈ x.f2, b139 y_) ∧ (x.f3.length ≤ maxLen ∧ ∀ y_ ∈ x.f3, b141 y_)
theorem opens113 : Opens Try.prog 113 k113 b113 := Opens.iso (Opens.struct Try.underlying113 (by kernel_rfl) (OpensFrom.cons rfl (by kernel_rfl) (Opens.string Try.underlying9) (OpensFrom.cons rfl (by kernel_rfl) (Opens.int Try.underlying3) (OpensFrom.cons rfl (by kernel_rfl) (Opens.slice Try.underlying110 (by kernel_rfl) opens139) (OpensFrom.one rfl (by kernel_rfl) (Opens.slice Try.underlying111 (by kernel_rfl) opens141)))))) (fun x : S113 => (x.f0, x.f1, x.f2, x.f3)) (fun a => (⟨a.1, a.2.1, a.2.2.1, a.2.2.2⟩ : S113)) (fun _ => rfl)
theorem opensP35 : Opens Try.prog 35 (Kd.pair (Kd.int .i64) (Kd.slice 113 k113)) (fun x => (Lit.int .i64 x.1).wf = true ∧ (x.2.length ≤ maxLen ∧ ∀ y_ ∈ x.2, b113 y_)) := Opens.struct Try.underlying35 (by kernel_rfl) (OpensFrom.cons rfl (by kernel_rfl) (Opens.int Try.underlying3) (OpensFrom.one rfl (by kernel_rfl) (Opens.slice Try.underlying33 (by kernel_rfl) opens113)))
end Go.Proofs.Ytbhjbbanhmjgnaa.M
