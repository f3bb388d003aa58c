-- WRITTEN BY wip/xprint.py of this repo, over the kit's print; functions the print does not take are by hand
import Derived.Test.YtiabffkfabmlpaaPLocateLinesx0
import Derived.Test.YtiabffkfabmlpaaPLocateLinesx17
import Derived.Test.YtiabffkfabmlpaaOpenLocateLines
import Derived.KernelRfl
namespace Go.Proofs.Ytiabffkfabmlpaa.PLocateLines
open Go.Proofs.YtiabffkfabmlpaaW.PrintWords Go.Proofs.Ytiabffkfabmlpaa.Opened
def WF75 (x : S75) : Prop := (Lit.int .i64 x.f0).wf = true ∧ (Lit.int .i64 x.f1).wf = true
theorem opens75 : Opens Try.prog 75 k75 WF75 := Opens.imp (Opens.iso (Opens.struct Try.underlying75 (by kernel_rfl) (OpensFs.cons rfl (by kernel_rfl) (Opens.int Try.underlying3) (OpensFs.one rfl (by kernel_rfl) (Opens.int Try.underlying3)))) (fun x : S75 => (x.f0, x.f1)) (fun p => ⟨p.1, p.2⟩) (fun _ => rfl)) (fun _ h => h)
def WF28 (x : S28) : Prop := x.f0.size ≤ maxLen ∧ (x.f1.length ≤ maxLen ∧ ∀ y ∈ x.f1, WF75 y) ∧ (Lit.int .i64 x.f2).wf = true ∧ (Lit.int .i64 x.f3).wf = true ∧ (Lit.int .i64 x.f4).wf = true ∧ True ∧ (Lit.int .i64 x.f6).wf = true ∧ True ∧ True
theorem opens28 : Opens Try.prog 28 k28 WF28 := Opens.imp (Opens.iso (Opens.struct Try.underlying28 (by kernel_rfl) (OpensFs.cons rfl (by kernel_rfl) (Opens.string Try.underlying9) (OpensFs.cons rfl (by kernel_rfl) (Opens.slice Try.underlying26 (by kernel_rfl) opens75) (OpensFs.cons rfl (by kernel_rfl) (Opens.int Try.underlying3) (OpensFs.cons rfl (by kernel_rfl) (Opens.int Try.underlying3) (OpensFs.cons rfl (by kernel_rfl) (Opens.int Try.underlying3) (OpensFs.cons rfl (by kernel_rfl) (Opens.bool Try.underlying4) (OpensFs.cons rfl (by kernel_rfl) (Opens.int Try.underlying3) (OpensFs.cons rfl (by kernel_rfl) (Opens.bool Try.underlying4) (OpensFs.one rfl (by kernel_rfl) (Opens.bool Try.underlying4))))))))))) (fun x : S28 => (x.f0, x.f1, x.f2, x.f3, x.f4, x.f5, x.f6, x.f7, x.f8)) (fun p => ⟨p.1, p.2.1, p.2.2.1, p.2.2.2.1, p.2.2.2.2.1, p.2.2.2.2.2.1, p.2.2.2.2.2.2.1, p.2.2.2.2.2.2.2.1, p.2.2.2.2.2.2.2.2⟩) (fun _ => rfl)) (fun _ h => h)
def WF24 (x : S24) : Prop := (x.f0.length ≤ maxLen ∧ ∀ y ∈ x.f0, WF28 y)
theorem opens24 : Opens Try.prog 24 k24 WF24 := Opens.imp (Opens.iso (Opens.struct Try.underlying24 (by kernel_rfl) (OpensFs.one rfl (by kernel_rfl) (Opens.slice Try.underlying22 (by kernel_rfl) opens28))) (fun x : S24 => x.f0) (fun p => ⟨p⟩) (fun _ => rfl)) (fun _ h => h)
def WF62 (x : S62) : Prop := (Lit.int .i64 x.f0).wf = true ∧ (Lit.int .i64 x.f1).wf = true
theorem opens62 : Opens Try.prog 62 k62 WF62 := Opens.imp (Opens.iso (Opens.array2 Try.underlying62 (by kernel_rfl) (by kernel_rfl) (Opens.int Try.underlying3)) (fun x : S62 => (x.f0, x.f1)) (fun p => ⟨p.1, p.2⟩) (fun _ => rfl)) (fun _ h => h)
def regletlaw15_LocateLines.PureX : Prop := ∀ (x0 : List (S24)) (x1 : Int) (x2 : S62), (x0.length ≤ maxLen ∧ ∀ y ∈ x0, WF24 y) → (Lit.int .i64 x1).wf = true → WF62 x2 → ∃ k, regletlaw15_LocateLines.f k x0 x1 x2.f0 x2.f1 = some true
end Go.Proofs.Ytiabffkfabmlpaa.PLocateLines
