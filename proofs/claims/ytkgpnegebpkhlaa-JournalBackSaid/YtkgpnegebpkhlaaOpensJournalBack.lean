-- WRITTEN BY wip/xprint.py of this repo, over the kit's print; functions the print does not take are by hand
import Derived.Test.YtkgpnegebpkhlaaPJournalBackx0
import Derived.Test.YtkgpnegebpkhlaaPJournalBackx8
import Derived.Test.YtkgpnegebpkhlaaOpenJournalBack
import Derived.KernelRfl
namespace Go.Proofs.Ytkgpnegebpkhlaa.PJournalBack
open Go.Proofs.YtkgpnegebpkhlaaW.PrintWords Go.Proofs.Ytkgpnegebpkhlaa.Opened
def WF24 (x : S24) : Prop := (Lit.int .i64 x.f0).wf = true ∧ (Lit.int .i64 x.f1).wf = true ∧ (Lit.int .i64 x.f2).wf = true ∧ (Lit.int .i64 x.f3).wf = true ∧ x.f4.size ≤ maxLen
theorem opens24 : Opens Try.prog 24 k24 WF24 := Opens.imp (Opens.iso (Opens.struct Try.underlying24 (by kernel_rfl) (OpensFs.cons rfl (by kernel_rfl) (Opens.int Try.underlying3) (OpensFs.cons rfl (by kernel_rfl) (Opens.int Try.underlying3) (OpensFs.cons rfl (by kernel_rfl) (Opens.int Try.underlying3) (OpensFs.cons rfl (by kernel_rfl) (Opens.int Try.underlying3) (OpensFs.one rfl (by kernel_rfl) (Opens.string Try.underlying9))))))) (fun x : S24 => (x.f0, x.f1, x.f2, x.f3, x.f4)) (fun p => ⟨p.1, p.2.1, p.2.2.1, p.2.2.2.1, p.2.2.2.2⟩) (fun _ => rfl)) (fun _ h => h)
def regletlaw23_JournalBack.PureX : Prop := ∀ (x0 : List (S24)) (x1 : Int), (x0.length ≤ maxLen ∧ ∀ y ∈ x0, WF24 y) → (Lit.int .i64 x1).wf = true → ∃ k, regletlaw23_JournalBack.f k x0 x1 = some true
end Go.Proofs.Ytkgpnegebpkhlaa.PJournalBack
