-- WRITTEN BY wip/xprint.py of this repo, over the kit's print; functions the print does not take are by hand
import Derived.Test.YtkgpnegebpkhlaaPJournalWritesx0
import Derived.Test.YtkgpnegebpkhlaaPJournalWritesx7
import Derived.Test.YtkgpnegebpkhlaaOpen
import Derived.KernelRfl
namespace Go.Proofs.Ytkgpnegebpkhlaa.PJournalWrites
open Go.Proofs.YtkgpnegebpkhlaaW.PrintWords Go.Proofs.Ytkgpnegebpkhlaa.Opened
def WF24 (x : S24) : Prop := (Lit.int .i64 x.f0).wf = true ∧ (Lit.int .i64 x.f1).wf = true ∧ (Lit.int .i64 x.f2).wf = true ∧ (Lit.int .i64 x.f3).wf = true ∧ x.f4.size ≤ maxLen
theorem opens24 : Opens Try.prog 24 k24 WF24 := Opens.imp (Opens.iso (Opens.struct Try.underlying24 (by kernel_rfl) (OpensFs.cons rfl (by kernel_rfl) (Opens.int Try.underlying3) (OpensFs.cons rfl (by kernel_rfl) (Opens.int Try.underlying3) (OpensFs.cons rfl (by kernel_rfl) (Opens.int Try.underlying3) (OpensFs.cons rfl (by kernel_rfl) (Opens.int Try.underlying3) (OpensFs.one rfl (by kernel_rfl) (Opens.string Try.underlying9))))))) (fun x : S24 => (x.f0, x.f1, x.f2, x.f3, x.f4)) (fun p => ⟨p.1, p.2.1, p.2.2.1, p.2.2.2.1, p.2.2.2.2⟩) (fun _ => rfl)) (fun _ h => h)
def regletlaw23_JournalWrites.PureX : Prop := ∀ (x0 : List Int) (x1 : S24), (x0.length ≤ maxLen ∧ ∀ y ∈ x0, (Lit.int .u8 y).wf = true) → WF24 x1 → ∃ k, regletlaw23_JournalWrites.f k x0 x1.f0 x1.f1 x1.f2 x1.f3 x1.f4 = some true
end Go.Proofs.Ytkgpnegebpkhlaa.PJournalWrites
