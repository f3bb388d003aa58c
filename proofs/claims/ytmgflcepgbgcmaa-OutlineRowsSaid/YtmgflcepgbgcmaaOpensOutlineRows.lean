-- WRITTEN BY wip/xprint.py of this repo, over the kit's print; functions the print does not take are by hand
import Derived.Test.YtmgflcepgbgcmaaPOutlineRowsx0
import Derived.Test.YtmgflcepgbgcmaaPOutlineRowsx5
import Derived.Test.YtmgflcepgbgcmaaOpen
import Derived.KernelRfl
namespace Go.Proofs.Ytmgflcepgbgcmaa.POutlineRows
open Go.Proofs.YtmgflcepgbgcmaaW.PrintWords Go.Proofs.Ytmgflcepgbgcmaa.Opened
def WF28 (x : S28) : Prop := x.f0.size ≤ maxLen ∧ (Lit.int .i64 x.f1).wf = true ∧ (Lit.int .i64 x.f2).wf = true
theorem opens28 : Opens Try.prog 28 k28 WF28 := Opens.imp (Opens.iso (Opens.struct Try.underlying28 (by kernel_rfl) (OpensFs.cons rfl (by kernel_rfl) (Opens.string Try.underlying9) (OpensFs.cons rfl (by kernel_rfl) (Opens.int Try.underlying3) (OpensFs.one rfl (by kernel_rfl) (Opens.int Try.underlying3))))) (fun x : S28 => (x.f0, x.f1, x.f2)) (fun p => ⟨p.1, p.2.1, p.2.2⟩) (fun _ => rfl)) (fun _ h => h)
def regletlaw22_OutlineRows.PureX : Prop := ∀ (x0 : S28) (x1 : Int) (x2 : Int), WF28 x0 → (Lit.int .i64 x1).wf = true → (Lit.int .i64 x2).wf = true → ∃ k, regletlaw22_OutlineRows.f k x0.f0 x0.f1 x0.f2 x1 x2 = some true
end Go.Proofs.Ytmgflcepgbgcmaa.POutlineRows
