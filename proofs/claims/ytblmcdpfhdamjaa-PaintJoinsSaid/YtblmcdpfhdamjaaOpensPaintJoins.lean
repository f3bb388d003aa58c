/- What the parameters of the law PaintJoins read as. -/
import Derived.Test.YtblmcdpfhdamjaaTPaintJoins
import Derived.Test.YtblmcdpfhdamjaaA2PaintJoins
import Derived.KernelRfl
namespace Go.Proofs.Ytblmcdpfhdamjaa.PPaintJoins
open Go Go.AL Go.AL.X Go.Proofs.Ytblmcdpfhdamjaa.PPaintJoins Enc
set_option linter.unusedVariables false
def WF90 (x : S90) : Prop := (Lit.int .i64 x.f0).wf = true ∧ (Lit.int .i64 x.f1).wf = true ∧ (Lit.int .i64 x.f2).wf = true
theorem opens90 : Opens Try.prog 90 (Enc.enc (α := S90)) 3 WF90 := Opens.iso (Opens.struct Try.underlying90 (by kernel_rfl) (OpensFs.cons rfl (by kernel_rfl) (Opens.int Try.underlying3) (OpensFs.cons rfl (by kernel_rfl) (Opens.int Try.underlying3) (OpensFs.one rfl (by kernel_rfl) (Opens.int Try.underlying3))))) (fun p => (⟨p.1, p.2.1, p.2.2⟩ : S90)) Enc.enc WF90 (fun _ => rfl) (fun x => ⟨(x.f0, x.f1, x.f2), rfl⟩) (fun _ h => h)
def regletlaw21_PaintJoins.PureX : Prop := ∀ (x0 : List (S90)) (x1 : Int) (x2 : Int), (x0.length * 24 ≤ 140737488351232 ∧ ∀ y ∈ x0, WF90 y) → (Lit.int .i64 x1).wf = true → (Lit.int .i64 x2).wf = true → ∃ k, regletlaw21_PaintJoins.f k x0 x1 x2 = some true
end Go.Proofs.Ytblmcdpfhdamjaa.PPaintJoins
