/- What the parameters of the law MarksPlay read as. -/
import Derived.Test.YthfijdffkbkifaaTMarksPlay
import Derived.Test.YthfijdffkbkifaaA2MarksPlay
import Derived.KernelRfl
namespace Go.Proofs.Ythfijdffkbkifaa.PMarksPlay
open Go Go.AL Go.AL.X Go.Proofs.Ythfijdffkbkifaa.PMarksPlay Enc
set_option linter.unusedVariables false
def WF34 (x : S34) : Prop := (Lit.int .i64 x.f0).wf = true ∧ (Lit.int .i64 x.f1).wf = true ∧ (Lit.int .i64 x.f2).wf = true ∧ True
theorem opens34 : Opens Try.prog 34 (Enc.enc (α := S34)) 4 WF34 := Opens.iso (Opens.struct Try.underlying34 (by kernel_rfl) (OpensFs.cons rfl (by kernel_rfl) (Opens.int Try.underlying3) (OpensFs.cons rfl (by kernel_rfl) (Opens.int Try.underlying3) (OpensFs.cons rfl (by kernel_rfl) (Opens.int Try.underlying3) (OpensFs.one rfl (by kernel_rfl) (Opens.bool Try.underlying4)))))) (fun p => (⟨p.1, p.2.1, p.2.2.1, p.2.2.2⟩ : S34)) Enc.enc WF34 (fun _ => rfl) (fun x => ⟨(x.f0, x.f1, x.f2, x.f3), rfl⟩) (fun _ h => h)
def regletlaw16_MarksPlay.PureX : Prop := ∀ (x0 : Int) (x1 : List (S34)) (x2 : Int), (Lit.int .i64 x0).wf = true → (x1.length * 32 ≤ 140737488351232 ∧ ∀ y ∈ x1, WF34 y) → (Lit.int .i64 x2).wf = true → ∃ k, regletlaw16_MarksPlay.f k x0 x1 x2 = some true
end Go.Proofs.Ythfijdffkbkifaa.PMarksPlay
