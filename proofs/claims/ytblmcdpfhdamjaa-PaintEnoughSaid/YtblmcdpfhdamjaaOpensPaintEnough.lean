/- What the parameters of the law PaintEnough read as. -/
import Derived.Test.YtblmcdpfhdamjaaTPaintEnough
import Derived.Test.YtblmcdpfhdamjaaA2PaintEnough
import Derived.KernelRfl
namespace Go.Proofs.Ytblmcdpfhdamjaa.PPaintEnough
open Go Go.AL Go.AL.X Go.Proofs.Ytblmcdpfhdamjaa.PPaintEnough Enc
set_option linter.unusedVariables false
def WF89 (x : S89) : Prop := (Lit.int .i64 x.f0).wf = true ∧ (Lit.int .i64 x.f1).wf = true
theorem opens89 : Opens Try.prog 89 (Enc.enc (α := S89)) 2 WF89 := Opens.iso (Opens.struct Try.underlying89 (by kernel_rfl) (OpensFs.cons rfl (by kernel_rfl) (Opens.int Try.underlying3) (OpensFs.one rfl (by kernel_rfl) (Opens.int Try.underlying3)))) (fun p => (⟨p.1, p.2⟩ : S89)) Enc.enc WF89 (fun _ => rfl) (fun x => ⟨(x.f0, x.f1), rfl⟩) (fun _ h => h)
def WF25 (x : S25) : Prop := x.f0.size ≤ maxLen ∧ (x.f1.length * 16 ≤ 140737488351232 ∧ ∀ y ∈ x.f1, WF89 y) ∧ (Lit.int .i64 x.f2).wf = true ∧ (Lit.int .i64 x.f3).wf = true ∧ (Lit.int .i64 x.f4).wf = true ∧ True ∧ (Lit.int .i64 x.f6).wf = true ∧ True ∧ True
theorem opens25 : Opens Try.prog 25 (Enc.enc (α := S25)) 9 WF25 := Opens.iso (Opens.struct Try.underlying25 (by kernel_rfl) (OpensFs.cons rfl (by kernel_rfl) (Opens.string Try.underlying9) (OpensFs.cons rfl (by kernel_rfl) (Opens.slice (B := 16) Try.underlying23 (by kernel_rfl) (by kernel_rfl) opens89) (OpensFs.cons rfl (by kernel_rfl) (Opens.int Try.underlying3) (OpensFs.cons rfl (by kernel_rfl) (Opens.int Try.underlying3) (OpensFs.cons rfl (by kernel_rfl) (Opens.int Try.underlying3) (OpensFs.cons rfl (by kernel_rfl) (Opens.bool Try.underlying4) (OpensFs.cons rfl (by kernel_rfl) (Opens.int Try.underlying3) (OpensFs.cons rfl (by kernel_rfl) (Opens.bool Try.underlying4) (OpensFs.one rfl (by kernel_rfl) (Opens.bool Try.underlying4))))))))))) (fun p => (⟨p.1, p.2.1, p.2.2.1, p.2.2.2.1, p.2.2.2.2.1, p.2.2.2.2.2.1, p.2.2.2.2.2.2.1, p.2.2.2.2.2.2.2.1, p.2.2.2.2.2.2.2.2⟩ : S25)) Enc.enc WF25 (fun _ => rfl) (fun x => ⟨(x.f0, x.f1, x.f2, x.f3, x.f4, x.f5, x.f6, x.f7, x.f8), rfl⟩) (fun _ h => h)
def WF66 (x : S66) : Prop := (x.f0.length * 88 ≤ 140737488351232 ∧ ∀ y ∈ x.f0, WF25 y)
theorem opens66 : Opens Try.prog 66 (Enc.enc (α := S66)) 1 WF66 := Opens.iso (Opens.struct Try.underlying66 (by kernel_rfl) (OpensFs.one rfl (by kernel_rfl) (Opens.slice (B := 88) Try.underlying64 (by kernel_rfl) (by kernel_rfl) opens25))) (fun p => (⟨p⟩ : S66)) Enc.enc WF66 (fun _ => rfl) (fun x => ⟨x.f0, rfl⟩) (fun _ h => h)
def regletlaw21_PaintEnough.PureX : Prop := ∀ (x0 : List (S66)) (x1 : List (S66)), (x0.length * 24 ≤ 140737488351232 ∧ ∀ y ∈ x0, WF66 y) → (x1.length * 24 ≤ 140737488351232 ∧ ∀ y ∈ x1, WF66 y) → ∃ k, regletlaw21_PaintEnough.f k x0 x1 = some true
end Go.Proofs.Ytblmcdpfhdamjaa.PPaintEnough
