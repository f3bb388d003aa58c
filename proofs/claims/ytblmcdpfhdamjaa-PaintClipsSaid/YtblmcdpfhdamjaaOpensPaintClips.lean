/- What the parameters of the law PaintClips read as. -/
import Derived.Test.YtblmcdpfhdamjaaTPaintClips
import Derived.Test.YtblmcdpfhdamjaaA2PaintClips
import Derived.KernelRfl
namespace Go.Proofs.Ytblmcdpfhdamjaa.PPaintClips
open Go Go.AL Go.AL.X Go.Proofs.Ytblmcdpfhdamjaa.PPaintClips Enc
set_option linter.unusedVariables false
def WF90 (x : S90) : Prop := (Lit.int .i64 x.f0).wf = true ∧ (Lit.int .i64 x.f1).wf = true ∧ (Lit.int .i64 x.f2).wf = true
theorem opens90 : Opens Try.prog 90 (Enc.enc (α := S90)) 3 WF90 := Opens.iso (Opens.struct Try.underlying90 (by kernel_rfl) (OpensFs.cons rfl (by kernel_rfl) (Opens.int Try.underlying3) (OpensFs.cons rfl (by kernel_rfl) (Opens.int Try.underlying3) (OpensFs.one rfl (by kernel_rfl) (Opens.int Try.underlying3))))) (fun p => (⟨p.1, p.2.1, p.2.2⟩ : S90)) Enc.enc WF90 (fun _ => rfl) (fun x => ⟨(x.f0, x.f1, x.f2), rfl⟩) (fun _ h => h)
def WF49 (x : S49) : Prop := (Lit.int .i64 x.f0).wf = true ∧ (Lit.int .i64 x.f1).wf = true
theorem opens49 : Opens Try.prog 49 (Enc.enc (α := S49)) 2 WF49 := Opens.imp (Opens.iso (Opens.array2 (n := 2) Try.underlying49 (by kernel_rfl) (by kernel_rfl) rfl (Opens.int Try.underlying3)) (fun p => (⟨p.1, p.2⟩ : S49)) Enc.enc WF49 (fun _ => rfl) (fun x => ⟨(x.f0, x.f1), rfl⟩) (fun _ h => h)) (fun _ h => h)
def regletlaw21_PaintClips.PureX : Prop := ∀ (x0 : List (S90)) (x1 : List (S90)) (x2 : S49), (x0.length * 24 ≤ 140737488351232 ∧ ∀ y ∈ x0, WF90 y) → (x1.length * 24 ≤ 140737488351232 ∧ ∀ y ∈ x1, WF90 y) → WF49 x2 → ∃ k, regletlaw21_PaintClips.f k x0 x1 x2.f0 x2.f1 = some true
end Go.Proofs.Ytblmcdpfhdamjaa.PPaintClips
