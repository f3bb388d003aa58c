/- What the parameters of the law MarksBetween read as. -/
import Derived.Test.YthfijdffkbkifaaTMarksBetween
import Derived.Test.YthfijdffkbkifaaA2MarksBetween
import Derived.KernelRfl
namespace Go.Proofs.Ythfijdffkbkifaa.PMarksBetween
open Go Go.AL Go.AL.X Go.Proofs.Ythfijdffkbkifaa.PMarksBetween Enc
set_option linter.unusedVariables false
def WF34 (x : S34) : Prop := (Lit.int .i64 x.f0).wf = true ∧ (Lit.int .i64 x.f1).wf = true ∧ (Lit.int .i64 x.f2).wf = true ∧ True
theorem opens34 : Opens Try.prog 34 (Enc.enc (α := S34)) 4 WF34 := Opens.iso (Opens.struct Try.underlying34 (by kernel_rfl) (OpensFs.cons rfl (by kernel_rfl) (Opens.int Try.underlying3) (OpensFs.cons rfl (by kernel_rfl) (Opens.int Try.underlying3) (OpensFs.cons rfl (by kernel_rfl) (Opens.int Try.underlying3) (OpensFs.one rfl (by kernel_rfl) (Opens.bool Try.underlying4)))))) (fun p => (⟨p.1, p.2.1, p.2.2.1, p.2.2.2⟩ : S34)) Enc.enc WF34 (fun _ => rfl) (fun x => ⟨(x.f0, x.f1, x.f2, x.f3), rfl⟩) (fun _ h => h)
def WF56 (x : S56) : Prop := (Lit.int .i64 x.f0).wf = true ∧ (Lit.int .i64 x.f1).wf = true
theorem opens56 : Opens Try.prog 56 (Enc.enc (α := S56)) 2 WF56 := Opens.imp (Opens.iso (Opens.array2 (n := 2) Try.underlying56 (by kernel_rfl) (by kernel_rfl) rfl (Opens.int Try.underlying3)) (fun p => (⟨p.1, p.2⟩ : S56)) Enc.enc WF56 (fun _ => rfl) (fun x => ⟨(x.f0, x.f1), rfl⟩) (fun _ h => h)) (fun _ h => h)
def regletlaw16_MarksBetween.PureX : Prop := ∀ (x0 : Int) (x1 : List (S34)) (x2 : S56), (Lit.int .i64 x0).wf = true → (x1.length * 32 ≤ 140737488351232 ∧ ∀ y ∈ x1, WF34 y) → WF56 x2 → ∃ k, regletlaw16_MarksBetween.f k x0 x1 x2.f0 x2.f1 = some true
end Go.Proofs.Ythfijdffkbkifaa.PMarksBetween
