-- WRITTEN BY wip/xprint.py of this repo, over the kit's print; functions the print does not take are by hand
import Derived.Test.YtblmcdpfhdamjaaPPaintWindowx0
import Derived.Test.YtblmcdpfhdamjaaPPaintWindowx16
import Derived.Test.YtblmcdpfhdamjaaOpenPaintWindow
import Derived.KernelRfl
namespace Go.Proofs.Ytblmcdpfhdamjaa.PPaintWindow
open Go.Proofs.YtblmcdpfhdamjaaW.PrintWords Go.Proofs.Ytblmcdpfhdamjaa.Opened
def WF48 (x : S48) : Prop := (Lit.int .i64 x.f0).wf = true ∧ (Lit.int .i64 x.f1).wf = true ∧ (Lit.int .i64 x.f2).wf = true
theorem opens48 : Opens Try.prog 48 k48 WF48 := Opens.imp (Opens.iso (Opens.struct Try.underlying48 (by kernel_rfl) (OpensFs.cons rfl (by kernel_rfl) (Opens.int Try.underlying3) (OpensFs.cons rfl (by kernel_rfl) (Opens.int Try.underlying3) (OpensFs.one rfl (by kernel_rfl) (Opens.int Try.underlying3))))) (fun x : S48 => (x.f0, x.f1, x.f2)) (fun p => ⟨p.1, p.2.1, p.2.2⟩) (fun _ => rfl)) (fun _ h => h)
def WF49 (x : S49) : Prop := (Lit.int .i64 x.f0).wf = true ∧ (Lit.int .i64 x.f1).wf = true
theorem opens49 : Opens Try.prog 49 k49 WF49 := Opens.imp (Opens.iso (Opens.array2 Try.underlying49 (by kernel_rfl) (by kernel_rfl) (Opens.int Try.underlying3)) (fun x : S49 => (x.f0, x.f1)) (fun p => ⟨p.1, p.2⟩) (fun _ => rfl)) (fun _ h => h)
def regletlaw21_PaintWindow.PureX : Prop := ∀ (x0 : S48) (x1 : S49) (x2 : Int), WF48 x0 → WF49 x1 → (Lit.int .i64 x2).wf = true → ∃ k, regletlaw21_PaintWindow.f k x0.f0 x0.f1 x0.f2 x1.f0 x1.f1 x2 = some true
end Go.Proofs.Ytblmcdpfhdamjaa.PPaintWindow
