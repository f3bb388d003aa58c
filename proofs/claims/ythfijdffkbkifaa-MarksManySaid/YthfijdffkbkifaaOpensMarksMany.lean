/- What the parameters of the law MarksMany read as. -/
import Derived.Test.YthfijdffkbkifaaTMarksMany
import Derived.Test.YthfijdffkbkifaaA2MarksMany
import Derived.KernelRfl
namespace Go.Proofs.Ythfijdffkbkifaa.PMarksMany
open Go Go.AL Go.AL.X Go.Proofs.Ythfijdffkbkifaa.PMarksMany Enc
set_option linter.unusedVariables false
def regletlaw16_MarksMany.PureX : Prop := ∀ (x0 : Int) (x1 : Int), (Lit.int .i64 x0).wf = true → (Lit.int .i64 x1).wf = true → ∃ k, regletlaw16_MarksMany.f k x0 x1 = some true
end Go.Proofs.Ythfijdffkbkifaa.PMarksMany
