-- WRITTEN BY wip/xprint.py of this repo, over the kit's print; functions the print does not take are by hand
import Derived.Test.YtmgflcepgbgcmaaPOutlineEntriesx0
import Derived.Test.YtmgflcepgbgcmaaPOutlineEntriesx7
import Derived.Test.YtmgflcepgbgcmaaOpen
import Derived.KernelRfl
namespace Go.Proofs.Ytmgflcepgbgcmaa.POutlineEntries
open Go.Proofs.YtmgflcepgbgcmaaW.PrintWords Go.Proofs.Ytmgflcepgbgcmaa.Opened
def regletlaw22_OutlineEntries.PureX : Prop := ∀ (x0 : List ByteArray) (x1 : List (List Int)) (x2 : Int), (x0.length ≤ maxLen ∧ ∀ y ∈ x0, y.size ≤ maxLen) → (x1.length ≤ maxLen ∧ ∀ y ∈ x1, (y.length ≤ maxLen ∧ ∀ yy ∈ y, (Lit.int .i64 yy).wf = true)) → (Lit.int .i64 x2).wf = true → ∃ k, regletlaw22_OutlineEntries.f k x0 x1 x2 = some true
end Go.Proofs.Ytmgflcepgbgcmaa.POutlineEntries
