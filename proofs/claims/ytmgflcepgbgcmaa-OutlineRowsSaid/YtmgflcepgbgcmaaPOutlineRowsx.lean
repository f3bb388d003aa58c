-- WRITTEN BY wip/xprint.py of this repo, over the kit's print; functions the print does not take are by hand
import Derived.Test.YtmgflcepgbgcmaaPOutlineRowsx0
import Derived.Test.YtmgflcepgbgcmaaPOutlineRowsx1
import Derived.Test.YtmgflcepgbgcmaaPOutlineRowsx2
import Derived.Test.YtmgflcepgbgcmaaPOutlineRowsx3
import Derived.Test.YtmgflcepgbgcmaaPOutlineRowsx4
import Derived.Test.YtmgflcepgbgcmaaPOutlineRowsx5
namespace Go.Proofs.Ytmgflcepgbgcmaa.POutlineRows
open Go.RowKit Go.Proofs.YtmgflcepgbgcmaaW.PrintWords Go.Proofs.YtmgflcepgbgcmaaW.PrintLast Go.Proofs.YtmgflcepgbgcmaaW.PrintMore
attribute [local go_sem] max2_int min2_int max_two min_two max_three min_three max_four min_four   -- for this text's walks alone
set_option linter.unusedVariables false
set_option linter.unusedSimpArgs false

end Go.Proofs.Ytmgflcepgbgcmaa.POutlineRows
