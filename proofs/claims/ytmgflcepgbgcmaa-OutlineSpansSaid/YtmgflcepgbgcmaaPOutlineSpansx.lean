-- WRITTEN BY wip/xprint.py of this repo, over the kit's print; functions the print does not take are by hand
import Derived.Test.YtmgflcepgbgcmaaPOutlineSpansx0
import Derived.Test.YtmgflcepgbgcmaaPOutlineSpansx1
import Derived.Test.YtmgflcepgbgcmaaPOutlineSpansx2
import Derived.Test.YtmgflcepgbgcmaaPOutlineSpansx3
import Derived.Test.YtmgflcepgbgcmaaPOutlineSpansx4
import Derived.Test.YtmgflcepgbgcmaaPOutlineSpansx5
import Derived.Test.YtmgflcepgbgcmaaPOutlineSpansx6
namespace Go.Proofs.Ytmgflcepgbgcmaa.POutlineSpans
open Go.RowKit Go.Proofs.YtmgflcepgbgcmaaW.PrintWords Go.Proofs.YtmgflcepgbgcmaaW.PrintLast Go.Proofs.YtmgflcepgbgcmaaW.PrintMore
attribute [local go_sem] max2_int min2_int max_two min_two max_three min_three max_four min_four   -- for this text's walks alone
set_option linter.unusedVariables false
set_option linter.unusedSimpArgs false

end Go.Proofs.Ytmgflcepgbgcmaa.POutlineSpans
