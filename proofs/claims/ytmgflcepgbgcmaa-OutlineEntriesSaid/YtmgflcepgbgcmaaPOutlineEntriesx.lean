-- WRITTEN BY wip/xprint.py of this repo, over the kit's print; functions the print does not take are by hand
import Derived.Test.YtmgflcepgbgcmaaPOutlineEntriesx0
import Derived.Test.YtmgflcepgbgcmaaPOutlineEntriesx1
import Derived.Test.YtmgflcepgbgcmaaPOutlineEntriesx2
import Derived.Test.YtmgflcepgbgcmaaPOutlineEntriesx3
import Derived.Test.YtmgflcepgbgcmaaPOutlineEntriesx4
import Derived.Test.YtmgflcepgbgcmaaPOutlineEntriesx5
import Derived.Test.YtmgflcepgbgcmaaPOutlineEntriesx6
import Derived.Test.YtmgflcepgbgcmaaPOutlineEntriesx7
namespace Go.Proofs.Ytmgflcepgbgcmaa.POutlineEntries
open Go.RowKit Go.Proofs.YtmgflcepgbgcmaaW.PrintWords Go.Proofs.YtmgflcepgbgcmaaW.PrintLast Go.Proofs.YtmgflcepgbgcmaaW.PrintMore
attribute [local go_sem] max2_int min2_int max_two min_two max_three min_three max_four min_four   -- for this text's walks alone
set_option linter.unusedVariables false
set_option linter.unusedSimpArgs false

end Go.Proofs.Ytmgflcepgbgcmaa.POutlineEntries
