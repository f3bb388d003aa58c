-- WRITTEN BY wip/xprint.py of this repo, over the kit's print; functions the print does not take are by hand
import Derived.Test.YtiabffkfabmlpaaPLocateLinesx0
import Derived.Test.YtiabffkfabmlpaaPLocateLinesx1
import Derived.Test.YtiabffkfabmlpaaPLocateLinesx2
import Derived.Test.YtiabffkfabmlpaaPLocateLinesx3
import Derived.Test.YtiabffkfabmlpaaPLocateLinesx4
import Derived.Test.YtiabffkfabmlpaaPLocateLinesx5
import Derived.Test.YtiabffkfabmlpaaPLocateLinesx6
import Derived.Test.YtiabffkfabmlpaaPLocateLinesx7
import Derived.Test.YtiabffkfabmlpaaPLocateLinesx8
import Derived.Test.YtiabffkfabmlpaaPLocateLinesx9
import Derived.Test.YtiabffkfabmlpaaPLocateLinesx10
import Derived.Test.YtiabffkfabmlpaaPLocateLinesx11
import Derived.Test.YtiabffkfabmlpaaPLocateLinesx12
import Derived.Test.YtiabffkfabmlpaaPLocateLinesx13
import Derived.Test.YtiabffkfabmlpaaPLocateLinesx14
import Derived.Test.YtiabffkfabmlpaaPLocateLinesx15
import Derived.Test.YtiabffkfabmlpaaPLocateLinesx16
import Derived.Test.YtiabffkfabmlpaaPLocateLinesx17
namespace Go.Proofs.Ytiabffkfabmlpaa.PLocateLines
open Go.RowKit Go.Proofs.YtiabffkfabmlpaaW.PrintWords Go.Proofs.YtiabffkfabmlpaaW.PrintLast Go.Proofs.YtiabffkfabmlpaaW.PrintMore
attribute [local go_sem] max2_int min2_int max_two min_two max_three min_three max_four min_four   -- for this text's walks alone
set_option linter.unusedVariables false
set_option linter.unusedSimpArgs false
end Go.Proofs.Ytiabffkfabmlpaa.PLocateLines
