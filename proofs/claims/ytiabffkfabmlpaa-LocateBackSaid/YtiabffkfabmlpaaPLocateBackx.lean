-- WRITTEN BY wip/xprint.py of this repo, over the kit's print; functions the print does not take are by hand
import Derived.Test.YtiabffkfabmlpaaPLocateBackx0
import Derived.Test.YtiabffkfabmlpaaPLocateBackx1
import Derived.Test.YtiabffkfabmlpaaPLocateBackx2
import Derived.Test.YtiabffkfabmlpaaPLocateBackx3
import Derived.Test.YtiabffkfabmlpaaPLocateBackx4
import Derived.Test.YtiabffkfabmlpaaPLocateBackx5
import Derived.Test.YtiabffkfabmlpaaPLocateBackx6
import Derived.Test.YtiabffkfabmlpaaPLocateBackx7
import Derived.Test.YtiabffkfabmlpaaPLocateBackx8
import Derived.Test.YtiabffkfabmlpaaPLocateBackx9
import Derived.Test.YtiabffkfabmlpaaPLocateBackx10
import Derived.Test.YtiabffkfabmlpaaPLocateBackx11
import Derived.Test.YtiabffkfabmlpaaPLocateBackx12
import Derived.Test.YtiabffkfabmlpaaPLocateBackx13
import Derived.Test.YtiabffkfabmlpaaPLocateBackx14
import Derived.Test.YtiabffkfabmlpaaPLocateBackx15
import Derived.Test.YtiabffkfabmlpaaPLocateBackx16
namespace Go.Proofs.Ytiabffkfabmlpaa.PLocateBack
open Go.RowKit Go.Proofs.YtiabffkfabmlpaaW.PrintWords Go.Proofs.YtiabffkfabmlpaaW.PrintLast Go.Proofs.YtiabffkfabmlpaaW.PrintMore
attribute [local go_sem] max2_int min2_int max_two min_two max_three min_three max_four min_four   -- for this text's walks alone
set_option linter.unusedVariables false
set_option linter.unusedSimpArgs false

end Go.Proofs.Ytiabffkfabmlpaa.PLocateBack
