-- WRITTEN BY wip/xprint.py of this repo, over the kit's print; functions the print does not take are by hand
import Derived.Test.YtkgpnegebpkhlaaPJournalBackx0
import Derived.Test.YtkgpnegebpkhlaaPJournalBackx1
import Derived.Test.YtkgpnegebpkhlaaPJournalBackx2
import Derived.Test.YtkgpnegebpkhlaaPJournalBackx3
import Derived.Test.YtkgpnegebpkhlaaPJournalBackx4
import Derived.Test.YtkgpnegebpkhlaaPJournalBackx5
import Derived.Test.YtkgpnegebpkhlaaPJournalBackx6
import Derived.Test.YtkgpnegebpkhlaaPJournalBackx7
import Derived.Test.YtkgpnegebpkhlaaPJournalBackx8
namespace Go.Proofs.Ytkgpnegebpkhlaa.PJournalBack
open Go.RowKit Go.Proofs.YtkgpnegebpkhlaaW.PrintWords Go.Proofs.YtkgpnegebpkhlaaW.PrintLast Go.Proofs.YtkgpnegebpkhlaaW.PrintMore
attribute [local go_sem] max2_int min2_int max_two min_two max_three min_three max_four min_four   -- for this text's walks alone
set_option linter.unusedVariables false
set_option linter.unusedSimpArgs false

end Go.Proofs.Ytkgpnegebpkhlaa.PJournalBack
