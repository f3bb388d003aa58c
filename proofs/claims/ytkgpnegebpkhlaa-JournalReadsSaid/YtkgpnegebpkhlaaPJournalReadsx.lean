-- WRITTEN BY wip/xprint.py of this repo, over the kit's print; functions the print does not take are by hand
import Derived.Test.YtkgpnegebpkhlaaPJournalReadsx0
import Derived.Test.YtkgpnegebpkhlaaPJournalReadsx1
import Derived.Test.YtkgpnegebpkhlaaPJournalReadsx2
import Derived.Test.YtkgpnegebpkhlaaPJournalReadsx3
import Derived.Test.YtkgpnegebpkhlaaPJournalReadsx4
import Derived.Test.YtkgpnegebpkhlaaPJournalReadsx5
import Derived.Test.YtkgpnegebpkhlaaPJournalReadsx6
import Derived.Test.YtkgpnegebpkhlaaPJournalReadsx7
import Derived.Test.YtkgpnegebpkhlaaPJournalReadsx8
import Derived.Test.YtkgpnegebpkhlaaPJournalReadsx9
import Derived.Test.YtkgpnegebpkhlaaPJournalReadsx10
import Derived.Test.YtkgpnegebpkhlaaPJournalReadsx11
import Derived.Test.YtkgpnegebpkhlaaPJournalReadsx12
namespace Go.Proofs.Ytkgpnegebpkhlaa.PJournalReads
open Go.RowKit Go.Proofs.YtkgpnegebpkhlaaW.PrintWords Go.Proofs.YtkgpnegebpkhlaaW.PrintLast Go.Proofs.YtkgpnegebpkhlaaW.PrintMore
attribute [local go_sem] max2_int min2_int max_two min_two max_three min_three max_four min_four   -- for this text's walks alone
set_option linter.unusedVariables false
set_option linter.unusedSimpArgs false
end Go.Proofs.Ytkgpnegebpkhlaa.PJournalReads
