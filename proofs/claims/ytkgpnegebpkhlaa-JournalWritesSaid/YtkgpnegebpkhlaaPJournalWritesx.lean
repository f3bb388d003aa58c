-- WRITTEN BY wip/xprint.py of this repo, over the kit's print; functions the print does not take are by hand
import Derived.Test.YtkgpnegebpkhlaaPJournalWritesx0
import Derived.Test.YtkgpnegebpkhlaaPJournalWritesx1
import Derived.Test.YtkgpnegebpkhlaaPJournalWritesx2
import Derived.Test.YtkgpnegebpkhlaaPJournalWritesx3
import Derived.Test.YtkgpnegebpkhlaaPJournalWritesx4
import Derived.Test.YtkgpnegebpkhlaaPJournalWritesx5
import Derived.Test.YtkgpnegebpkhlaaPJournalWritesx6
import Derived.Test.YtkgpnegebpkhlaaPJournalWritesx7
namespace Go.Proofs.Ytkgpnegebpkhlaa.PJournalWrites
open Go.RowKit Go.Proofs.YtkgpnegebpkhlaaW.PrintWords Go.Proofs.YtkgpnegebpkhlaaW.PrintLast Go.Proofs.YtkgpnegebpkhlaaW.PrintMore
attribute [local go_sem] max2_int min2_int max_two min_two max_three min_three max_four min_four   -- for this text's walks alone
set_option linter.unusedVariables false
set_option linter.unusedSimpArgs false

end Go.Proofs.Ytkgpnegebpkhlaa.PJournalWrites
