-- WRITTEN BY wip/xprint.py of this repo, over the kit's print; functions the print does not take are by hand
import Derived.Test.YtblmcdpfhdamjaaPPaintWindowx0
import Derived.Test.YtblmcdpfhdamjaaPPaintWindowx1
import Derived.Test.YtblmcdpfhdamjaaPPaintWindowx2
import Derived.Test.YtblmcdpfhdamjaaPPaintWindowx3
import Derived.Test.YtblmcdpfhdamjaaPPaintWindowx4
import Derived.Test.YtblmcdpfhdamjaaPPaintWindowx5
import Derived.Test.YtblmcdpfhdamjaaPPaintWindowx6
import Derived.Test.YtblmcdpfhdamjaaPPaintWindowx7
import Derived.Test.YtblmcdpfhdamjaaPPaintWindowx8
import Derived.Test.YtblmcdpfhdamjaaPPaintWindowx9
import Derived.Test.YtblmcdpfhdamjaaPPaintWindowx10
import Derived.Test.YtblmcdpfhdamjaaPPaintWindowx11
import Derived.Test.YtblmcdpfhdamjaaPPaintWindowx12
import Derived.Test.YtblmcdpfhdamjaaPPaintWindowx13
import Derived.Test.YtblmcdpfhdamjaaPPaintWindowx14
import Derived.Test.YtblmcdpfhdamjaaPPaintWindowx15
import Derived.Test.YtblmcdpfhdamjaaPPaintWindowx16
namespace Go.Proofs.Ytblmcdpfhdamjaa.PPaintWindow
open Go.RowKit Go.Proofs.YtblmcdpfhdamjaaW.PrintWords Go.Proofs.YtblmcdpfhdamjaaW.PrintLast Go.Proofs.YtblmcdpfhdamjaaW.PrintMore
attribute [local go_sem] max2_int min2_int max_two min_two max_three min_three max_four min_four   -- for this text's walks alone
set_option linter.unusedVariables false
set_option linter.unusedSimpArgs false

end Go.Proofs.Ytblmcdpfhdamjaa.PPaintWindow
