import Derived.Test.YtblmcdpfhdamjaaRLinPaintSeen
/-! Our own text: what the reference draws of a line: the loop. -/
namespace Go.Proofs.Ytblmcdpfhdamjaa.PPaintSeen
set_option linter.unusedVariables false
set_option linter.unusedSimpArgs false
open Go.RowKit Go.Proofs.YtblmcdpfhdamjaaW.PrintWords

end Go.Proofs.Ytblmcdpfhdamjaa.PPaintSeen
