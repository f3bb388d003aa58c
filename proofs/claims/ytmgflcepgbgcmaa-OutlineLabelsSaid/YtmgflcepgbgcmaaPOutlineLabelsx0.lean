-- WRITTEN BY wip/xprint.py of this repo, over the kit's print; functions the print does not take are by hand
import Derived.Test.YtmgflcepgbgcmaaProg
import Derived.Below
import Derived.Deep.Draws
import Derived.Deep.AppendLies
import Derived.Maps.AppendAt
import Derived.OwnWalk
import Derived.Laws.BytesArg
import Derived.Laws.MakeOwn
import Derived.Laws.OwnMore
import Derived.Deep.OwnRows
import Derived.Tactics
import Derived.Lib.ConvBytes
import Derived.Laws.Slices
import Derived.WalkKit
import Derived.KernelRfl
import Derived.RowKit3
import Derived.Deep.LoopGhost
import Derived.Deep.QuietTactic
import Derived.BigQuiet
import Derived.WideLaws
import Derived.Deep.DeepCutAuto
import Derived.Deep.CutBlock
import Derived.Deep.RegionHeld3
import Derived.Laws.Rows
import Derived.Lib.AppendStr
import Derived.ArgAppend
import Derived.Laws.IdiomCopy
import Derived.OrdersHeld
import Derived.Laws.BitsLemmas
import Derived.RowKit
import Derived.WalkMore
import Derived.ScopeJumps
import Derived.Laws.RangeAny
import Derived.Laws.Runes
import Derived.Lib.Strings
import Derived.Lib.Slices
import Derived.Lib.Walk
import Derived.Lib.Builder
import Derived.Lib.UnsafeStr
import Derived.Lib.MakeNoZero
import Derived.Laws.Externs
import Derived.Lib.OthersKept
import Derived.Test.YtmgflcepgbgcmaaShelf
import Derived.Test.YtmgflcepgbgcmaaWWords
import Derived.Test.YtmgflcepgbgcmaaWLast
import Derived.Test.YtmgflcepgbgcmaaWTab
import Derived.Test.YtmgflcepgbgcmaaWFour
import Derived.Test.YtmgflcepgbgcmaaWQPut
import Derived.Test.YtmgflcepgbgcmaaWApart
import Derived.Test.YtmgflcepgbgcmaaWArr
import Derived.Test.YtmgflcepgbgcmaaWZeros
import Derived.Test.YtmgflcepgbgcmaaWFoot
import Derived.Test.YtmgflcepgbgcmaaWKept
import Derived.Test.YtmgflcepgbgcmaaWShare
import Derived.Test.YtmgflcepgbgcmaaWN
import Derived.Test.YtmgflcepgbgcmaaWFootNe
import Derived.Test.YtmgflcepgbgcmaaWAt
import Derived.Test.YtmgflcepgbgcmaaWEqStruct
import Derived.Test.YtmgflcepgbgcmaaWRepsOne
import Derived.Test.YtmgflcepgbgcmaaWInv
import Derived.Test.YtmgflcepgbgcmaaWInvWords
import Derived.Test.YtmgflcepgbgcmaaWGuard
import Derived.Test.YtmgflcepgbgcmaaWNEv
import Derived.Test.YtmgflcepgbgcmaaWMore
namespace Go.Proofs.Ytmgflcepgbgcmaa.POutlineLabels
open Go.RowKit Go.Proofs.YtmgflcepgbgcmaaW.PrintWords Go.Proofs.YtmgflcepgbgcmaaW.PrintLast Go.Proofs.YtmgflcepgbgcmaaW.PrintMore
attribute [local go_sem] max2_int min2_int max_two min_two max_three min_three max_four min_four   -- for this text's walks alone
set_option linter.unusedVariables false
set_option linter.unusedSimpArgs false



def errW : Option Int → Value
  | none => .nilIface
  | some c => .iface 0 (.int .i64 c)
theorem errW_none : errW none = .nilIface := rfl
theorem errW_some (c : Int) : errW (some c) = .iface 0 (.int .i64 c) := rfl

-- the values' own types

end Go.Proofs.Ytmgflcepgbgcmaa.POutlineLabels
