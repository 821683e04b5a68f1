-- Printed by a program of this session (mkprint.py) out of the translation; Lean checks it.
import Derived.Test.YtdbenonbjklkdaaProg
import Derived.Test.YtdbenonbjklkdaaAway
import Derived.Below
import Derived.Deep.Draws
import Derived.Deep.AppendLies
import Derived.Maps.AppendAt
import Derived.OwnWalk
import Derived.Laws.BytesArg
import Derived.Laws.MakeOwn
import Derived.Laws.OwnMore
import Derived.Deep.OwnRows
import Derived.Tactics
import Derived.Lib.ConvBytes
import Derived.Laws.Slices
import Derived.WalkKit
import Derived.KernelRfl
import Derived.RowKit3
import Derived.Deep.LoopGhost
import Derived.Deep.QuietTactic
import Derived.BigQuiet
import Derived.WideLaws
import Derived.Deep.DeepCutAuto
import Derived.Deep.CutBlock
import Derived.Deep.RegionHeld3
import Derived.Laws.Rows
import Derived.Lib.AppendStr
import Derived.ArgAppend
import Derived.Laws.IdiomCopy
import Derived.OrdersHeld
import Derived.Laws.BitsLemmas
import Derived.RowKit
import Derived.Test.YtdbenonbjklkdaaWWords
import Derived.Test.YtdbenonbjklkdaaWLast
import Derived.Test.YtdbenonbjklkdaaWTab
import Derived.Test.YtdbenonbjklkdaaWFour
import Derived.Test.YtdbenonbjklkdaaWQPut
import Derived.Test.YtdbenonbjklkdaaWApart
import Derived.Test.YtdbenonbjklkdaaWArr
import Derived.Test.YtdbenonbjklkdaaWZeros
import Derived.Test.YtdbenonbjklkdaaWFoot
import Derived.Test.YtdbenonbjklkdaaWKept
import Derived.Test.YtdbenonbjklkdaaWShare
import Derived.Test.YtdbenonbjklkdaaWN
import Derived.Test.YtdbenonbjklkdaaWFootNe
import Derived.Test.YtdbenonbjklkdaaWAt
import Derived.Test.YtdbenonbjklkdaaWEqStruct
import Derived.Test.YtdbenonbjklkdaaWRepsOne
import Derived.Test.YtdbenonbjklkdaaWInv
import Derived.Test.YtdbenonbjklkdaaWInvWords
import Derived.Test.YtdbenonbjklkdaaWGuard
import Derived.Test.YtdbenonbjklkdaaWNEv
import Derived.Test.YtdbenonbjklkdaaWMore
namespace Go.Proofs.Ytdbenonbjklkdaa.PEdgeMarks
open Go.RowKit Go.Proofs.YtdbenonbjklkdaaW.PrintWords Go.Proofs.YtdbenonbjklkdaaW.PrintLast Go.Proofs.YtdbenonbjklkdaaW.PrintMore
attribute [local go_sem] max2_int min2_int max_two min_two max_three min_three max_four min_four   -- for this text's walks alone
set_option linter.unusedVariables false
set_option linter.unusedSimpArgs false



def errW : Option Int → Value
  | none => .nilIface
  | some c => .iface 0 (.int .i64 c)
theorem errW_none : errW none = .nilIface := rfl
theorem errW_some (c : Int) : errW (some c) = .iface 0 (.int .i64 c) := rfl

-- the values' own types

end Go.Proofs.Ytdbenonbjklkdaa.PEdgeMarks
