-- Printed by a program of this session (mkprint.py) out of the translation; Lean checks it.
import Derived.Test.YtdmpfnnaefccnaaProg
import Derived.Test.YtdmpfnnaefccnaaAway
import Derived.Below
import Derived.Deep.Draws
import Derived.Deep.AppendLies
import Derived.Maps.AppendAt
import Derived.OwnWalk
import Derived.Laws.BytesArg
import Derived.Laws.MakeOwn
import Derived.Laws.OwnMore
import Derived.Deep.OwnRows
import Derived.Tactics
import Derived.Lib.ConvBytes
import Derived.Laws.Slices
import Derived.WalkKit
import Derived.KernelRfl
import Derived.RowKit3
import Derived.Deep.LoopGhost
import Derived.Deep.QuietTactic
import Derived.BigQuiet
import Derived.WideLaws
import Derived.Deep.DeepCutAuto
import Derived.Deep.CutBlock
import Derived.Deep.RegionHeld3
import Derived.Laws.Rows
import Derived.Lib.AppendStr
import Derived.ArgAppend
import Derived.Laws.IdiomCopy
import Derived.OrdersHeld
import Derived.Laws.BitsLemmas
import Derived.RowKit
import Derived.Test.YtdmpfnnaefccnaaWWords
import Derived.Test.YtdmpfnnaefccnaaWLast
import Derived.Test.YtdmpfnnaefccnaaWTab
import Derived.Test.YtdmpfnnaefccnaaWFour
import Derived.Test.YtdmpfnnaefccnaaWQPut
import Derived.Test.YtdmpfnnaefccnaaWApart
import Derived.Test.YtdmpfnnaefccnaaWArr
import Derived.Test.YtdmpfnnaefccnaaWZeros
import Derived.Test.YtdmpfnnaefccnaaWFoot
import Derived.Test.YtdmpfnnaefccnaaWKept
import Derived.Test.YtdmpfnnaefccnaaWShare
import Derived.Test.YtdmpfnnaefccnaaWN
import Derived.Test.YtdmpfnnaefccnaaWFootNe
import Derived.Test.YtdmpfnnaefccnaaWAt
import Derived.Test.YtdmpfnnaefccnaaWEqStruct
import Derived.Test.YtdmpfnnaefccnaaWRepsOne
import Derived.Test.YtdmpfnnaefccnaaWInv
import Derived.Test.YtdmpfnnaefccnaaWInvWords
import Derived.Test.YtdmpfnnaefccnaaWGuard
import Derived.Test.YtdmpfnnaefccnaaWNEv
import Derived.Test.YtdmpfnnaefccnaaWMore
namespace Go.Proofs.Ytdmpfnnaefccnaa.PMemPlays
open Go.RowKit Go.Proofs.YtdmpfnnaefccnaaW.PrintWords Go.Proofs.YtdmpfnnaefccnaaW.PrintLast Go.Proofs.YtdmpfnnaefccnaaW.PrintMore
attribute [local go_sem] max2_int min2_int max_two min_two max_three min_three max_four min_four   -- for this text's walks alone
set_option linter.unusedVariables false
set_option linter.unusedSimpArgs false



def errW : Option Int → Value
  | none => .nilIface
  | some c => .iface 0 (.int .i64 c)
theorem errW_none : errW none = .nilIface := rfl
theorem errW_some (c : Int) : errW (some c) = .iface 0 (.int .i64 c) := rfl

theorem info29 : (Try.prog.info? 29).map (fun i => (i.zero, i.size, i.bytes)) = some (some (.int .u64 0), 1, 8) := by kernel_rfl
-- the values' own types

end Go.Proofs.Ytdmpfnnaefccnaa.PMemPlays
