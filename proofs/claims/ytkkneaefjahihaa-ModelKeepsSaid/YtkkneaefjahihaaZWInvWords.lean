-- Cut down by a program of this session (shake.py) out of what print.sh wrote for this seat; Lean checks it.
import Derived.Test.YtkkneaefjahihaaZWInv
import Derived.Test.YtkkneaefjahihaaZWFootNe
namespace Go.Proofs.YtkkneaefjahihaaW.PrintWords
open Go.RowKit
end Go.Proofs.YtkkneaefjahihaaW.PrintWords
namespace Go.Proofs.YtkkneaefjahihaaW.PrintLast
section
variable {ops : Array Oper} {a : Act} {o og : Oper} {g : Nat} {t : Tmp} {u : Bool}
end
end Go.Proofs.YtkkneaefjahihaaW.PrintLast
