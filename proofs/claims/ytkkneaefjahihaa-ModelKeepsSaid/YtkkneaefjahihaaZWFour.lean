-- Cut down by a program of this session (shake.py) out of what print.sh wrote for this seat; Lean checks it.
import Derived.Test.YtkkneaefjahihaaZWTab
/-! ### 56. Four, five, six operations that may come up next, in any order -/
namespace Go.Proofs.YtkkneaefjahihaaW.PrintLast
section
variable {P : Program} {ops : Array Oper} {Q : Exit → Act → World → Prop} {md : Region.Mode} {S : World → Prop} {ds : List Nat} {T : Bool × List (List Nat × List Nat)}
end
end Go.Proofs.YtkkneaefjahihaaW.PrintLast
