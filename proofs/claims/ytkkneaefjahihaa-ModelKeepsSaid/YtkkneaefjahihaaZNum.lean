/- Words as natural numbers: a field of a word, a word with a field changed, and the bit operations that compute them. -/
import Derived.Laws.BitsLemmas
import Derived.RowKit
set_option linter.unusedVariables false
set_option linter.unusedSimpArgs false
namespace Go.Proofs.Ytkkneaefjahihaa.Num
open Go Go.RowKit

def number : List Int → Int
  | [] => 0
  | x :: l => 2 * number l + x
end Go.Proofs.Ytkkneaefjahihaa.Num
