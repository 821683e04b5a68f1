/- Words as natural numbers: a field of a word, a word with a field changed, and the bit operations that compute them. -/
import Derived.Laws.BitsLemmas
import Derived.RowKit
set_option linter.unusedVariables false
set_option linter.unusedSimpArgs false
namespace Go.Proofs.Ytkkneaefjahihaa.Num
open Go Go.RowKit

theorem wrap64_of {n : Int} (h0 : -9223372036854775808 ≤ n) (h1 : n ≤ 9223372036854775807) : wrap64 n = n := by
  unfold wrap64; omega
def number : List Int → Int
  | [] => 0
  | x :: l => 2 * number l + x
end Go.Proofs.Ytkkneaefjahihaa.Num
