/- A row that is only read, and a block that it does not lead to. -/
import Derived.Test.YtkkneaefjahihaaZWMore
set_option linter.unusedVariables false
namespace Go.Proofs.YtkkneaefjahihaaW.PrintWords
open Go Go.RowKit
namespace Kd
end Kd
end Go.Proofs.YtkkneaefjahihaaW.PrintWords
