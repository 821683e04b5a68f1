/- What any calls of any threads are answered, one behind the other, and the state behind each, is the document's: the law's walk. -/
import Derived.Test.YtkkneaefjahihaaZPureMod
set_option linter.unusedVariables false
set_option linter.unusedSimpArgs false
namespace Go.Proofs.Ytkkneaefjahihaa.ModL
open Go Go.RowKit Go.Proofs.YtkkneaefjahihaaW.PrintWords Go.Proofs.YtkkneaefjahihaaW.PrintLast Go.Proofs.YtkkneaefjahihaaW.PrintMore Go.Proofs.Ytkkneaefjahihaa.PModelTold Go.Proofs.Ytkkneaefjahihaa.GRow Go.Proofs.Ytkkneaefjahihaa.ModRec Go.Proofs.Ytkkneaefjahihaa.Num Go.Proofs.Ytkkneaefjahihaa.Bxs Go.Proofs.Ytkkneaefjahihaa.ModW Go.Proofs.Ytkkneaefjahihaa.ModR Go.Proofs.Ytkkneaefjahihaa.Pure
section
variable {α : Type} {d : Kd α} {e b b' : Nat} {W : World} {ok : Nat → Prop} {v : Value} {xs : List α}
theorem rb (h : Kd.V d e W b ok v xs) : Kd.V d e W b' ok v xs := h
end
end Go.Proofs.Ytkkneaefjahihaa.ModL
