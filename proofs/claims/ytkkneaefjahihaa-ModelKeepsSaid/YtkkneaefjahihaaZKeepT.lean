/- The type of two numbers. -/
import Derived.Test.YtkkneaefjahihaaZPModelToldx0
namespace Go.Proofs.Ytkkneaefjahihaa.PModelTold
open Go.RowKit Go.Proofs.YtkkneaefjahihaaW.PrintWords Go.Proofs.YtkkneaefjahihaaW.PrintLast Go.Proofs.YtkkneaefjahihaaW.PrintMore
attribute [local go_sem] max2_int min2_int max_two min_two max_three min_three max_four min_four   -- for this text's walks alone
set_option linter.unusedVariables false
set_option linter.unusedSimpArgs false
/-! #### struct type 47 -/
structure S47 where
  f0 : Int
  f1 : Int
def k47 : Kd S47 := Kd.iso (Kd.pair (Kd.int .i64) (Kd.int .i64)) (fun x : S47 => (x.f0, x.f1))
theorem k47_open {w : World} {x : S47} {cs : List Value} (h : k47.K w x cs) : cs = [.int .i64 x.f0, .int .i64 x.f1] := by
  obtain ⟨_, _, rfl, rfl, rfl⟩ := h
  exact rfl
end Go.Proofs.Ytkkneaefjahihaa.PModelTold
