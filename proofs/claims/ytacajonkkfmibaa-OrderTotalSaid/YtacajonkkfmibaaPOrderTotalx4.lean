-- Printed by a program of this session (mkprint.py) out of the translation; Lean checks it.
import Derived.Test.YtacajonkkfmibaaPOrderTotalx0
import Derived.Test.YtacajonkkfmibaaPOrderTotalx1
import Derived.Test.YtacajonkkfmibaaPOrderTotalx3
import Derived.Test.YtacajonkkfmibaaPOrderTotalx4b
namespace Go.Proofs.Ytacajonkkfmibaa.POrderTotal
open Go.RowKit Go.Proofs.YtacajonkkfmibaaW.PrintWords Go.Proofs.YtacajonkkfmibaaW.PrintLast Go.Proofs.YtacajonkkfmibaaW.PrintMore
attribute [local go_sem] max2_int min2_int max_two min_two max_three min_three max_four min_four   -- for this text's walks alone
set_option linter.unusedVariables false
set_option linter.unusedSimpArgs false

attribute [local go_sem high] eqA66
set_option maxHeartbeats 8000000 in
set_option maxRecDepth 100000 in
theorem deadwoodlaw02_OrderTotal.calls (k : Nat) (a0_0 : Int) (a0_1 : Int) (a1_0 : Int) (a1_1 : Int) (a2_0 : Int) (a2_1 : Int) (r : Bool) (w : World) (hr_ : r = true) (h : deadwoodlaw02_OrderTotal.f k a0_0 a0_1 a1_0 a1_1 a2_0 a2_1 = some r) :
    Calls Try.prog 12 #[.agg #[.int .i64 a0_0, .int .i64 a0_1], .agg #[.int .i64 a1_0, .int .i64 a1_1], .agg #[.int .i64 a2_0, .int .i64 a2_1]] w fun e w' => e = .returned (.bool r) ∧ Below w.heap.size w w' := by
  by_cases hx_ : (∃ k p, order_Max.f k a0_0 a0_1 a1_0 a1_1 = some p ∧ (p.1 == a0_0 && (p.2 == a0_1)) = true)
  · exact deadwoodlaw02_OrderTotal.calls1 k a0_0 a0_1 a1_0 a1_1 a2_0 a2_1 r w hx_ hr_ h
  · exact deadwoodlaw02_OrderTotal.calls2 k a0_0 a0_1 a1_0 a1_1 a2_0 a2_1 r w hx_ hr_ h

/-- What is known of a value of type 66 that came in. -/
def ok66 (x : S66) : Prop := ((Lit.int .i64 x.f0).wf = true) ∧ ((Lit.int .i64 x.f1).wf = true)
/-- The one pure statement of deadwoodlaw02_OrderTotal. -/
def deadwoodlaw02_OrderTotal.Pure : Prop := ∀ (x0 : S66) (x1 : S66) (x2 : S66), (ok66 x0) → (ok66 x1) → (ok66 x2) → ∃ k, deadwoodlaw02_OrderTotal.f k x0.f0 x0.f1 x1.f0 x1.f1 x2.f0 x2.f1 = some true
theorem deadwoodlaw02_OrderTotal.walk (P : deadwoodlaw02_OrderTotal.Pure) (x0 : S66) (x1 : S66) (x2 : S66) (w : World) (w0 : ok66 x0) (w1 : ok66 x1) (w2 : ok66 x2) :
    Calls Try.prog 12 #[.agg #[.int .i64 x0.f0, .int .i64 x0.f1], .agg #[.int .i64 x1.f0, .int .i64 x1.f1], .agg #[.int .i64 x2.f0, .int .i64 x2.f1]] w fun e w' => e = .returned (.bool true) ∧ Below w.heap.size w w' := by
  obtain ⟨k, h⟩ := P x0 x1 x2 w0 w1 w2
  refine (deadwoodlaw02_OrderTotal.calls k x0.f0 x0.f1 x1.f0 x1.f1 x2.f0 x2.f1 true w rfl h).mono ?_
  rintro e w' ⟨rfl, hd⟩
  exact ⟨rfl, hd⟩

end Go.Proofs.Ytacajonkkfmibaa.POrderTotal
