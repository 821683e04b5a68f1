/- What is known of a law's arguments that came in. -/
import Derived.Test.YtacajonkkfmibaaPHistOrdersx0
namespace Go.Proofs.Ytacajonkkfmibaa.PHistOrders
open Go.RowKit
/-- What is known of a value of type 28 that came in. -/
def ok28 (x : S28) : Prop := ((Lit.int .i64 x.f0).wf = true) ∧ ((Lit.int .i64 x.f1).wf = true) ∧ ((Lit.int .i64 x.f2).wf = true) ∧ ((Lit.int .i64 x.f3).wf = true) ∧ ((Lit.int .i64 x.f4).wf = true)
/-- What is known of a value of type 104 that came in. -/
def ok104 (x : S104) : Prop := ((Lit.int .i64 x.f0).wf = true) ∧ ((Lit.int .i64 x.f1).wf = true)
/-- What is known of a value of type 31 that came in. -/
def ok31 (x : S31) : Prop := ((Lit.int .i64 x.f0).wf = true) ∧ ((Lit.int .i64 x.f1).wf = true) ∧ ((Lit.int .i64 x.f2).wf = true) ∧ ((Lit.int .i64 x.f3).wf = true) ∧ (x.f4.length * 16 ≤ 140737488351232 ∧ ∀ a ∈ x.f4, ok104 a)
/-- What is known of a value of type 33 that came in. -/
def ok33 (x : S33) : Prop := ((Lit.int .i64 x.f0).wf = true) ∧ (True) ∧ (ok28 x.f2) ∧ (ok31 x.f3)
end Go.Proofs.Ytacajonkkfmibaa.PHistOrders
