/- What is known of a law's arguments that came in. -/
import Derived.Test.YtkkneaefjahihaaZKeepT
namespace Go.Proofs.Ytkkneaefjahihaa.PModelTold
open Go.RowKit
/-- What is known of a value of type 38 that came in. -/
def ok38 (x : S38) : Prop := ((Lit.int .i64 x.f0).wf = true) ∧ ((Lit.int .i64 x.f1).wf = true) ∧ ((Lit.int .i64 x.f2).wf = true) ∧ ((Lit.int .i64 x.f3).wf = true) ∧ ((Lit.int .i64 x.f4).wf = true)
/-- What is known of a value of type 49 that came in. -/
def ok49 (x : S49) : Prop := ((Lit.int .i64 x.f0).wf = true) ∧ ((Lit.int .i64 x.f1).wf = true)
/-- What is known of a value of type 34 that came in. -/
def ok34 (x : S34) : Prop := ((Lit.int .i64 x.f0).wf = true) ∧ ((Lit.int .i64 x.f1).wf = true) ∧ ((Lit.int .i64 x.f2).wf = true) ∧ ((Lit.int .i64 x.f3).wf = true) ∧ (x.f4.length * 16 ≤ 140737488351232 ∧ ∀ a ∈ x.f4, ok49 a)
/-- What is known of a value of type 40 that came in. -/
def ok40 (x : S40) : Prop := ((Lit.int .i64 x.f0).wf = true) ∧ (ok38 x.f1) ∧ (ok34 x.f2)
/-- What is known of a value of type 47 that came in. -/
def ok47 (x : S47) : Prop := ((Lit.int .i64 x.f0).wf = true) ∧ ((Lit.int .i64 x.f1).wf = true)
end Go.Proofs.Ytkkneaefjahihaa.PModelTold
