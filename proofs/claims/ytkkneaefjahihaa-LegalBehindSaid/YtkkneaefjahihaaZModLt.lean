/- What any calls of any threads are answered, one behind the other, and the state behind each, is the document's: the law's walk. -/
import Derived.Test.YtkkneaefjahihaaZModT2
import Derived.Deep.DeepCutAuto
set_option linter.unusedVariables false
set_option linter.unusedSimpArgs false
namespace Go.Proofs.Ytkkneaefjahihaa.ModLt
open Go Go.RowKit Go.Proofs.YtkkneaefjahihaaW.PrintWords Go.Proofs.YtkkneaefjahihaaW.PrintLast Go.Proofs.YtkkneaefjahihaaW.PrintMore Go.Proofs.Ytkkneaefjahihaa.PModelTold Go.Proofs.Ytkkneaefjahihaa.GRow Go.Proofs.Ytkkneaefjahihaa.ModRec Go.Proofs.Ytkkneaefjahihaa.Num Go.Proofs.Ytkkneaefjahihaa.Bxs Go.Proofs.Ytkkneaefjahihaa.ModW Go.Proofs.Ytkkneaefjahihaa.ModR Go.Proofs.Ytkkneaefjahihaa.Pure Go.Proofs.Ytkkneaefjahihaa.ModL Go.Proofs.Ytkkneaefjahihaa.ModT
theorem cw_told {k : Nat} {okx oka : Nat → Prop} {A0 A1 A3 : Option Addr} {c0 c1 c3 : Nat} {l r1 r7 a4 l2 : List S49} {ts r2 ts2 : List S62} {t q0 q1 q2 q3 q4 r3 r4 r5 r6 a0 a1 a2 a3 : Int} {tb : Bool} {W : World} (h0 : Kd.V k49 49 W W.heap.size okx (.slice A0 l.length c0) l) (h1 : Kd.V k62 62 W W.heap.size okx (.slice A1 ts.length c1) ts) (h3 : Kd.V k49 49 W W.heap.size oka (.slice A3 a4.length c3) a4) (ha : a4.length ≤ 1000000) (h : model_State_Do.f k l ts t q0 q1 q2 q3 q4 = some (r1, r2, r3, r4, r5, r6, r7)) (e1 : sel (sameA a0 a1 a2 a3 a4 r3 r4 r5 r6 r7) r1 l = l2) (e2 : sel (sameA a0 a1 a2 a3 a4 r3 r4 r5 r6 r7) r2 ts = ts2) (e3 : toldB q0 a0 a1 a2 a3 a4 r3 r4 r5 r6 r7 = tb) :
    Calls Try.prog 16 #[.agg #[.slice A0 l.length c0, .slice A1 ts.length c1], .int .i64 t, .agg #[.int .i64 q0, .int .i64 q1, .int .i64 q2, .int .i64 q3, .int .i64 q4], .agg #[.int .i64 a0, .int .i64 a1, .int .i64 a2, .int .i64 a3, .slice A3 a4.length c3]] W fun e w' => ∃ v0_ v1_ : Value, e = .returned (.tuple #[.agg #[v0_, v1_], .bool tb]) ∧ Kd.V k49 49 w' 0 (fun k_ => okx k_ ∨ W.heap.size ≤ k_) v0_ l2 ∧ Kd.V k62 62 w' 0 (fun k_ => okx k_ ∨ W.heap.size ≤ k_) v1_ ts2 ∧ Below W.heap.size W w' := by
  subst e1 e2 e3
  exact mtold h0 h1 h3 ha h
theorem cx_told {k : Nat} {okx oka : Nat → Prop} {A0 A1 A3 : Option Addr} {c0 c1 c3 : Nat} {l r1 r7 a4 l2 : List S49} {ts r2 ts2 : List S61} {t q0 q1 q2 q3 q4 r3 r4 r5 r6 a0 a1 a2 a3 : Int} {tb : Bool} {W : World} (h0 : Kd.V k49 49 W W.heap.size okx (.slice A0 l.length c0) l) (h1 : Kd.V k61 61 W W.heap.size okx (.slice A1 ts.length c1) ts) (h3 : Kd.V k49 49 W W.heap.size oka (.slice A3 a4.length c3) a4) (ha : a4.length ≤ 1000000) (h : rdo k l ts t q0 q1 q2 q3 q4 = some (r1, r2, r3, r4, r5, r6, r7)) (e1 : sel (sameA a0 a1 a2 a3 a4 r3 r4 r5 r6 r7) r1 l = l2) (e2 : sel (sameA a0 a1 a2 a3 a4 r3 r4 r5 r6 r7) r2 ts = ts2) (e3 : toldB q0 a0 a1 a2 a3 a4 r3 r4 r5 r6 r7 = tb) :
    Calls Try.prog 17 #[.agg #[.slice A0 l.length c0, .slice A1 ts.length c1], .int .i64 t, .agg #[.int .i64 q0, .int .i64 q1, .int .i64 q2, .int .i64 q3, .int .i64 q4], .agg #[.int .i64 a0, .int .i64 a1, .int .i64 a2, .int .i64 a3, .slice A3 a4.length c3]] W fun e w' => ∃ v0_ v1_ : Value, e = .returned (.tuple #[.agg #[v0_, v1_], .bool tb]) ∧ Kd.V k49 49 w' 0 (fun k_ => okx k_ ∨ W.heap.size ≤ k_) v0_ l2 ∧ Kd.V k61 61 w' 0 (fun k_ => okx k_ ∨ W.heap.size ≤ k_) v1_ ts2 ∧ Below W.heap.size W w' := by
  subst e1 e2 e3
  exact rtold h0 h1 h3 ha h
theorem sel_map {α β : Type} (f : α → β) (b : Bool) (x y : List α) : sel b (x.map f) (y.map f) = (sel b x y).map f := by cases b <;> rfl
theorem sel_wf {n : Nat} {l l' : List S49} {ts ts' : List S62} (b : Bool) (h : WfS n l ts) (h' : WfS (n + 1) l' ts') : WfS (n + 1) (sel b l' l) (sel b ts' ts) := by
  cases b with
  | true => exact h'
  | false => exact ⟨h.r, Nat.le_succ_of_le h.len, h.tl, fun s hs => by obtain ⟨a, b, c, d⟩ := h.ss s hs; exact ⟨a, Nat.le_succ_of_le b, c, d⟩⟩
end Go.Proofs.Ytkkneaefjahihaa.ModLt
