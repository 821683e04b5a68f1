/- What a region that calls and makes two boxes, in any order, has come to. -/
import Derived.Test.YtkkneaefjahihaaZModR4
set_option linter.unusedVariables false
set_option linter.unusedSimpArgs false
namespace Go.Proofs.Ytkkneaefjahihaa.ModR
open Go Go.RowKit Go.Proofs.YtkkneaefjahihaaW.PrintWords Go.Proofs.YtkkneaefjahihaaW.PrintLast Go.Proofs.YtkkneaefjahihaaW.PrintMore Go.Proofs.Ytkkneaefjahihaa.PModelTold Go.Proofs.Ytkkneaefjahihaa.GRow Go.Proofs.Ytkkneaefjahihaa.ModRec Go.Proofs.Ytkkneaefjahihaa.Num Go.Proofs.Ytkkneaefjahihaa.Bxs Go.Proofs.Ytkkneaefjahihaa.ModW
structure Fr {α β γ : Type} (d0 : Kd α) (d1 : Kd β) (d6 : Kd γ) (e0 e1 e6 : Nat) (wd : World) (ok : Nat → Prop) (c8 c9 : Array Value) (T8 T9 : Nat) (x0 : List α) (x1 : List β) (x6 : List γ) (oc : Option (Value × Value × Value)) (o8 o9 : Option Nat) (w' : World) : Prop where
  b : Below wd.heap.size wd w'
  h8 : ∀ b, o8 = some b → w'.heap[b]? = some (.cells c8 T8 (0, 0)) ∧ wd.heap.size ≤ b
  h9 : ∀ b, o9 = some b → w'.heap[b]? = some (.cells c9 T9 (0, 0)) ∧ wd.heap.size ≤ b
  ne : ∀ a b, o8 = some a → o9 = some b → a ≠ b
  hc : ∀ v, oc = some v → Kd.V d0 e0 w' 0 (fun k => ok k ∧ some k ≠ o8 ∧ some k ≠ o9) v.1 x0 ∧ Kd.V d1 e1 w' 0 (fun k => ok k ∧ some k ≠ o8 ∧ some k ≠ o9) v.2.1 x1 ∧ Kd.V d6 e6 w' 0 (fun k => ok k ∧ some k ≠ o8 ∧ some k ≠ o9) v.2.2 x6
section
variable {α β γ : Type} {d0 : Kd α} {d1 : Kd β} {d6 : Kd γ} {e0 e1 e6 : Nat} {wd w' w1 : World} {ok okc : Nat → Prop} {c8 c9 : Array Value} {T8 T9 : Nat} {x0 : List α} {x1 : List β} {x6 : List γ} {oc : Option (Value × Value × Value)} {o8 o9 : Option Nat} {v0 v1 v6 : Value} {base0 base1 base6 g : Nat}
theorem Fr.start : Fr d0 d1 d6 e0 e1 e6 wd ok c8 c9 T8 T9 x0 x1 x6 none none none wd := ⟨Below.refl _ _, (by intro _ h; cases h), (by intro _ h; cases h), (by intro _ _ h; cases h), (by intro _ h; cases h)⟩
theorem Fr.call (h : Fr d0 d1 d6 e0 e1 e6 wd (fun k => okc k ∨ wd.heap.size ≤ k) c8 c9 T8 T9 x0 x1 x6 none o8 o9 w') (hb : Below w'.heap.size w' w1) (hok : ∀ k, okc k → k < wd.heap.size)
    (h0 : Kd.V d0 e0 w1 base0 (fun k => okc k ∨ w'.heap.size ≤ k) v0 x0) (h1 : Kd.V d1 e1 w1 base1 (fun k => okc k ∨ w'.heap.size ≤ k) v1 x1) (h6 : Kd.V d6 e6 w1 base6 (fun k => okc k ∨ w'.heap.size ≤ k) v6 x6) :
    Fr d0 d1 d6 e0 e1 e6 wd (fun k => okc k ∨ wd.heap.size ≤ k) c8 c9 T8 T9 x0 x1 x6 (some (v0, v1, v6)) o8 o9 w1 := by
  have key : ∀ k, (okc k ∨ w'.heap.size ≤ k) → (okc k ∨ wd.heap.size ≤ k) ∧ some k ≠ o8 ∧ some k ≠ o9 := fun k hk => by
    refine ⟨by rcases hk with hk | hk; exact .inl hk; exact .inr (Nat.le_trans h.b.size hk), fun e => ?_, fun e => ?_⟩
    · have h2 := h.h8 k e.symm
      have h3 := (Array.getElem?_eq_some_iff.1 h2.1).1
      rcases hk with hk | hk
      · have := hok k hk; omega
      · omega
    · have h2 := h.h9 k e.symm
      have h3 := (Array.getElem?_eq_some_iff.1 h2.1).1
      rcases hk with hk | hk
      · have := hok k hk; omega
      · omega
  refine ⟨below_then h.b h.b.size hb, fun b he => ⟨blk_below (h.h8 b he).1 hb, (h.h8 b he).2⟩, fun b he => ⟨blk_below (h.h9 b he).1 hb, (h.h9 b he).2⟩, h.ne, fun v hv => ?_⟩
  injection hv with hv
  subst hv
  exact ⟨Kd.V_mono (Kd.V_lower h0 (Nat.zero_le _)) key, Kd.V_mono (Kd.V_lower h1 (Nat.zero_le _)) key, Kd.V_mono (Kd.V_lower h6 (Nat.zero_le _)) key⟩
end
/-- The map's call, its answer's pairs told as shared. -/
theorem mdo_calls (k : Nat) (P0 : Nat → Prop) (A0 : Option Addr) (c0 : Nat) (l0 : List S49) (P1 : Nat → Prop) (A1 : Option Addr) (c1 : Nat) (l1 : List S62) (a1 q0 q1 q2 q3 q4 : Int) (r1 : List S49) (r2 : List S62) (r3 r4 r5 r6 : Int) (r7 : List S49) (w : World) (h0 : Kd.V k49 49 w w.heap.size P0 (.slice A0 l0.length c0) l0) (h1 : Kd.V k62 62 w w.heap.size P1 (.slice A1 l1.length c1) l1) (h : model_State_Do.f k l0 l1 a1 q0 q1 q2 q3 q4 = some (r1, r2, r3, r4, r5, r6, r7)) :
    Calls Try.prog 10 #[.agg #[.slice A0 l0.length c0, .slice A1 l1.length c1], .int .i64 a1, .agg #[.int .i64 q0, .int .i64 q1, .int .i64 q2, .int .i64 q3, .int .i64 q4]] w fun e w' => ∃ v0_ v1_ v6_ : Value, e = .returned (.tuple #[.agg #[v0_, v1_], .agg #[.int .i64 r3, .int .i64 r4, .int .i64 r5, .int .i64 r6, v6_]]) ∧ Kd.V k49 49 w' w.heap.size (fun k_ => (P0 k_ ∨ P1 k_) ∨ w.heap.size ≤ k_) v0_ r1 ∧ Kd.V k62 62 w' w.heap.size (fun k_ => (P0 k_ ∨ P1 k_) ∨ w.heap.size ≤ k_) v1_ r2 ∧ Kd.V k49 49 w' w.heap.size (fun k_ => w.heap.size ≤ k_) v6_ r7 ∧ Below w.heap.size w w' :=
  (model_State_Do.calls k P0 A0 c0 l0 P1 A1 c1 l1 a1 q0 q1 q2 q3 q4 r1 r2 r3 r4 r5 r6 r7 w h0 h1 h).mono fun e w' ⟨v0, v1, v6, he, h2, h3, h4, h5⟩ => ⟨v0, v1, v6, he, Kd.V_mono h2 (fun k hk => hk.1), Kd.V_mono h3 (fun k hk => hk.1), Kd.R_V h4, h5⟩
end Go.Proofs.Ytkkneaefjahihaa.ModR
