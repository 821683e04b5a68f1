/- What any calls of any threads are answered, one behind the other, and the state behind each, is the document's: the law's walk. -/
import Derived.Test.YtkkneaefjahihaaZModL
import Derived.Deep.DeepCutAuto
set_option linter.unusedVariables false
set_option linter.unusedSimpArgs false
namespace Go.Proofs.Ytkkneaefjahihaa.ModL
open Go Go.RowKit Go.Proofs.YtkkneaefjahihaaW.PrintWords Go.Proofs.YtkkneaefjahihaaW.PrintLast Go.Proofs.YtkkneaefjahihaaW.PrintMore Go.Proofs.Ytkkneaefjahihaa.PModelTold Go.Proofs.Ytkkneaefjahihaa.GRow Go.Proofs.Ytkkneaefjahihaa.ModRec Go.Proofs.Ytkkneaefjahihaa.Num Go.Proofs.Ytkkneaefjahihaa.Bxs Go.Proofs.Ytkkneaefjahihaa.ModW Go.Proofs.Ytkkneaefjahihaa.ModR Go.Proofs.Ytkkneaefjahihaa.Pure
def okb (w : World) (b5 b6 k : Nat) : Prop := w.heap.size ≤ k ∧ k ≠ b5 ∧ k ≠ b6
def okc (w : World) (b5 b6 N k : Nat) : Prop := okb w b5 b6 k ∧ k < N
/-- The states that the law keeps: the map's, and the document's. -/
structure LS (w wr : World) (b5 b6 : Nat) (A0 : Option Addr) (c0 : Nat) (A1 : Option Addr) (c1 : Nat) (B0 : Option Addr) (d0 : Nat) (B1 : Option Addr) (d1 : Nat) (l : List S49) (ts : List S62) (xs : List S61) : Prop where
  bx : Bxs w wr ([(b6, #[.slice B0 l.length d0, .slice B1 xs.length d1], 31), (b5, #[.slice A0 l.length c0, .slice A1 ts.length c1], 27)] : List Box)
  v0 : Kd.V k49 49 wr 0 (okb w b5 b6) (.slice A0 l.length c0) l
  v1 : Kd.V k62 62 wr 0 (okb w b5 b6) (.slice A1 ts.length c1) ts
  v2 : Kd.V k49 49 wr 0 (okb w b5 b6) (.slice B0 l.length d0) l
  v3 : Kd.V k61 61 wr 0 (okb w b5 b6) (.slice B1 xs.length d1) xs
  e : xs = ts.map toX
theorem LS.below {w wr wr' : World} {b5 b6 : Nat} {A0 A1 B0 B1 : Option Addr} {c0 c1 d0 d1 : Nat} {l : List S49} {ts : List S62} {xs : List S61} (h : LS w wr b5 b6 A0 c0 A1 c1 B0 d0 B1 d1 l ts xs) (hb : Below wr.heap.size wr wr') : LS w wr' b5 b6 A0 c0 A1 c1 B0 d0 B1 d1 l ts xs :=
  ⟨h.bx.below hb, Kd.V_below h.v0 hb, Kd.V_below h.v1 hb, Kd.V_below h.v2 hb, Kd.V_below h.v3 hb, h.e⟩
section
variable {α β γ : Type} {d0 : Kd α} {d1 : Kd β} {d6 : Kd γ} {e0 e1 e6 : Nat} {w wd wj : World} {ok : Nat → Prop} {T8 T9 : Nat} {x0 : List α} {x1 : List β} {x6 : List γ} {v0 v1 v6 u0 u1 y0 y1 y2 y3 y4 : Value} {g8 g9 : Nat} {L : List Box}
theorem v7 {α : Type} {d : Kd α} {e : Nat} {W : World} {ok : Nat → Prop} {v : Value} {xs : List α} (h : Kd.V d e W 0 (fun k => ok k ∧ some k ≠ some g8 ∧ some k ≠ some g9) v xs) : Kd.V d e (((((((W.setCell ⟨g8, 0, none⟩ u0).setCell ⟨g8, 1, none⟩ u1).setCell ⟨g9, 0, none⟩ y0).setCell ⟨g9, 1, none⟩ y1).setCell ⟨g9, 2, none⟩ y2).setCell ⟨g9, 3, none⟩ y3).setCell ⟨g9, 4, none⟩ y4) 0 (fun k => ok k ∧ k ≠ g8 ∧ k ≠ g9) v xs := by
  have h2 : Kd.V d e W 0 (fun k => ok k ∧ k ≠ g8 ∧ k ≠ g9) v xs := Kd.V_mono h (fun k hk => ⟨hk.1, fun e => hk.2.1 (by rw [e]), fun e => hk.2.2 (by rw [e])⟩)
  exact v5 (Kd.V_far (Kd.V_far h2 (fun k hk => hk.2.1) u0) (fun k hk => hk.2.1) u1) (fun k hk => hk.2.2)
end
theorem q4 {α : Type} {d : Kd α} {e b5 b6 : Nat} {w W : World} {v : Value} {xs : List α} {u0 u1 y0 y1 : Value} (h : Kd.V d e W 0 (okb w b5 b6) v xs) : Kd.V d e ((((W.setCell ⟨b5, 0, none⟩ u0).setCell ⟨b5, 1, none⟩ u1).setCell ⟨b6, 0, none⟩ y0).setCell ⟨b6, 1, none⟩ y1) 0 (okb w b5 b6) v xs :=
  Kd.V_far (Kd.V_far (Kd.V_far (Kd.V_far h (fun k hk => hk.2.1) u0) (fun k hk => hk.2.1) u1) (fun k hk => hk.2.2) y0) (fun k hk => hk.2.2) y1
end Go.Proofs.Ytkkneaefjahihaa.ModL
