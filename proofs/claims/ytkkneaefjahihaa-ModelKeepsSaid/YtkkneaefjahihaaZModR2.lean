/- The document's state: a call. -/
import Derived.Test.YtkkneaefjahihaaZModR
set_option linter.unusedVariables false
set_option linter.unusedSimpArgs false
namespace Go.Proofs.Ytkkneaefjahihaa.ModR
open Go Go.RowKit Go.Proofs.YtkkneaefjahihaaW.PrintWords Go.Proofs.YtkkneaefjahihaaW.PrintLast Go.Proofs.YtkkneaefjahihaaW.PrintMore Go.Proofs.Ytkkneaefjahihaa.PModelTold Go.Proofs.Ytkkneaefjahihaa.GRow Go.Proofs.Ytkkneaefjahihaa.ModRec Go.Proofs.Ytkkneaefjahihaa.Num Go.Proofs.Ytkkneaefjahihaa.Bxs Go.Proofs.Ytkkneaefjahihaa.ModW
abbrev Ans := Int × Int × Int × Int × List S49
theorem gen2 {P : Program} {cd : Code} {Q : Exit → Act → World → Prop} {ac : Act} {W : World} {Φ : World → Prop} (h : Φ W) (k : ∀ wr, Φ wr → cd.wp P Q ac wr) : cd.wp P Q ac W := k W h
section
variable {α : Type} {d : Kd α} {e base base' : Nat} {w w1 w2 wr wr3 Wf : World} {P0 P1 : Nat → Prop} {v : Value} {xs : List α}
end
section
variable {R : Exit → Act → World → Prop} {e : Exit} {act : Act} {w W : World} {T U b6 b7 : Nat} {L : List Box} {z0 z1 x0 x1 x2 x3 x4 u0 u1 y0 y1 y2 y3 y4 : Value}
end
section
variable {α : Type} {d : Kd α} {e base b g cg lo : Nat} {w W : World} {ok : Nat → Prop} {v : Value} {xs : List α} {recs : List (List Value)} {u0 u1 u2 u3 u4 : Value}
theorem v4 (h : Kd.V d e W base ok v xs) (hok : ∀ k, ok k → k ≠ b) : Kd.V d e ((((W.setCell ⟨b, 0, none⟩ u0).setCell ⟨b, 1, none⟩ u1).setCell ⟨b, 2, none⟩ u2).setCell ⟨b, 3, none⟩ u3) base ok v xs := Kd.V_far (Kd.V_far (Kd.V_far (Kd.V_far h hok u0) hok u1) hok u2) hok u3
theorem v5 (h : Kd.V d e W base ok v xs) (hok : ∀ k, ok k → k ≠ b) : Kd.V d e (((((W.setCell ⟨b, 0, none⟩ u0).setCell ⟨b, 1, none⟩ u1).setCell ⟨b, 2, none⟩ u2).setCell ⟨b, 3, none⟩ u3).setCell ⟨b, 4, none⟩ u4) base ok v xs := Kd.V_far (v4 h hok) hok u4
theorem g4 (h : GRow 61 4 W g cg recs) (hg : g ≠ b) : GRow 61 4 ((((W.setCell ⟨b, 0, none⟩ u0).setCell ⟨b, 1, none⟩ u1).setCell ⟨b, 2, none⟩ u2).setCell ⟨b, 3, none⟩ u3) g cg recs := (((h.far (p := ⟨b, 0, none⟩) hg u0).far (p := ⟨b, 1, none⟩) hg u1).far (p := ⟨b, 2, none⟩) hg u2).far (p := ⟨b, 3, none⟩) hg u3
theorem g5 (h : GRow 61 4 W g cg recs) (hg : g ≠ b) : GRow 61 4 (((((W.setCell ⟨b, 0, none⟩ u0).setCell ⟨b, 1, none⟩ u1).setCell ⟨b, 2, none⟩ u2).setCell ⟨b, 3, none⟩ u3).setCell ⟨b, 4, none⟩ u4) g cg recs := (g4 h hg).far (p := ⟨b, 4, none⟩) hg u4
theorem b4 (h : Below lo w W) (hb : lo ≤ b) : Below lo w ((((W.setCell ⟨b, 0, none⟩ u0).setCell ⟨b, 1, none⟩ u1).setCell ⟨b, 2, none⟩ u2).setCell ⟨b, 3, none⟩ u3) := (((h.setCell (p := ⟨b, 0, none⟩) hb u0).setCell (p := ⟨b, 1, none⟩) hb u1).setCell (p := ⟨b, 2, none⟩) hb u2).setCell (p := ⟨b, 3, none⟩) hb u3
theorem b5 (h : Below lo w W) (hb : lo ≤ b) : Below lo w (((((W.setCell ⟨b, 0, none⟩ u0).setCell ⟨b, 1, none⟩ u1).setCell ⟨b, 2, none⟩ u2).setCell ⟨b, 3, none⟩ u3).setCell ⟨b, 4, none⟩ u4) := (b4 h hb).setCell (p := ⟨b, 4, none⟩) hb u4
end
/-- What a session does by itself. -/
def rsess (k : Nat) (l : List S49) (y : S61) (q0 q1 q2 q3 q4 : Int) : Option (S61 × Ans) :=
  if q0 = 9 then (deadwoodref08_Cut.f k l q1 q3 l.length).bind fun c => some (⟨true, true, c, 0⟩, 0, 0, 0, 0, [])
  else if q0 = 10 then (deadwoodref10_found.f y.f2 y.f3).bind fun a => if a.1 = 1 then some (⟨y.f0, y.f1, y.f2, wrap64 (y.f3 + 1)⟩, a) else some (⟨y.f0, y.f1, y.f2, y.f3⟩, a)
  else if q0 = 11 then (deadwoodref08_At.f k y.f2 q1).bind fun n => some (⟨y.f0, y.f1, y.f2, n.1⟩, 0, 0, 0, 0, [])
  else if q0 = 12 then some (⟨true, false, [], 0⟩, 0, 0, 0, 0, [])
  else if q0 = 13 then some (⟨true, false, [], 0⟩, 0, 0, 0, 0, [])
  else some (⟨false, false, [], 0⟩, 0, 0, 0, 0, [])
def rdo (k : Nat) (l : List S49) (ts : List S61) (t q0 q1 q2 q3 q4 : Int) : Option (List S49 × List S61 × Ans) :=
  (deadwoodref10_Bad.f k l ts t q0 q1 q2 q3 q4).bind fun b =>
    if b = true then some (l, ts, 8, 0, 0, 0, [])
    else if q0 < 9 then (deadwoodref10_plain.f k l q0 q1 q2 q3 q4).bind fun m => some (m.1, ts, m.2)
    else if 0 ≤ t ∧ t < (ts.length : Int) ∧ ts.length ≤ 1000000 then (rsess k l (rd_T61 ts t) q0 q1 q2 q3 q4).bind fun m => some (l, ts.set t.toNat m.1, m.2)
    else none
theorem at_F {w : World} {ok : Nat → Prop} {A : Option Addr} {n : Nat} {xs : List S61} (h : Kd.F k61 w ok A n xs) (i : Nat) (hi : i < n) : ∃ ad, A = some ad := by
  obtain ⟨ad, c, e, _⟩ := Kd.F_get h z61 i (by omega) (by omega)
  exact ⟨ad, e⟩
/-- What came back, behind the stores into the boxes of the results. -/
theorem endV {α : Type} {d : Kd α} {e n : Nat} {w W W' : World} {base base' : Nat} {ok1 : Nat → Prop} {v : Value} {xs : List α} (h : Kd.V d e W base (fun k => (ok1 k ∧ k < w.heap.size) ∨ n ≤ k) v xs) (hn : w.heap.size + 4 ≤ n) (ho : Out w.heap.size (w.heap.size + 4) W W') :
    Kd.V d e W' base' (fun k => ok1 k ∨ w.heap.size ≤ k) v xs :=
  Kd.V_mono (ho.V h (fun k hk => by rcases hk with h | h; exact .inl h.2; exact .inr (by omega))) (fun k hk2 => by rcases hk2 with h | h; exact .inl h.1; exact .inr (by omega))
end Go.Proofs.Ytkkneaefjahihaa.ModR
