/- A state of the map's, as the document's. -/
import Derived.Test.YtkkneaefjahihaaZModR2
set_option linter.unusedVariables false
set_option linter.unusedSimpArgs false
namespace Go.Proofs.Ytkkneaefjahihaa.ModR
open Go Go.RowKit Go.Proofs.YtkkneaefjahihaaW.PrintWords Go.Proofs.YtkkneaefjahihaaW.PrintLast Go.Proofs.YtkkneaefjahihaaW.PrintMore Go.Proofs.Ytkkneaefjahihaa.PModelTold Go.Proofs.Ytkkneaefjahihaa.GRow Go.Proofs.Ytkkneaefjahihaa.ModRec Go.Proofs.Ytkkneaefjahihaa.Num Go.Proofs.Ytkkneaefjahihaa.Bxs Go.Proofs.Ytkkneaefjahihaa.ModW
theorem cell_below {w W : World} {a : Addr} {v : Value} (hb : Below w.heap.size w W) (h : w.cell? a = some v) : W.cell? a = some v := (hb.cell (block_lt_of_cell h)).trans h
theorem map_take_snoc {α β : Type} (f : α → β) (l : List α) (j : Nat) (h : j < l.length) : (l.take (j + 1)).map f = (l.take j).map f ++ [f l[j]] := by rw [List.take_succ_eq_append_getElem h, List.map_append]; rfl
def toX (s : S62) : S61 := ⟨s.f0, s.f1, s.f2, s.f3⟩
theorem fk_toX {W : World} {ok : Nat → Prop} {s : S62} {A2 : Option Addr} {c2 : Nat} (hl : s.f2.length ≤ c2) (hf : Kd.F k49 W ok A2 s.f2.length s.f2) : Kd.FK k61 W ok (toX s) [.bool s.f0, .bool s.f1, .slice A2 s.f2.length c2, .int .i64 s.f3] := k61_mkF W ok (toX s) hl hf
end Go.Proofs.Ytkkneaefjahihaa.ModR
