/- The theorem of stage 11: the walk of the law. -/
import Derived.Test.YtacajonkkfmibaaHistPure
import Derived.Test.YtacajonkkfmibaaPHistOrdersx1
import Derived.Deep.RegionHeld3
import Derived.Deep.DeepCutAuto
import Derived.Deep.CutRange
set_option linter.unusedVariables false
set_option linter.unusedSimpArgs false
namespace Go.Proofs.Ytacajonkkfmibaa.HistLawO
open Go Go.RowKit Go.Proofs.YtacajonkkfmibaaW.PrintWords Go.Proofs.YtacajonkkfmibaaW.PrintLast Go.Proofs.YtacajonkkfmibaaW.PrintMore Go.Proofs.Ytacajonkkfmibaa.PHistOrders Go.Proofs.Ytacajonkkfmibaa.PHistOrders.HistW Go.Proofs.Ytacajonkkfmibaa.HistPure Go.Proofs.Ytacajonkkfmibaa.Num
theorem great_loop (l : List Ev) (d : Nat) : ∀ (i : Nat), i + d = 201 → ∃ b, deadwoodlaw11_great.l0 (2 * d + 2) l (i : Int) = some b ∧ (b = false → l.length ≤ 120) := by
  have fin : ∀ (m : Nat) (x : Int), deadwoodlaw11_great.j1 (m + 1) l x false = some (decide ((l.length : Int) > 120)) := fun m x => by rw [deadwoodlaw11_great.j1, if_neg (by decide)]
  induction d with
  | zero =>
    intro i hi
    refine ⟨decide ((l.length : Int) > 120), ?_, fun h => by have := of_decide_eq_false h; omega⟩
    show deadwoodlaw11_great.l0 2 l i = _
    rw [deadwoodlaw11_great.l0]
    split
    · rw [decide_eq_false (by omega), fin]
    · rw [fin]
  | succ d ih =>
    intro i hi
    show ∃ b, deadwoodlaw11_great.l0 (2 * d + 2 + 1 + 1) l i = some b ∧ _
    rw [deadwoodlaw11_great.l0]
    by_cases h : (i : Int) < (l.length : Int)
    · rw [if_pos h]
      by_cases h2 : (i : Int) < 200
      · rw [decide_eq_true h2, deadwoodlaw11_great.j1, if_pos rfl, if_pos (by omega), if_pos h]
        split
        · exact ⟨true, rfl, fun h => by cases h⟩
        · rw [wrap64_of (by omega) (by omega), show (i : Int) + 1 = ((i + 1 : Nat) : Int) by omega]
          exact ih (i + 1) (by omega)
      · rw [decide_eq_false h2, fin]
        exact ⟨_, rfl, fun h => by have := of_decide_eq_false h; omega⟩
    · rw [if_neg h, fin]
      exact ⟨_, rfl, fun h => by have := of_decide_eq_false h; omega⟩
theorem great_some (l : List Ev) : ∃ k b, deadwoodlaw11_great.f k l = some b ∧ (b = false → l.length ≤ 120) := by
  obtain ⟨b, h1, h2⟩ := great_loop l 201 0 rfl
  exact ⟨_, b, h1, h2⟩
def Tw (w0 w3 W : World) : Prop := Below w0.heap.size w0 W ∧ Below w3.heap.size w3 W
theorem Tw.below {w0 w3 W W' : World} (h : Tw w0 w3 W) (hb : Below W.heap.size W W') : Tw w0 w3 W' := ⟨below_then h.1 h.1.size hb, below_then h.2 h.2.size hb⟩
theorem ahead_b (x0 x1 x2 x3 x4 x5 x6 x7 x8 x9 x10 y0 y1 y2 y3 y4 y5 y6 y7 y8 y9 y10 : Value) (xf xt yf yt : Int) (w : World) (b : Bool) (hb : (decide (0 ≤ xt) && decide (xt < yf)) = b) :
    Calls Try.prog 17 #[.agg #[x0, x1, x2, x3, x4, x5, x6, x7, x8, x9, x10, .int .i64 xf, .int .i64 xt], .agg #[y0, y1, y2, y3, y4, y5, y6, y7, y8, y9, y10, .int .i64 yf, .int .i64 yt]] w fun e w' => e = .returned (.bool b) ∧ Below w.heap.size w w' := by
  subst hb
  exact ahead_calls _ _ _ _ _ _ _ _ _ _ _ _ _ _ _ _ _ _ _ _ _ _ _ _ _ _ _
theorem keepS13 {w0 w3 W W' : World} {a0 : Addr} {x0 : Value} {a1 : Addr} {x1 : Value} {a2 : Addr} {x2 : Value} {a3 : Addr} {x3 : Value} {a4 : Addr} {x4 : Value} {a5 : Addr} {x5 : Value} {a6 : Addr} {x6 : Value} {a7 : Addr} {x7 : Value} {a8 : Addr} {x8 : Value} {a9 : Addr} {x9 : Value} {a10 : Addr} {x10 : Value} {a11 : Addr} {x11 : Value} {a12 : Addr} {x12 : Value} (h : W.cell? a0 = some x0 ∧ W.cell? a1 = some x1 ∧ W.cell? a2 = some x2 ∧ W.cell? a3 = some x3 ∧ W.cell? a4 = some x4 ∧ W.cell? a5 = some x5 ∧ W.cell? a6 = some x6 ∧ W.cell? a7 = some x7 ∧ W.cell? a8 = some x8 ∧ W.cell? a9 = some x9 ∧ W.cell? a10 = some x10 ∧ W.cell? a11 = some x11 ∧ W.cell? a12 = some x12 ∧ Tw w0 w3 W) (hb : Below W.heap.size W W') : W'.cell? a0 = some x0 ∧ W'.cell? a1 = some x1 ∧ W'.cell? a2 = some x2 ∧ W'.cell? a3 = some x3 ∧ W'.cell? a4 = some x4 ∧ W'.cell? a5 = some x5 ∧ W'.cell? a6 = some x6 ∧ W'.cell? a7 = some x7 ∧ W'.cell? a8 = some x8 ∧ W'.cell? a9 = some x9 ∧ W'.cell? a10 = some x10 ∧ W'.cell? a11 = some x11 ∧ W'.cell? a12 = some x12 ∧ Tw w0 w3 W' := by
  obtain ⟨h0, h1, h2, h3, h4, h5, h6, h7, h8, h9, h10, h11, h12, h13⟩ := h
  exact ⟨pw_cell_below hb h0, pw_cell_below hb h1, pw_cell_below hb h2, pw_cell_below hb h3, pw_cell_below hb h4, pw_cell_below hb h5, pw_cell_below hb h6, pw_cell_below hb h7, pw_cell_below hb h8, pw_cell_below hb h9, pw_cell_below hb h10, pw_cell_below hb h11, pw_cell_below hb h12, h13.below hb⟩
theorem twS13 {w0 w3 W : World} {a0 : Addr} {x0 : Value} {a1 : Addr} {x1 : Value} {a2 : Addr} {x2 : Value} {a3 : Addr} {x3 : Value} {a4 : Addr} {x4 : Value} {a5 : Addr} {x5 : Value} {a6 : Addr} {x6 : Value} {a7 : Addr} {x7 : Value} {a8 : Addr} {x8 : Value} {a9 : Addr} {x9 : Value} {a10 : Addr} {x10 : Value} {a11 : Addr} {x11 : Value} {a12 : Addr} {x12 : Value} (h : W.cell? a0 = some x0 ∧ W.cell? a1 = some x1 ∧ W.cell? a2 = some x2 ∧ W.cell? a3 = some x3 ∧ W.cell? a4 = some x4 ∧ W.cell? a5 = some x5 ∧ W.cell? a6 = some x6 ∧ W.cell? a7 = some x7 ∧ W.cell? a8 = some x8 ∧ W.cell? a9 = some x9 ∧ W.cell? a10 = some x10 ∧ W.cell? a11 = some x11 ∧ W.cell? a12 = some x12 ∧ Tw w0 w3 W) : Tw w0 w3 W := by
  obtain ⟨h0, h1, h2, h3, h4, h5, h6, h7, h8, h9, h10, h11, h12, h13⟩ := h
  exact h13
theorem keepS26 {w0 w3 W W' : World} {a0 : Addr} {x0 : Value} {a1 : Addr} {x1 : Value} {a2 : Addr} {x2 : Value} {a3 : Addr} {x3 : Value} {a4 : Addr} {x4 : Value} {a5 : Addr} {x5 : Value} {a6 : Addr} {x6 : Value} {a7 : Addr} {x7 : Value} {a8 : Addr} {x8 : Value} {a9 : Addr} {x9 : Value} {a10 : Addr} {x10 : Value} {a11 : Addr} {x11 : Value} {a12 : Addr} {x12 : Value} {a13 : Addr} {x13 : Value} {a14 : Addr} {x14 : Value} {a15 : Addr} {x15 : Value} {a16 : Addr} {x16 : Value} {a17 : Addr} {x17 : Value} {a18 : Addr} {x18 : Value} {a19 : Addr} {x19 : Value} {a20 : Addr} {x20 : Value} {a21 : Addr} {x21 : Value} {a22 : Addr} {x22 : Value} {a23 : Addr} {x23 : Value} {a24 : Addr} {x24 : Value} {a25 : Addr} {x25 : Value} (h : W.cell? a0 = some x0 ∧ W.cell? a1 = some x1 ∧ W.cell? a2 = some x2 ∧ W.cell? a3 = some x3 ∧ W.cell? a4 = some x4 ∧ W.cell? a5 = some x5 ∧ W.cell? a6 = some x6 ∧ W.cell? a7 = some x7 ∧ W.cell? a8 = some x8 ∧ W.cell? a9 = some x9 ∧ W.cell? a10 = some x10 ∧ W.cell? a11 = some x11 ∧ W.cell? a12 = some x12 ∧ W.cell? a13 = some x13 ∧ W.cell? a14 = some x14 ∧ W.cell? a15 = some x15 ∧ W.cell? a16 = some x16 ∧ W.cell? a17 = some x17 ∧ W.cell? a18 = some x18 ∧ W.cell? a19 = some x19 ∧ W.cell? a20 = some x20 ∧ W.cell? a21 = some x21 ∧ W.cell? a22 = some x22 ∧ W.cell? a23 = some x23 ∧ W.cell? a24 = some x24 ∧ W.cell? a25 = some x25 ∧ Tw w0 w3 W) (hb : Below W.heap.size W W') : W'.cell? a0 = some x0 ∧ W'.cell? a1 = some x1 ∧ W'.cell? a2 = some x2 ∧ W'.cell? a3 = some x3 ∧ W'.cell? a4 = some x4 ∧ W'.cell? a5 = some x5 ∧ W'.cell? a6 = some x6 ∧ W'.cell? a7 = some x7 ∧ W'.cell? a8 = some x8 ∧ W'.cell? a9 = some x9 ∧ W'.cell? a10 = some x10 ∧ W'.cell? a11 = some x11 ∧ W'.cell? a12 = some x12 ∧ W'.cell? a13 = some x13 ∧ W'.cell? a14 = some x14 ∧ W'.cell? a15 = some x15 ∧ W'.cell? a16 = some x16 ∧ W'.cell? a17 = some x17 ∧ W'.cell? a18 = some x18 ∧ W'.cell? a19 = some x19 ∧ W'.cell? a20 = some x20 ∧ W'.cell? a21 = some x21 ∧ W'.cell? a22 = some x22 ∧ W'.cell? a23 = some x23 ∧ W'.cell? a24 = some x24 ∧ W'.cell? a25 = some x25 ∧ Tw w0 w3 W' := by
  obtain ⟨h0, h1, h2, h3, h4, h5, h6, h7, h8, h9, h10, h11, h12, h13, h14, h15, h16, h17, h18, h19, h20, h21, h22, h23, h24, h25, h26⟩ := h
  exact ⟨pw_cell_below hb h0, pw_cell_below hb h1, pw_cell_below hb h2, pw_cell_below hb h3, pw_cell_below hb h4, pw_cell_below hb h5, pw_cell_below hb h6, pw_cell_below hb h7, pw_cell_below hb h8, pw_cell_below hb h9, pw_cell_below hb h10, pw_cell_below hb h11, pw_cell_below hb h12, pw_cell_below hb h13, pw_cell_below hb h14, pw_cell_below hb h15, pw_cell_below hb h16, pw_cell_below hb h17, pw_cell_below hb h18, pw_cell_below hb h19, pw_cell_below hb h20, pw_cell_below hb h21, pw_cell_below hb h22, pw_cell_below hb h23, pw_cell_below hb h24, pw_cell_below hb h25, h26.below hb⟩
theorem twS26 {w0 w3 W : World} {a0 : Addr} {x0 : Value} {a1 : Addr} {x1 : Value} {a2 : Addr} {x2 : Value} {a3 : Addr} {x3 : Value} {a4 : Addr} {x4 : Value} {a5 : Addr} {x5 : Value} {a6 : Addr} {x6 : Value} {a7 : Addr} {x7 : Value} {a8 : Addr} {x8 : Value} {a9 : Addr} {x9 : Value} {a10 : Addr} {x10 : Value} {a11 : Addr} {x11 : Value} {a12 : Addr} {x12 : Value} {a13 : Addr} {x13 : Value} {a14 : Addr} {x14 : Value} {a15 : Addr} {x15 : Value} {a16 : Addr} {x16 : Value} {a17 : Addr} {x17 : Value} {a18 : Addr} {x18 : Value} {a19 : Addr} {x19 : Value} {a20 : Addr} {x20 : Value} {a21 : Addr} {x21 : Value} {a22 : Addr} {x22 : Value} {a23 : Addr} {x23 : Value} {a24 : Addr} {x24 : Value} {a25 : Addr} {x25 : Value} (h : W.cell? a0 = some x0 ∧ W.cell? a1 = some x1 ∧ W.cell? a2 = some x2 ∧ W.cell? a3 = some x3 ∧ W.cell? a4 = some x4 ∧ W.cell? a5 = some x5 ∧ W.cell? a6 = some x6 ∧ W.cell? a7 = some x7 ∧ W.cell? a8 = some x8 ∧ W.cell? a9 = some x9 ∧ W.cell? a10 = some x10 ∧ W.cell? a11 = some x11 ∧ W.cell? a12 = some x12 ∧ W.cell? a13 = some x13 ∧ W.cell? a14 = some x14 ∧ W.cell? a15 = some x15 ∧ W.cell? a16 = some x16 ∧ W.cell? a17 = some x17 ∧ W.cell? a18 = some x18 ∧ W.cell? a19 = some x19 ∧ W.cell? a20 = some x20 ∧ W.cell? a21 = some x21 ∧ W.cell? a22 = some x22 ∧ W.cell? a23 = some x23 ∧ W.cell? a24 = some x24 ∧ W.cell? a25 = some x25 ∧ Tw w0 w3 W) : Tw w0 w3 W := by
  obtain ⟨h0, h1, h2, h3, h4, h5, h6, h7, h8, h9, h10, h11, h12, h13, h14, h15, h16, h17, h18, h19, h20, h21, h22, h23, h24, h25, h26⟩ := h
  exact h26
theorem keepS39 {w0 w3 W W' : World} {a0 : Addr} {x0 : Value} {a1 : Addr} {x1 : Value} {a2 : Addr} {x2 : Value} {a3 : Addr} {x3 : Value} {a4 : Addr} {x4 : Value} {a5 : Addr} {x5 : Value} {a6 : Addr} {x6 : Value} {a7 : Addr} {x7 : Value} {a8 : Addr} {x8 : Value} {a9 : Addr} {x9 : Value} {a10 : Addr} {x10 : Value} {a11 : Addr} {x11 : Value} {a12 : Addr} {x12 : Value} {a13 : Addr} {x13 : Value} {a14 : Addr} {x14 : Value} {a15 : Addr} {x15 : Value} {a16 : Addr} {x16 : Value} {a17 : Addr} {x17 : Value} {a18 : Addr} {x18 : Value} {a19 : Addr} {x19 : Value} {a20 : Addr} {x20 : Value} {a21 : Addr} {x21 : Value} {a22 : Addr} {x22 : Value} {a23 : Addr} {x23 : Value} {a24 : Addr} {x24 : Value} {a25 : Addr} {x25 : Value} {a26 : Addr} {x26 : Value} {a27 : Addr} {x27 : Value} {a28 : Addr} {x28 : Value} {a29 : Addr} {x29 : Value} {a30 : Addr} {x30 : Value} {a31 : Addr} {x31 : Value} {a32 : Addr} {x32 : Value} {a33 : Addr} {x33 : Value} {a34 : Addr} {x34 : Value} {a35 : Addr} {x35 : Value} {a36 : Addr} {x36 : Value} {a37 : Addr} {x37 : Value} {a38 : Addr} {x38 : Value} (h : W.cell? a0 = some x0 ∧ W.cell? a1 = some x1 ∧ W.cell? a2 = some x2 ∧ W.cell? a3 = some x3 ∧ W.cell? a4 = some x4 ∧ W.cell? a5 = some x5 ∧ W.cell? a6 = some x6 ∧ W.cell? a7 = some x7 ∧ W.cell? a8 = some x8 ∧ W.cell? a9 = some x9 ∧ W.cell? a10 = some x10 ∧ W.cell? a11 = some x11 ∧ W.cell? a12 = some x12 ∧ W.cell? a13 = some x13 ∧ W.cell? a14 = some x14 ∧ W.cell? a15 = some x15 ∧ W.cell? a16 = some x16 ∧ W.cell? a17 = some x17 ∧ W.cell? a18 = some x18 ∧ W.cell? a19 = some x19 ∧ W.cell? a20 = some x20 ∧ W.cell? a21 = some x21 ∧ W.cell? a22 = some x22 ∧ W.cell? a23 = some x23 ∧ W.cell? a24 = some x24 ∧ W.cell? a25 = some x25 ∧ W.cell? a26 = some x26 ∧ W.cell? a27 = some x27 ∧ W.cell? a28 = some x28 ∧ W.cell? a29 = some x29 ∧ W.cell? a30 = some x30 ∧ W.cell? a31 = some x31 ∧ W.cell? a32 = some x32 ∧ W.cell? a33 = some x33 ∧ W.cell? a34 = some x34 ∧ W.cell? a35 = some x35 ∧ W.cell? a36 = some x36 ∧ W.cell? a37 = some x37 ∧ W.cell? a38 = some x38 ∧ Tw w0 w3 W) (hb : Below W.heap.size W W') : W'.cell? a0 = some x0 ∧ W'.cell? a1 = some x1 ∧ W'.cell? a2 = some x2 ∧ W'.cell? a3 = some x3 ∧ W'.cell? a4 = some x4 ∧ W'.cell? a5 = some x5 ∧ W'.cell? a6 = some x6 ∧ W'.cell? a7 = some x7 ∧ W'.cell? a8 = some x8 ∧ W'.cell? a9 = some x9 ∧ W'.cell? a10 = some x10 ∧ W'.cell? a11 = some x11 ∧ W'.cell? a12 = some x12 ∧ W'.cell? a13 = some x13 ∧ W'.cell? a14 = some x14 ∧ W'.cell? a15 = some x15 ∧ W'.cell? a16 = some x16 ∧ W'.cell? a17 = some x17 ∧ W'.cell? a18 = some x18 ∧ W'.cell? a19 = some x19 ∧ W'.cell? a20 = some x20 ∧ W'.cell? a21 = some x21 ∧ W'.cell? a22 = some x22 ∧ W'.cell? a23 = some x23 ∧ W'.cell? a24 = some x24 ∧ W'.cell? a25 = some x25 ∧ W'.cell? a26 = some x26 ∧ W'.cell? a27 = some x27 ∧ W'.cell? a28 = some x28 ∧ W'.cell? a29 = some x29 ∧ W'.cell? a30 = some x30 ∧ W'.cell? a31 = some x31 ∧ W'.cell? a32 = some x32 ∧ W'.cell? a33 = some x33 ∧ W'.cell? a34 = some x34 ∧ W'.cell? a35 = some x35 ∧ W'.cell? a36 = some x36 ∧ W'.cell? a37 = some x37 ∧ W'.cell? a38 = some x38 ∧ Tw w0 w3 W' := by
  obtain ⟨h0, h1, h2, h3, h4, h5, h6, h7, h8, h9, h10, h11, h12, h13, h14, h15, h16, h17, h18, h19, h20, h21, h22, h23, h24, h25, h26, h27, h28, h29, h30, h31, h32, h33, h34, h35, h36, h37, h38, h39⟩ := h
  exact ⟨pw_cell_below hb h0, pw_cell_below hb h1, pw_cell_below hb h2, pw_cell_below hb h3, pw_cell_below hb h4, pw_cell_below hb h5, pw_cell_below hb h6, pw_cell_below hb h7, pw_cell_below hb h8, pw_cell_below hb h9, pw_cell_below hb h10, pw_cell_below hb h11, pw_cell_below hb h12, pw_cell_below hb h13, pw_cell_below hb h14, pw_cell_below hb h15, pw_cell_below hb h16, pw_cell_below hb h17, pw_cell_below hb h18, pw_cell_below hb h19, pw_cell_below hb h20, pw_cell_below hb h21, pw_cell_below hb h22, pw_cell_below hb h23, pw_cell_below hb h24, pw_cell_below hb h25, pw_cell_below hb h26, pw_cell_below hb h27, pw_cell_below hb h28, pw_cell_below hb h29, pw_cell_below hb h30, pw_cell_below hb h31, pw_cell_below hb h32, pw_cell_below hb h33, pw_cell_below hb h34, pw_cell_below hb h35, pw_cell_below hb h36, pw_cell_below hb h37, pw_cell_below hb h38, h39.below hb⟩
theorem twS39 {w0 w3 W : World} {a0 : Addr} {x0 : Value} {a1 : Addr} {x1 : Value} {a2 : Addr} {x2 : Value} {a3 : Addr} {x3 : Value} {a4 : Addr} {x4 : Value} {a5 : Addr} {x5 : Value} {a6 : Addr} {x6 : Value} {a7 : Addr} {x7 : Value} {a8 : Addr} {x8 : Value} {a9 : Addr} {x9 : Value} {a10 : Addr} {x10 : Value} {a11 : Addr} {x11 : Value} {a12 : Addr} {x12 : Value} {a13 : Addr} {x13 : Value} {a14 : Addr} {x14 : Value} {a15 : Addr} {x15 : Value} {a16 : Addr} {x16 : Value} {a17 : Addr} {x17 : Value} {a18 : Addr} {x18 : Value} {a19 : Addr} {x19 : Value} {a20 : Addr} {x20 : Value} {a21 : Addr} {x21 : Value} {a22 : Addr} {x22 : Value} {a23 : Addr} {x23 : Value} {a24 : Addr} {x24 : Value} {a25 : Addr} {x25 : Value} {a26 : Addr} {x26 : Value} {a27 : Addr} {x27 : Value} {a28 : Addr} {x28 : Value} {a29 : Addr} {x29 : Value} {a30 : Addr} {x30 : Value} {a31 : Addr} {x31 : Value} {a32 : Addr} {x32 : Value} {a33 : Addr} {x33 : Value} {a34 : Addr} {x34 : Value} {a35 : Addr} {x35 : Value} {a36 : Addr} {x36 : Value} {a37 : Addr} {x37 : Value} {a38 : Addr} {x38 : Value} (h : W.cell? a0 = some x0 ∧ W.cell? a1 = some x1 ∧ W.cell? a2 = some x2 ∧ W.cell? a3 = some x3 ∧ W.cell? a4 = some x4 ∧ W.cell? a5 = some x5 ∧ W.cell? a6 = some x6 ∧ W.cell? a7 = some x7 ∧ W.cell? a8 = some x8 ∧ W.cell? a9 = some x9 ∧ W.cell? a10 = some x10 ∧ W.cell? a11 = some x11 ∧ W.cell? a12 = some x12 ∧ W.cell? a13 = some x13 ∧ W.cell? a14 = some x14 ∧ W.cell? a15 = some x15 ∧ W.cell? a16 = some x16 ∧ W.cell? a17 = some x17 ∧ W.cell? a18 = some x18 ∧ W.cell? a19 = some x19 ∧ W.cell? a20 = some x20 ∧ W.cell? a21 = some x21 ∧ W.cell? a22 = some x22 ∧ W.cell? a23 = some x23 ∧ W.cell? a24 = some x24 ∧ W.cell? a25 = some x25 ∧ W.cell? a26 = some x26 ∧ W.cell? a27 = some x27 ∧ W.cell? a28 = some x28 ∧ W.cell? a29 = some x29 ∧ W.cell? a30 = some x30 ∧ W.cell? a31 = some x31 ∧ W.cell? a32 = some x32 ∧ W.cell? a33 = some x33 ∧ W.cell? a34 = some x34 ∧ W.cell? a35 = some x35 ∧ W.cell? a36 = some x36 ∧ W.cell? a37 = some x37 ∧ W.cell? a38 = some x38 ∧ Tw w0 w3 W) : Tw w0 w3 W := by
  obtain ⟨h0, h1, h2, h3, h4, h5, h6, h7, h8, h9, h10, h11, h12, h13, h14, h15, h16, h17, h18, h19, h20, h21, h22, h23, h24, h25, h26, h27, h28, h29, h30, h31, h32, h33, h34, h35, h36, h37, h38, h39⟩ := h
  exact h39
def law_T25 : Bool × List (List Nat × List Nat) := (true, [([], []), ([], []), ([0, 1], [0, 1]), ([2], [2]), ([], []), ([], []), ([4, 5], [4, 5]), ([6], [6]), ([3, 7], [3, 7]), ([8, 8], [8]), ([9], [9]), ([9], [9]), ([10, 11, 9], [9, 10, 11]), ([12, 9], [9, 12]), ([9], [9]), ([9], [9]), ([14, 15, 9], [9, 14, 15]), ([16, 9], [9, 16]), ([13, 17, 9, 9], [9, 13, 17]), ([9, 18], [9, 18]), ([19, 18], [19]), ([20], [20]), ([20], [20]), ([21, 22, 20], [20, 21, 22]), ([23, 20], [20, 23]), ([20], [20]), ([20], [20]), ([25, 26, 20], [20, 25, 26]), ([27, 20], [20, 27]), ([24, 28, 20, 20], [20, 24, 28]), ([29, 20], [20, 29]), ([20, 30], [20, 30])])
def law_B25 : List Nat := [0, 0, 3, 7, 0, 0, 48, 112, 255, 511, 1023, 1023, 4095, 8191, 1023, 1023, 50175, 115711, 262143, 524287, 1048575, 2097151, 2097151, 8388607, 16777215, 2097151, 2097151, 102760447, 236978175, 536870911, 1073741823, 2147483647]
theorem law_tab25 : rtab .any (opsOf Try.f3 25) = law_T25 := by kernel_rfl
theorem law_bits25 : waitsOk law_T25.2 law_B25 = true := by kernel_rfl
set_option maxHeartbeats 4000000 in
set_option maxRecDepth 100000 in
theorem walk_lives (l : List Ev) (A : Option Addr) (c : Nat) (w : World) (hr : Kd.C k33 w A l.length l) (hc : l.length ≤ c) (b : Bool) (hb : b = true ∨ (l.length ≤ 120 ∧ mayF l = false)) (k : Nat) (hg : deadwoodlaw11_great.f k l = some b) :
    Calls Try.prog 3 #[.slice A l.length c] w fun e w' => e = .returned (.bool true) ∧ Below w.heap.size w w' := by
  have G := Aside0.mk (deadwoodlaw11_great.calls k A c l b w hr hc hg)
  cases b with
  | true =>
    clear hb hg
    go_enter Try.func3, Try.ntmps3
    go_wp2_with fail
    refine G.out.mono ?_
    rintro e w2 ⟨rfl, ⟨nd, rfl⟩⟩
    go_wp2_with fail
    refine (lives_calls _).mono ?_
    rintro e w3 ⟨rfl, hb⟩
    have HB := Aside0.mk (below_then (pw_below_drewN (Below.refl w.heap.size w) nd) (Nat.le_refl _) hb)
    clear hb
    go_wp2
    all_goals go_ret
    all_goals exact ⟨rfl, HB.out⟩
  | false =>
    have hm : l.length ≤ 120 ∧ mayF l = false := by rcases hb with h | h; cases h; exact h
    have M := Aside0.mk (fun (W : World) (hb : Below w.heap.size w W) => may_calls l A c W (Kd.C_below hr hb) hc (by omega) false hm.2)
    clear hb hg hm
    go_enter Try.func3, Try.ntmps3
    go_wp2_with fail
    refine G.out.mono ?_
    rintro e w2 ⟨rfl, ⟨nd, rfl⟩⟩
    go_wp2_with fail
    refine (M.out _ (pw_below_drewN (Below.refl w.heap.size w) nd)).mono ?_
    rintro e w3 ⟨rfl, hb⟩
    have B3 := Aside0.mk (below_then (pw_below_drewN (Below.refl w.heap.size w) nd) (Nat.le_refl _) hb)
    clear hb
    go_wp2_with fail
    refine (lives_calls _).mono ?_
    rintro e w4 ⟨rfl, hb⟩
    have HB := Aside0.mk (below_then B3.out B3.out.size hb)
    clear hb
    go_wp2
    all_goals go_ret
    all_goals exact ⟨rfl, HB.out⟩
set_option maxHeartbeats 4000000 in
set_option maxRecDepth 100000 in
theorem walk_in (l : List Ev) (A : Option Addr) (c : Nat) (w : World) (hr : Kd.C k33 w A l.length l) (hc : l.length ≤ c) (hl : l.length ≤ 120) (hm : mayF l = true) (k : Nat) (hg : deadwoodlaw11_great.f k l = some false) :
    Calls Try.prog 3 #[.slice A l.length c] w fun e w' => e = .returned (.bool true) ∧ Below w.heap.size w w' := by
  have hu5 := Try.underlying35
  have G := Aside0.mk (deadwoodlaw11_great.calls k A c l false w hr hc hg)
  have M := Aside0.mk (fun (W : World) (hb : Below w.heap.size w W) => may_calls l A c W (Kd.C_below hr hb) hc (by omega) true hm)
  have O := Aside0.mk (fun (W : World) (hb : Below w.heap.size w W) => opers_calls l A c W (fun k => k < W.heap.size) (Kd.C_F k33_heap (Kd.C_below hr hb)) hc (by omega))
  have HR := Aside0.mk hr
  obtain ⟨fl, fa, fb⟩ := facts hm
  generalize opersF l = xs at O fl fa fb
  have FA := Aside0.mk fa
  have FB := Aside0.mk fb
  have FL := Aside0.mk fl
  have XL : xs.length ≤ 120 := by rw [fl]; unfold begins; have := List.length_filter_le (fun e : Ev => !e.f1) l; omega
  clear hr hc hm hg fl fa fb
  go_enter Try.func3, Try.ntmps3
  go_wp2_with fail
  refine G.out.mono ?_
  rintro e w1 ⟨rfl, ⟨nd, rfl⟩⟩
  go_wp2_with fail
  refine (M.out _ (pw_below_drewN (Below.refl w.heap.size w) nd)).mono ?_
  rintro e w2 ⟨rfl, hb⟩
  have B2 := Aside0.mk (below_then (pw_below_drewN (Below.refl w.heap.size w) nd) (Nat.le_refl _) hb)
  clear hb
  go_wp2_with fail
  refine (O.out _ B2.out).mono ?_
  rintro e w3 ⟨v0, rfl, hV, hb⟩
  obtain ⟨A3, c3, rfl⟩ := Kd.V_slice hV
  have C3 := Aside0.mk (Kd.V_reads' hV).2.2
  have B3 := Aside0.mk (below_then B2.out B2.out.size hb)
  clear hV hb G M O B2
  go_wp2
  go_loopg [4, 5] l.length (fun kx s4 s5 wr => w3 = wr ∧ ∃ (i n : Nat), s4 = .int .i64 n ∧ s5 = .int .i64 i ∧ i + kx = l.length ∧ n ≤ i ∧ Aside0 (n + begins (l.drop i) = begins l))
  case atStart => exact ⟨rfl, 0, 0, rfl, rfl, by omega, by omega, ⟨by rw [List.drop_zero, Nat.zero_add]⟩⟩
  case round =>
    obtain ⟨rfl, i, n, rfl, rfl, hi, hn, BG⟩ := hrel
    by_cases hlt : i < l.length
    · obtain ⟨ad, A11, c11, hA, ⟨h0, h1, h2, h3, h4, h5, h6, h7, h8, h9, h10, h11⟩, _, _⟩ := ev_at (Kd.C_below HR.out B3.out) i hlt
      subst hA
      have BG2 := BG.out
      rw [List.drop_eq_getElem_cons hlt] at BG2
      unfold begins at BG2
      rw [List.filter_cons] at BG2
      have q1 : (i : Int) < (l.length : Int) := by omega
      generalize l[i] = e at h1 BG2
      clear BG h0 h2 h3 h4 h5 h6 h7 h8 h9 h10 h11
      cases hf : e.f1 with
      | true =>
        rw [hf] at h1 BG2
        have BG3 := Aside0.mk (show n + begins (l.drop (i + 1)) = begins l from BG2)
        clear BG2 hf
        go_wp2
        go_roundg (l.length - (i + 1))
        case measure => omega
        case rel => exact ⟨rfl, i + 1, n, rfl, by go_num, by omega, by omega, BG3⟩
      | false =>
        rw [hf] at h1 BG2
        have BG3 := Aside0.mk (show n + 1 + begins (l.drop (i + 1)) = begins l from by have : n + ((l.drop (i + 1)).filter (fun e => !e.f1)).length.succ = begins l := BG2; unfold begins at this ⊢; omega)
        clear BG2 hf
        go_wp2
        go_roundg (l.length - (i + 1))
        case measure => omega
        case rel => exact ⟨rfl, i + 1, n + 1, by go_num, by go_num, by omega, by omega, BG3⟩
    · obtain rfl : i = l.length := by omega
      have hnx : n = xs.length := by have := BG.out; rw [List.drop_length] at this; rw [FL.out]; exact this
      subst hnx
      clear BG hlt hi
      have TW := Aside0.mk (show Tw w w3 w3 from ⟨B3.out, Below.refl _ _⟩)
      go_wp2
      go_loopg [6] xs.length (fun kx s6 wr => ∃ i : Nat, s6 = .int .i64 i ∧ i + kx = xs.length ∧ Aside0 (Tw w w3 wr))
      case atStart => exact ⟨0, rfl, by omega, TW⟩
      case round => as_aux_lemma =>
        clear TW
        obtain ⟨i, rfl, hi, TW⟩ := hrel
        by_cases hlt : i < xs.length
        · obtain ⟨ad, Ap, cp, hA, ⟨p0, p1, p2, p3, p4, p5, p6, p7, p8, p9, p10, p11, p12⟩, _, _⟩ := op_at (Kd.C_below C3.out TW.out.2) i (by omega)
          subst hA
          have hxi := FA.out i xs[i] (List.getElem?_eq_getElem hlt)
          obtain ⟨x, hx⟩ : ∃ x, xs[i] = x := ⟨_, rfl⟩
          rw [hx] at p0 p1 p2 p3 p4 p5 p6 p7 p8 p9 p10 p11 p12 hxi
          have HX := Aside0.mk hx
          clear hx
          obtain ⟨n0, n1, n2⟩ := hxi
          have e1 : decide (x.f3 < 0) = false := decide_eq_false (by omega)
          have e2 : decide ((l.length : Int) ≤ x.f3) = false := decide_eq_false (by omega)
          have HA := Aside0.mk (show (decide (0 ≤ x.f4) && decide (x.f4 < x.f3)) = false by rw [Bool.and_eq_false_iff, decide_eq_false_iff_not, decide_eq_false_iff_not]; omega)
          have qi : (i : Int) < (xs.length : Int) := by omega
          clear n0 n1 n2
          go_wp2_with fail
          go_region_held3 (fun W' => W'.cell? (ad.add (i * 13)) = some (.int .i64 x.f0) ∧ W'.cell? ⟨(ad.add (i * 13)).block, (ad.add (i * 13)).off + 1, none⟩ = some (.int .i64 x.f1.f0) ∧ W'.cell? ⟨(ad.add (i * 13)).block, (ad.add (i * 13)).off + 2, none⟩ = some (.int .i64 x.f1.f1) ∧ W'.cell? ⟨(ad.add (i * 13)).block, (ad.add (i * 13)).off + 3, none⟩ = some (.int .i64 x.f1.f2) ∧ W'.cell? ⟨(ad.add (i * 13)).block, (ad.add (i * 13)).off + 4, none⟩ = some (.int .i64 x.f1.f3) ∧ W'.cell? ⟨(ad.add (i * 13)).block, (ad.add (i * 13)).off + 5, none⟩ = some (.int .i64 x.f1.f4) ∧ W'.cell? ⟨(ad.add (i * 13)).block, (ad.add (i * 13)).off + 6, none⟩ = some (.int .i64 x.f2.f0) ∧ W'.cell? ⟨(ad.add (i * 13)).block, (ad.add (i * 13)).off + 7, none⟩ = some (.int .i64 x.f2.f1) ∧ W'.cell? ⟨(ad.add (i * 13)).block, (ad.add (i * 13)).off + 8, none⟩ = some (.int .i64 x.f2.f2) ∧ W'.cell? ⟨(ad.add (i * 13)).block, (ad.add (i * 13)).off + 9, none⟩ = some (.int .i64 x.f2.f3) ∧ W'.cell? ⟨(ad.add (i * 13)).block, (ad.add (i * 13)).off + 10, none⟩ = some (.slice Ap x.f2.f4.length cp) ∧ W'.cell? ⟨(ad.add (i * 13)).block, (ad.add (i * 13)).off + 11, none⟩ = some (.int .i64 x.f3) ∧ W'.cell? ⟨(ad.add (i * 13)).block, (ad.add (i * 13)).off + 12, none⟩ = some (.int .i64 x.f4) ∧ Tw w w3 W')
            (first
              | exact ⟨p0, p1, p2, p3, p4, p5, p6, p7, p8, p9, p10, p11, p12, TW.out⟩
              | exact ⟨p0, p1, p2, p3, p4, p5, p6, p7, p8, p9, p10, p11, p12, TW.out.below (below_drew1 (Below.refl _ _))⟩
              | assumption
              | exact keepS13 (by assumption) (by assumption))
            (first
              | (go_at_call 17; refine (ahead_b _ _ _ _ _ _ _ _ _ _ _ _ _ _ _ _ _ _ _ _ _ _ _ _ _ _ _ false HA.out).mono ?_; rintro e w' ⟨rfl, hb⟩)
              | fail)
          have TW1 : Aside0 (Tw w w3 _) := ⟨twS13 (by assumption)⟩
          go_wp2
          go_loopg [7] i (fun kx s7 wr => ∃ k : Nat, s7 = .int .i64 k ∧ k + kx = i ∧ Aside0 (Tw w w3 wr))
          case atStart => exact ⟨0, rfl, by omega, TW1⟩
          case round => as_aux_lemma =>
            clear TW1 TW HX HA e1 e2
            obtain ⟨k, rfl, hk, TW⟩ := hrel
            by_cases hki : k < i
            · have hki2 : k < xs.length := by omega
              obtain ⟨adq, Aq, cq, hAq, ⟨q0, q1, q2, q3, q4, q5, q6, q7, q8, q9, q10, q11, q12⟩, _, _⟩ := op_at (Kd.C_below C3.out TW.out.2) k (by omega)
              obtain rfl : ad = adq := Option.some.inj hAq
              clear hAq
              obtain ⟨adp, Ap, cp, hAp, ⟨p0, p1, p2, p3, p4, p5, p6, p7, p8, p9, p10, p11, p12⟩, _, _⟩ := op_at (Kd.C_below C3.out TW.out.2) i (by omega)
              obtain rfl : ad = adp := Option.some.inj hAp
              clear hAp
              have hb := FB.out k i xs[k] xs[i] hki (List.getElem?_eq_getElem (by omega)) (List.getElem?_eq_getElem hlt)
              have qk : (k : Int) < (i : Int) := by omega
              have qkx : (k : Int) < (xs.length : Int) := by omega
              have qix : (i : Int) < (xs.length : Int) := by omega
              generalize xs[k] = y at q0 q1 q2 q3 q4 q5 q6 q7 q8 q9 q10 q11 q12 hb
              generalize xs[i] = x at p0 p1 p2 p3 p4 p5 p6 p7 p8 p9 p10 p11 p12 hb
              obtain ⟨hb1, hb2⟩ := hb
              have d3 : decide (x.f3 ≤ y.f3) = false := decide_eq_false (by omega)
              go_upto_region 20 with (fail)
              go_cut [110] (fun v110 wc => v110 = .bool false ∧ Aside0 (Tw w w3 wc))
              case first => as_aux_lemma =>
                by_cases hth : y.f0 = x.f0
                · have dth : (y.f0 == x.f0) = true := beq_iff_eq.2 hth
                  have HB := Aside0.mk (show (decide (0 ≤ y.f4) && decide (y.f4 < x.f3)) = true by rw [Bool.and_eq_true, decide_eq_true_eq, decide_eq_true_eq]; exact hb2 hth)
                  clear hth hb1 hb2
                  go_region_held3 (fun W' => W'.cell? (ad.add (k * 13)) = some (.int .i64 y.f0) ∧ W'.cell? ⟨(ad.add (k * 13)).block, (ad.add (k * 13)).off + 1, none⟩ = some (.int .i64 y.f1.f0) ∧ W'.cell? ⟨(ad.add (k * 13)).block, (ad.add (k * 13)).off + 2, none⟩ = some (.int .i64 y.f1.f1) ∧ W'.cell? ⟨(ad.add (k * 13)).block, (ad.add (k * 13)).off + 3, none⟩ = some (.int .i64 y.f1.f2) ∧ W'.cell? ⟨(ad.add (k * 13)).block, (ad.add (k * 13)).off + 4, none⟩ = some (.int .i64 y.f1.f3) ∧ W'.cell? ⟨(ad.add (k * 13)).block, (ad.add (k * 13)).off + 5, none⟩ = some (.int .i64 y.f1.f4) ∧ W'.cell? ⟨(ad.add (k * 13)).block, (ad.add (k * 13)).off + 6, none⟩ = some (.int .i64 y.f2.f0) ∧ W'.cell? ⟨(ad.add (k * 13)).block, (ad.add (k * 13)).off + 7, none⟩ = some (.int .i64 y.f2.f1) ∧ W'.cell? ⟨(ad.add (k * 13)).block, (ad.add (k * 13)).off + 8, none⟩ = some (.int .i64 y.f2.f2) ∧ W'.cell? ⟨(ad.add (k * 13)).block, (ad.add (k * 13)).off + 9, none⟩ = some (.int .i64 y.f2.f3) ∧ W'.cell? ⟨(ad.add (k * 13)).block, (ad.add (k * 13)).off + 10, none⟩ = some (.slice Aq y.f2.f4.length cq) ∧ W'.cell? ⟨(ad.add (k * 13)).block, (ad.add (k * 13)).off + 11, none⟩ = some (.int .i64 y.f3) ∧ W'.cell? ⟨(ad.add (k * 13)).block, (ad.add (k * 13)).off + 12, none⟩ = some (.int .i64 y.f4) ∧ W'.cell? (ad.add (i * 13)) = some (.int .i64 x.f0) ∧ W'.cell? ⟨(ad.add (i * 13)).block, (ad.add (i * 13)).off + 1, none⟩ = some (.int .i64 x.f1.f0) ∧ W'.cell? ⟨(ad.add (i * 13)).block, (ad.add (i * 13)).off + 2, none⟩ = some (.int .i64 x.f1.f1) ∧ W'.cell? ⟨(ad.add (i * 13)).block, (ad.add (i * 13)).off + 3, none⟩ = some (.int .i64 x.f1.f2) ∧ W'.cell? ⟨(ad.add (i * 13)).block, (ad.add (i * 13)).off + 4, none⟩ = some (.int .i64 x.f1.f3) ∧ W'.cell? ⟨(ad.add (i * 13)).block, (ad.add (i * 13)).off + 5, none⟩ = some (.int .i64 x.f1.f4) ∧ W'.cell? ⟨(ad.add (i * 13)).block, (ad.add (i * 13)).off + 6, none⟩ = some (.int .i64 x.f2.f0) ∧ W'.cell? ⟨(ad.add (i * 13)).block, (ad.add (i * 13)).off + 7, none⟩ = some (.int .i64 x.f2.f1) ∧ W'.cell? ⟨(ad.add (i * 13)).block, (ad.add (i * 13)).off + 8, none⟩ = some (.int .i64 x.f2.f2) ∧ W'.cell? ⟨(ad.add (i * 13)).block, (ad.add (i * 13)).off + 9, none⟩ = some (.int .i64 x.f2.f3) ∧ W'.cell? ⟨(ad.add (i * 13)).block, (ad.add (i * 13)).off + 10, none⟩ = some (.slice Ap x.f2.f4.length cp) ∧ W'.cell? ⟨(ad.add (i * 13)).block, (ad.add (i * 13)).off + 11, none⟩ = some (.int .i64 x.f3) ∧ W'.cell? ⟨(ad.add (i * 13)).block, (ad.add (i * 13)).off + 12, none⟩ = some (.int .i64 x.f4) ∧ Tw w w3 W')
                    (first
                      | exact ⟨q0, q1, q2, q3, q4, q5, q6, q7, q8, q9, q10, q11, q12, p0, p1, p2, p3, p4, p5, p6, p7, p8, p9, p10, p11, p12, TW.out⟩
                      | exact ⟨q0, q1, q2, q3, q4, q5, q6, q7, q8, q9, q10, q11, q12, p0, p1, p2, p3, p4, p5, p6, p7, p8, p9, p10, p11, p12, TW.out.below (below_drew1 (Below.refl _ _))⟩
                      | assumption
                      | exact keepS26 (by assumption) (by assumption))
                    (first
                      | (go_at_call 17; refine (ahead_b _ _ _ _ _ _ _ _ _ _ _ _ _ _ _ _ _ _ _ _ _ _ _ _ _ _ _ true HB.out).mono ?_; rintro e w' ⟨rfl, hb⟩)
                      | fail)
                  have TW2 : Aside0 (Tw w w3 _) := ⟨twS26 (by assumption)⟩
                  go_wp2
                  go_meet
                  case rel => exact ⟨rfl, TW2⟩
                · have dth : (y.f0 == x.f0) = false := by rw [beq_eq_false_iff_ne]; exact hth
                  clear hth hb1 hb2
                  go_quiet (fail)
                  go_wp2
                  go_meet
                  case rel => exact ⟨rfl, ⟨TW.out.below (pw_below_drewN (Below.refl _ _) _)⟩⟩
              case rest => as_aux_lemma =>
                obtain ⟨rfl, TW2⟩ := hcut
                clear hb1 hb2 d3 TW p0 p1 p2 p3 p4 p5 p6 p7 p8 p9 p10 p11 p12 q0 q1 q2 q3 q4 q5 q6 q7 q8 q9 q10 q11 q12
                go_wp2
                go_loopg [8] k (fun kx s8 wr => ∃ j : Nat, s8 = .int .i64 j ∧ j + kx = k ∧ Aside0 (Tw w w3 wr))
                case atStart => exact ⟨0, rfl, by omega, TW2⟩
                case round => as_aux_lemma =>
                  try clear TW2
                  obtain ⟨j, rfl, hj, TW⟩ := hrel
                  by_cases hjk : j < k
                  · by_cases h30 : i < 30
                    · have qj : (j : Int) < (k : Int) := by omega
                      have q30 : (i : Int) < 30 := by omega
                      obtain ⟨adz, Az, cz, hAz, ⟨z0, z1, z2, z3, z4, z5, z6, z7, z8, z9, z10, z11, z12⟩, _, _⟩ := op_at (Kd.C_below C3.out TW.out.2) j (by omega)
                      obtain rfl : ad = adz := Option.some.inj hAz
                      clear hAz
                      obtain ⟨adq, Aq, cq, hAq, ⟨q0, q1, q2, q3, q4, q5, q6, q7, q8, q9, q10, q11, q12⟩, _, _⟩ := op_at (Kd.C_below C3.out TW.out.2) k (by omega)
                      obtain rfl : ad = adq := Option.some.inj hAq
                      clear hAq
                      obtain ⟨adp, Ap, cp, hAp, ⟨p0, p1, p2, p3, p4, p5, p6, p7, p8, p9, p10, p11, p12⟩, _, _⟩ := op_at (Kd.C_below C3.out TW.out.2) i (by omega)
                      obtain rfl : ad = adp := Option.some.inj hAp
                      clear hAp
                      have hb1 := (FB.out k i xs[k] xs[i] hki (List.getElem?_eq_getElem (by omega)) (List.getElem?_eq_getElem hlt)).1
                      have qjx : (j : Int) < (xs.length : Int) := by omega
                      have qkx : (k : Int) < (xs.length : Int) := by omega
                      have qix : (i : Int) < (xs.length : Int) := by omega
                      generalize xs[j] = u at z0 z1 z2 z3 z4 z5 z6 z7 z8 z9 z10 z11 z12
                      generalize xs[k] = y at q0 q1 q2 q3 q4 q5 q6 q7 q8 q9 q10 q11 q12 hb1
                      generalize xs[i] = x at p0 p1 p2 p3 p4 p5 p6 p7 p8 p9 p10 p11 p12 hb1
                      cases a1 : (decide (0 ≤ u.f4) && decide (u.f4 < y.f3)) with
                      | false => as_aux_lemma =>
                        clear hb1
                        have A1 := Aside0.mk a1
                        clear a1
                        go_wp2_with fail
                        have TWD := Aside0.mk (TW.out.below (below_drew1 (Below.refl _ _)))
                        refine start_ (n := 32) (S := fun W' => W'.cell? (ad.add (j * 13)) = some (.int .i64 u.f0) ∧ W'.cell? ⟨(ad.add (j * 13)).block, (ad.add (j * 13)).off + 1, none⟩ = some (.int .i64 u.f1.f0) ∧ W'.cell? ⟨(ad.add (j * 13)).block, (ad.add (j * 13)).off + 2, none⟩ = some (.int .i64 u.f1.f1) ∧ W'.cell? ⟨(ad.add (j * 13)).block, (ad.add (j * 13)).off + 3, none⟩ = some (.int .i64 u.f1.f2) ∧ W'.cell? ⟨(ad.add (j * 13)).block, (ad.add (j * 13)).off + 4, none⟩ = some (.int .i64 u.f1.f3) ∧ W'.cell? ⟨(ad.add (j * 13)).block, (ad.add (j * 13)).off + 5, none⟩ = some (.int .i64 u.f1.f4) ∧ W'.cell? ⟨(ad.add (j * 13)).block, (ad.add (j * 13)).off + 6, none⟩ = some (.int .i64 u.f2.f0) ∧ W'.cell? ⟨(ad.add (j * 13)).block, (ad.add (j * 13)).off + 7, none⟩ = some (.int .i64 u.f2.f1) ∧ W'.cell? ⟨(ad.add (j * 13)).block, (ad.add (j * 13)).off + 8, none⟩ = some (.int .i64 u.f2.f2) ∧ W'.cell? ⟨(ad.add (j * 13)).block, (ad.add (j * 13)).off + 9, none⟩ = some (.int .i64 u.f2.f3) ∧ W'.cell? ⟨(ad.add (j * 13)).block, (ad.add (j * 13)).off + 10, none⟩ = some (.slice Az u.f2.f4.length cz) ∧ W'.cell? ⟨(ad.add (j * 13)).block, (ad.add (j * 13)).off + 11, none⟩ = some (.int .i64 u.f3) ∧ W'.cell? ⟨(ad.add (j * 13)).block, (ad.add (j * 13)).off + 12, none⟩ = some (.int .i64 u.f4) ∧ W'.cell? (ad.add (k * 13)) = some (.int .i64 y.f0) ∧ W'.cell? ⟨(ad.add (k * 13)).block, (ad.add (k * 13)).off + 1, none⟩ = some (.int .i64 y.f1.f0) ∧ W'.cell? ⟨(ad.add (k * 13)).block, (ad.add (k * 13)).off + 2, none⟩ = some (.int .i64 y.f1.f1) ∧ W'.cell? ⟨(ad.add (k * 13)).block, (ad.add (k * 13)).off + 3, none⟩ = some (.int .i64 y.f1.f2) ∧ W'.cell? ⟨(ad.add (k * 13)).block, (ad.add (k * 13)).off + 4, none⟩ = some (.int .i64 y.f1.f3) ∧ W'.cell? ⟨(ad.add (k * 13)).block, (ad.add (k * 13)).off + 5, none⟩ = some (.int .i64 y.f1.f4) ∧ W'.cell? ⟨(ad.add (k * 13)).block, (ad.add (k * 13)).off + 6, none⟩ = some (.int .i64 y.f2.f0) ∧ W'.cell? ⟨(ad.add (k * 13)).block, (ad.add (k * 13)).off + 7, none⟩ = some (.int .i64 y.f2.f1) ∧ W'.cell? ⟨(ad.add (k * 13)).block, (ad.add (k * 13)).off + 8, none⟩ = some (.int .i64 y.f2.f2) ∧ W'.cell? ⟨(ad.add (k * 13)).block, (ad.add (k * 13)).off + 9, none⟩ = some (.int .i64 y.f2.f3) ∧ W'.cell? ⟨(ad.add (k * 13)).block, (ad.add (k * 13)).off + 10, none⟩ = some (.slice Aq y.f2.f4.length cq) ∧ W'.cell? ⟨(ad.add (k * 13)).block, (ad.add (k * 13)).off + 11, none⟩ = some (.int .i64 y.f3) ∧ W'.cell? ⟨(ad.add (k * 13)).block, (ad.add (k * 13)).off + 12, none⟩ = some (.int .i64 y.f4)) (ds := []) #[false, false, false, false, false, false, false, false, false, false, false, false, false, false, false, false, false, false, false, false, false, false, false, false, false, false, false, false, false, false, false, false] (by kernel_rfl) rfl rfl ⟨z0, z1, z2, z3, z4, z5, z6, z7, z8, z9, z10, z11, z12, q0, q1, q2, q3, q4, q5, q6, q7, q8, q9, q10, q11, q12⟩ (fun hHeld => ?_); refine with_tabW law_tab25 law_bits25 (fun HT_ HW_ => ?_)
                        generalize wr.drew = wd_ at z0 z1 z2 z3 z4 z5 z6 z7 z8 z9 z10 z11 z12 q0 q1 q2 q3 q4 q5 q6 q7 q8 q9 q10 q11 q12 TWD hHeld ⊢
                        refine pure_ (i := 0) (N := some 120) (v := ?_) (a' := ?_) #[true, false, false, false, false, false, false, false, false, false, false, false, false, false, false, false, false, false, false, false, false, false, false, false, false, false, false, false, false, false, false, false] rfl rfl (any_of HT_.out (by kernel_rfl)) (fun _ _ _ h => h) (Or.inl ⟨by rfl, ?_⟩) ?_ ?_
                        rotate_left
                        · intro w'
                          go_simp
                          with_reducible rfl
                        rotate_left
                        · simp only [Act.put, List.setIfInBounds_toArray, List.set_cons_zero, List.set_cons_succ]
                          rfl
                        refine pure_ (i := 1) (N := some 121) (v := ?_) (a' := ?_) #[true, true, false, false, false, false, false, false, false, false, false, false, false, false, false, false, false, false, false, false, false, false, false, false, false, false, false, false, false, false, false, false] rfl rfl (any_of HT_.out (by kernel_rfl)) (fun _ _ _ h => h) (Or.inl ⟨by rfl, ?_⟩) ?_ ?_
                        rotate_left
                        · intro w'
                          go_simp
                          with_reducible rfl
                        rotate_left
                        · simp only [Act.put, List.setIfInBounds_toArray, List.set_cons_zero, List.set_cons_succ]
                          rfl
                        refine pure_ (i := 2) (N := some 122) (v := ?_) (a' := ?_) #[true, true, true, false, false, false, false, false, false, false, false, false, false, false, false, false, false, false, false, false, false, false, false, false, false, false, false, false, false, false, false, false] rfl rfl (any_of HT_.out (by kernel_rfl)) (fun _ _ _ h => h) (Or.inl ⟨by rfl, ?_⟩) ?_ ?_
                        rotate_left
                        · intro w'
                          go_simp
                          with_reducible rfl
                        rotate_left
                        · simp only [Act.put, List.setIfInBounds_toArray, List.set_cons_zero, List.set_cons_succ]
                          rfl
                        refine take_ (i := 3) (N := some 123) (v := ?_) (a' := ?_) #[true, true, true, true, false, false, false, false, false, false, false, false, false, false, false, false, false, false, false, false, false, false, false, false, false, false, false, false, false, false, false, false] rfl rfl (take_ofW HT_.out HW_.out (by kernel_rfl)) (fun _ _ _ h => h) (Or.inl ⟨by rfl, ?_⟩) hHeld ?_ ?_
                        rotate_left
                        · rintro w' ⟨s0, s1, s2, s3, s4, s5, s6, s7, s8, s9, s10, s11, s12, s13, s14, s15, s16, s17, s18, s19, s20, s21, s22, s23, s24, s25⟩
                          go_simp
                          with_reducible rfl
                        rotate_left
                        · simp only [Act.put, List.setIfInBounds_toArray, List.set_cons_zero, List.set_cons_succ]
                          rfl
                        refine pure_ (i := 4) (N := some 124) (v := ?_) (a' := ?_) #[true, true, true, true, true, false, false, false, false, false, false, false, false, false, false, false, false, false, false, false, false, false, false, false, false, false, false, false, false, false, false, false] rfl rfl (any_of HT_.out (by kernel_rfl)) (fun _ _ _ h => h) (Or.inl ⟨by rfl, ?_⟩) ?_ ?_
                        rotate_left
                        · intro w'
                          go_simp
                          with_reducible rfl
                        rotate_left
                        · simp only [Act.put, List.setIfInBounds_toArray, List.set_cons_zero, List.set_cons_succ]
                          rfl
                        refine pure_ (i := 5) (N := some 125) (v := ?_) (a' := ?_) #[true, true, true, true, true, true, false, false, false, false, false, false, false, false, false, false, false, false, false, false, false, false, false, false, false, false, false, false, false, false, false, false] rfl rfl (any_of HT_.out (by kernel_rfl)) (fun _ _ _ h => h) (Or.inl ⟨by rfl, ?_⟩) ?_ ?_
                        rotate_left
                        · intro w'
                          go_simp
                          with_reducible rfl
                        rotate_left
                        · simp only [Act.put, List.setIfInBounds_toArray, List.set_cons_zero, List.set_cons_succ]
                          rfl
                        refine pure_ (i := 6) (N := some 126) (v := ?_) (a' := ?_) #[true, true, true, true, true, true, true, false, false, false, false, false, false, false, false, false, false, false, false, false, false, false, false, false, false, false, false, false, false, false, false, false] rfl rfl (any_of HT_.out (by kernel_rfl)) (fun _ _ _ h => h) (Or.inl ⟨by rfl, ?_⟩) ?_ ?_
                        rotate_left
                        · intro w'
                          go_simp
                          with_reducible rfl
                        rotate_left
                        · simp only [Act.put, List.setIfInBounds_toArray, List.set_cons_zero, List.set_cons_succ]
                          rfl
                        refine take_ (i := 7) (N := some 127) (v := ?_) (a' := ?_) #[true, true, true, true, true, true, true, true, false, false, false, false, false, false, false, false, false, false, false, false, false, false, false, false, false, false, false, false, false, false, false, false] rfl rfl (take_ofW HT_.out HW_.out (by kernel_rfl)) (fun _ _ _ h => h) (Or.inl ⟨by rfl, ?_⟩) hHeld ?_ ?_
                        rotate_left
                        · rintro w' ⟨s0, s1, s2, s3, s4, s5, s6, s7, s8, s9, s10, s11, s12, s13, s14, s15, s16, s17, s18, s19, s20, s21, s22, s23, s24, s25⟩
                          go_simp
                          with_reducible rfl
                        rotate_left
                        · simp only [Act.put, List.setIfInBounds_toArray, List.set_cons_zero, List.set_cons_succ]
                          rfl
                        refine one_ (i := 8) (N := some 128) #[true, true, true, true, true, true, true, true, true, false, false, false, false, false, false, false, false, false, false, false, false, false, false, false, false, false, false, false, false, false, false, false] rfl rfl (one_of HT_.out (by kernel_rfl)) (by decide) (fun K hK => ?_)
                        refine goes_ Try.func17 (by kernel_rfl) rfl #[.agg #[.int .i64 u.f0, .int .i64 u.f1.f0, .int .i64 u.f1.f1, .int .i64 u.f1.f2, .int .i64 u.f1.f3, .int .i64 u.f1.f4, .int .i64 u.f2.f0, .int .i64 u.f2.f1, .int .i64 u.f2.f2, .int .i64 u.f2.f3, .slice Az u.f2.f4.length cz, .int .i64 u.f3, .int .i64 u.f4], .agg #[.int .i64 y.f0, .int .i64 y.f1.f0, .int .i64 y.f1.f1, .int .i64 y.f1.f2, .int .i64 y.f1.f3, .int .i64 y.f1.f4, .int .i64 y.f2.f0, .int .i64 y.f2.f1, .int .i64 y.f2.f2, .int .i64 y.f2.f3, .slice Aq y.f2.f4.length cq, .int .i64 y.f3, .int .i64 y.f4]] (by rfl) rfl rfl (by (try simp only [List.map_toArray, List.map_cons, List.map_nil]); first | done | rfl) ?_
                        refine (ahead_b _ _ _ _ _ _ _ _ _ _ _ _ _ _ _ _ _ _ _ _ _ _ _ _ _ _ _ false A1.out).mono ?_
                        rintro e wq ⟨rfl, hb⟩
                        have hHeld2 := hHeld
                        obtain ⟨t0, t1, t2, t3, t4, t5, t6, t7, t8, t9, t10, t11, t12, t13, t14, t15, t16, t17, t18, t19, t20, t21, t22, t23, t24, t25⟩ := hHeld2
                        have HS0_ := pw_cell_below hb t0
                        have HS1_ := pw_cell_below hb t1
                        have HS2_ := pw_cell_below hb t2
                        have HS3_ := pw_cell_below hb t3
                        have HS4_ := pw_cell_below hb t4
                        have HS5_ := pw_cell_below hb t5
                        have HS6_ := pw_cell_below hb t6
                        have HS7_ := pw_cell_below hb t7
                        have HS8_ := pw_cell_below hb t8
                        have HS9_ := pw_cell_below hb t9
                        have HS10_ := pw_cell_below hb t10
                        have HS11_ := pw_cell_below hb t11
                        have HS12_ := pw_cell_below hb t12
                        have HS13_ := pw_cell_below hb t13
                        have HS14_ := pw_cell_below hb t14
                        have HS15_ := pw_cell_below hb t15
                        have HS16_ := pw_cell_below hb t16
                        have HS17_ := pw_cell_below hb t17
                        have HS18_ := pw_cell_below hb t18
                        have HS19_ := pw_cell_below hb t19
                        have HS20_ := pw_cell_below hb t20
                        have HS21_ := pw_cell_below hb t21
                        have HS22_ := pw_cell_below hb t22
                        have HS23_ := pw_cell_below hb t23
                        have HS24_ := pw_cell_below hb t24
                        have HS25_ := pw_cell_below hb t25
                        have TW2 := Aside0.mk (TWD.out.below hb)
                        clear hb
                        refine ⟨_, rfl, ?_⟩
                        refine hK.out _ _ ⟨HS0_, HS1_, HS2_, HS3_, HS4_, HS5_, HS6_, HS7_, HS8_, HS9_, HS10_, HS11_, HS12_, HS13_, HS14_, HS15_, HS16_, HS17_, HS18_, HS19_, HS20_, HS21_, HS22_, HS23_, HS24_, HS25_⟩ (fun hHeld => ?_)
                        clear hK K
                        refine norm_ (a' := ?_) ?_ ?_
                        rotate_left
                        · show Act.put _ (some 128) _ = _
                          simp only [Act.put, List.setIfInBounds_toArray, List.set_cons_zero, List.set_cons_succ]
                          rfl
                        refine pure_ (i := 9) (N := some 129) (v := ?_) (a' := ?_) #[true, true, true, true, true, true, true, true, true, true, false, false, false, false, false, false, false, false, false, false, false, false, false, false, false, false, false, false, false, false, false, false] rfl rfl (any_of HT_.out (by kernel_rfl)) (fun _ _ _ h => h) (Or.inl ⟨by rfl, ?_⟩) ?_ ?_
                        rotate_left
                        · intro w'
                          go_simp
                          with_reducible rfl
                        rotate_left
                        · simp only [Act.put, List.setIfInBounds_toArray, List.set_cons_zero, List.set_cons_succ]
                          rfl
                        refine pure_ (i := 10) (N := some 130) (v := undef) (a' := ?_) #[true, true, true, true, true, true, true, true, true, true, true, false, false, false, false, false, false, false, false, false, false, false, false, false, false, false, false, false, false, false, false, false] rfl rfl (any_of HT_.out (by kernel_rfl)) (fun _ _ _ h => h) (Or.inr ⟨by rfl, rfl⟩) ?_ ?_
                        rotate_left
                        · simp only [Act.put, List.setIfInBounds_toArray, List.set_cons_zero, List.set_cons_succ]
                          rfl
                        refine pure_ (i := 11) (N := some 131) (v := undef) (a' := ?_) #[true, true, true, true, true, true, true, true, true, true, true, true, false, false, false, false, false, false, false, false, false, false, false, false, false, false, false, false, false, false, false, false] rfl rfl (any_of HT_.out (by kernel_rfl)) (fun _ _ _ h => h) (Or.inr ⟨by rfl, rfl⟩) ?_ ?_
                        rotate_left
                        · simp only [Act.put, List.setIfInBounds_toArray, List.set_cons_zero, List.set_cons_succ]
                          rfl
                        refine pure_ (i := 12) (N := some 132) (v := undef) (a' := ?_) #[true, true, true, true, true, true, true, true, true, true, true, true, true, false, false, false, false, false, false, false, false, false, false, false, false, false, false, false, false, false, false, false] rfl rfl (any_of HT_.out (by kernel_rfl)) (fun _ _ _ h => h) (Or.inr ⟨by rfl, rfl⟩) ?_ ?_
                        rotate_left
                        · simp only [Act.put, List.setIfInBounds_toArray, List.set_cons_zero, List.set_cons_succ]
                          rfl
                        refine pure_ (i := 13) (N := some 133) (v := undef) (a' := ?_) #[true, true, true, true, true, true, true, true, true, true, true, true, true, true, false, false, false, false, false, false, false, false, false, false, false, false, false, false, false, false, false, false] rfl rfl (any_of HT_.out (by kernel_rfl)) (fun _ _ _ h => h) (Or.inr ⟨by rfl, rfl⟩) ?_ ?_
                        rotate_left
                        · simp only [Act.put, List.setIfInBounds_toArray, List.set_cons_zero, List.set_cons_succ]
                          rfl
                        refine pure_ (i := 14) (N := some 134) (v := undef) (a' := ?_) #[true, true, true, true, true, true, true, true, true, true, true, true, true, true, true, false, false, false, false, false, false, false, false, false, false, false, false, false, false, false, false, false] rfl rfl (any_of HT_.out (by kernel_rfl)) (fun _ _ _ h => h) (Or.inr ⟨by rfl, rfl⟩) ?_ ?_
                        rotate_left
                        · simp only [Act.put, List.setIfInBounds_toArray, List.set_cons_zero, List.set_cons_succ]
                          rfl
                        refine pure_ (i := 15) (N := some 135) (v := undef) (a' := ?_) #[true, true, true, true, true, true, true, true, true, true, true, true, true, true, true, true, false, false, false, false, false, false, false, false, false, false, false, false, false, false, false, false] rfl rfl (any_of HT_.out (by kernel_rfl)) (fun _ _ _ h => h) (Or.inr ⟨by rfl, rfl⟩) ?_ ?_
                        rotate_left
                        · simp only [Act.put, List.setIfInBounds_toArray, List.set_cons_zero, List.set_cons_succ]
                          rfl
                        refine pure_ (i := 16) (N := some 136) (v := undef) (a' := ?_) #[true, true, true, true, true, true, true, true, true, true, true, true, true, true, true, true, true, false, false, false, false, false, false, false, false, false, false, false, false, false, false, false] rfl rfl (any_of HT_.out (by kernel_rfl)) (fun _ _ _ h => h) (Or.inr ⟨by rfl, rfl⟩) ?_ ?_
                        rotate_left
                        · simp only [Act.put, List.setIfInBounds_toArray, List.set_cons_zero, List.set_cons_succ]
                          rfl
                        refine pure_ (i := 17) (N := some 137) (v := undef) (a' := ?_) #[true, true, true, true, true, true, true, true, true, true, true, true, true, true, true, true, true, true, false, false, false, false, false, false, false, false, false, false, false, false, false, false] rfl rfl (any_of HT_.out (by kernel_rfl)) (fun _ _ _ h => h) (Or.inr ⟨by rfl, rfl⟩) ?_ ?_
                        rotate_left
                        · simp only [Act.put, List.setIfInBounds_toArray, List.set_cons_zero, List.set_cons_succ]
                          rfl
                        refine pure_ (i := 18) (N := some 138) (v := undef) (a' := ?_) #[true, true, true, true, true, true, true, true, true, true, true, true, true, true, true, true, true, true, true, false, false, false, false, false, false, false, false, false, false, false, false, false] rfl rfl (any_of HT_.out (by kernel_rfl)) (fun _ _ _ h => h) (Or.inr ⟨by rfl, rfl⟩) ?_ ?_
                        rotate_left
                        · simp only [Act.put, List.setIfInBounds_toArray, List.set_cons_zero, List.set_cons_succ]
                          rfl
                        refine pure_ (i := 19) (N := some 139) (v := ?_) (a' := ?_) #[true, true, true, true, true, true, true, true, true, true, true, true, true, true, true, true, true, true, true, true, false, false, false, false, false, false, false, false, false, false, false, false] rfl rfl (any_of HT_.out (by kernel_rfl)) (fun _ _ _ h => h) (Or.inl ⟨by rfl, ?_⟩) ?_ ?_
                        rotate_left
                        · intro w'
                          go_simp
                          with_reducible rfl
                        rotate_left
                        · simp only [Act.put, List.setIfInBounds_toArray, List.set_cons_zero, List.set_cons_succ]
                          rfl
                        refine pure_ (i := 20) (N := some 140) (v := ?_) (a' := ?_) #[true, true, true, true, true, true, true, true, true, true, true, true, true, true, true, true, true, true, true, true, true, false, false, false, false, false, false, false, false, false, false, false] rfl rfl (any_of HT_.out (by kernel_rfl)) (fun _ _ _ h => h) (Or.inl ⟨by rfl, ?_⟩) ?_ ?_
                        rotate_left
                        · intro w'
                          go_simp
                          with_reducible rfl
                        rotate_left
                        · simp only [Act.put, List.setIfInBounds_toArray, List.set_cons_zero, List.set_cons_succ]
                          rfl
                        refine pure_ (i := 21) (N := some 141) (v := undef) (a' := ?_) #[true, true, true, true, true, true, true, true, true, true, true, true, true, true, true, true, true, true, true, true, true, true, false, false, false, false, false, false, false, false, false, false] rfl rfl (any_of HT_.out (by kernel_rfl)) (fun _ _ _ h => h) (Or.inr ⟨by rfl, rfl⟩) ?_ ?_
                        rotate_left
                        · simp only [Act.put, List.setIfInBounds_toArray, List.set_cons_zero, List.set_cons_succ]
                          rfl
                        refine pure_ (i := 22) (N := some 142) (v := undef) (a' := ?_) #[true, true, true, true, true, true, true, true, true, true, true, true, true, true, true, true, true, true, true, true, true, true, true, false, false, false, false, false, false, false, false, false] rfl rfl (any_of HT_.out (by kernel_rfl)) (fun _ _ _ h => h) (Or.inr ⟨by rfl, rfl⟩) ?_ ?_
                        rotate_left
                        · simp only [Act.put, List.setIfInBounds_toArray, List.set_cons_zero, List.set_cons_succ]
                          rfl
                        refine pure_ (i := 23) (N := some 143) (v := undef) (a' := ?_) #[true, true, true, true, true, true, true, true, true, true, true, true, true, true, true, true, true, true, true, true, true, true, true, true, false, false, false, false, false, false, false, false] rfl rfl (any_of HT_.out (by kernel_rfl)) (fun _ _ _ h => h) (Or.inr ⟨by rfl, rfl⟩) ?_ ?_
                        rotate_left
                        · simp only [Act.put, List.setIfInBounds_toArray, List.set_cons_zero, List.set_cons_succ]
                          rfl
                        refine pure_ (i := 24) (N := some 144) (v := undef) (a' := ?_) #[true, true, true, true, true, true, true, true, true, true, true, true, true, true, true, true, true, true, true, true, true, true, true, true, true, false, false, false, false, false, false, false] rfl rfl (any_of HT_.out (by kernel_rfl)) (fun _ _ _ h => h) (Or.inr ⟨by rfl, rfl⟩) ?_ ?_
                        rotate_left
                        · simp only [Act.put, List.setIfInBounds_toArray, List.set_cons_zero, List.set_cons_succ]
                          rfl
                        refine pure_ (i := 25) (N := some 145) (v := undef) (a' := ?_) #[true, true, true, true, true, true, true, true, true, true, true, true, true, true, true, true, true, true, true, true, true, true, true, true, true, true, false, false, false, false, false, false] rfl rfl (any_of HT_.out (by kernel_rfl)) (fun _ _ _ h => h) (Or.inr ⟨by rfl, rfl⟩) ?_ ?_
                        rotate_left
                        · simp only [Act.put, List.setIfInBounds_toArray, List.set_cons_zero, List.set_cons_succ]
                          rfl
                        refine pure_ (i := 26) (N := some 146) (v := undef) (a' := ?_) #[true, true, true, true, true, true, true, true, true, true, true, true, true, true, true, true, true, true, true, true, true, true, true, true, true, true, true, false, false, false, false, false] rfl rfl (any_of HT_.out (by kernel_rfl)) (fun _ _ _ h => h) (Or.inr ⟨by rfl, rfl⟩) ?_ ?_
                        rotate_left
                        · simp only [Act.put, List.setIfInBounds_toArray, List.set_cons_zero, List.set_cons_succ]
                          rfl
                        refine pure_ (i := 27) (N := some 147) (v := undef) (a' := ?_) #[true, true, true, true, true, true, true, true, true, true, true, true, true, true, true, true, true, true, true, true, true, true, true, true, true, true, true, true, false, false, false, false] rfl rfl (any_of HT_.out (by kernel_rfl)) (fun _ _ _ h => h) (Or.inr ⟨by rfl, rfl⟩) ?_ ?_
                        rotate_left
                        · simp only [Act.put, List.setIfInBounds_toArray, List.set_cons_zero, List.set_cons_succ]
                          rfl
                        refine pure_ (i := 28) (N := some 148) (v := undef) (a' := ?_) #[true, true, true, true, true, true, true, true, true, true, true, true, true, true, true, true, true, true, true, true, true, true, true, true, true, true, true, true, true, false, false, false] rfl rfl (any_of HT_.out (by kernel_rfl)) (fun _ _ _ h => h) (Or.inr ⟨by rfl, rfl⟩) ?_ ?_
                        rotate_left
                        · simp only [Act.put, List.setIfInBounds_toArray, List.set_cons_zero, List.set_cons_succ]
                          rfl
                        refine pure_ (i := 29) (N := some 149) (v := undef) (a' := ?_) #[true, true, true, true, true, true, true, true, true, true, true, true, true, true, true, true, true, true, true, true, true, true, true, true, true, true, true, true, true, true, false, false] rfl rfl (any_of HT_.out (by kernel_rfl)) (fun _ _ _ h => h) (Or.inr ⟨by rfl, rfl⟩) ?_ ?_
                        rotate_left
                        · simp only [Act.put, List.setIfInBounds_toArray, List.set_cons_zero, List.set_cons_succ]
                          rfl
                        refine pure_ (i := 30) (N := some 150) (v := undef) (a' := ?_) #[true, true, true, true, true, true, true, true, true, true, true, true, true, true, true, true, true, true, true, true, true, true, true, true, true, true, true, true, true, true, true, false] rfl rfl (any_of HT_.out (by kernel_rfl)) (fun _ _ _ h => h) (Or.inr ⟨by rfl, rfl⟩) ?_ ?_
                        rotate_left
                        · simp only [Act.put, List.setIfInBounds_toArray, List.set_cons_zero, List.set_cons_succ]
                          rfl
                        refine pure_ (i := 31) (N := some 151) (v := ?_) (a' := ?_) #[true, true, true, true, true, true, true, true, true, true, true, true, true, true, true, true, true, true, true, true, true, true, true, true, true, true, true, true, true, true, true, true] rfl rfl (any_of HT_.out (by kernel_rfl)) (fun _ _ _ h => h) (Or.inl ⟨by rfl, ?_⟩) ?_ ?_
                        rotate_left
                        · intro w'
                          go_simp
                          with_reducible rfl
                        rotate_left
                        · simp only [Act.put, List.setIfInBounds_toArray, List.set_cons_zero, List.set_cons_succ]
                          rfl
                        refine done_ (done_of HT_.out (by kernel_rfl)) ?_
                        go_wp2
                        go_roundg (k - (j + 1))
                        case measure => omega
                        case rel => exact ⟨j + 1, by go_num, by omega, TW2⟩
                      | true => as_aux_lemma =>
                        cases a2 : (decide (0 ≤ y.f4) && decide (y.f4 < x.f3)) with
                        | false => as_aux_lemma =>
                          clear hb1
                          have A1 := Aside0.mk a1
                          clear a1
                          have A2 := Aside0.mk a2
                          clear a2
                          go_wp2_with fail
                          have TWD := Aside0.mk (TW.out.below (below_drew1 (Below.refl _ _)))
                          refine start_ (n := 32) (S := fun W' => W'.cell? (ad.add (j * 13)) = some (.int .i64 u.f0) ∧ W'.cell? ⟨(ad.add (j * 13)).block, (ad.add (j * 13)).off + 1, none⟩ = some (.int .i64 u.f1.f0) ∧ W'.cell? ⟨(ad.add (j * 13)).block, (ad.add (j * 13)).off + 2, none⟩ = some (.int .i64 u.f1.f1) ∧ W'.cell? ⟨(ad.add (j * 13)).block, (ad.add (j * 13)).off + 3, none⟩ = some (.int .i64 u.f1.f2) ∧ W'.cell? ⟨(ad.add (j * 13)).block, (ad.add (j * 13)).off + 4, none⟩ = some (.int .i64 u.f1.f3) ∧ W'.cell? ⟨(ad.add (j * 13)).block, (ad.add (j * 13)).off + 5, none⟩ = some (.int .i64 u.f1.f4) ∧ W'.cell? ⟨(ad.add (j * 13)).block, (ad.add (j * 13)).off + 6, none⟩ = some (.int .i64 u.f2.f0) ∧ W'.cell? ⟨(ad.add (j * 13)).block, (ad.add (j * 13)).off + 7, none⟩ = some (.int .i64 u.f2.f1) ∧ W'.cell? ⟨(ad.add (j * 13)).block, (ad.add (j * 13)).off + 8, none⟩ = some (.int .i64 u.f2.f2) ∧ W'.cell? ⟨(ad.add (j * 13)).block, (ad.add (j * 13)).off + 9, none⟩ = some (.int .i64 u.f2.f3) ∧ W'.cell? ⟨(ad.add (j * 13)).block, (ad.add (j * 13)).off + 10, none⟩ = some (.slice Az u.f2.f4.length cz) ∧ W'.cell? ⟨(ad.add (j * 13)).block, (ad.add (j * 13)).off + 11, none⟩ = some (.int .i64 u.f3) ∧ W'.cell? ⟨(ad.add (j * 13)).block, (ad.add (j * 13)).off + 12, none⟩ = some (.int .i64 u.f4) ∧ W'.cell? (ad.add (k * 13)) = some (.int .i64 y.f0) ∧ W'.cell? ⟨(ad.add (k * 13)).block, (ad.add (k * 13)).off + 1, none⟩ = some (.int .i64 y.f1.f0) ∧ W'.cell? ⟨(ad.add (k * 13)).block, (ad.add (k * 13)).off + 2, none⟩ = some (.int .i64 y.f1.f1) ∧ W'.cell? ⟨(ad.add (k * 13)).block, (ad.add (k * 13)).off + 3, none⟩ = some (.int .i64 y.f1.f2) ∧ W'.cell? ⟨(ad.add (k * 13)).block, (ad.add (k * 13)).off + 4, none⟩ = some (.int .i64 y.f1.f3) ∧ W'.cell? ⟨(ad.add (k * 13)).block, (ad.add (k * 13)).off + 5, none⟩ = some (.int .i64 y.f1.f4) ∧ W'.cell? ⟨(ad.add (k * 13)).block, (ad.add (k * 13)).off + 6, none⟩ = some (.int .i64 y.f2.f0) ∧ W'.cell? ⟨(ad.add (k * 13)).block, (ad.add (k * 13)).off + 7, none⟩ = some (.int .i64 y.f2.f1) ∧ W'.cell? ⟨(ad.add (k * 13)).block, (ad.add (k * 13)).off + 8, none⟩ = some (.int .i64 y.f2.f2) ∧ W'.cell? ⟨(ad.add (k * 13)).block, (ad.add (k * 13)).off + 9, none⟩ = some (.int .i64 y.f2.f3) ∧ W'.cell? ⟨(ad.add (k * 13)).block, (ad.add (k * 13)).off + 10, none⟩ = some (.slice Aq y.f2.f4.length cq) ∧ W'.cell? ⟨(ad.add (k * 13)).block, (ad.add (k * 13)).off + 11, none⟩ = some (.int .i64 y.f3) ∧ W'.cell? ⟨(ad.add (k * 13)).block, (ad.add (k * 13)).off + 12, none⟩ = some (.int .i64 y.f4) ∧ W'.cell? (ad.add (i * 13)) = some (.int .i64 x.f0) ∧ W'.cell? ⟨(ad.add (i * 13)).block, (ad.add (i * 13)).off + 1, none⟩ = some (.int .i64 x.f1.f0) ∧ W'.cell? ⟨(ad.add (i * 13)).block, (ad.add (i * 13)).off + 2, none⟩ = some (.int .i64 x.f1.f1) ∧ W'.cell? ⟨(ad.add (i * 13)).block, (ad.add (i * 13)).off + 3, none⟩ = some (.int .i64 x.f1.f2) ∧ W'.cell? ⟨(ad.add (i * 13)).block, (ad.add (i * 13)).off + 4, none⟩ = some (.int .i64 x.f1.f3) ∧ W'.cell? ⟨(ad.add (i * 13)).block, (ad.add (i * 13)).off + 5, none⟩ = some (.int .i64 x.f1.f4) ∧ W'.cell? ⟨(ad.add (i * 13)).block, (ad.add (i * 13)).off + 6, none⟩ = some (.int .i64 x.f2.f0) ∧ W'.cell? ⟨(ad.add (i * 13)).block, (ad.add (i * 13)).off + 7, none⟩ = some (.int .i64 x.f2.f1) ∧ W'.cell? ⟨(ad.add (i * 13)).block, (ad.add (i * 13)).off + 8, none⟩ = some (.int .i64 x.f2.f2) ∧ W'.cell? ⟨(ad.add (i * 13)).block, (ad.add (i * 13)).off + 9, none⟩ = some (.int .i64 x.f2.f3) ∧ W'.cell? ⟨(ad.add (i * 13)).block, (ad.add (i * 13)).off + 10, none⟩ = some (.slice Ap x.f2.f4.length cp) ∧ W'.cell? ⟨(ad.add (i * 13)).block, (ad.add (i * 13)).off + 11, none⟩ = some (.int .i64 x.f3) ∧ W'.cell? ⟨(ad.add (i * 13)).block, (ad.add (i * 13)).off + 12, none⟩ = some (.int .i64 x.f4)) (ds := []) #[false, false, false, false, false, false, false, false, false, false, false, false, false, false, false, false, false, false, false, false, false, false, false, false, false, false, false, false, false, false, false, false] (by kernel_rfl) rfl rfl ⟨z0, z1, z2, z3, z4, z5, z6, z7, z8, z9, z10, z11, z12, q0, q1, q2, q3, q4, q5, q6, q7, q8, q9, q10, q11, q12, p0, p1, p2, p3, p4, p5, p6, p7, p8, p9, p10, p11, p12⟩ (fun hHeld => ?_); refine with_tabW law_tab25 law_bits25 (fun HT_ HW_ => ?_)
                          generalize wr.drew = wd_ at z0 z1 z2 z3 z4 z5 z6 z7 z8 z9 z10 z11 z12 q0 q1 q2 q3 q4 q5 q6 q7 q8 q9 q10 q11 q12 p0 p1 p2 p3 p4 p5 p6 p7 p8 p9 p10 p11 p12 TWD hHeld ⊢
                          refine pure_ (i := 0) (N := some 120) (v := ?_) (a' := ?_) #[true, false, false, false, false, false, false, false, false, false, false, false, false, false, false, false, false, false, false, false, false, false, false, false, false, false, false, false, false, false, false, false] rfl rfl (any_of HT_.out (by kernel_rfl)) (fun _ _ _ h => h) (Or.inl ⟨by rfl, ?_⟩) ?_ ?_
                          rotate_left
                          · intro w'
                            go_simp
                            with_reducible rfl
                          rotate_left
                          · simp only [Act.put, List.setIfInBounds_toArray, List.set_cons_zero, List.set_cons_succ]
                            rfl
                          refine pure_ (i := 1) (N := some 121) (v := ?_) (a' := ?_) #[true, true, false, false, false, false, false, false, false, false, false, false, false, false, false, false, false, false, false, false, false, false, false, false, false, false, false, false, false, false, false, false] rfl rfl (any_of HT_.out (by kernel_rfl)) (fun _ _ _ h => h) (Or.inl ⟨by rfl, ?_⟩) ?_ ?_
                          rotate_left
                          · intro w'
                            go_simp
                            with_reducible rfl
                          rotate_left
                          · simp only [Act.put, List.setIfInBounds_toArray, List.set_cons_zero, List.set_cons_succ]
                            rfl
                          refine pure_ (i := 2) (N := some 122) (v := ?_) (a' := ?_) #[true, true, true, false, false, false, false, false, false, false, false, false, false, false, false, false, false, false, false, false, false, false, false, false, false, false, false, false, false, false, false, false] rfl rfl (any_of HT_.out (by kernel_rfl)) (fun _ _ _ h => h) (Or.inl ⟨by rfl, ?_⟩) ?_ ?_
                          rotate_left
                          · intro w'
                            go_simp
                            with_reducible rfl
                          rotate_left
                          · simp only [Act.put, List.setIfInBounds_toArray, List.set_cons_zero, List.set_cons_succ]
                            rfl
                          refine take_ (i := 3) (N := some 123) (v := ?_) (a' := ?_) #[true, true, true, true, false, false, false, false, false, false, false, false, false, false, false, false, false, false, false, false, false, false, false, false, false, false, false, false, false, false, false, false] rfl rfl (take_ofW HT_.out HW_.out (by kernel_rfl)) (fun _ _ _ h => h) (Or.inl ⟨by rfl, ?_⟩) hHeld ?_ ?_
                          rotate_left
                          · rintro w' ⟨s0, s1, s2, s3, s4, s5, s6, s7, s8, s9, s10, s11, s12, s13, s14, s15, s16, s17, s18, s19, s20, s21, s22, s23, s24, s25, s26, s27, s28, s29, s30, s31, s32, s33, s34, s35, s36, s37, s38⟩
                            go_simp
                            with_reducible rfl
                          rotate_left
                          · simp only [Act.put, List.setIfInBounds_toArray, List.set_cons_zero, List.set_cons_succ]
                            rfl
                          refine pure_ (i := 4) (N := some 124) (v := ?_) (a' := ?_) #[true, true, true, true, true, false, false, false, false, false, false, false, false, false, false, false, false, false, false, false, false, false, false, false, false, false, false, false, false, false, false, false] rfl rfl (any_of HT_.out (by kernel_rfl)) (fun _ _ _ h => h) (Or.inl ⟨by rfl, ?_⟩) ?_ ?_
                          rotate_left
                          · intro w'
                            go_simp
                            with_reducible rfl
                          rotate_left
                          · simp only [Act.put, List.setIfInBounds_toArray, List.set_cons_zero, List.set_cons_succ]
                            rfl
                          refine pure_ (i := 5) (N := some 125) (v := ?_) (a' := ?_) #[true, true, true, true, true, true, false, false, false, false, false, false, false, false, false, false, false, false, false, false, false, false, false, false, false, false, false, false, false, false, false, false] rfl rfl (any_of HT_.out (by kernel_rfl)) (fun _ _ _ h => h) (Or.inl ⟨by rfl, ?_⟩) ?_ ?_
                          rotate_left
                          · intro w'
                            go_simp
                            with_reducible rfl
                          rotate_left
                          · simp only [Act.put, List.setIfInBounds_toArray, List.set_cons_zero, List.set_cons_succ]
                            rfl
                          refine pure_ (i := 6) (N := some 126) (v := ?_) (a' := ?_) #[true, true, true, true, true, true, true, false, false, false, false, false, false, false, false, false, false, false, false, false, false, false, false, false, false, false, false, false, false, false, false, false] rfl rfl (any_of HT_.out (by kernel_rfl)) (fun _ _ _ h => h) (Or.inl ⟨by rfl, ?_⟩) ?_ ?_
                          rotate_left
                          · intro w'
                            go_simp
                            with_reducible rfl
                          rotate_left
                          · simp only [Act.put, List.setIfInBounds_toArray, List.set_cons_zero, List.set_cons_succ]
                            rfl
                          refine take_ (i := 7) (N := some 127) (v := ?_) (a' := ?_) #[true, true, true, true, true, true, true, true, false, false, false, false, false, false, false, false, false, false, false, false, false, false, false, false, false, false, false, false, false, false, false, false] rfl rfl (take_ofW HT_.out HW_.out (by kernel_rfl)) (fun _ _ _ h => h) (Or.inl ⟨by rfl, ?_⟩) hHeld ?_ ?_
                          rotate_left
                          · rintro w' ⟨s0, s1, s2, s3, s4, s5, s6, s7, s8, s9, s10, s11, s12, s13, s14, s15, s16, s17, s18, s19, s20, s21, s22, s23, s24, s25, s26, s27, s28, s29, s30, s31, s32, s33, s34, s35, s36, s37, s38⟩
                            go_simp
                            with_reducible rfl
                          rotate_left
                          · simp only [Act.put, List.setIfInBounds_toArray, List.set_cons_zero, List.set_cons_succ]
                            rfl
                          refine one_ (i := 8) (N := some 128) #[true, true, true, true, true, true, true, true, true, false, false, false, false, false, false, false, false, false, false, false, false, false, false, false, false, false, false, false, false, false, false, false] rfl rfl (one_of HT_.out (by kernel_rfl)) (by decide) (fun K hK => ?_)
                          refine goes_ Try.func17 (by kernel_rfl) rfl #[.agg #[.int .i64 u.f0, .int .i64 u.f1.f0, .int .i64 u.f1.f1, .int .i64 u.f1.f2, .int .i64 u.f1.f3, .int .i64 u.f1.f4, .int .i64 u.f2.f0, .int .i64 u.f2.f1, .int .i64 u.f2.f2, .int .i64 u.f2.f3, .slice Az u.f2.f4.length cz, .int .i64 u.f3, .int .i64 u.f4], .agg #[.int .i64 y.f0, .int .i64 y.f1.f0, .int .i64 y.f1.f1, .int .i64 y.f1.f2, .int .i64 y.f1.f3, .int .i64 y.f1.f4, .int .i64 y.f2.f0, .int .i64 y.f2.f1, .int .i64 y.f2.f2, .int .i64 y.f2.f3, .slice Aq y.f2.f4.length cq, .int .i64 y.f3, .int .i64 y.f4]] (by rfl) rfl rfl (by (try simp only [List.map_toArray, List.map_cons, List.map_nil]); first | done | rfl) ?_
                          refine (ahead_b _ _ _ _ _ _ _ _ _ _ _ _ _ _ _ _ _ _ _ _ _ _ _ _ _ _ _ true A1.out).mono ?_
                          rintro e wq ⟨rfl, hb⟩
                          have hHeld2 := hHeld
                          obtain ⟨t0, t1, t2, t3, t4, t5, t6, t7, t8, t9, t10, t11, t12, t13, t14, t15, t16, t17, t18, t19, t20, t21, t22, t23, t24, t25, t26, t27, t28, t29, t30, t31, t32, t33, t34, t35, t36, t37, t38⟩ := hHeld2
                          have HS0_ := pw_cell_below hb t0
                          have HS1_ := pw_cell_below hb t1
                          have HS2_ := pw_cell_below hb t2
                          have HS3_ := pw_cell_below hb t3
                          have HS4_ := pw_cell_below hb t4
                          have HS5_ := pw_cell_below hb t5
                          have HS6_ := pw_cell_below hb t6
                          have HS7_ := pw_cell_below hb t7
                          have HS8_ := pw_cell_below hb t8
                          have HS9_ := pw_cell_below hb t9
                          have HS10_ := pw_cell_below hb t10
                          have HS11_ := pw_cell_below hb t11
                          have HS12_ := pw_cell_below hb t12
                          have HS13_ := pw_cell_below hb t13
                          have HS14_ := pw_cell_below hb t14
                          have HS15_ := pw_cell_below hb t15
                          have HS16_ := pw_cell_below hb t16
                          have HS17_ := pw_cell_below hb t17
                          have HS18_ := pw_cell_below hb t18
                          have HS19_ := pw_cell_below hb t19
                          have HS20_ := pw_cell_below hb t20
                          have HS21_ := pw_cell_below hb t21
                          have HS22_ := pw_cell_below hb t22
                          have HS23_ := pw_cell_below hb t23
                          have HS24_ := pw_cell_below hb t24
                          have HS25_ := pw_cell_below hb t25
                          have HS26_ := pw_cell_below hb t26
                          have HS27_ := pw_cell_below hb t27
                          have HS28_ := pw_cell_below hb t28
                          have HS29_ := pw_cell_below hb t29
                          have HS30_ := pw_cell_below hb t30
                          have HS31_ := pw_cell_below hb t31
                          have HS32_ := pw_cell_below hb t32
                          have HS33_ := pw_cell_below hb t33
                          have HS34_ := pw_cell_below hb t34
                          have HS35_ := pw_cell_below hb t35
                          have HS36_ := pw_cell_below hb t36
                          have HS37_ := pw_cell_below hb t37
                          have HS38_ := pw_cell_below hb t38
                          have TW1 := Aside0.mk (TWD.out.below hb)
                          clear hb
                          refine ⟨_, rfl, ?_⟩
                          refine hK.out _ _ ⟨HS0_, HS1_, HS2_, HS3_, HS4_, HS5_, HS6_, HS7_, HS8_, HS9_, HS10_, HS11_, HS12_, HS13_, HS14_, HS15_, HS16_, HS17_, HS18_, HS19_, HS20_, HS21_, HS22_, HS23_, HS24_, HS25_, HS26_, HS27_, HS28_, HS29_, HS30_, HS31_, HS32_, HS33_, HS34_, HS35_, HS36_, HS37_, HS38_⟩ (fun hHeld => ?_)
                          clear hK K
                          refine norm_ (a' := ?_) ?_ ?_
                          rotate_left
                          · show Act.put _ (some 128) _ = _
                            simp only [Act.put, List.setIfInBounds_toArray, List.set_cons_zero, List.set_cons_succ]
                            rfl
                          refine pure_ (i := 9) (N := some 129) (v := ?_) (a' := ?_) #[true, true, true, true, true, true, true, true, true, true, false, false, false, false, false, false, false, false, false, false, false, false, false, false, false, false, false, false, false, false, false, false] rfl rfl (any_of HT_.out (by kernel_rfl)) (fun _ _ _ h => h) (Or.inl ⟨by rfl, ?_⟩) ?_ ?_
                          rotate_left
                          · intro w'
                            go_simp
                            with_reducible rfl
                          rotate_left
                          · simp only [Act.put, List.setIfInBounds_toArray, List.set_cons_zero, List.set_cons_succ]
                            rfl
                          refine pure_ (i := 10) (N := some 130) (v := ?_) (a' := ?_) #[true, true, true, true, true, true, true, true, true, true, true, false, false, false, false, false, false, false, false, false, false, false, false, false, false, false, false, false, false, false, false, false] rfl rfl (any_of HT_.out (by kernel_rfl)) (fun _ _ _ h => h) (Or.inl ⟨by rfl, ?_⟩) ?_ ?_
                          rotate_left
                          · intro w'
                            go_simp
                            with_reducible rfl
                          rotate_left
                          · simp only [Act.put, List.setIfInBounds_toArray, List.set_cons_zero, List.set_cons_succ]
                            rfl
                          refine pure_ (i := 11) (N := some 131) (v := ?_) (a' := ?_) #[true, true, true, true, true, true, true, true, true, true, true, true, false, false, false, false, false, false, false, false, false, false, false, false, false, false, false, false, false, false, false, false] rfl rfl (any_of HT_.out (by kernel_rfl)) (fun _ _ _ h => h) (Or.inl ⟨by rfl, ?_⟩) ?_ ?_
                          rotate_left
                          · intro w'
                            go_simp
                            with_reducible rfl
                          rotate_left
                          · simp only [Act.put, List.setIfInBounds_toArray, List.set_cons_zero, List.set_cons_succ]
                            rfl
                          refine pure_ (i := 12) (N := some 132) (v := ?_) (a' := ?_) #[true, true, true, true, true, true, true, true, true, true, true, true, true, false, false, false, false, false, false, false, false, false, false, false, false, false, false, false, false, false, false, false] rfl rfl (any_of HT_.out (by kernel_rfl)) (fun _ _ _ h => h) (Or.inl ⟨by rfl, ?_⟩) ?_ ?_
                          rotate_left
                          · intro w'
                            go_simp
                            with_reducible rfl
                          rotate_left
                          · simp only [Act.put, List.setIfInBounds_toArray, List.set_cons_zero, List.set_cons_succ]
                            rfl
                          refine take_ (i := 13) (N := some 133) (v := ?_) (a' := ?_) #[true, true, true, true, true, true, true, true, true, true, true, true, true, true, false, false, false, false, false, false, false, false, false, false, false, false, false, false, false, false, false, false] rfl rfl (take_ofW HT_.out HW_.out (by kernel_rfl)) (fun _ _ _ h => h) (Or.inl ⟨by rfl, ?_⟩) hHeld ?_ ?_
                          rotate_left
                          · rintro w' ⟨s0, s1, s2, s3, s4, s5, s6, s7, s8, s9, s10, s11, s12, s13, s14, s15, s16, s17, s18, s19, s20, s21, s22, s23, s24, s25, s26, s27, s28, s29, s30, s31, s32, s33, s34, s35, s36, s37, s38⟩
                            go_simp
                            with_reducible rfl
                          rotate_left
                          · simp only [Act.put, List.setIfInBounds_toArray, List.set_cons_zero, List.set_cons_succ]
                            rfl
                          refine pure_ (i := 14) (N := some 134) (v := ?_) (a' := ?_) #[true, true, true, true, true, true, true, true, true, true, true, true, true, true, true, false, false, false, false, false, false, false, false, false, false, false, false, false, false, false, false, false] rfl rfl (any_of HT_.out (by kernel_rfl)) (fun _ _ _ h => h) (Or.inl ⟨by rfl, ?_⟩) ?_ ?_
                          rotate_left
                          · intro w'
                            go_simp
                            with_reducible rfl
                          rotate_left
                          · simp only [Act.put, List.setIfInBounds_toArray, List.set_cons_zero, List.set_cons_succ]
                            rfl
                          refine pure_ (i := 15) (N := some 135) (v := ?_) (a' := ?_) #[true, true, true, true, true, true, true, true, true, true, true, true, true, true, true, true, false, false, false, false, false, false, false, false, false, false, false, false, false, false, false, false] rfl rfl (any_of HT_.out (by kernel_rfl)) (fun _ _ _ h => h) (Or.inl ⟨by rfl, ?_⟩) ?_ ?_
                          rotate_left
                          · intro w'
                            go_simp
                            with_reducible rfl
                          rotate_left
                          · simp only [Act.put, List.setIfInBounds_toArray, List.set_cons_zero, List.set_cons_succ]
                            rfl
                          refine pure_ (i := 16) (N := some 136) (v := ?_) (a' := ?_) #[true, true, true, true, true, true, true, true, true, true, true, true, true, true, true, true, true, false, false, false, false, false, false, false, false, false, false, false, false, false, false, false] rfl rfl (any_of HT_.out (by kernel_rfl)) (fun _ _ _ h => h) (Or.inl ⟨by rfl, ?_⟩) ?_ ?_
                          rotate_left
                          · intro w'
                            go_simp
                            with_reducible rfl
                          rotate_left
                          · simp only [Act.put, List.setIfInBounds_toArray, List.set_cons_zero, List.set_cons_succ]
                            rfl
                          refine take_ (i := 17) (N := some 137) (v := ?_) (a' := ?_) #[true, true, true, true, true, true, true, true, true, true, true, true, true, true, true, true, true, true, false, false, false, false, false, false, false, false, false, false, false, false, false, false] rfl rfl (take_ofW HT_.out HW_.out (by kernel_rfl)) (fun _ _ _ h => h) (Or.inl ⟨by rfl, ?_⟩) hHeld ?_ ?_
                          rotate_left
                          · rintro w' ⟨s0, s1, s2, s3, s4, s5, s6, s7, s8, s9, s10, s11, s12, s13, s14, s15, s16, s17, s18, s19, s20, s21, s22, s23, s24, s25, s26, s27, s28, s29, s30, s31, s32, s33, s34, s35, s36, s37, s38⟩
                            go_simp
                            with_reducible rfl
                          rotate_left
                          · simp only [Act.put, List.setIfInBounds_toArray, List.set_cons_zero, List.set_cons_succ]
                            rfl
                          refine one_ (i := 18) (N := some 138) #[true, true, true, true, true, true, true, true, true, true, true, true, true, true, true, true, true, true, true, false, false, false, false, false, false, false, false, false, false, false, false, false] rfl rfl (one_of HT_.out (by kernel_rfl)) (by decide) (fun K hK => ?_)
                          refine goes_ Try.func17 (by kernel_rfl) rfl #[.agg #[.int .i64 y.f0, .int .i64 y.f1.f0, .int .i64 y.f1.f1, .int .i64 y.f1.f2, .int .i64 y.f1.f3, .int .i64 y.f1.f4, .int .i64 y.f2.f0, .int .i64 y.f2.f1, .int .i64 y.f2.f2, .int .i64 y.f2.f3, .slice Aq y.f2.f4.length cq, .int .i64 y.f3, .int .i64 y.f4], .agg #[.int .i64 x.f0, .int .i64 x.f1.f0, .int .i64 x.f1.f1, .int .i64 x.f1.f2, .int .i64 x.f1.f3, .int .i64 x.f1.f4, .int .i64 x.f2.f0, .int .i64 x.f2.f1, .int .i64 x.f2.f2, .int .i64 x.f2.f3, .slice Ap x.f2.f4.length cp, .int .i64 x.f3, .int .i64 x.f4]] (by rfl) rfl rfl (by (try simp only [List.map_toArray, List.map_cons, List.map_nil]); first | done | rfl) ?_
                          refine (ahead_b _ _ _ _ _ _ _ _ _ _ _ _ _ _ _ _ _ _ _ _ _ _ _ _ _ _ _ false A2.out).mono ?_
                          rintro e wq2 ⟨rfl, hb⟩
                          have hHeld2 := hHeld
                          obtain ⟨t0, t1, t2, t3, t4, t5, t6, t7, t8, t9, t10, t11, t12, t13, t14, t15, t16, t17, t18, t19, t20, t21, t22, t23, t24, t25, t26, t27, t28, t29, t30, t31, t32, t33, t34, t35, t36, t37, t38⟩ := hHeld2
                          have HS0_ := pw_cell_below hb t0
                          have HS1_ := pw_cell_below hb t1
                          have HS2_ := pw_cell_below hb t2
                          have HS3_ := pw_cell_below hb t3
                          have HS4_ := pw_cell_below hb t4
                          have HS5_ := pw_cell_below hb t5
                          have HS6_ := pw_cell_below hb t6
                          have HS7_ := pw_cell_below hb t7
                          have HS8_ := pw_cell_below hb t8
                          have HS9_ := pw_cell_below hb t9
                          have HS10_ := pw_cell_below hb t10
                          have HS11_ := pw_cell_below hb t11
                          have HS12_ := pw_cell_below hb t12
                          have HS13_ := pw_cell_below hb t13
                          have HS14_ := pw_cell_below hb t14
                          have HS15_ := pw_cell_below hb t15
                          have HS16_ := pw_cell_below hb t16
                          have HS17_ := pw_cell_below hb t17
                          have HS18_ := pw_cell_below hb t18
                          have HS19_ := pw_cell_below hb t19
                          have HS20_ := pw_cell_below hb t20
                          have HS21_ := pw_cell_below hb t21
                          have HS22_ := pw_cell_below hb t22
                          have HS23_ := pw_cell_below hb t23
                          have HS24_ := pw_cell_below hb t24
                          have HS25_ := pw_cell_below hb t25
                          have HS26_ := pw_cell_below hb t26
                          have HS27_ := pw_cell_below hb t27
                          have HS28_ := pw_cell_below hb t28
                          have HS29_ := pw_cell_below hb t29
                          have HS30_ := pw_cell_below hb t30
                          have HS31_ := pw_cell_below hb t31
                          have HS32_ := pw_cell_below hb t32
                          have HS33_ := pw_cell_below hb t33
                          have HS34_ := pw_cell_below hb t34
                          have HS35_ := pw_cell_below hb t35
                          have HS36_ := pw_cell_below hb t36
                          have HS37_ := pw_cell_below hb t37
                          have HS38_ := pw_cell_below hb t38
                          have TW2 := Aside0.mk (TW1.out.below hb)
                          clear hb
                          refine ⟨_, rfl, ?_⟩
                          refine hK.out _ _ ⟨HS0_, HS1_, HS2_, HS3_, HS4_, HS5_, HS6_, HS7_, HS8_, HS9_, HS10_, HS11_, HS12_, HS13_, HS14_, HS15_, HS16_, HS17_, HS18_, HS19_, HS20_, HS21_, HS22_, HS23_, HS24_, HS25_, HS26_, HS27_, HS28_, HS29_, HS30_, HS31_, HS32_, HS33_, HS34_, HS35_, HS36_, HS37_, HS38_⟩ (fun hHeld => ?_)
                          clear hK K
                          refine norm_ (a' := ?_) ?_ ?_
                          rotate_left
                          · show Act.put _ (some 138) _ = _
                            simp only [Act.put, List.setIfInBounds_toArray, List.set_cons_zero, List.set_cons_succ]
                            rfl
                          refine pure_ (i := 19) (N := some 139) (v := ?_) (a' := ?_) #[true, true, true, true, true, true, true, true, true, true, true, true, true, true, true, true, true, true, true, true, false, false, false, false, false, false, false, false, false, false, false, false] rfl rfl (any_of HT_.out (by kernel_rfl)) (fun _ _ _ h => h) (Or.inl ⟨by rfl, ?_⟩) ?_ ?_
                          rotate_left
                          · intro w'
                            go_simp
                            with_reducible rfl
                          rotate_left
                          · simp only [Act.put, List.setIfInBounds_toArray, List.set_cons_zero, List.set_cons_succ]
                            rfl
                          refine pure_ (i := 20) (N := some 140) (v := ?_) (a' := ?_) #[true, true, true, true, true, true, true, true, true, true, true, true, true, true, true, true, true, true, true, true, true, false, false, false, false, false, false, false, false, false, false, false] rfl rfl (any_of HT_.out (by kernel_rfl)) (fun _ _ _ h => h) (Or.inl ⟨by rfl, ?_⟩) ?_ ?_
                          rotate_left
                          · intro w'
                            go_simp
                            with_reducible rfl
                          rotate_left
                          · simp only [Act.put, List.setIfInBounds_toArray, List.set_cons_zero, List.set_cons_succ]
                            rfl
                          refine pure_ (i := 21) (N := some 141) (v := undef) (a' := ?_) #[true, true, true, true, true, true, true, true, true, true, true, true, true, true, true, true, true, true, true, true, true, true, false, false, false, false, false, false, false, false, false, false] rfl rfl (any_of HT_.out (by kernel_rfl)) (fun _ _ _ h => h) (Or.inr ⟨by rfl, rfl⟩) ?_ ?_
                          rotate_left
                          · simp only [Act.put, List.setIfInBounds_toArray, List.set_cons_zero, List.set_cons_succ]
                            rfl
                          refine pure_ (i := 22) (N := some 142) (v := undef) (a' := ?_) #[true, true, true, true, true, true, true, true, true, true, true, true, true, true, true, true, true, true, true, true, true, true, true, false, false, false, false, false, false, false, false, false] rfl rfl (any_of HT_.out (by kernel_rfl)) (fun _ _ _ h => h) (Or.inr ⟨by rfl, rfl⟩) ?_ ?_
                          rotate_left
                          · simp only [Act.put, List.setIfInBounds_toArray, List.set_cons_zero, List.set_cons_succ]
                            rfl
                          refine pure_ (i := 23) (N := some 143) (v := undef) (a' := ?_) #[true, true, true, true, true, true, true, true, true, true, true, true, true, true, true, true, true, true, true, true, true, true, true, true, false, false, false, false, false, false, false, false] rfl rfl (any_of HT_.out (by kernel_rfl)) (fun _ _ _ h => h) (Or.inr ⟨by rfl, rfl⟩) ?_ ?_
                          rotate_left
                          · simp only [Act.put, List.setIfInBounds_toArray, List.set_cons_zero, List.set_cons_succ]
                            rfl
                          refine pure_ (i := 24) (N := some 144) (v := undef) (a' := ?_) #[true, true, true, true, true, true, true, true, true, true, true, true, true, true, true, true, true, true, true, true, true, true, true, true, true, false, false, false, false, false, false, false] rfl rfl (any_of HT_.out (by kernel_rfl)) (fun _ _ _ h => h) (Or.inr ⟨by rfl, rfl⟩) ?_ ?_
                          rotate_left
                          · simp only [Act.put, List.setIfInBounds_toArray, List.set_cons_zero, List.set_cons_succ]
                            rfl
                          refine pure_ (i := 25) (N := some 145) (v := undef) (a' := ?_) #[true, true, true, true, true, true, true, true, true, true, true, true, true, true, true, true, true, true, true, true, true, true, true, true, true, true, false, false, false, false, false, false] rfl rfl (any_of HT_.out (by kernel_rfl)) (fun _ _ _ h => h) (Or.inr ⟨by rfl, rfl⟩) ?_ ?_
                          rotate_left
                          · simp only [Act.put, List.setIfInBounds_toArray, List.set_cons_zero, List.set_cons_succ]
                            rfl
                          refine pure_ (i := 26) (N := some 146) (v := undef) (a' := ?_) #[true, true, true, true, true, true, true, true, true, true, true, true, true, true, true, true, true, true, true, true, true, true, true, true, true, true, true, false, false, false, false, false] rfl rfl (any_of HT_.out (by kernel_rfl)) (fun _ _ _ h => h) (Or.inr ⟨by rfl, rfl⟩) ?_ ?_
                          rotate_left
                          · simp only [Act.put, List.setIfInBounds_toArray, List.set_cons_zero, List.set_cons_succ]
                            rfl
                          refine pure_ (i := 27) (N := some 147) (v := undef) (a' := ?_) #[true, true, true, true, true, true, true, true, true, true, true, true, true, true, true, true, true, true, true, true, true, true, true, true, true, true, true, true, false, false, false, false] rfl rfl (any_of HT_.out (by kernel_rfl)) (fun _ _ _ h => h) (Or.inr ⟨by rfl, rfl⟩) ?_ ?_
                          rotate_left
                          · simp only [Act.put, List.setIfInBounds_toArray, List.set_cons_zero, List.set_cons_succ]
                            rfl
                          refine pure_ (i := 28) (N := some 148) (v := undef) (a' := ?_) #[true, true, true, true, true, true, true, true, true, true, true, true, true, true, true, true, true, true, true, true, true, true, true, true, true, true, true, true, true, false, false, false] rfl rfl (any_of HT_.out (by kernel_rfl)) (fun _ _ _ h => h) (Or.inr ⟨by rfl, rfl⟩) ?_ ?_
                          rotate_left
                          · simp only [Act.put, List.setIfInBounds_toArray, List.set_cons_zero, List.set_cons_succ]
                            rfl
                          refine pure_ (i := 29) (N := some 149) (v := undef) (a' := ?_) #[true, true, true, true, true, true, true, true, true, true, true, true, true, true, true, true, true, true, true, true, true, true, true, true, true, true, true, true, true, true, false, false] rfl rfl (any_of HT_.out (by kernel_rfl)) (fun _ _ _ h => h) (Or.inr ⟨by rfl, rfl⟩) ?_ ?_
                          rotate_left
                          · simp only [Act.put, List.setIfInBounds_toArray, List.set_cons_zero, List.set_cons_succ]
                            rfl
                          refine pure_ (i := 30) (N := some 150) (v := undef) (a' := ?_) #[true, true, true, true, true, true, true, true, true, true, true, true, true, true, true, true, true, true, true, true, true, true, true, true, true, true, true, true, true, true, true, false] rfl rfl (any_of HT_.out (by kernel_rfl)) (fun _ _ _ h => h) (Or.inr ⟨by rfl, rfl⟩) ?_ ?_
                          rotate_left
                          · simp only [Act.put, List.setIfInBounds_toArray, List.set_cons_zero, List.set_cons_succ]
                            rfl
                          refine pure_ (i := 31) (N := some 151) (v := ?_) (a' := ?_) #[true, true, true, true, true, true, true, true, true, true, true, true, true, true, true, true, true, true, true, true, true, true, true, true, true, true, true, true, true, true, true, true] rfl rfl (any_of HT_.out (by kernel_rfl)) (fun _ _ _ h => h) (Or.inl ⟨by rfl, ?_⟩) ?_ ?_
                          rotate_left
                          · intro w'
                            go_simp
                            with_reducible rfl
                          rotate_left
                          · simp only [Act.put, List.setIfInBounds_toArray, List.set_cons_zero, List.set_cons_succ]
                            rfl
                          refine done_ (done_of HT_.out (by kernel_rfl)) ?_
                          go_wp2
                          go_roundg (k - (j + 1))
                          case measure => omega
                          case rel => exact ⟨j + 1, by go_num, by omega, TW2⟩
                        | true => as_aux_lemma =>
                          have a3 : (decide (0 ≤ u.f4) && decide (u.f4 < x.f3)) = true := by rw [Bool.and_eq_true, decide_eq_true_eq, decide_eq_true_eq] at a1 ⊢; omega
                          clear hb1
                          have A1 := Aside0.mk a1
                          clear a1
                          have A2 := Aside0.mk a2
                          clear a2
                          have A3 := Aside0.mk a3
                          clear a3
                          go_wp2_with fail
                          have TWD := Aside0.mk (TW.out.below (below_drew1 (Below.refl _ _)))
                          refine start_ (n := 32) (S := fun W' => W'.cell? (ad.add (j * 13)) = some (.int .i64 u.f0) ∧ W'.cell? ⟨(ad.add (j * 13)).block, (ad.add (j * 13)).off + 1, none⟩ = some (.int .i64 u.f1.f0) ∧ W'.cell? ⟨(ad.add (j * 13)).block, (ad.add (j * 13)).off + 2, none⟩ = some (.int .i64 u.f1.f1) ∧ W'.cell? ⟨(ad.add (j * 13)).block, (ad.add (j * 13)).off + 3, none⟩ = some (.int .i64 u.f1.f2) ∧ W'.cell? ⟨(ad.add (j * 13)).block, (ad.add (j * 13)).off + 4, none⟩ = some (.int .i64 u.f1.f3) ∧ W'.cell? ⟨(ad.add (j * 13)).block, (ad.add (j * 13)).off + 5, none⟩ = some (.int .i64 u.f1.f4) ∧ W'.cell? ⟨(ad.add (j * 13)).block, (ad.add (j * 13)).off + 6, none⟩ = some (.int .i64 u.f2.f0) ∧ W'.cell? ⟨(ad.add (j * 13)).block, (ad.add (j * 13)).off + 7, none⟩ = some (.int .i64 u.f2.f1) ∧ W'.cell? ⟨(ad.add (j * 13)).block, (ad.add (j * 13)).off + 8, none⟩ = some (.int .i64 u.f2.f2) ∧ W'.cell? ⟨(ad.add (j * 13)).block, (ad.add (j * 13)).off + 9, none⟩ = some (.int .i64 u.f2.f3) ∧ W'.cell? ⟨(ad.add (j * 13)).block, (ad.add (j * 13)).off + 10, none⟩ = some (.slice Az u.f2.f4.length cz) ∧ W'.cell? ⟨(ad.add (j * 13)).block, (ad.add (j * 13)).off + 11, none⟩ = some (.int .i64 u.f3) ∧ W'.cell? ⟨(ad.add (j * 13)).block, (ad.add (j * 13)).off + 12, none⟩ = some (.int .i64 u.f4) ∧ W'.cell? (ad.add (k * 13)) = some (.int .i64 y.f0) ∧ W'.cell? ⟨(ad.add (k * 13)).block, (ad.add (k * 13)).off + 1, none⟩ = some (.int .i64 y.f1.f0) ∧ W'.cell? ⟨(ad.add (k * 13)).block, (ad.add (k * 13)).off + 2, none⟩ = some (.int .i64 y.f1.f1) ∧ W'.cell? ⟨(ad.add (k * 13)).block, (ad.add (k * 13)).off + 3, none⟩ = some (.int .i64 y.f1.f2) ∧ W'.cell? ⟨(ad.add (k * 13)).block, (ad.add (k * 13)).off + 4, none⟩ = some (.int .i64 y.f1.f3) ∧ W'.cell? ⟨(ad.add (k * 13)).block, (ad.add (k * 13)).off + 5, none⟩ = some (.int .i64 y.f1.f4) ∧ W'.cell? ⟨(ad.add (k * 13)).block, (ad.add (k * 13)).off + 6, none⟩ = some (.int .i64 y.f2.f0) ∧ W'.cell? ⟨(ad.add (k * 13)).block, (ad.add (k * 13)).off + 7, none⟩ = some (.int .i64 y.f2.f1) ∧ W'.cell? ⟨(ad.add (k * 13)).block, (ad.add (k * 13)).off + 8, none⟩ = some (.int .i64 y.f2.f2) ∧ W'.cell? ⟨(ad.add (k * 13)).block, (ad.add (k * 13)).off + 9, none⟩ = some (.int .i64 y.f2.f3) ∧ W'.cell? ⟨(ad.add (k * 13)).block, (ad.add (k * 13)).off + 10, none⟩ = some (.slice Aq y.f2.f4.length cq) ∧ W'.cell? ⟨(ad.add (k * 13)).block, (ad.add (k * 13)).off + 11, none⟩ = some (.int .i64 y.f3) ∧ W'.cell? ⟨(ad.add (k * 13)).block, (ad.add (k * 13)).off + 12, none⟩ = some (.int .i64 y.f4) ∧ W'.cell? (ad.add (i * 13)) = some (.int .i64 x.f0) ∧ W'.cell? ⟨(ad.add (i * 13)).block, (ad.add (i * 13)).off + 1, none⟩ = some (.int .i64 x.f1.f0) ∧ W'.cell? ⟨(ad.add (i * 13)).block, (ad.add (i * 13)).off + 2, none⟩ = some (.int .i64 x.f1.f1) ∧ W'.cell? ⟨(ad.add (i * 13)).block, (ad.add (i * 13)).off + 3, none⟩ = some (.int .i64 x.f1.f2) ∧ W'.cell? ⟨(ad.add (i * 13)).block, (ad.add (i * 13)).off + 4, none⟩ = some (.int .i64 x.f1.f3) ∧ W'.cell? ⟨(ad.add (i * 13)).block, (ad.add (i * 13)).off + 5, none⟩ = some (.int .i64 x.f1.f4) ∧ W'.cell? ⟨(ad.add (i * 13)).block, (ad.add (i * 13)).off + 6, none⟩ = some (.int .i64 x.f2.f0) ∧ W'.cell? ⟨(ad.add (i * 13)).block, (ad.add (i * 13)).off + 7, none⟩ = some (.int .i64 x.f2.f1) ∧ W'.cell? ⟨(ad.add (i * 13)).block, (ad.add (i * 13)).off + 8, none⟩ = some (.int .i64 x.f2.f2) ∧ W'.cell? ⟨(ad.add (i * 13)).block, (ad.add (i * 13)).off + 9, none⟩ = some (.int .i64 x.f2.f3) ∧ W'.cell? ⟨(ad.add (i * 13)).block, (ad.add (i * 13)).off + 10, none⟩ = some (.slice Ap x.f2.f4.length cp) ∧ W'.cell? ⟨(ad.add (i * 13)).block, (ad.add (i * 13)).off + 11, none⟩ = some (.int .i64 x.f3) ∧ W'.cell? ⟨(ad.add (i * 13)).block, (ad.add (i * 13)).off + 12, none⟩ = some (.int .i64 x.f4)) (ds := []) #[false, false, false, false, false, false, false, false, false, false, false, false, false, false, false, false, false, false, false, false, false, false, false, false, false, false, false, false, false, false, false, false] (by kernel_rfl) rfl rfl ⟨z0, z1, z2, z3, z4, z5, z6, z7, z8, z9, z10, z11, z12, q0, q1, q2, q3, q4, q5, q6, q7, q8, q9, q10, q11, q12, p0, p1, p2, p3, p4, p5, p6, p7, p8, p9, p10, p11, p12⟩ (fun hHeld => ?_); refine with_tabW law_tab25 law_bits25 (fun HT_ HW_ => ?_)
                          generalize wr.drew = wd_ at z0 z1 z2 z3 z4 z5 z6 z7 z8 z9 z10 z11 z12 q0 q1 q2 q3 q4 q5 q6 q7 q8 q9 q10 q11 q12 p0 p1 p2 p3 p4 p5 p6 p7 p8 p9 p10 p11 p12 TWD hHeld ⊢
                          refine pure_ (i := 0) (N := some 120) (v := ?_) (a' := ?_) #[true, false, false, false, false, false, false, false, false, false, false, false, false, false, false, false, false, false, false, false, false, false, false, false, false, false, false, false, false, false, false, false] rfl rfl (any_of HT_.out (by kernel_rfl)) (fun _ _ _ h => h) (Or.inl ⟨by rfl, ?_⟩) ?_ ?_
                          rotate_left
                          · intro w'
                            go_simp
                            with_reducible rfl
                          rotate_left
                          · simp only [Act.put, List.setIfInBounds_toArray, List.set_cons_zero, List.set_cons_succ]
                            rfl
                          refine pure_ (i := 1) (N := some 121) (v := ?_) (a' := ?_) #[true, true, false, false, false, false, false, false, false, false, false, false, false, false, false, false, false, false, false, false, false, false, false, false, false, false, false, false, false, false, false, false] rfl rfl (any_of HT_.out (by kernel_rfl)) (fun _ _ _ h => h) (Or.inl ⟨by rfl, ?_⟩) ?_ ?_
                          rotate_left
                          · intro w'
                            go_simp
                            with_reducible rfl
                          rotate_left
                          · simp only [Act.put, List.setIfInBounds_toArray, List.set_cons_zero, List.set_cons_succ]
                            rfl
                          refine pure_ (i := 2) (N := some 122) (v := ?_) (a' := ?_) #[true, true, true, false, false, false, false, false, false, false, false, false, false, false, false, false, false, false, false, false, false, false, false, false, false, false, false, false, false, false, false, false] rfl rfl (any_of HT_.out (by kernel_rfl)) (fun _ _ _ h => h) (Or.inl ⟨by rfl, ?_⟩) ?_ ?_
                          rotate_left
                          · intro w'
                            go_simp
                            with_reducible rfl
                          rotate_left
                          · simp only [Act.put, List.setIfInBounds_toArray, List.set_cons_zero, List.set_cons_succ]
                            rfl
                          refine take_ (i := 3) (N := some 123) (v := ?_) (a' := ?_) #[true, true, true, true, false, false, false, false, false, false, false, false, false, false, false, false, false, false, false, false, false, false, false, false, false, false, false, false, false, false, false, false] rfl rfl (take_ofW HT_.out HW_.out (by kernel_rfl)) (fun _ _ _ h => h) (Or.inl ⟨by rfl, ?_⟩) hHeld ?_ ?_
                          rotate_left
                          · rintro w' ⟨s0, s1, s2, s3, s4, s5, s6, s7, s8, s9, s10, s11, s12, s13, s14, s15, s16, s17, s18, s19, s20, s21, s22, s23, s24, s25, s26, s27, s28, s29, s30, s31, s32, s33, s34, s35, s36, s37, s38⟩
                            go_simp
                            with_reducible rfl
                          rotate_left
                          · simp only [Act.put, List.setIfInBounds_toArray, List.set_cons_zero, List.set_cons_succ]
                            rfl
                          refine pure_ (i := 4) (N := some 124) (v := ?_) (a' := ?_) #[true, true, true, true, true, false, false, false, false, false, false, false, false, false, false, false, false, false, false, false, false, false, false, false, false, false, false, false, false, false, false, false] rfl rfl (any_of HT_.out (by kernel_rfl)) (fun _ _ _ h => h) (Or.inl ⟨by rfl, ?_⟩) ?_ ?_
                          rotate_left
                          · intro w'
                            go_simp
                            with_reducible rfl
                          rotate_left
                          · simp only [Act.put, List.setIfInBounds_toArray, List.set_cons_zero, List.set_cons_succ]
                            rfl
                          refine pure_ (i := 5) (N := some 125) (v := ?_) (a' := ?_) #[true, true, true, true, true, true, false, false, false, false, false, false, false, false, false, false, false, false, false, false, false, false, false, false, false, false, false, false, false, false, false, false] rfl rfl (any_of HT_.out (by kernel_rfl)) (fun _ _ _ h => h) (Or.inl ⟨by rfl, ?_⟩) ?_ ?_
                          rotate_left
                          · intro w'
                            go_simp
                            with_reducible rfl
                          rotate_left
                          · simp only [Act.put, List.setIfInBounds_toArray, List.set_cons_zero, List.set_cons_succ]
                            rfl
                          refine pure_ (i := 6) (N := some 126) (v := ?_) (a' := ?_) #[true, true, true, true, true, true, true, false, false, false, false, false, false, false, false, false, false, false, false, false, false, false, false, false, false, false, false, false, false, false, false, false] rfl rfl (any_of HT_.out (by kernel_rfl)) (fun _ _ _ h => h) (Or.inl ⟨by rfl, ?_⟩) ?_ ?_
                          rotate_left
                          · intro w'
                            go_simp
                            with_reducible rfl
                          rotate_left
                          · simp only [Act.put, List.setIfInBounds_toArray, List.set_cons_zero, List.set_cons_succ]
                            rfl
                          refine take_ (i := 7) (N := some 127) (v := ?_) (a' := ?_) #[true, true, true, true, true, true, true, true, false, false, false, false, false, false, false, false, false, false, false, false, false, false, false, false, false, false, false, false, false, false, false, false] rfl rfl (take_ofW HT_.out HW_.out (by kernel_rfl)) (fun _ _ _ h => h) (Or.inl ⟨by rfl, ?_⟩) hHeld ?_ ?_
                          rotate_left
                          · rintro w' ⟨s0, s1, s2, s3, s4, s5, s6, s7, s8, s9, s10, s11, s12, s13, s14, s15, s16, s17, s18, s19, s20, s21, s22, s23, s24, s25, s26, s27, s28, s29, s30, s31, s32, s33, s34, s35, s36, s37, s38⟩
                            go_simp
                            with_reducible rfl
                          rotate_left
                          · simp only [Act.put, List.setIfInBounds_toArray, List.set_cons_zero, List.set_cons_succ]
                            rfl
                          refine one_ (i := 8) (N := some 128) #[true, true, true, true, true, true, true, true, true, false, false, false, false, false, false, false, false, false, false, false, false, false, false, false, false, false, false, false, false, false, false, false] rfl rfl (one_of HT_.out (by kernel_rfl)) (by decide) (fun K hK => ?_)
                          refine goes_ Try.func17 (by kernel_rfl) rfl #[.agg #[.int .i64 u.f0, .int .i64 u.f1.f0, .int .i64 u.f1.f1, .int .i64 u.f1.f2, .int .i64 u.f1.f3, .int .i64 u.f1.f4, .int .i64 u.f2.f0, .int .i64 u.f2.f1, .int .i64 u.f2.f2, .int .i64 u.f2.f3, .slice Az u.f2.f4.length cz, .int .i64 u.f3, .int .i64 u.f4], .agg #[.int .i64 y.f0, .int .i64 y.f1.f0, .int .i64 y.f1.f1, .int .i64 y.f1.f2, .int .i64 y.f1.f3, .int .i64 y.f1.f4, .int .i64 y.f2.f0, .int .i64 y.f2.f1, .int .i64 y.f2.f2, .int .i64 y.f2.f3, .slice Aq y.f2.f4.length cq, .int .i64 y.f3, .int .i64 y.f4]] (by rfl) rfl rfl (by (try simp only [List.map_toArray, List.map_cons, List.map_nil]); first | done | rfl) ?_
                          refine (ahead_b _ _ _ _ _ _ _ _ _ _ _ _ _ _ _ _ _ _ _ _ _ _ _ _ _ _ _ true A1.out).mono ?_
                          rintro e wq ⟨rfl, hb⟩
                          have hHeld2 := hHeld
                          obtain ⟨t0, t1, t2, t3, t4, t5, t6, t7, t8, t9, t10, t11, t12, t13, t14, t15, t16, t17, t18, t19, t20, t21, t22, t23, t24, t25, t26, t27, t28, t29, t30, t31, t32, t33, t34, t35, t36, t37, t38⟩ := hHeld2
                          have HS0_ := pw_cell_below hb t0
                          have HS1_ := pw_cell_below hb t1
                          have HS2_ := pw_cell_below hb t2
                          have HS3_ := pw_cell_below hb t3
                          have HS4_ := pw_cell_below hb t4
                          have HS5_ := pw_cell_below hb t5
                          have HS6_ := pw_cell_below hb t6
                          have HS7_ := pw_cell_below hb t7
                          have HS8_ := pw_cell_below hb t8
                          have HS9_ := pw_cell_below hb t9
                          have HS10_ := pw_cell_below hb t10
                          have HS11_ := pw_cell_below hb t11
                          have HS12_ := pw_cell_below hb t12
                          have HS13_ := pw_cell_below hb t13
                          have HS14_ := pw_cell_below hb t14
                          have HS15_ := pw_cell_below hb t15
                          have HS16_ := pw_cell_below hb t16
                          have HS17_ := pw_cell_below hb t17
                          have HS18_ := pw_cell_below hb t18
                          have HS19_ := pw_cell_below hb t19
                          have HS20_ := pw_cell_below hb t20
                          have HS21_ := pw_cell_below hb t21
                          have HS22_ := pw_cell_below hb t22
                          have HS23_ := pw_cell_below hb t23
                          have HS24_ := pw_cell_below hb t24
                          have HS25_ := pw_cell_below hb t25
                          have HS26_ := pw_cell_below hb t26
                          have HS27_ := pw_cell_below hb t27
                          have HS28_ := pw_cell_below hb t28
                          have HS29_ := pw_cell_below hb t29
                          have HS30_ := pw_cell_below hb t30
                          have HS31_ := pw_cell_below hb t31
                          have HS32_ := pw_cell_below hb t32
                          have HS33_ := pw_cell_below hb t33
                          have HS34_ := pw_cell_below hb t34
                          have HS35_ := pw_cell_below hb t35
                          have HS36_ := pw_cell_below hb t36
                          have HS37_ := pw_cell_below hb t37
                          have HS38_ := pw_cell_below hb t38
                          have TW1 := Aside0.mk (TWD.out.below hb)
                          clear hb
                          refine ⟨_, rfl, ?_⟩
                          refine hK.out _ _ ⟨HS0_, HS1_, HS2_, HS3_, HS4_, HS5_, HS6_, HS7_, HS8_, HS9_, HS10_, HS11_, HS12_, HS13_, HS14_, HS15_, HS16_, HS17_, HS18_, HS19_, HS20_, HS21_, HS22_, HS23_, HS24_, HS25_, HS26_, HS27_, HS28_, HS29_, HS30_, HS31_, HS32_, HS33_, HS34_, HS35_, HS36_, HS37_, HS38_⟩ (fun hHeld => ?_)
                          clear hK K
                          refine norm_ (a' := ?_) ?_ ?_
                          rotate_left
                          · show Act.put _ (some 128) _ = _
                            simp only [Act.put, List.setIfInBounds_toArray, List.set_cons_zero, List.set_cons_succ]
                            rfl
                          refine pure_ (i := 9) (N := some 129) (v := ?_) (a' := ?_) #[true, true, true, true, true, true, true, true, true, true, false, false, false, false, false, false, false, false, false, false, false, false, false, false, false, false, false, false, false, false, false, false] rfl rfl (any_of HT_.out (by kernel_rfl)) (fun _ _ _ h => h) (Or.inl ⟨by rfl, ?_⟩) ?_ ?_
                          rotate_left
                          · intro w'
                            go_simp
                            with_reducible rfl
                          rotate_left
                          · simp only [Act.put, List.setIfInBounds_toArray, List.set_cons_zero, List.set_cons_succ]
                            rfl
                          refine pure_ (i := 10) (N := some 130) (v := ?_) (a' := ?_) #[true, true, true, true, true, true, true, true, true, true, true, false, false, false, false, false, false, false, false, false, false, false, false, false, false, false, false, false, false, false, false, false] rfl rfl (any_of HT_.out (by kernel_rfl)) (fun _ _ _ h => h) (Or.inl ⟨by rfl, ?_⟩) ?_ ?_
                          rotate_left
                          · intro w'
                            go_simp
                            with_reducible rfl
                          rotate_left
                          · simp only [Act.put, List.setIfInBounds_toArray, List.set_cons_zero, List.set_cons_succ]
                            rfl
                          refine pure_ (i := 11) (N := some 131) (v := ?_) (a' := ?_) #[true, true, true, true, true, true, true, true, true, true, true, true, false, false, false, false, false, false, false, false, false, false, false, false, false, false, false, false, false, false, false, false] rfl rfl (any_of HT_.out (by kernel_rfl)) (fun _ _ _ h => h) (Or.inl ⟨by rfl, ?_⟩) ?_ ?_
                          rotate_left
                          · intro w'
                            go_simp
                            with_reducible rfl
                          rotate_left
                          · simp only [Act.put, List.setIfInBounds_toArray, List.set_cons_zero, List.set_cons_succ]
                            rfl
                          refine pure_ (i := 12) (N := some 132) (v := ?_) (a' := ?_) #[true, true, true, true, true, true, true, true, true, true, true, true, true, false, false, false, false, false, false, false, false, false, false, false, false, false, false, false, false, false, false, false] rfl rfl (any_of HT_.out (by kernel_rfl)) (fun _ _ _ h => h) (Or.inl ⟨by rfl, ?_⟩) ?_ ?_
                          rotate_left
                          · intro w'
                            go_simp
                            with_reducible rfl
                          rotate_left
                          · simp only [Act.put, List.setIfInBounds_toArray, List.set_cons_zero, List.set_cons_succ]
                            rfl
                          refine take_ (i := 13) (N := some 133) (v := ?_) (a' := ?_) #[true, true, true, true, true, true, true, true, true, true, true, true, true, true, false, false, false, false, false, false, false, false, false, false, false, false, false, false, false, false, false, false] rfl rfl (take_ofW HT_.out HW_.out (by kernel_rfl)) (fun _ _ _ h => h) (Or.inl ⟨by rfl, ?_⟩) hHeld ?_ ?_
                          rotate_left
                          · rintro w' ⟨s0, s1, s2, s3, s4, s5, s6, s7, s8, s9, s10, s11, s12, s13, s14, s15, s16, s17, s18, s19, s20, s21, s22, s23, s24, s25, s26, s27, s28, s29, s30, s31, s32, s33, s34, s35, s36, s37, s38⟩
                            go_simp
                            with_reducible rfl
                          rotate_left
                          · simp only [Act.put, List.setIfInBounds_toArray, List.set_cons_zero, List.set_cons_succ]
                            rfl
                          refine pure_ (i := 14) (N := some 134) (v := ?_) (a' := ?_) #[true, true, true, true, true, true, true, true, true, true, true, true, true, true, true, false, false, false, false, false, false, false, false, false, false, false, false, false, false, false, false, false] rfl rfl (any_of HT_.out (by kernel_rfl)) (fun _ _ _ h => h) (Or.inl ⟨by rfl, ?_⟩) ?_ ?_
                          rotate_left
                          · intro w'
                            go_simp
                            with_reducible rfl
                          rotate_left
                          · simp only [Act.put, List.setIfInBounds_toArray, List.set_cons_zero, List.set_cons_succ]
                            rfl
                          refine pure_ (i := 15) (N := some 135) (v := ?_) (a' := ?_) #[true, true, true, true, true, true, true, true, true, true, true, true, true, true, true, true, false, false, false, false, false, false, false, false, false, false, false, false, false, false, false, false] rfl rfl (any_of HT_.out (by kernel_rfl)) (fun _ _ _ h => h) (Or.inl ⟨by rfl, ?_⟩) ?_ ?_
                          rotate_left
                          · intro w'
                            go_simp
                            with_reducible rfl
                          rotate_left
                          · simp only [Act.put, List.setIfInBounds_toArray, List.set_cons_zero, List.set_cons_succ]
                            rfl
                          refine pure_ (i := 16) (N := some 136) (v := ?_) (a' := ?_) #[true, true, true, true, true, true, true, true, true, true, true, true, true, true, true, true, true, false, false, false, false, false, false, false, false, false, false, false, false, false, false, false] rfl rfl (any_of HT_.out (by kernel_rfl)) (fun _ _ _ h => h) (Or.inl ⟨by rfl, ?_⟩) ?_ ?_
                          rotate_left
                          · intro w'
                            go_simp
                            with_reducible rfl
                          rotate_left
                          · simp only [Act.put, List.setIfInBounds_toArray, List.set_cons_zero, List.set_cons_succ]
                            rfl
                          refine take_ (i := 17) (N := some 137) (v := ?_) (a' := ?_) #[true, true, true, true, true, true, true, true, true, true, true, true, true, true, true, true, true, true, false, false, false, false, false, false, false, false, false, false, false, false, false, false] rfl rfl (take_ofW HT_.out HW_.out (by kernel_rfl)) (fun _ _ _ h => h) (Or.inl ⟨by rfl, ?_⟩) hHeld ?_ ?_
                          rotate_left
                          · rintro w' ⟨s0, s1, s2, s3, s4, s5, s6, s7, s8, s9, s10, s11, s12, s13, s14, s15, s16, s17, s18, s19, s20, s21, s22, s23, s24, s25, s26, s27, s28, s29, s30, s31, s32, s33, s34, s35, s36, s37, s38⟩
                            go_simp
                            with_reducible rfl
                          rotate_left
                          · simp only [Act.put, List.setIfInBounds_toArray, List.set_cons_zero, List.set_cons_succ]
                            rfl
                          refine one_ (i := 18) (N := some 138) #[true, true, true, true, true, true, true, true, true, true, true, true, true, true, true, true, true, true, true, false, false, false, false, false, false, false, false, false, false, false, false, false] rfl rfl (one_of HT_.out (by kernel_rfl)) (by decide) (fun K hK => ?_)
                          refine goes_ Try.func17 (by kernel_rfl) rfl #[.agg #[.int .i64 y.f0, .int .i64 y.f1.f0, .int .i64 y.f1.f1, .int .i64 y.f1.f2, .int .i64 y.f1.f3, .int .i64 y.f1.f4, .int .i64 y.f2.f0, .int .i64 y.f2.f1, .int .i64 y.f2.f2, .int .i64 y.f2.f3, .slice Aq y.f2.f4.length cq, .int .i64 y.f3, .int .i64 y.f4], .agg #[.int .i64 x.f0, .int .i64 x.f1.f0, .int .i64 x.f1.f1, .int .i64 x.f1.f2, .int .i64 x.f1.f3, .int .i64 x.f1.f4, .int .i64 x.f2.f0, .int .i64 x.f2.f1, .int .i64 x.f2.f2, .int .i64 x.f2.f3, .slice Ap x.f2.f4.length cp, .int .i64 x.f3, .int .i64 x.f4]] (by rfl) rfl rfl (by (try simp only [List.map_toArray, List.map_cons, List.map_nil]); first | done | rfl) ?_
                          refine (ahead_b _ _ _ _ _ _ _ _ _ _ _ _ _ _ _ _ _ _ _ _ _ _ _ _ _ _ _ true A2.out).mono ?_
                          rintro e wq2 ⟨rfl, hb⟩
                          have hHeld2 := hHeld
                          obtain ⟨t0, t1, t2, t3, t4, t5, t6, t7, t8, t9, t10, t11, t12, t13, t14, t15, t16, t17, t18, t19, t20, t21, t22, t23, t24, t25, t26, t27, t28, t29, t30, t31, t32, t33, t34, t35, t36, t37, t38⟩ := hHeld2
                          have HS0_ := pw_cell_below hb t0
                          have HS1_ := pw_cell_below hb t1
                          have HS2_ := pw_cell_below hb t2
                          have HS3_ := pw_cell_below hb t3
                          have HS4_ := pw_cell_below hb t4
                          have HS5_ := pw_cell_below hb t5
                          have HS6_ := pw_cell_below hb t6
                          have HS7_ := pw_cell_below hb t7
                          have HS8_ := pw_cell_below hb t8
                          have HS9_ := pw_cell_below hb t9
                          have HS10_ := pw_cell_below hb t10
                          have HS11_ := pw_cell_below hb t11
                          have HS12_ := pw_cell_below hb t12
                          have HS13_ := pw_cell_below hb t13
                          have HS14_ := pw_cell_below hb t14
                          have HS15_ := pw_cell_below hb t15
                          have HS16_ := pw_cell_below hb t16
                          have HS17_ := pw_cell_below hb t17
                          have HS18_ := pw_cell_below hb t18
                          have HS19_ := pw_cell_below hb t19
                          have HS20_ := pw_cell_below hb t20
                          have HS21_ := pw_cell_below hb t21
                          have HS22_ := pw_cell_below hb t22
                          have HS23_ := pw_cell_below hb t23
                          have HS24_ := pw_cell_below hb t24
                          have HS25_ := pw_cell_below hb t25
                          have HS26_ := pw_cell_below hb t26
                          have HS27_ := pw_cell_below hb t27
                          have HS28_ := pw_cell_below hb t28
                          have HS29_ := pw_cell_below hb t29
                          have HS30_ := pw_cell_below hb t30
                          have HS31_ := pw_cell_below hb t31
                          have HS32_ := pw_cell_below hb t32
                          have HS33_ := pw_cell_below hb t33
                          have HS34_ := pw_cell_below hb t34
                          have HS35_ := pw_cell_below hb t35
                          have HS36_ := pw_cell_below hb t36
                          have HS37_ := pw_cell_below hb t37
                          have HS38_ := pw_cell_below hb t38
                          have TW3 := Aside0.mk (TW1.out.below hb)
                          clear hb
                          refine ⟨_, rfl, ?_⟩
                          refine hK.out _ _ ⟨HS0_, HS1_, HS2_, HS3_, HS4_, HS5_, HS6_, HS7_, HS8_, HS9_, HS10_, HS11_, HS12_, HS13_, HS14_, HS15_, HS16_, HS17_, HS18_, HS19_, HS20_, HS21_, HS22_, HS23_, HS24_, HS25_, HS26_, HS27_, HS28_, HS29_, HS30_, HS31_, HS32_, HS33_, HS34_, HS35_, HS36_, HS37_, HS38_⟩ (fun hHeld => ?_)
                          clear hK K
                          refine norm_ (a' := ?_) ?_ ?_
                          rotate_left
                          · show Act.put _ (some 138) _ = _
                            simp only [Act.put, List.setIfInBounds_toArray, List.set_cons_zero, List.set_cons_succ]
                            rfl
                          refine pure_ (i := 19) (N := some 139) (v := ?_) (a' := ?_) #[true, true, true, true, true, true, true, true, true, true, true, true, true, true, true, true, true, true, true, true, false, false, false, false, false, false, false, false, false, false, false, false] rfl rfl (any_of HT_.out (by kernel_rfl)) (fun _ _ _ h => h) (Or.inl ⟨by rfl, ?_⟩) ?_ ?_
                          rotate_left
                          · intro w'
                            go_simp
                            with_reducible rfl
                          rotate_left
                          · simp only [Act.put, List.setIfInBounds_toArray, List.set_cons_zero, List.set_cons_succ]
                            rfl
                          refine pure_ (i := 20) (N := some 140) (v := ?_) (a' := ?_) #[true, true, true, true, true, true, true, true, true, true, true, true, true, true, true, true, true, true, true, true, true, false, false, false, false, false, false, false, false, false, false, false] rfl rfl (any_of HT_.out (by kernel_rfl)) (fun _ _ _ h => h) (Or.inl ⟨by rfl, ?_⟩) ?_ ?_
                          rotate_left
                          · intro w'
                            go_simp
                            with_reducible rfl
                          rotate_left
                          · simp only [Act.put, List.setIfInBounds_toArray, List.set_cons_zero, List.set_cons_succ]
                            rfl
                          refine pure_ (i := 21) (N := some 141) (v := ?_) (a' := ?_) #[true, true, true, true, true, true, true, true, true, true, true, true, true, true, true, true, true, true, true, true, true, true, false, false, false, false, false, false, false, false, false, false] rfl rfl (any_of HT_.out (by kernel_rfl)) (fun _ _ _ h => h) (Or.inl ⟨by rfl, ?_⟩) ?_ ?_
                          rotate_left
                          · intro w'
                            go_simp
                            with_reducible rfl
                          rotate_left
                          · simp only [Act.put, List.setIfInBounds_toArray, List.set_cons_zero, List.set_cons_succ]
                            rfl
                          refine pure_ (i := 22) (N := some 142) (v := ?_) (a' := ?_) #[true, true, true, true, true, true, true, true, true, true, true, true, true, true, true, true, true, true, true, true, true, true, true, false, false, false, false, false, false, false, false, false] rfl rfl (any_of HT_.out (by kernel_rfl)) (fun _ _ _ h => h) (Or.inl ⟨by rfl, ?_⟩) ?_ ?_
                          rotate_left
                          · intro w'
                            go_simp
                            with_reducible rfl
                          rotate_left
                          · simp only [Act.put, List.setIfInBounds_toArray, List.set_cons_zero, List.set_cons_succ]
                            rfl
                          refine pure_ (i := 23) (N := some 143) (v := ?_) (a' := ?_) #[true, true, true, true, true, true, true, true, true, true, true, true, true, true, true, true, true, true, true, true, true, true, true, true, false, false, false, false, false, false, false, false] rfl rfl (any_of HT_.out (by kernel_rfl)) (fun _ _ _ h => h) (Or.inl ⟨by rfl, ?_⟩) ?_ ?_
                          rotate_left
                          · intro w'
                            go_simp
                            with_reducible rfl
                          rotate_left
                          · simp only [Act.put, List.setIfInBounds_toArray, List.set_cons_zero, List.set_cons_succ]
                            rfl
                          refine take_ (i := 24) (N := some 144) (v := ?_) (a' := ?_) #[true, true, true, true, true, true, true, true, true, true, true, true, true, true, true, true, true, true, true, true, true, true, true, true, true, false, false, false, false, false, false, false] rfl rfl (take_ofW HT_.out HW_.out (by kernel_rfl)) (fun _ _ _ h => h) (Or.inl ⟨by rfl, ?_⟩) hHeld ?_ ?_
                          rotate_left
                          · rintro w' ⟨s0, s1, s2, s3, s4, s5, s6, s7, s8, s9, s10, s11, s12, s13, s14, s15, s16, s17, s18, s19, s20, s21, s22, s23, s24, s25, s26, s27, s28, s29, s30, s31, s32, s33, s34, s35, s36, s37, s38⟩
                            go_simp
                            with_reducible rfl
                          rotate_left
                          · simp only [Act.put, List.setIfInBounds_toArray, List.set_cons_zero, List.set_cons_succ]
                            rfl
                          refine pure_ (i := 25) (N := some 145) (v := ?_) (a' := ?_) #[true, true, true, true, true, true, true, true, true, true, true, true, true, true, true, true, true, true, true, true, true, true, true, true, true, true, false, false, false, false, false, false] rfl rfl (any_of HT_.out (by kernel_rfl)) (fun _ _ _ h => h) (Or.inl ⟨by rfl, ?_⟩) ?_ ?_
                          rotate_left
                          · intro w'
                            go_simp
                            with_reducible rfl
                          rotate_left
                          · simp only [Act.put, List.setIfInBounds_toArray, List.set_cons_zero, List.set_cons_succ]
                            rfl
                          refine pure_ (i := 26) (N := some 146) (v := ?_) (a' := ?_) #[true, true, true, true, true, true, true, true, true, true, true, true, true, true, true, true, true, true, true, true, true, true, true, true, true, true, true, false, false, false, false, false] rfl rfl (any_of HT_.out (by kernel_rfl)) (fun _ _ _ h => h) (Or.inl ⟨by rfl, ?_⟩) ?_ ?_
                          rotate_left
                          · intro w'
                            go_simp
                            with_reducible rfl
                          rotate_left
                          · simp only [Act.put, List.setIfInBounds_toArray, List.set_cons_zero, List.set_cons_succ]
                            rfl
                          refine pure_ (i := 27) (N := some 147) (v := ?_) (a' := ?_) #[true, true, true, true, true, true, true, true, true, true, true, true, true, true, true, true, true, true, true, true, true, true, true, true, true, true, true, true, false, false, false, false] rfl rfl (any_of HT_.out (by kernel_rfl)) (fun _ _ _ h => h) (Or.inl ⟨by rfl, ?_⟩) ?_ ?_
                          rotate_left
                          · intro w'
                            go_simp
                            with_reducible rfl
                          rotate_left
                          · simp only [Act.put, List.setIfInBounds_toArray, List.set_cons_zero, List.set_cons_succ]
                            rfl
                          refine take_ (i := 28) (N := some 148) (v := ?_) (a' := ?_) #[true, true, true, true, true, true, true, true, true, true, true, true, true, true, true, true, true, true, true, true, true, true, true, true, true, true, true, true, true, false, false, false] rfl rfl (take_ofW HT_.out HW_.out (by kernel_rfl)) (fun _ _ _ h => h) (Or.inl ⟨by rfl, ?_⟩) hHeld ?_ ?_
                          rotate_left
                          · rintro w' ⟨s0, s1, s2, s3, s4, s5, s6, s7, s8, s9, s10, s11, s12, s13, s14, s15, s16, s17, s18, s19, s20, s21, s22, s23, s24, s25, s26, s27, s28, s29, s30, s31, s32, s33, s34, s35, s36, s37, s38⟩
                            go_simp
                            with_reducible rfl
                          rotate_left
                          · simp only [Act.put, List.setIfInBounds_toArray, List.set_cons_zero, List.set_cons_succ]
                            rfl
                          refine one_ (i := 29) (N := some 149) #[true, true, true, true, true, true, true, true, true, true, true, true, true, true, true, true, true, true, true, true, true, true, true, true, true, true, true, true, true, true, false, false] rfl rfl (one_of HT_.out (by kernel_rfl)) (by decide) (fun K hK => ?_)
                          refine goes_ Try.func17 (by kernel_rfl) rfl #[.agg #[.int .i64 u.f0, .int .i64 u.f1.f0, .int .i64 u.f1.f1, .int .i64 u.f1.f2, .int .i64 u.f1.f3, .int .i64 u.f1.f4, .int .i64 u.f2.f0, .int .i64 u.f2.f1, .int .i64 u.f2.f2, .int .i64 u.f2.f3, .slice Az u.f2.f4.length cz, .int .i64 u.f3, .int .i64 u.f4], .agg #[.int .i64 x.f0, .int .i64 x.f1.f0, .int .i64 x.f1.f1, .int .i64 x.f1.f2, .int .i64 x.f1.f3, .int .i64 x.f1.f4, .int .i64 x.f2.f0, .int .i64 x.f2.f1, .int .i64 x.f2.f2, .int .i64 x.f2.f3, .slice Ap x.f2.f4.length cp, .int .i64 x.f3, .int .i64 x.f4]] (by rfl) rfl rfl (by (try simp only [List.map_toArray, List.map_cons, List.map_nil]); first | done | rfl) ?_
                          refine (ahead_b _ _ _ _ _ _ _ _ _ _ _ _ _ _ _ _ _ _ _ _ _ _ _ _ _ _ _ true A3.out).mono ?_
                          rintro e wq3 ⟨rfl, hb⟩
                          have hHeld2 := hHeld
                          obtain ⟨t0, t1, t2, t3, t4, t5, t6, t7, t8, t9, t10, t11, t12, t13, t14, t15, t16, t17, t18, t19, t20, t21, t22, t23, t24, t25, t26, t27, t28, t29, t30, t31, t32, t33, t34, t35, t36, t37, t38⟩ := hHeld2
                          have HS0_ := pw_cell_below hb t0
                          have HS1_ := pw_cell_below hb t1
                          have HS2_ := pw_cell_below hb t2
                          have HS3_ := pw_cell_below hb t3
                          have HS4_ := pw_cell_below hb t4
                          have HS5_ := pw_cell_below hb t5
                          have HS6_ := pw_cell_below hb t6
                          have HS7_ := pw_cell_below hb t7
                          have HS8_ := pw_cell_below hb t8
                          have HS9_ := pw_cell_below hb t9
                          have HS10_ := pw_cell_below hb t10
                          have HS11_ := pw_cell_below hb t11
                          have HS12_ := pw_cell_below hb t12
                          have HS13_ := pw_cell_below hb t13
                          have HS14_ := pw_cell_below hb t14
                          have HS15_ := pw_cell_below hb t15
                          have HS16_ := pw_cell_below hb t16
                          have HS17_ := pw_cell_below hb t17
                          have HS18_ := pw_cell_below hb t18
                          have HS19_ := pw_cell_below hb t19
                          have HS20_ := pw_cell_below hb t20
                          have HS21_ := pw_cell_below hb t21
                          have HS22_ := pw_cell_below hb t22
                          have HS23_ := pw_cell_below hb t23
                          have HS24_ := pw_cell_below hb t24
                          have HS25_ := pw_cell_below hb t25
                          have HS26_ := pw_cell_below hb t26
                          have HS27_ := pw_cell_below hb t27
                          have HS28_ := pw_cell_below hb t28
                          have HS29_ := pw_cell_below hb t29
                          have HS30_ := pw_cell_below hb t30
                          have HS31_ := pw_cell_below hb t31
                          have HS32_ := pw_cell_below hb t32
                          have HS33_ := pw_cell_below hb t33
                          have HS34_ := pw_cell_below hb t34
                          have HS35_ := pw_cell_below hb t35
                          have HS36_ := pw_cell_below hb t36
                          have HS37_ := pw_cell_below hb t37
                          have HS38_ := pw_cell_below hb t38
                          have TW2 := Aside0.mk (TW3.out.below hb)
                          clear hb
                          refine ⟨_, rfl, ?_⟩
                          refine hK.out _ _ ⟨HS0_, HS1_, HS2_, HS3_, HS4_, HS5_, HS6_, HS7_, HS8_, HS9_, HS10_, HS11_, HS12_, HS13_, HS14_, HS15_, HS16_, HS17_, HS18_, HS19_, HS20_, HS21_, HS22_, HS23_, HS24_, HS25_, HS26_, HS27_, HS28_, HS29_, HS30_, HS31_, HS32_, HS33_, HS34_, HS35_, HS36_, HS37_, HS38_⟩ (fun hHeld => ?_)
                          clear hK K
                          refine norm_ (a' := ?_) ?_ ?_
                          rotate_left
                          · show Act.put _ (some 149) _ = _
                            simp only [Act.put, List.setIfInBounds_toArray, List.set_cons_zero, List.set_cons_succ]
                            rfl
                          refine pure_ (i := 30) (N := some 150) (v := ?_) (a' := ?_) #[true, true, true, true, true, true, true, true, true, true, true, true, true, true, true, true, true, true, true, true, true, true, true, true, true, true, true, true, true, true, true, false] rfl rfl (any_of HT_.out (by kernel_rfl)) (fun _ _ _ h => h) (Or.inl ⟨by rfl, ?_⟩) ?_ ?_
                          rotate_left
                          · intro w'
                            go_simp
                            with_reducible rfl
                          rotate_left
                          · simp only [Act.put, List.setIfInBounds_toArray, List.set_cons_zero, List.set_cons_succ]
                            rfl
                          refine pure_ (i := 31) (N := some 151) (v := ?_) (a' := ?_) #[true, true, true, true, true, true, true, true, true, true, true, true, true, true, true, true, true, true, true, true, true, true, true, true, true, true, true, true, true, true, true, true] rfl rfl (any_of HT_.out (by kernel_rfl)) (fun _ _ _ h => h) (Or.inl ⟨by rfl, ?_⟩) ?_ ?_
                          rotate_left
                          · intro w'
                            go_simp
                            with_reducible rfl
                          rotate_left
                          · simp only [Act.put, List.setIfInBounds_toArray, List.set_cons_zero, List.set_cons_succ]
                            rfl
                          refine done_ (done_of HT_.out (by kernel_rfl)) ?_
                          go_wp2
                          go_roundg (k - (j + 1))
                          case measure => omega
                          case rel => exact ⟨j + 1, by go_num, by omega, TW2⟩
                    · have qj : (j : Int) < (k : Int) := by omega
                      have q30 : ¬ (i : Int) < 30 := by omega
                      clear hj
                      go_wp2
                      go_roundg (i - (k + 1))
                      case measure => omega
                      case rel => exact ⟨k + 1, by go_num, by omega, TW⟩
                  · have qj : ¬ (j : Int) < (k : Int) := by omega
                    clear hj
                    go_wp2
                    go_roundg (i - (k + 1))
                    case measure => omega
                    case rel => exact ⟨k + 1, by go_num, by omega, TW⟩
            · have qk : ¬ (k : Int) < (i : Int) := by omega
              clear hk
              go_wp2
              go_roundg (xs.length - (i + 1))
              case measure => omega
              case rel => exact ⟨i + 1, by go_num, by omega, TW⟩
        · have qi : ¬ (i : Int) < (xs.length : Int) := by omega
          clear hi hlt
          go_wp2_with fail
          refine (lives_calls _).mono ?_
          rintro e w4 ⟨rfl, hb⟩
          have HB := Aside0.mk (below_then TW.out.1 TW.out.1.size hb)
          clear hb
          go_wp2
          all_goals go_ret
          all_goals exact ⟨rfl, HB.out⟩
theorem walk (l : List Ev) (A : Option Addr) (c : Nat) (w : World) {p0 : Prop} (_ : p0) (hr : Kd.C k33 w A l.length l) (hc : l.length ≤ c) :
    Calls Try.prog 3 #[.slice A l.length c] w fun e w' => e = .returned (.bool true) ∧ Below w.heap.size w w' := by
  obtain ⟨k, b, hg, hb⟩ := great_some l
  cases b with
  | true => exact walk_lives l A c w hr hc true (.inl rfl) k hg
  | false =>
    cases hm : mayF l with
    | false => exact walk_lives l A c w hr hc false (.inr ⟨hb rfl, hm⟩) k hg
    | true => exact walk_in l A c w hr hc (hb rfl) hm k hg
end Go.Proofs.Ytacajonkkfmibaa.HistLawO
