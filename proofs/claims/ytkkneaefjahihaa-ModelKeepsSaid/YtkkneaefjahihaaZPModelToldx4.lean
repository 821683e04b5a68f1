-- Printed by a program of this session (mkprint.py) out of the translation; Lean checks it.
import Derived.Test.YtkkneaefjahihaaZPModelToldx2
import Derived.Test.YtkkneaefjahihaaZPModelToldx1
import Derived.Test.YtkkneaefjahihaaZModW
import Derived.Test.YtkkneaefjahihaaZPModelToldx0
import Derived.Test.YtkkneaefjahihaaZPModelToldx3
namespace Go.Proofs.Ytkkneaefjahihaa.PModelTold
open Go.RowKit Go.Proofs.YtkkneaefjahihaaW.PrintWords Go.Proofs.YtkkneaefjahihaaW.PrintLast Go.Proofs.YtkkneaefjahihaaW.PrintMore
attribute [local go_sem] max2_int min2_int max_two min_two max_three min_three max_four min_four   -- for this text's walks alone
set_option linter.unusedVariables false
set_option linter.unusedSimpArgs false

/-! ### model_State_own: function 24 : a hand text -/
def model_State_own.f (k : Nat) (l0_0 : List (S49)) (l0_1 : List (S62)) (a1 : Int) (a2_0 : Int) (a2_1 : Int) (a2_2 : Int) (a2_3 : Int) (a2_4 : Int) : Option ((List (S49)) × (List (S62)) × Int × Int × Int × Int × (List (S49))) := if 0 ≤ a1 then (if a1 < (l0_1.length : Int) then (if a2_0 = 13 then ((model_State_with.f l0_0 l0_1 a1 true false ([] : List (S49)) 0).bind fun bt135 => (some (bt135.1, bt135.2, 0, 0, 0, 0, ([] : List (S49))))) else (if a2_0 = 14 then ((model_State_with.f l0_0 l0_1 a1 false false ([] : List (S49)) 0).bind fun bt141 => (some (bt141.1, bt141.2, 0, 0, 0, 0, ([] : List (S49))))) else (if a2_0 = 9 then ((pairs_Cut.f k l0_0 a2_1 a2_3 1073741824).bind fun t147 => ((model_State_with.f l0_0 l0_1 a1 true true t147 0).bind fun bt150 => (some (bt150.1, bt150.2, 0, 0, 0, 0, ([] : List (S49)))))) else (if a2_0 = 10 then ((model_at.f ((rd_T62 l0_1 a1).f2) ((rd_T62 l0_1 a1).f3)).bind fun bt156 => ((model_pair.f bt156.1 bt156.2.1 bt156.2.2).bind fun bt160 => (if bt156.2.2 = true then ((model_State_with.f l0_0 l0_1 a1 ((rd_T62 l0_1 a1).f0) ((rd_T62 l0_1 a1).f1) ((rd_T62 l0_1 a1).f2) (wrap64 (((rd_T62 l0_1 a1).f3) + 1))).bind fun bt167 => (some (bt167.1, bt167.2, bt160.1, bt160.2.1, bt160.2.2.1, bt160.2.2.2.1, bt160.2.2.2.2))) else ((model_State_with.f l0_0 l0_1 a1 ((rd_T62 l0_1 a1).f0) ((rd_T62 l0_1 a1).f1) ((rd_T62 l0_1 a1).f2) ((rd_T62 l0_1 a1).f3)).bind fun bt173 => (some (bt173.1, bt173.2, bt160.1, bt160.2.1, bt160.2.2.1, bt160.2.2.2.1, bt160.2.2.2.2)))))) else (if a2_0 = 11 then ((pairs_Find.f k ((rd_T62 l0_1 a1).f2) a2_1).bind fun bt179 => ((model_State_with.f l0_0 l0_1 a1 ((rd_T62 l0_1 a1).f0) ((rd_T62 l0_1 a1).f1) ((rd_T62 l0_1 a1).f2) bt179.1).bind fun bt181 => (some (bt181.1, bt181.2, 0, 0, 0, 0, ([] : List (S49)))))) else (if a2_0 = 12 then ((model_State_with.f l0_0 l0_1 a1 true false ([] : List (S49)) 0).bind fun bt187 => (some (bt187.1, bt187.2, 0, 0, 0, 0, ([] : List (S49))))) else ((model_State_with.f l0_0 l0_1 a1 ((rd_T62 l0_1 a1).f0) ((rd_T62 l0_1 a1).f1) ((rd_T62 l0_1 a1).f2) ((rd_T62 l0_1 a1).f3)).bind fun bt193 => (some (bt193.1, bt193.2, 0, 0, 0, 0, ([] : List (S49))))))))))) else (none)) else (none)
theorem model_State_own.mono : ∀ a0 a1 a2 a3 a4 a5 a6 a7 k, LeO (model_State_own.f k a0 a1 a2 a3 a4 a5 a6 a7) (model_State_own.f (k + 1) a0 a1 a2 a3 a4 a5 a6 a7) := by
  intro a0 a1 a2 a3 a4 a5 a6 a7 k
  unfold model_State_own.f
  repeat' first
      | (with_reducible exact pairs_Cut.mono _ _ _ _ _)
      | (with_reducible exact pairs_Find.mono _ _ _)
      | (with_reducible exact LeO.refl _)
      | (with_reducible exact LeO.none _)
      | (with_reducible refine LeO.ite ?_ ?_)
      | (with_reducible refine LeO.bind ?_ (fun _ => ?_))
      | exact pairs_Cut.mono _ _ _ _ _
      | exact pairs_Find.mono _ _ _
      | exact LeO.none _
      | refine LeO.ite ?_ ?_
      | refine LeO.bind ?_ (fun _ => ?_)
namespace OwnWalk
open Go.Proofs.Ytkkneaefjahihaa.ModRec Go.Proofs.Ytkkneaefjahihaa.GRow
theorem at_new {w : World} (o : Obj) : (w.alloc o).heap[w.heap.size]? = some o := heap_alloc_new w o
/-- Six blocks, one behind the other. -/
theorem six (w : World) (o0 o1 o2 o3 o4 o5 : Obj) : (((((w.alloc o0).alloc o1).alloc o2).alloc o3).alloc o4).alloc o5 = ((((((w.alloc o0).alloc o1).alloc o2).alloc o3).alloc o4).alloc o5) ∧
    ((((((w.alloc o0).alloc o1).alloc o2).alloc o3).alloc o4).alloc o5).heap[w.heap.size]? = some o0 ∧ ((((((w.alloc o0).alloc o1).alloc o2).alloc o3).alloc o4).alloc o5).heap[w.heap.size + 1]? = some o1 ∧ ((((((w.alloc o0).alloc o1).alloc o2).alloc o3).alloc o4).alloc o5).heap[w.heap.size + 1 + 1]? = some o2 ∧
    ((((((w.alloc o0).alloc o1).alloc o2).alloc o3).alloc o4).alloc o5).heap[w.heap.size + 1 + 1 + 1]? = some o3 ∧ ((((((w.alloc o0).alloc o1).alloc o2).alloc o3).alloc o4).alloc o5).heap[w.heap.size + 1 + 1 + 1 + 1]? = some o4 ∧ ((((((w.alloc o0).alloc o1).alloc o2).alloc o3).alloc o4).alloc o5).heap[w.heap.size + 1 + 1 + 1 + 1 + 1]? = some o5 := by
  have e1 := at_new (w := w.alloc o0) o1
  have e2 := at_new (w := (w.alloc o0).alloc o1) o2
  have e3 := at_new (w := ((w.alloc o0).alloc o1).alloc o2) o3
  have e4 := at_new (w := (((w.alloc o0).alloc o1).alloc o2).alloc o3) o4
  have e5 := at_new (w := ((((w.alloc o0).alloc o1).alloc o2).alloc o3).alloc o4) o5
  simp only [World.size_alloc] at e1 e2 e3 e4 e5
  exact ⟨rfl, Below.heap_alloc _ _ _ (by first | (simp; done) | (simp; omega)) |>.trans <| (Below.heap_alloc _ _ _ (by first | (simp; done) | (simp; omega))).trans <| (Below.heap_alloc _ _ _ (by first | (simp; done) | (simp; omega))).trans <| (Below.heap_alloc _ _ _ (by first | (simp; done) | (simp; omega))).trans <| (Below.heap_alloc _ _ _ (by first | (simp; done) | (simp; omega))).trans (at_new o0),
    (Below.heap_alloc _ _ _ (by first | (simp; done) | (simp; omega))).trans <| (Below.heap_alloc _ _ _ (by first | (simp; done) | (simp; omega))).trans <| (Below.heap_alloc _ _ _ (by first | (simp; done) | (simp; omega))).trans <| (Below.heap_alloc _ _ _ (by first | (simp; done) | (simp; omega))).trans e1,
    (Below.heap_alloc _ _ _ (by first | (simp; done) | (simp; omega))).trans <| (Below.heap_alloc _ _ _ (by first | (simp; done) | (simp; omega))).trans <| (Below.heap_alloc _ _ _ (by first | (simp; done) | (simp; omega))).trans e2,
    (Below.heap_alloc _ _ _ (by first | (simp; done) | (simp; omega))).trans <| (Below.heap_alloc _ _ _ (by first | (simp; done) | (simp; omega))).trans e3,
    (Below.heap_alloc _ _ _ (by first | (simp; done) | (simp; omega))).trans e4, e5⟩
/-- What stands ahead of the end: the boxes. -/
structure Mid (w W : World) (s c z6 z7 x a : Array Value) : Prop where
  s : W.heap[w.heap.size]? = some (.cells s 27 (0, 0))
  c : W.heap[w.heap.size + 1]? = some (.cells c 38 (0, 0))
  r6 : W.heap[(w.heap.size + 1 + 1)]? = some (.cells z6 27 (0, 0))
  r7 : W.heap[(w.heap.size + 1 + 1 + 1)]? = some (.cells z7 34 (0, 0))
  x : W.heap[(w.heap.size + 1 + 1 + 1 + 1)]? = some (.cells x 62 (0, 0))
  a : W.heap[(w.heap.size + 1 + 1 + 1 + 1 + 1)]? = some (.cells a 34 (0, 0))
  b : Below w.heap.size w W
def zz6 : Array Value := #[.slice none 0 0, .slice none 0 0]
def zz7 : Array Value := #[.int .i64 0, .int .i64 0, .int .i64 0, .int .i64 0, .slice none 0 0]
theorem Mid.size {w W : World} {s c z6 z7 x a : Array Value} (h : Mid w W s c z6 z7 x a) : w.heap.size + 6 ≤ W.heap.size := by
  have := (Array.getElem?_eq_some_iff.1 h.a).1
  omega
theorem Mid.below {W' : World} {w W : World} {s c z6 z7 x a : Array Value} (h : Mid w W s c z6 z7 x a) (hb : Below W.heap.size W W') : Mid w W' s c z6 z7 x a :=
  ⟨blk_below h.s hb, blk_below h.c hb, blk_below h.r6 hb, blk_below h.r7 hb, blk_below h.x hb, blk_below h.a hb, below_then h.b h.b.size hb⟩
theorem Mid.start (w : World) (s c x a : Array Value) : Mid w ((((((w.alloc (.cells s 27 (0, 0))).alloc (.cells c 38 (0, 0))).alloc (.cells #[.slice none 0 0, .slice none 0 0] 27 (0, 0))).alloc (.cells #[.int .i64 0, .int .i64 0, .int .i64 0, .int .i64 0, .slice none 0 0] 34 (0, 0))).alloc (.cells x 62 (0, 0))).alloc (.cells a 34 (0, 0))) s c zz6 zz7 x a := by
  obtain ⟨_, h0, h1, h2, h3, h4, h5⟩ := six w (.cells s 27 (0, 0)) (.cells c 38 (0, 0)) (.cells #[.slice none 0 0, .slice none 0 0] 27 (0, 0)) (.cells #[.int .i64 0, .int .i64 0, .int .i64 0, .int .i64 0, .slice none 0 0] 34 (0, 0)) (.cells x 62 (0, 0)) (.cells a 34 (0, 0))
  exact ⟨h0, h1, h2, h3, h4, h5, below_alloc (below_alloc (below_alloc (below_alloc (below_alloc (below_alloc (Below.refl w.heap.size w) _) _) _) _) _) _⟩
theorem Mid.setx {w W : World} {s c z6 z7 x a : Array Value} (h : Mid w W s c z6 z7 x a) (i : Nat) (u : Value) {y' : Array Value} (e : x.setIfInBounds i u = y') : Mid w (W.setCell ⟨(w.heap.size + 1 + 1 + 1 + 1), i, none⟩ u) s c z6 z7 y' a :=
  ⟨(Below.heap_setCell W _ u _ (by show w.heap.size ≠ (w.heap.size + 1 + 1 + 1 + 1); omega)).trans h.s, (Below.heap_setCell W _ u _ (by show w.heap.size + 1 ≠ (w.heap.size + 1 + 1 + 1 + 1); omega)).trans h.c, (Below.heap_setCell W _ u _ (by show (w.heap.size + 1 + 1) ≠ (w.heap.size + 1 + 1 + 1 + 1); omega)).trans h.r6, (Below.heap_setCell W _ u _ (by show (w.heap.size + 1 + 1 + 1) ≠ (w.heap.size + 1 + 1 + 1 + 1); omega)).trans h.r7, blk_put h.x i u e, (Below.heap_setCell W _ u _ (by show (w.heap.size + 1 + 1 + 1 + 1 + 1) ≠ (w.heap.size + 1 + 1 + 1 + 1); omega)).trans h.a, h.b.setCell (p := ⟨(w.heap.size + 1 + 1 + 1 + 1), i, none⟩) (by show w.heap.size ≤ (w.heap.size + 1 + 1 + 1 + 1); omega) u⟩
theorem Mid.seta {w W : World} {s c z6 z7 x a : Array Value} (h : Mid w W s c z6 z7 x a) (i : Nat) (u : Value) {y' : Array Value} (e : a.setIfInBounds i u = y') : Mid w (W.setCell ⟨(w.heap.size + 1 + 1 + 1 + 1 + 1), i, none⟩ u) s c z6 z7 x y' :=
  ⟨(Below.heap_setCell W _ u _ (by show w.heap.size ≠ (w.heap.size + 1 + 1 + 1 + 1 + 1); omega)).trans h.s, (Below.heap_setCell W _ u _ (by show w.heap.size + 1 ≠ (w.heap.size + 1 + 1 + 1 + 1 + 1); omega)).trans h.c, (Below.heap_setCell W _ u _ (by show (w.heap.size + 1 + 1) ≠ (w.heap.size + 1 + 1 + 1 + 1 + 1); omega)).trans h.r6, (Below.heap_setCell W _ u _ (by show (w.heap.size + 1 + 1 + 1) ≠ (w.heap.size + 1 + 1 + 1 + 1 + 1); omega)).trans h.r7, (Below.heap_setCell W _ u _ (by show (w.heap.size + 1 + 1 + 1 + 1) ≠ (w.heap.size + 1 + 1 + 1 + 1 + 1); omega)).trans h.x, blk_put h.a i u e, h.b.setCell (p := ⟨(w.heap.size + 1 + 1 + 1 + 1 + 1), i, none⟩) (by show w.heap.size ≤ (w.heap.size + 1 + 1 + 1 + 1 + 1); omega) u⟩
theorem Mid.set6 {w W : World} {s c z6 z7 x a : Array Value} (h : Mid w W s c z6 z7 x a) (i : Nat) (u : Value) {y' : Array Value} (e : z6.setIfInBounds i u = y') : Mid w (W.setCell ⟨(w.heap.size + 1 + 1), i, none⟩ u) s c y' z7 x a :=
  ⟨(Below.heap_setCell W _ u _ (by show w.heap.size ≠ (w.heap.size + 1 + 1); omega)).trans h.s, (Below.heap_setCell W _ u _ (by show w.heap.size + 1 ≠ (w.heap.size + 1 + 1); omega)).trans h.c, blk_put h.r6 i u e, (Below.heap_setCell W _ u _ (by show (w.heap.size + 1 + 1 + 1) ≠ (w.heap.size + 1 + 1); omega)).trans h.r7, (Below.heap_setCell W _ u _ (by show (w.heap.size + 1 + 1 + 1 + 1) ≠ (w.heap.size + 1 + 1); omega)).trans h.x, (Below.heap_setCell W _ u _ (by show (w.heap.size + 1 + 1 + 1 + 1 + 1) ≠ (w.heap.size + 1 + 1); omega)).trans h.a, h.b.setCell (p := ⟨(w.heap.size + 1 + 1), i, none⟩) (by show w.heap.size ≤ (w.heap.size + 1 + 1); omega) u⟩
theorem Mid.set7 {w W : World} {s c z6 z7 x a : Array Value} (h : Mid w W s c z6 z7 x a) (i : Nat) (u : Value) {y' : Array Value} (e : z7.setIfInBounds i u = y') : Mid w (W.setCell ⟨(w.heap.size + 1 + 1 + 1), i, none⟩ u) s c z6 y' x a :=
  ⟨(Below.heap_setCell W _ u _ (by show w.heap.size ≠ (w.heap.size + 1 + 1 + 1); omega)).trans h.s, (Below.heap_setCell W _ u _ (by show w.heap.size + 1 ≠ (w.heap.size + 1 + 1 + 1); omega)).trans h.c, (Below.heap_setCell W _ u _ (by show (w.heap.size + 1 + 1) ≠ (w.heap.size + 1 + 1 + 1); omega)).trans h.r6, blk_put h.r7 i u e, (Below.heap_setCell W _ u _ (by show (w.heap.size + 1 + 1 + 1 + 1) ≠ (w.heap.size + 1 + 1 + 1); omega)).trans h.x, (Below.heap_setCell W _ u _ (by show (w.heap.size + 1 + 1 + 1 + 1 + 1) ≠ (w.heap.size + 1 + 1 + 1); omega)).trans h.a, h.b.setCell (p := ⟨(w.heap.size + 1 + 1 + 1), i, none⟩) (by show w.heap.size ≤ (w.heap.size + 1 + 1 + 1); omega) u⟩
theorem Mid.drew {w W : World} {s c z6 z7 x a : Array Value} (h : Mid w W s c z6 z7 x a) : Mid w W.drew s c z6 z7 x a := ⟨h.s, h.c, h.r6, h.r7, h.x, h.a, below_drew1 h.b⟩
theorem mid_gen {P : Program} {cd : Code} {Q : Exit → Act → World → Prop} {ac : Act} {w W : World} {s c z6 z7 x a : Array Value} (h : Mid w W s c z6 z7 x a) (k : ∀ wr, Mid w wr s c z6 z7 x a → cd.wp P Q ac wr) : cd.wp P Q ac W := k W h
/-- All but the boxes of the results is as it was. -/
def Off (w W W' : World) : Prop := ∀ k, k ≠ w.heap.size + 1 + 1 → k ≠ w.heap.size + 1 + 1 + 1 → W'.heap[k]? = W.heap[k]?
theorem Off.refl (w W : World) : Off w W W := fun _ _ _ => rfl
theorem Off.s6 {w W W' : World} (h : Off w W W') (i : Nat) (u : Value) : Off w W (W'.setCell ⟨w.heap.size + 1 + 1, i, none⟩ u) := fun k h1 h2 => (Below.heap_setCell W' ⟨w.heap.size + 1 + 1, i, none⟩ u k h1).trans (h k h1 h2)
theorem Off.s7 {w W W' : World} (h : Off w W W') (i : Nat) (u : Value) : Off w W (W'.setCell ⟨w.heap.size + 1 + 1 + 1, i, none⟩ u) := fun k h1 h2 => (Below.heap_setCell W' ⟨w.heap.size + 1 + 1 + 1, i, none⟩ u k h2).trans (h k h1 h2)
theorem fin67 {R : Exit → Act → World → Prop} {e : Exit} {act : Act} {w W : World} {s cc x a : Array Value} {u0 u1 y0 y1 y2 y3 y4 : Value} (M : Mid w W s cc zz6 zz7 x a) (k : ∀ Wf, Mid w Wf s cc #[u0, u1] #[y0, y1, y2, y3, y4] x a → Off w W Wf → R e act Wf) :
    R e act (((((((W.setCell ⟨w.heap.size + 1 + 1, 0, none⟩ u0).setCell ⟨w.heap.size + 1 + 1, 1, none⟩ u1).setCell ⟨w.heap.size + 1 + 1 + 1, 0, none⟩ y0).setCell ⟨w.heap.size + 1 + 1 + 1, 1, none⟩ y1).setCell ⟨w.heap.size + 1 + 1 + 1, 2, none⟩ y2).setCell ⟨w.heap.size + 1 + 1 + 1, 3, none⟩ y3).setCell ⟨w.heap.size + 1 + 1 + 1, 4, none⟩ y4) :=
  k _ (((((((M.set6 0 u0 rfl).set6 1 u1 rfl).set7 0 y0 rfl).set7 1 y1 rfl).set7 2 y2 rfl).set7 3 y3 rfl).set7 4 y4 rfl) ((((((((Off.refl w W).s6 0 u0).s6 1 u1).s7 0 y0).s7 1 y1).s7 2 y2).s7 3 y3).s7 4 y4)
theorem fin76 {R : Exit → Act → World → Prop} {e : Exit} {act : Act} {w W : World} {s cc x a : Array Value} {u0 u1 y0 y1 y2 y3 y4 : Value} (M : Mid w W s cc zz6 zz7 x a) (k : ∀ Wf, Mid w Wf s cc #[u0, u1] #[y0, y1, y2, y3, y4] x a → Off w W Wf → R e act Wf) :
    R e act (((((((W.setCell ⟨w.heap.size + 1 + 1 + 1, 0, none⟩ y0).setCell ⟨w.heap.size + 1 + 1 + 1, 1, none⟩ y1).setCell ⟨w.heap.size + 1 + 1 + 1, 2, none⟩ y2).setCell ⟨w.heap.size + 1 + 1 + 1, 3, none⟩ y3).setCell ⟨w.heap.size + 1 + 1 + 1, 4, none⟩ y4).setCell ⟨w.heap.size + 1 + 1, 0, none⟩ u0).setCell ⟨w.heap.size + 1 + 1, 1, none⟩ u1) :=
  k _ (((((((M.set7 0 y0 rfl).set7 1 y1 rfl).set7 2 y2 rfl).set7 3 y3 rfl).set7 4 y4 rfl).set6 0 u0 rfl).set6 1 u1 rfl) ((((((((Off.refl w W).s7 0 y0).s7 1 y1).s7 2 y2).s7 3 y3).s7 4 y4).s6 0 u0).s6 1 u1)
theorem endV {α : Type} {d : Kd α} {e : Nat} {w W W' : World} {base base' n : Nat} {P0 P1 P2 : Nat → Prop} {v : Value} {xs : List α} {y : Option Nat} (h : Kd.V d e W base (fun k => ((P0 k ∧ k < w.heap.size) ∨ (P1 k ∧ k < w.heap.size) ∨ P2 k) ∨ n ≤ k) v xs) (hp : ∀ k, P2 k → k < n ∧ w.heap.size + 6 ≤ k) (ho : Off w W W') (hn : w.heap.size + 6 ≤ n) (hy : ∀ b, y = some b → w.heap.size + 6 ≤ b ∧ b < n ∧ ¬ P2 b) :
    Kd.V d e W' base' (fun k => ((P0 k ∨ P1 k) ∨ w.heap.size ≤ k) ∧ some k ≠ y) v xs := by
  refine Kd.V_mono (Kd.V_step (w1 := W') h (fun k hk _ => ho k ?_ ?_)) (fun k hk => ⟨?_, fun he => ?_⟩)
  · rcases hk with (hk | hk | hk) | hk
    · have := hk.2; omega
    · have := hk.2; omega
    · have := (hp k hk).2; omega
    · omega
  · rcases hk with (hk | hk | hk) | hk
    · have := hk.2; omega
    · have := hk.2; omega
    · have := (hp k hk).2; omega
    · omega
  · rcases hk with (hk | hk | hk) | hk
    · exact .inl (.inl hk.1)
    · exact .inl (.inr hk.1)
    · exact .inr (by have := (hp k hk).2; omega)
    · exact .inr (by omega)
  · have hy2 := hy k he.symm
    rcases hk with (hk | hk | hk) | hk
    · have := hk.2; omega
    · have := hk.2; omega
    · exact hy2.2.2 hk
    · omega
theorem at_F {w : World} {ok : Nat → Prop} {A : Option Addr} {n : Nat} {xs : List S62} (h : Kd.F k62 w ok A n xs) (i : Nat) (hi : i < n) : ∃ ad A2 c2, A = some ad ∧ w.cell? (ad.add (i * 4)) = some (.bool (rd_T62 xs i).f0) ∧ w.cell? ⟨(ad.add (i * 4)).block, (ad.add (i * 4)).off + 1, none⟩ = some (.bool (rd_T62 xs i).f1) ∧ w.cell? ⟨(ad.add (i * 4)).block, (ad.add (i * 4)).off + 2, none⟩ = some (.slice A2 (rd_T62 xs i).f2.length c2) ∧ w.cell? ⟨(ad.add (i * 4)).block, (ad.add (i * 4)).off + 3, none⟩ = some (.int .i64 (rd_T62 xs i).f3) ∧ (rd_T62 xs i).f2.length ≤ c2 ∧ Kd.F k49 w ok A2 (rd_T62 xs i).f2.length (rd_T62 xs i).f2 := by
  obtain ⟨ad, c, e, _, hK, hc0⟩ := Kd.F_get h z62 i (by omega) (by omega)
  have hc : ∀ j u, c[j]? = some u → w.cell? (ad.add (i * 4 + j)) = some u := hc0.1
  obtain ⟨A2, c2, rfl, l2, g2⟩ := k62_openF hK
  exact ⟨ad, A2, c2, e, hc 0 _ rfl, by rw [← add_field _ _ 1 (by omega)]; exact hc 1 _ rfl, by rw [← add_field _ _ 2 (by omega)]; exact hc 2 _ rfl, by rw [← add_field _ _ 3 (by omega)]; exact hc 3 _ rfl, l2, g2⟩
/-- What a session's call leaves ahead of the common end. -/
def Ready (w wc : World) (P1 : Nat → Prop) (S C : Array Value) (l0 : List S49) (l1 : List S62) (i : Nat) (r1 : List S49) (r2 : List S62) (r3 r4 r5 r6 : Int) (r7 : List S49) : Prop :=
  ∃ (b0 b1 : Bool) (A2 : Option Addr) (c2 : Nat) (l2 : List S49) (n3 : Int) (v6 : Value) (N : Nat → Prop), Mid w wc S C zz6 zz7 #[.bool b0, .bool b1, .slice A2 l2.length c2, .int .i64 n3] #[.int .i64 r3, .int .i64 r4, .int .i64 r5, .int .i64 r6, v6] ∧
    Kd.V k49 49 wc wc.heap.size (fun k => (P1 k ∧ k < w.heap.size) ∨ N k) (.slice A2 l2.length c2) l2 ∧ (∀ k, N k → k < wc.heap.size ∧ w.heap.size + 6 ≤ k ∧ some k ≠ v6.ownBlock) ∧ Kd.R k49 49 wc (w.heap.size + 6) (fun _ => True) v6 r7 ∧ model_State_with.f l0 l1 i b0 b1 l2 n3 = some (r1, r2)
end OwnWalk
set_option maxHeartbeats 4000000 in
set_option maxRecDepth 100000 in
theorem model_State_own.walk (k : Nat) (P0 : Nat → Prop) (A0 : Option Addr) (c0 : Nat) (l0 : List (S49)) (P1 : Nat → Prop) (A1 : Option Addr) (c1 : Nat) (l1 : List (S62)) (i : Nat) (q0 q1 q2 q3 q4 : Int) (r1 : List (S49)) (r2 : List (S62)) (r3 r4 r5 r6 : Int) (r7 : List S49) (w : World) (h0 : Kd.V k49 49 w w.heap.size P0 (.slice A0 l0.length c0) l0) (h1 : Kd.V k62 62 w w.heap.size P1 (.slice A1 l1.length c1) l1) (hi : i < l1.length)
   (h : model_State_own.f k l0 l1 i q0 q1 q2 q3 q4 = some (r1, r2, r3, r4, r5, r6, r7)) :
    Calls Try.prog 24 #[.agg #[.slice A0 l0.length c0, .slice A1 l1.length c1], .int .i64 i, .agg #[.int .i64 q0, .int .i64 q1, .int .i64 q2, .int .i64 q3, .int .i64 q4]] w fun e w' => ∃ v0_ v1_ v6_ : Value, e = .returned (.tuple #[.agg #[v0_, v1_], .agg #[.int .i64 r3, .int .i64 r4, .int .i64 r5, .int .i64 r6, v6_]]) ∧ Kd.V k49 49 w' w.heap.size (fun k_ => ((P0 k_ ∨ P1 k_) ∨ w.heap.size ≤ k_) ∧ some k_ ≠ (v6_ : Value).ownBlock) v0_ r1 ∧ Kd.V k62 62 w' w.heap.size (fun k_ => ((P0 k_ ∨ P1 k_) ∨ w.heap.size ≤ k_) ∧ some k_ ≠ (v6_ : Value).ownBlock) v1_ r2 ∧ Kd.R k49 49 w' w.heap.size (fun k_ => (w.heap.size ≤ k_)) v6_ r7 ∧ Below w.heap.size w w' := by
  have hu27 := Try.underlying27
  have hu62 := Try.underlying62
  have hu38 := Try.underlying38
  have hu34 := Try.underlying34
  have hu49 := Try.underlying49
  have H0 := Aside0.mk (Kd.V_bound h0)
  have H1 := Aside0.mk (Kd.V_bound h1)
  obtain ⟨ad, A2, c2, rfl, e0, e1, e2, e3, hc2, hF2⟩ := OwnWalk.at_F (Kd.V_F H1.out) i hi
  have g0 := ModW.blkcell_alloc (.cells #[.int .i64 0, .int .i64 0, .int .i64 0, .int .i64 0, .slice none 0 0] 34 (0, 0)) (ModW.blkcell_alloc (.cells #[.slice none 0 0, .slice none 0 0] 27 (0, 0)) (ModW.blkcell_alloc (.cells #[.int .i64 q0, .int .i64 q1, .int .i64 q2, .int .i64 q3, .int .i64 q4] 38 (0, 0)) (ModW.blkcell_alloc (.cells #[.slice A0 l0.length c0, .slice (some ad) l1.length c1] 27 (0, 0)) e0)))
  have g1 := ModW.blkcell_alloc (.cells #[.int .i64 0, .int .i64 0, .int .i64 0, .int .i64 0, .slice none 0 0] 34 (0, 0)) (ModW.blkcell_alloc (.cells #[.slice none 0 0, .slice none 0 0] 27 (0, 0)) (ModW.blkcell_alloc (.cells #[.int .i64 q0, .int .i64 q1, .int .i64 q2, .int .i64 q3, .int .i64 q4] 38 (0, 0)) (ModW.blkcell_alloc (.cells #[.slice A0 l0.length c0, .slice (some ad) l1.length c1] 27 (0, 0)) e1)))
  have g2 := ModW.blkcell_alloc (.cells #[.int .i64 0, .int .i64 0, .int .i64 0, .int .i64 0, .slice none 0 0] 34 (0, 0)) (ModW.blkcell_alloc (.cells #[.slice none 0 0, .slice none 0 0] 27 (0, 0)) (ModW.blkcell_alloc (.cells #[.int .i64 q0, .int .i64 q1, .int .i64 q2, .int .i64 q3, .int .i64 q4] 38 (0, 0)) (ModW.blkcell_alloc (.cells #[.slice A0 l0.length c0, .slice (some ad) l1.length c1] 27 (0, 0)) e2)))
  have g3 := ModW.blkcell_alloc (.cells #[.int .i64 0, .int .i64 0, .int .i64 0, .int .i64 0, .slice none 0 0] 34 (0, 0)) (ModW.blkcell_alloc (.cells #[.slice none 0 0, .slice none 0 0] 27 (0, 0)) (ModW.blkcell_alloc (.cells #[.int .i64 q0, .int .i64 q1, .int .i64 q2, .int .i64 q3, .int .i64 q4] 38 (0, 0)) (ModW.blkcell_alloc (.cells #[.slice A0 l0.length c0, .slice (some ad) l1.length c1] 27 (0, 0)) e3)))
  clear e0 e1 e2 e3
  have F2 := Aside0.mk hF2
  have ilt : (i : Int) < (l1.length : Int) := by omega
  have HF := Aside0.mk h
  have C2 := Aside0.mk hc2
  clear h0 h1 h hF2 hc2
  go_enter Try.func24, Try.ntmps24
  go_upto_block 0 with fail
  refine OwnWalk.mid_gen (OwnWalk.Mid.start w _ _ _ _) ?_
  intro wr M
  have MM := Aside0.mk M
  have s0 := (blk_cell M.s 0).trans rfl
  have s1 := (blk_cell M.s 1).trans rfl
  have k1 := (blk_cell M.c 1).trans rfl
  have k3 := (blk_cell M.c 3).trans rfl
  have x0 := (blk_cell M.x 0).trans rfl
  have x1 := (blk_cell M.x 1).trans rfl
  have x2 := (blk_cell M.x 2).trans rfl
  have x3 := (blk_cell M.x 3).trans rfl
  have xf0 := blk_frozen M.x 0
  have xf1 := blk_frozen M.x 1
  have xf2 := blk_frozen M.x 2
  have xf3 := blk_frozen M.x 3
  clear M g0 g1 g2 g3
  go_cut [] (fun wc => Aside0 (OwnWalk.Ready w wc P1 #[.slice A0 l0.length c0, .slice (some ad) l1.length c1] #[.int .i64 q0, .int .i64 q1, .int .i64 q2, .int .i64 q3, .int .i64 q4] l0 l1 i r1 r2 r3 r4 r5 r6 r7))
  case first =>
    have H := HF.out
    unfold model_State_own.f at H
    rw [if_pos (by omega), if_pos ilt] at H
    clear HF
    by_cases h13 : q0 = 13
    · have e13 : (q0 == 13) = true := beq_iff_eq.2 h13
      rw [if_pos h13] at H
      replace H := Option.bind_eq_some_iff.mp H
      obtain ⟨⟨t1, t2⟩, hw, H⟩ := H
      simp only [Option.some.injEq, Prod.mk.injEq] at H
      obtain ⟨rfl, rfl, rfl, rfl, rfl, rfl, rfl⟩ := H
      have HW := Aside0.mk hw
      clear hw h13
      go_wp2
      go_meet
      exact ⟨⟨true, false, none, 0, [], 0, _, fun _ => False, ((((MM.out.setx 0 _ rfl).setx 1 _ rfl).setx 2 _ rfl).setx 3 _ rfl), Kd.V_nil _ _ _ _ _, fun _ h => h.elim, Kd.R_nil _ _ _ _ _, HW.out⟩⟩
    have e13 : (q0 == 13) = false := beq_eq_false_iff_ne.2 h13
    rw [if_neg h13] at H
    by_cases h14 : q0 = 14
    · have e14 : (q0 == 14) = true := beq_iff_eq.2 h14
      rw [if_pos h14] at H
      replace H := Option.bind_eq_some_iff.mp H
      obtain ⟨⟨t1, t2⟩, hw, H⟩ := H
      simp only [Option.some.injEq, Prod.mk.injEq] at H
      obtain ⟨rfl, rfl, rfl, rfl, rfl, rfl, rfl⟩ := H
      have HW := Aside0.mk hw
      clear hw h14
      go_wp2
      go_meet
      exact ⟨⟨false, false, none, 0, [], 0, _, fun _ => False, ((((MM.out.setx 0 _ rfl).setx 1 _ rfl).setx 2 _ rfl).setx 3 _ rfl), Kd.V_nil _ _ _ _ _, fun _ h => h.elim, Kd.R_nil _ _ _ _ _, HW.out⟩⟩
    have e14 : (q0 == 14) = false := beq_eq_false_iff_ne.2 h14
    rw [if_neg h14] at H
    by_cases h9 : q0 = 9
    · have e9 : (q0 == 9) = true := beq_iff_eq.2 h9
      rw [if_pos h9] at H
      replace H := Option.bind_eq_some_iff.mp H
      obtain ⟨t, hcut, H⟩ := H
      replace H := Option.bind_eq_some_iff.mp H
      obtain ⟨⟨t1, t2⟩, hw, H⟩ := H
      simp only [Option.some.injEq, Prod.mk.injEq] at H
      obtain ⟨rfl, rfl, rfl, rfl, rfl, rfl, rfl⟩ := H
      have HW := Aside0.mk hw
      have HC := Aside0.mk hcut
      clear hw hcut h9
      go_wp2_with fail
      refine (pairs_Cut.calls k A0 c0 l0 q1 q3 1073741824 t wr (Kd.V_reads' (Kd.V_below H0.out MM.out.b)).2.2 (Kd.V_reads' H0.out).2.1 HC.out).mono ?_
      rintro e w5 ⟨v0, rfl, hR, hb⟩
      obtain ⟨A5, c5, rfl⟩ := Kd.R_slice hR
      have M5 := MM.out.below hb
      have MX := Aside0.mk M5
      have RX := Aside0.mk hR
      have BX := Aside0.mk hb
      clear x0 x1 x2 x3 xf0 xf1 xf2 xf3 s0 s1 k1 k3
      have x0 := (blk_cell M5.x 0).trans rfl
      have x1 := (blk_cell M5.x 1).trans rfl
      have x2 := (blk_cell M5.x 2).trans rfl
      have x3 := (blk_cell M5.x 3).trans rfl
      have xf0 := blk_frozen M5.x 0
      have xf1 := blk_frozen M5.x 1
      have xf2 := blk_frozen M5.x 2
      have xf3 := blk_frozen M5.x 3
      clear M5 hR hb
      go_wp2
      go_meet
      refine ⟨⟨true, true, A5, c5, t, 0, _, fun k => wr.heap.size ≤ k ∧ k < w5.heap.size, ((((MX.out.setx 0 _ rfl).setx 1 _ rfl).setx 2 _ rfl).setx 3 _ rfl), ?_, ?_, Kd.R_nil _ _ _ _ _, HW.out⟩⟩
      · have hs := MM.out.size
        have V := Kd.V_mono (Kd.R_V (base' := w.heap.size) (Kd.R_bound RX.out)) (ok' := fun k => wr.heap.size ≤ k ∧ k < w5.heap.size) (fun k hk => ⟨hk.2.1, hk.2.2.1⟩)
        refine Kd.V_mono (Kd.V_far (Kd.V_far (Kd.V_far (Kd.V_far V ?_ _) ?_ _) ?_ _) ?_ _) (fun k hk => .inr hk) <;> (intro k hk; show k ≠ (w.heap.size + 1 + 1 + 1 + 1); omega)
      · intro k hk
        have hs := MM.out.size
        refine ⟨by simpa using hk.2, by omega, fun h => by cases h⟩
    have e9 : (q0 == 9) = false := beq_eq_false_iff_ne.2 h9
    rw [if_neg h9] at H
    by_cases h10 : q0 = 10
    · have e10 : (q0 == 10) = true := beq_iff_eq.2 h10
      rw [if_pos h10] at H
      replace H := Option.bind_eq_some_iff.mp H
      obtain ⟨⟨p1, p2, p3⟩, hat, H⟩ := H
      replace H := Option.bind_eq_some_iff.mp H
      obtain ⟨⟨y0, y1, y2, y3, y4⟩, hpair, H⟩ := H
      simp only at H
      have HA := Aside0.mk hat
      have HP := Aside0.mk hpair
      have HH := Aside0.mk H
      clear hat hpair H h10
      go_wp2_with fail
      refine (model_at.calls A2 c2 _ _ p1 p2 p3 wr (Kd.F_now (Kd.F_below F2.out MM.out.b)) C2.out HA.out).mono ?_
      rintro e w5 ⟨rfl, hb⟩
      have MX := Aside0.mk (MM.out.below hb)
      have B5 := Aside0.mk hb
      clear x0 x1 x2 x3 xf0 xf1 xf2 xf3 s0 s1 k1 k3 hb
      go_wp2_with fail
      refine (model_pair.calls p1 p2 p3 y0 y1 y2 y3 y4 _ HP.out).mono ?_
      rintro e w6 ⟨v4, rfl, hR, hb⟩
      obtain ⟨A6, c6, rfl⟩ := Kd.R_slice hR
      have M5 := (MX.out.below (below_alloc (Below.refl _ _) (.cells #[.int .i64 p1, .int .i64 p2] 49 (0, 0)))).below hb
      have M6 := Aside0.mk M5
      have B6 := Aside0.mk (below_then (below_alloc (Below.refl _ _) (.cells #[.int .i64 p1, .int .i64 p2] 49 (0, 0))) (by simp) hb)
      have RX := Aside0.mk hR
      have x0 := (blk_cell M5.x 0).trans rfl
      have x1 := (blk_cell M5.x 1).trans rfl
      have x2 := (blk_cell M5.x 2).trans rfl
      have x3 := (blk_cell M5.x 3).trans rfl
      have xf0 := blk_frozen M5.x 0
      have xf1 := blk_frozen M5.x 1
      have xf2 := blk_frozen M5.x 2
      have xf3 := blk_frozen M5.x 3
      have xa0 := blk_frozen M5.a 0
      have xa1 := blk_frozen M5.a 1
      have xa2 := blk_frozen M5.a 2
      have xa3 := blk_frozen M5.a 3
      have xa4 := blk_frozen M5.a 4
      have va0 := (blk_cell M5.a 0).trans rfl
      have va1 := (blk_cell M5.a 1).trans rfl
      have va2 := (blk_cell M5.a 2).trans rfl
      have va3 := (blk_cell M5.a 3).trans rfl
      have va4 := (blk_cell M5.a 4).trans rfl
      clear M5 hR hb
      cases p3 with
      | true =>
        have H := HH.out
        simp only [if_true] at H
        replace H := Option.bind_eq_some_iff.mp H
        obtain ⟨⟨t1, t2⟩, hw, H⟩ := H
        simp only [Option.some.injEq, Prod.mk.injEq] at H
        obtain ⟨rfl, rfl, rfl, rfl, rfl, rfl, rfl⟩ := H
        have HW := Aside0.mk hw
        clear HH hw
        go_wp2
        go_meet
        refine ⟨⟨_, _, A2, c2, _, _, _, fun _ => False, ((((((M6.out.seta 0 _ rfl).seta 1 _ rfl).seta 2 _ rfl).seta 3 _ rfl).seta 4 _ rfl).setx 3 _ rfl), ?_, fun _ h => h.elim, ?_, HW.out⟩⟩
        · refine Kd.V_mono (ok := fun k => P1 k ∧ k < w.heap.size) ?_ (fun k hk => .inl hk)
          repeat (refine Kd.V_far ?_ (by intro k hk; first | (show k ≠ (w.heap.size + 1 + 1 + 1 + 1); omega) | (show k ≠ (w.heap.size + 1 + 1 + 1 + 1 + 1); omega)) _)
          exact Kd.V_below (Kd.V_mk C2.out F2.out) M6.out.b
        · have hs := MX.out.size
          have RB := Kd.R_mono (Kd.R_lower (base' := w.heap.size + 6) (Kd.R_bound RX.out) (by simp; omega)) (ok' := fun k => w.heap.size + 6 ≤ k) (fun k hk => by have := hk.2.1; simp at this; omega)
          refine Kd.R_mono (ok := fun k => w.heap.size + 6 ≤ k) ?_ (fun k hk => trivial)
          repeat (refine Kd.R_far ?_ (by intro k hk; first | (show k ≠ (w.heap.size + 1 + 1 + 1 + 1); omega) | (show k ≠ (w.heap.size + 1 + 1 + 1 + 1 + 1); omega)) _)
          exact RB
      | false =>
        have H := HH.out
        simp only [Bool.false_eq_true, if_false] at H
        replace H := Option.bind_eq_some_iff.mp H
        obtain ⟨⟨t1, t2⟩, hw, H⟩ := H
        simp only [Option.some.injEq, Prod.mk.injEq] at H
        obtain ⟨rfl, rfl, rfl, rfl, rfl, rfl, rfl⟩ := H
        have HW := Aside0.mk hw
        clear HH hw
        go_wp2
        go_meet
        refine ⟨⟨_, _, A2, c2, _, _, _, fun _ => False, ((((((M6.out.seta 0 _ rfl).seta 1 _ rfl).seta 2 _ rfl).seta 3 _ rfl).seta 4 _ rfl)), ?_, fun _ h => h.elim, ?_, HW.out⟩⟩
        · refine Kd.V_mono (ok := fun k => P1 k ∧ k < w.heap.size) ?_ (fun k hk => .inl hk)
          repeat (refine Kd.V_far ?_ (by intro k hk; first | (show k ≠ (w.heap.size + 1 + 1 + 1 + 1); omega) | (show k ≠ (w.heap.size + 1 + 1 + 1 + 1 + 1); omega)) _)
          exact Kd.V_below (Kd.V_mk C2.out F2.out) M6.out.b
        · have hs := MX.out.size
          have RB := Kd.R_mono (Kd.R_lower (base' := w.heap.size + 6) (Kd.R_bound RX.out) (by simp; omega)) (ok' := fun k => w.heap.size + 6 ≤ k) (fun k hk => by have := hk.2.1; simp at this; omega)
          refine Kd.R_mono (ok := fun k => w.heap.size + 6 ≤ k) ?_ (fun k hk => trivial)
          repeat (refine Kd.R_far ?_ (by intro k hk; first | (show k ≠ (w.heap.size + 1 + 1 + 1 + 1); omega) | (show k ≠ (w.heap.size + 1 + 1 + 1 + 1 + 1); omega)) _)
          exact RB
    have e10 : (q0 == 10) = false := beq_eq_false_iff_ne.2 h10
    rw [if_neg h10] at H
    by_cases h11 : q0 = 11
    · have e11 : (q0 == 11) = true := beq_iff_eq.2 h11
      rw [if_pos h11] at H
      replace H := Option.bind_eq_some_iff.mp H
      obtain ⟨⟨j, jb⟩, hf, H⟩ := H
      replace H := Option.bind_eq_some_iff.mp H
      obtain ⟨⟨t1, t2⟩, hw, H⟩ := H
      simp only [Option.some.injEq, Prod.mk.injEq] at H
      obtain ⟨rfl, rfl, rfl, rfl, rfl, rfl, rfl⟩ := H
      have HW := Aside0.mk hw
      have HC := Aside0.mk hf
      clear hw hf h11
      go_wp2_with fail
      refine (pairs_Find.calls k A2 c2 _ q1 j jb wr (Kd.F_now (Kd.F_below F2.out MM.out.b)) C2.out HC.out).mono ?_
      rintro e w5 ⟨rfl, hb⟩
      have M5 := MM.out.below hb
      have MX := Aside0.mk M5
      have BX := Aside0.mk hb
      clear x0 x1 x2 x3 xf0 xf1 xf2 xf3 s0 s1 k1 k3
      have x0 := (blk_cell M5.x 0).trans rfl
      have x1 := (blk_cell M5.x 1).trans rfl
      have x2 := (blk_cell M5.x 2).trans rfl
      have x3 := (blk_cell M5.x 3).trans rfl
      have xf0 := blk_frozen M5.x 0
      have xf1 := blk_frozen M5.x 1
      have xf2 := blk_frozen M5.x 2
      have xf3 := blk_frozen M5.x 3
      clear M5 hb
      go_wp2
      go_meet
      refine ⟨⟨_, _, A2, c2, _, _, _, fun _ => False, MX.out.setx 3 _ rfl, ?_, fun _ h => h.elim, Kd.R_nil _ _ _ _ _, HW.out⟩⟩
      refine Kd.V_mono (ok := fun k => P1 k ∧ k < w.heap.size) ?_ (fun k hk => .inl hk)
      refine Kd.V_far ?_ (by intro k hk; show k ≠ (w.heap.size + 1 + 1 + 1 + 1); omega) _
      exact Kd.V_below (Kd.V_mk C2.out F2.out) MX.out.b
    have e11 : (q0 == 11) = false := beq_eq_false_iff_ne.2 h11
    rw [if_neg h11] at H
    by_cases h12 : q0 = 12
    · have e12 : (q0 == 12) = true := beq_iff_eq.2 h12
      rw [if_pos h12] at H
      replace H := Option.bind_eq_some_iff.mp H
      obtain ⟨⟨t1, t2⟩, hw, H⟩ := H
      simp only [Option.some.injEq, Prod.mk.injEq] at H
      obtain ⟨rfl, rfl, rfl, rfl, rfl, rfl, rfl⟩ := H
      have HW := Aside0.mk hw
      clear hw h12
      go_wp2
      go_meet
      exact ⟨⟨true, false, none, 0, [], 0, _, fun _ => False, ((((MM.out.setx 0 _ rfl).setx 1 _ rfl).setx 2 _ rfl).setx 3 _ rfl), Kd.V_nil _ _ _ _ _, fun _ h => h.elim, Kd.R_nil _ _ _ _ _, HW.out⟩⟩
    have e12 : (q0 == 12) = false := beq_eq_false_iff_ne.2 h12
    rw [if_neg h12] at H
    replace H := Option.bind_eq_some_iff.mp H
    obtain ⟨⟨t1, t2⟩, hw, H⟩ := H
    simp only [Option.some.injEq, Prod.mk.injEq] at H
    obtain ⟨rfl, rfl, rfl, rfl, rfl, rfl, rfl⟩ := H
    have HW := Aside0.mk hw
    clear hw h9 h10 h11 h12 h13 h14
    go_wp2
    go_meet
    exact ⟨⟨_, _, A2, c2, _, _, _, fun _ => False, MM.out, Kd.V_mono (Kd.V_mk C2.out (Kd.F_below F2.out MM.out.b)) (fun k hk => .inl hk), fun _ h => h.elim, Kd.R_nil _ _ _ _ _, HW.out⟩⟩
  case rest =>
    clear s0 s1 k1 k3 x0 x1 x2 x3 xf0 xf1 xf2 xf3
    obtain ⟨b0, b1, A3, c3, l2, n3, v6, N, M, V2, hN, R6, hw⟩ := hcut.out
    obtain ⟨A6, c6, rfl⟩ := Kd.R_slice R6
    have MF := Aside0.mk M
    have VV := Aside0.mk V2
    have NN := Aside0.mk hN
    have RR := Aside0.mk R6
    have HW := Aside0.mk hw
    have s0 := (blk_cell M.s 0).trans rfl
    have s1 := (blk_cell M.s 1).trans rfl
    have x0 := (blk_cell M.x 0).trans rfl
    have x1 := (blk_cell M.x 1).trans rfl
    have x2 := (blk_cell M.x 2).trans rfl
    have x3 := (blk_cell M.x 3).trans rfl
    have a0 := (blk_cell M.a 0).trans rfl
    have a1 := (blk_cell M.a 1).trans rfl
    have a2 := (blk_cell M.a 2).trans rfl
    have a3 := (blk_cell M.a 3).trans rfl
    have a4 := (blk_cell M.a 4).trans rfl
    have WC := Aside0.mk (fun W (hb : Below wc.heap.size wc W) => model_State_with.calls (fun k => P0 k ∧ k < w.heap.size) A0 c0 l0 (fun k => P1 k ∧ k < w.heap.size) (some ad) c1 l1 i b0 b1 (fun k => (P1 k ∧ k < w.heap.size) ∨ N k) A3 c3 l2 n3 r1 r2 W (Kd.V_below H0.out (below_then M.b M.b.size hb)) (Kd.V_below H1.out (below_then M.b M.b.size hb)) (Kd.V_below V2 hb) hw)
    have WSZ : w.heap.size + 6 ≤ wc.heap.size := M.size
    clear M V2 hN R6 hw hcut HF MM
    go_upto_region 19 with (fail)
    go_region_with (first | (go_at_call 43; refine (WC.out _ (below_drew1 (Below.refl _ _))).mono ?_; rintro e w5 ⟨v0, v1, rfl, V0, V1, B5⟩; obtain ⟨A8, c8, rfl⟩ := Kd.V_slice V0; obtain ⟨A9, c9, rfl⟩ := Kd.V_slice V1; have V5 := Aside0.mk V0; have V6 := Aside0.mk V1; have BB := Aside0.mk B5; have M5 := Aside0.mk ((OwnWalk.Mid.drew MF.out).below BB.out); clear V0 V1 B5; have n0 := (blk_cell M5.out.a 0).trans rfl; have n1 := (blk_cell M5.out.a 1).trans rfl; have n2 := (blk_cell M5.out.a 2).trans rfl; have n3 := (blk_cell M5.out.a 3).trans rfl; have n4 := (blk_cell M5.out.a 4).trans rfl; have e0 : w5.cell? ⟨(w.heap.size + 1 + 1), 0, none⟩ = some (.slice none 0 0) := (blk_cell M5.out.r6 0).trans rfl; have e1 : w5.cell? ⟨(w.heap.size + 1 + 1), 1, none⟩ = some (.slice none 0 0) := (blk_cell M5.out.r6 1).trans rfl; have e2 : w5.cell? ⟨(w.heap.size + 1 + 1 + 1), 0, none⟩ = some (.int .i64 0) := (blk_cell M5.out.r7 0).trans rfl; have e3 : w5.cell? ⟨(w.heap.size + 1 + 1 + 1), 1, none⟩ = some (.int .i64 0) := (blk_cell M5.out.r7 1).trans rfl; have e4 : w5.cell? ⟨(w.heap.size + 1 + 1 + 1), 2, none⟩ = some (.int .i64 0) := (blk_cell M5.out.r7 2).trans rfl; have e5 : w5.cell? ⟨(w.heap.size + 1 + 1 + 1), 3, none⟩ = some (.int .i64 0) := (blk_cell M5.out.r7 3).trans rfl; have e6 : w5.cell? ⟨(w.heap.size + 1 + 1 + 1), 4, none⟩ = some (.slice none 0 0) := (blk_cell M5.out.r7 4).trans rfl; have f0 := blk_frozen M5.out.r6 0; have f1 := blk_frozen M5.out.r6 1; have f2 := blk_frozen M5.out.r7 0; have f3 := blk_frozen M5.out.r7 1; have f4 := blk_frozen M5.out.r7 2; have f5 := blk_frozen M5.out.r7 3; have f6 := blk_frozen M5.out.r7 4))
    all_goals first | refine OwnWalk.fin67 M5.out ?_ | refine OwnWalk.fin76 M5.out ?_
    all_goals
      intro Wf MF OF
      have MF2 := Aside0.mk MF
      have OF2 := Aside0.mk OF
      clear MF OF
      go_wp2
      refine bodyPost_ret (results_cc rfl _ _ (w.heap.size + 1 + 1) (w.heap.size + 1 + 1 + 1) 27 34 _ _ (0, 0) (0, 0) _ _ rfl MF2.out.r6 Try.underlying27 rfl (by kernel_rfl) rfl MF2.out.r7 Try.underlying34 rfl (by kernel_rfl)) rfl ?_
      have hy : ∀ b, (Value.slice A6 r7.length c6).ownBlock = some b → w.heap.size + 6 ≤ b ∧ b < wc.heap.size ∧ ¬ N b := by
        intro b hb
        have := (Kd.R_bound RR.out).1 b hb
        exact ⟨this.2.1, this.2.2.1, fun hn => (NN.out b hn).2.2 hb.symm⟩
      refine ⟨_, _, _, rfl, OwnWalk.endV (Kd.V_mono V5.out (fun k hk => by rcases hk with (h | h | h | h) | h; exact .inl (.inl h); exact .inl (.inr (.inl h)); exact .inl (.inr (.inl h)); exact .inl (.inr (.inr h)); exact .inr h)) (fun k hk => ⟨(NN.out k hk).1, (NN.out k hk).2.1⟩) OF2.out WSZ hy, OwnWalk.endV (Kd.V_mono V6.out (fun k hk => by rcases hk with (h | h | h | h) | h; exact .inl (.inl h); exact .inl (.inr (.inl h)); exact .inl (.inr (.inl h)); exact .inl (.inr (.inr h)); exact .inr h)) (fun k hk => ⟨(NN.out k hk).1, (NN.out k hk).2.1⟩) OF2.out WSZ hy, ?_, MF2.out.b⟩
      have RB := Kd.R_mono (Kd.R_lower (base' := w.heap.size) (Kd.R_bound RR.out) (by omega)) (ok' := fun k => w.heap.size + 6 ≤ k) (fun k hk => hk.2.1)
      exact Kd.R_mono (Kd.R_step (Kd.R_below (w1 := w5) (Kd.R_below RB (below_drew1 (Below.refl _ _))) BB.out) (fun k hk _ => OF2.out k (by omega) (by omega))) (fun k hk => by omega)
theorem model_State_own.calls (k : Nat) (P0_0_ : Nat → Prop) (A0_0 : Option Addr) (c0_0 : Nat) (l0_0 : List (S49)) (P0_1_ : Nat → Prop) (A0_1 : Option Addr) (c0_1 : Nat) (l0_1 : List (S62)) (a1 : Int) (a2_0 : Int) (a2_1 : Int) (a2_2 : Int) (a2_3 : Int) (a2_4 : Int) (r1 : List (S49)) (r2 : List (S62)) (r3 : Int) (r4 : Int) (r5 : Int) (r6 : Int) (r7 : List (S49)) (w : World) (hs0_0 : Kd.V k49 49 w w.heap.size (fun k_ => P0_0_ k_) (.slice A0_0 l0_0.length c0_0) l0_0) (hs0_1 : Kd.V k62 62 w w.heap.size (fun k_ => P0_1_ k_) (.slice A0_1 l0_1.length c0_1) l0_1) (h : model_State_own.f k l0_0 l0_1 a1 a2_0 a2_1 a2_2 a2_3 a2_4 = some (r1, r2, r3, r4, r5, r6, r7)) :
    Calls Try.prog 24 #[.agg #[.slice A0_0 l0_0.length c0_0, .slice A0_1 l0_1.length c0_1], .int .i64 a1, .agg #[.int .i64 a2_0, .int .i64 a2_1, .int .i64 a2_2, .int .i64 a2_3, .int .i64 a2_4]] w fun e w' => ∃ v0_ v1_ v6_ : Value, e = .returned (.tuple #[.agg #[v0_, v1_], .agg #[.int .i64 r3, .int .i64 r4, .int .i64 r5, .int .i64 r6, v6_]]) ∧ Kd.V k49 49 w' w.heap.size (fun k_ => ((P0_0_ k_ ∨ P0_1_ k_) ∨ w.heap.size ≤ k_) ∧ some k_ ≠ (v6_ : Value).ownBlock) v0_ r1 ∧ Kd.V k62 62 w' w.heap.size (fun k_ => ((P0_0_ k_ ∨ P0_1_ k_) ∨ w.heap.size ≤ k_) ∧ some k_ ≠ (v6_ : Value).ownBlock) v1_ r2 ∧ Kd.R k49 49 w' w.heap.size (fun k_ => (w.heap.size ≤ k_)) v6_ r7 ∧ Below w.heap.size w w' := by
  by_cases ha : 0 ≤ a1 ∧ a1 < (l0_1.length : Int)
  · obtain ⟨i, rfl⟩ : ∃ i : Nat, a1 = i := ⟨a1.toNat, by omega⟩
    exact model_State_own.walk k P0_0_ A0_0 c0_0 l0_0 P0_1_ A0_1 c0_1 l0_1 i a2_0 a2_1 a2_2 a2_3 a2_4 r1 r2 r3 r4 r5 r6 r7 w hs0_0 hs0_1 (by omega) h
  · exfalso
    unfold model_State_own.f at h
    by_cases h0 : 0 ≤ a1
    · rw [if_pos h0, if_neg (by omega)] at h
      cases h
    · rw [if_neg h0] at h
      cases h

end Go.Proofs.Ytkkneaefjahihaa.PModelTold
