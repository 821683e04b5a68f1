/- Any edge with either mark, or without its tag, and whether two lead to one node: the law's walk. -/
import Derived.Test.YtdbenonbjklkdaaPEdgeMarksx1
import Derived.Deep.RegionHeld3
import Derived.Deep.DeepCutAuto
import Derived.Deep.CutRange
import Derived.BigRegion
set_option linter.unusedVariables false
set_option linter.unusedSimpArgs false
namespace Go.Proofs.Ytdbenonbjklkdaa.EdgeLawM
open Go Go.RowKit Go.Proofs.YtdbenonbjklkdaaW.PrintWords Go.Proofs.YtdbenonbjklkdaaW.PrintLast Go.Proofs.YtdbenonbjklkdaaW.PrintMore Go.Proofs.Ytdbenonbjklkdaa.PEdgeMarks
def EB (w : World) (b : Nat) (s g : Int) (f t : Bool) : Prop := w.heap[b]? = some (.cells #[.int .i64 s, .int .u64 g, .bool f, .bool t] 36 (0, 0))
theorem EB.cells {w : World} {b : Nat} {s g : Int} {f t : Bool} (h : EB w b s g f t) : w.cell? ⟨b, 0, none⟩ = some (.int .i64 s) ∧ w.cell? ⟨b, 1, none⟩ = some (.int .u64 g) ∧ w.cell? ⟨b, 2, none⟩ = some (.bool f) ∧ w.cell? ⟨b, 3, none⟩ = some (.bool t) :=
  ⟨(blk_cell h 0).trans rfl, (blk_cell h 1).trans rfl, (blk_cell h 2).trans rfl, (blk_cell h 3).trans rfl⟩
theorem EB.frz {w : World} {b : Nat} {s g : Int} {f t : Bool} (h : EB w b s g f t) (i : Nat) : w.frozen? ⟨b, i, none⟩ = false := blk_frozen h i
theorem EB.set2 {w : World} {b : Nat} {s g : Int} {f t : Bool} (h : EB w b s g f t) (x : Bool) : EB (w.setCell ⟨b, 2, none⟩ (.bool x)) b s g x t := blk_set h 2 _
theorem EB.set3 {w : World} {b : Nat} {s g : Int} {f t : Bool} (h : EB w b s g f t) (x : Bool) : EB (w.setCell ⟨b, 3, none⟩ (.bool x)) b s g f x := blk_set h 3 _
theorem EB.far {w : World} {b : Nat} {s g : Int} {f t : Bool} (h : EB w b s g f t) {p : Addr} (hp : b ≠ p.block) (u : Value) : EB (w.setCell p u) b s g f t := blk_far h hp u
theorem EB.alloc {w : World} {b : Nat} {s g : Int} {f t : Bool} (h : EB w b s g f t) (o : Obj) : EB (w.alloc o) b s g f t := blk_alloc h o
theorem drawn_b {w w' : World} (h : Drawn0 w w') : Below w.heap.size w w' := by obtain ⟨n, rfl⟩ := h; exact pw_below_drewN (Below.refl _ _) n
theorem fl_b (a r : Int) (w : World) (h : edge_Edge_Flagged.f a = some r) : Calls Try.prog 38 #[.int .u64 a] w fun e w' => e = .returned (.int .u64 r) ∧ Below w.heap.size w w' := (edge_Edge_Flagged.calls a r w h).mono fun e w' h => ⟨h.1, drawn_b h.2⟩
theorem tg_b (a r : Int) (w : World) (h : edge_Edge_Tagged.f a = some r) : Calls Try.prog 39 #[.int .u64 a] w fun e w' => e = .returned (.int .u64 r) ∧ Below w.heap.size w w' := (edge_Edge_Tagged.calls a r w h).mono fun e w' h => ⟨h.1, drawn_b h.2⟩
theorem kp_b (a r : Int) (w : World) (h : edge_Edge_Keep.f a = some r) : Calls Try.prog 40 #[.int .u64 a] w fun e w' => e = .returned (.int .u64 r) ∧ Below w.heap.size w w' := (edge_Edge_Keep.calls a r w h).mono fun e w' h => ⟨h.1, drawn_b h.2⟩
theorem to_b (a b : Int) (r : Bool) (w : World) (h : edge_Edge_To.f a b = some r) : Calls Try.prog 41 #[.int .u64 a, .int .u64 b] w fun e w' => e = .returned (.bool r) ∧ Below w.heap.size w w' := (edge_Edge_To.calls a b r w h).mono fun e w' h => ⟨h.1, drawn_b h.2⟩
theorem lv_b (r : Bool) (w : World) (h : deadwoodlaw03_lives.f = some r) : Calls Try.prog 29 #[] w fun e w' => e = .returned (.bool r) ∧ Below w.heap.size w w' := (deadwoodlaw03_lives.calls r w h).mono fun e w' h => ⟨h.1, drawn_b h.2⟩
theorem five (w : World) (s g s2 g2 : Int) (f t f2 t2 : Bool) :
    EB (((((w.alloc (.cells #[.int .i64 s, .int .u64 g, .bool f, .bool t] 36 (0, 0))).alloc (.cells #[.int .i64 s2, .int .u64 g2, .bool f2, .bool t2] 36 (0, 0))).alloc (.cells #[.int .i64 s, .int .u64 g, .bool f, .bool t] 36 (0, 0))).alloc (.cells #[.int .i64 s, .int .u64 g, .bool f, .bool t] 36 (0, 0))).alloc (.cells #[.int .i64 s, .int .u64 g, .bool f, .bool t] 36 (0, 0))) (w.heap.size) s g f t ∧
    EB (((((w.alloc (.cells #[.int .i64 s, .int .u64 g, .bool f, .bool t] 36 (0, 0))).alloc (.cells #[.int .i64 s2, .int .u64 g2, .bool f2, .bool t2] 36 (0, 0))).alloc (.cells #[.int .i64 s, .int .u64 g, .bool f, .bool t] 36 (0, 0))).alloc (.cells #[.int .i64 s, .int .u64 g, .bool f, .bool t] 36 (0, 0))).alloc (.cells #[.int .i64 s, .int .u64 g, .bool f, .bool t] 36 (0, 0))) (w.heap.size + 1) s2 g2 f2 t2 ∧
    EB (((((w.alloc (.cells #[.int .i64 s, .int .u64 g, .bool f, .bool t] 36 (0, 0))).alloc (.cells #[.int .i64 s2, .int .u64 g2, .bool f2, .bool t2] 36 (0, 0))).alloc (.cells #[.int .i64 s, .int .u64 g, .bool f, .bool t] 36 (0, 0))).alloc (.cells #[.int .i64 s, .int .u64 g, .bool f, .bool t] 36 (0, 0))).alloc (.cells #[.int .i64 s, .int .u64 g, .bool f, .bool t] 36 (0, 0))) (w.heap.size + 1 + 1) s g f t ∧
    EB (((((w.alloc (.cells #[.int .i64 s, .int .u64 g, .bool f, .bool t] 36 (0, 0))).alloc (.cells #[.int .i64 s2, .int .u64 g2, .bool f2, .bool t2] 36 (0, 0))).alloc (.cells #[.int .i64 s, .int .u64 g, .bool f, .bool t] 36 (0, 0))).alloc (.cells #[.int .i64 s, .int .u64 g, .bool f, .bool t] 36 (0, 0))).alloc (.cells #[.int .i64 s, .int .u64 g, .bool f, .bool t] 36 (0, 0))) (w.heap.size + 1 + 1 + 1) s g f t ∧
    EB (((((w.alloc (.cells #[.int .i64 s, .int .u64 g, .bool f, .bool t] 36 (0, 0))).alloc (.cells #[.int .i64 s2, .int .u64 g2, .bool f2, .bool t2] 36 (0, 0))).alloc (.cells #[.int .i64 s, .int .u64 g, .bool f, .bool t] 36 (0, 0))).alloc (.cells #[.int .i64 s, .int .u64 g, .bool f, .bool t] 36 (0, 0))).alloc (.cells #[.int .i64 s, .int .u64 g, .bool f, .bool t] 36 (0, 0))) (w.heap.size + 1 + 1 + 1 + 1) s g f t := by
  have nw : ∀ (w : World) (n : Nat) (hn : w.heap.size = n) (s g : Int) (f t : Bool), EB (w.alloc (.cells #[.int .i64 s, .int .u64 g, .bool f, .bool t] 36 (0, 0))) n s g f t := fun w n hn s g f t => by subst hn; exact heap_alloc_new w _
  exact ⟨((((nw _ _ rfl _ _ _ _).alloc _).alloc _).alloc _).alloc _, (((nw _ _ (by simp) _ _ _ _).alloc _).alloc _).alloc _, ((nw _ _ (by simp) _ _ _ _).alloc _).alloc _, (nw _ _ (by simp) _ _ _ _).alloc _, nw _ _ (by simp) _ _ _ _⟩
theorem keepS {w0 W W' : World} {a0 : Addr} {x0 : Value} {a1 : Addr} {x1 : Value} {a2 : Addr} {x2 : Value} {a3 : Addr} {x3 : Value} {a4 : Addr} {x4 : Value} {a5 : Addr} {x5 : Value} {a6 : Addr} {x6 : Value} {a7 : Addr} {x7 : Value} {a8 : Addr} {x8 : Value} {a9 : Addr} {x9 : Value} {a10 : Addr} {x10 : Value} {a11 : Addr} {x11 : Value} {a12 : Addr} {x12 : Value} {a13 : Addr} {x13 : Value} {a14 : Addr} {x14 : Value} {a15 : Addr} {x15 : Value} (h : W.cell? a0 = some x0 ∧ W.cell? a1 = some x1 ∧ W.cell? a2 = some x2 ∧ W.cell? a3 = some x3 ∧ W.cell? a4 = some x4 ∧ W.cell? a5 = some x5 ∧ W.cell? a6 = some x6 ∧ W.cell? a7 = some x7 ∧ W.cell? a8 = some x8 ∧ W.cell? a9 = some x9 ∧ W.cell? a10 = some x10 ∧ W.cell? a11 = some x11 ∧ W.cell? a12 = some x12 ∧ W.cell? a13 = some x13 ∧ W.cell? a14 = some x14 ∧ W.cell? a15 = some x15 ∧ Below w0.heap.size w0 W) (hb : Below W.heap.size W W') : W'.cell? a0 = some x0 ∧ W'.cell? a1 = some x1 ∧ W'.cell? a2 = some x2 ∧ W'.cell? a3 = some x3 ∧ W'.cell? a4 = some x4 ∧ W'.cell? a5 = some x5 ∧ W'.cell? a6 = some x6 ∧ W'.cell? a7 = some x7 ∧ W'.cell? a8 = some x8 ∧ W'.cell? a9 = some x9 ∧ W'.cell? a10 = some x10 ∧ W'.cell? a11 = some x11 ∧ W'.cell? a12 = some x12 ∧ W'.cell? a13 = some x13 ∧ W'.cell? a14 = some x14 ∧ W'.cell? a15 = some x15 ∧ Below w0.heap.size w0 W' := by
  obtain ⟨h0, h1, h2, h3, h4, h5, h6, h7, h8, h9, h10, h11, h12, h13, h14, h15, hz⟩ := h
  exact ⟨pw_cell_below hb h0, pw_cell_below hb h1, pw_cell_below hb h2, pw_cell_below hb h3, pw_cell_below hb h4, pw_cell_below hb h5, pw_cell_below hb h6, pw_cell_below hb h7, pw_cell_below hb h8, pw_cell_below hb h9, pw_cell_below hb h10, pw_cell_below hb h11, pw_cell_below hb h12, pw_cell_below hb h13, pw_cell_below hb h14, pw_cell_below hb h15, below_then hz hz.size hb⟩
theorem lastS {w0 W : World} {a0 : Addr} {x0 : Value} {a1 : Addr} {x1 : Value} {a2 : Addr} {x2 : Value} {a3 : Addr} {x3 : Value} {a4 : Addr} {x4 : Value} {a5 : Addr} {x5 : Value} {a6 : Addr} {x6 : Value} {a7 : Addr} {x7 : Value} {a8 : Addr} {x8 : Value} {a9 : Addr} {x9 : Value} {a10 : Addr} {x10 : Value} {a11 : Addr} {x11 : Value} {a12 : Addr} {x12 : Value} {a13 : Addr} {x13 : Value} {a14 : Addr} {x14 : Value} {a15 : Addr} {x15 : Value} (h : W.cell? a0 = some x0 ∧ W.cell? a1 = some x1 ∧ W.cell? a2 = some x2 ∧ W.cell? a3 = some x3 ∧ W.cell? a4 = some x4 ∧ W.cell? a5 = some x5 ∧ W.cell? a6 = some x6 ∧ W.cell? a7 = some x7 ∧ W.cell? a8 = some x8 ∧ W.cell? a9 = some x9 ∧ W.cell? a10 = some x10 ∧ W.cell? a11 = some x11 ∧ W.cell? a12 = some x12 ∧ W.cell? a13 = some x13 ∧ W.cell? a14 = some x14 ∧ W.cell? a15 = some x15 ∧ Below w0.heap.size w0 W) : Below w0.heap.size w0 W := by
  obtain ⟨h0, h1, h2, h3, h4, h5, h6, h7, h8, h9, h10, h11, h12, h13, h14, h15, hz⟩ := h
  exact hz
def law_T6 : Bool × List (List Nat × List Nat) := (true, [([], []), ([0], [0]), ([], []), ([2, 1], [2]), ([1, 3], [1, 3]), ([4, 3], [4]), ([5], [5]), ([6, 5, 5], [5, 6]), ([5], [5]), ([8, 7, 5], [5, 8]), ([7, 9, 5], [5, 7, 9]), ([5, 10], [5, 10]), ([11, 9], [11]), ([12], [12]), ([13, 12, 12], [12, 13]), ([12], [12]), ([15, 14, 12], [12, 15]), ([14, 16, 12], [12, 14, 16]), ([12, 17], [12, 17]), ([18, 16], [18]), ([19], [19]), ([19], [19]), ([20, 21, 19, 19], [19, 20, 21]), ([19], [19]), ([23, 19], [19, 23]), ([19], [19]), ([25, 19], [19, 25]), ([24, 26, 19], [19, 24, 26]), ([27, 22, 19], [19, 27]), ([28], [28]), ([29, 28], [28, 29]), ([28], [28]), ([31, 28], [28, 31]), ([30, 32, 28], [28, 30, 32]), ([28, 33, 19], [19, 28, 33]), ([22, 34, 19], [19, 22, 34]), ([19, 35], [19, 35]), ([36, 28], [36]), ([37, 37], [37]), ([37, 38], [37, 38]), ([39, 38, 0, 1, 2, 3, 4, 5, 6, 7, 8, 9, 10, 11, 12, 13, 14, 15, 16, 17, 18, 19, 20, 21, 22, 23, 24, 25, 26, 27, 28, 29, 30, 31, 32, 33, 34, 35, 36, 37, 38, 39], [39])])
def law_B6 : List Nat := [0, 1, 0, 7, 15, 31, 63, 127, 63, 511, 1023, 2047, 4095, 8191, 16383, 8191, 65535, 131071, 262143, 524287, 1048575, 1048575, 4194303, 1048575, 9437183, 1048575, 34603007, 126877695, 268435455, 536870911, 1073741823, 536870911, 2684354559, 8589934591, 17179869183, 34359738367, 68719476735, 137438953471, 274877906943, 549755813887, 1099511627775]
theorem law_tab6 : rtab .any (opsOf Try.f10 6) = law_T6 := by kernel_rfl
theorem law_bits6 : waitsOk law_T6.2 law_B6 = true := by kernel_rfl
set_option maxHeartbeats 4000000 in
set_option maxRecDepth 100000 in
theorem walk_in (a0 a1 s g s2 g2 fa fb fc : Int) (fl tg fl2 tg2 t : Bool) (w : World) (hr : deadwoodref03_Read.f a0 = some (s, g, fl, tg)) (hq : deadwoodref03_Read.f a1 = some (s2, g2, fl2, tg2))
    (h1 : edge_Edge_Flagged.f a0 = some fa) (p1 : deadwoodref03_Put.f s g true tg = some fa) (h2 : edge_Edge_Tagged.f a0 = some fb) (p2 : deadwoodref03_Put.f s g fl true = some fb) (h3 : edge_Edge_Keep.f a0 = some fc) (p3 : deadwoodref03_Put.f s g fl false = some fc)
    (ht : edge_Edge_To.f a0 a1 = some t) (e1 : s = s2 → (t == (g == g2)) = true) (e2 : ¬ s = s2 → t = false) (hlv : deadwoodlaw03_lives.f = some true) :
    Calls Try.prog 10 #[.int .u64 a0, .int .u64 a1] w fun e w' => e = .returned (.bool true) ∧ Below w.heap.size w w' := by
  have hu := Try.underlying36
  have H := Aside0.mk (And.intro h1 (And.intro p1 (And.intro h2 (And.intro p2 (And.intro h3 (And.intro p3 (And.intro ht (And.intro e1 (And.intro e2 hlv)))))))))
  have R := Aside0.mk (And.intro hr hq)
  clear h1 p1 h2 p2 h3 p3 ht e1 e2 hlv hr hq
  go_enter Try.func10, Try.ntmps10
  go_wp2_with fail
  refine (deadwoodref03_Read.calls a0 s g fl tg _ R.out.1).mono ?_
  rintro e w1 ⟨rfl, hb1⟩
  have B1 := Aside0.mk hb1
  clear hb1
  go_wp2_with fail
  refine (deadwoodref03_Read.calls a1 s2 g2 fl2 tg2 _ R.out.2).mono ?_
  rintro e w2 ⟨rfl, hb2⟩
  have B2 := Aside0.mk (below_then B1.out B1.out.size hb2)
  have LW := Aside0.mk (show ∀ a b c : Nat, w2.heap.size + 1 < a → w2.heap.size + 1 < b → w2.heap.size + 1 < c → w.heap.size ≤ a ∧ w.heap.size ≤ b ∧ w.heap.size ≤ c from fun a b c _ _ _ => by have := B2.out.size; omega)
  clear hb2 B1
  go_upto_region 2 with (fail)
  go_cut [7, 8, 9] (fun v7 v8 v9 wc => ∃ a b c : Nat, v7 = .pointer (some ⟨a, 0, none⟩) ∧ v8 = .pointer (some ⟨b, 0, none⟩) ∧ v9 = .pointer (some ⟨c, 0, none⟩) ∧ Aside0 (EB wc a s g fl tg ∧ EB wc b s g fl tg ∧ EB wc c s g fl tg ∧ EB wc w2.heap.size s g fl tg ∧ EB wc (w2.heap.size + 1) s2 g2 fl2 tg2) ∧ Aside0 (a ≠ b ∧ a ≠ c ∧ b ≠ c ∧ w2.heap.size + 1 < a ∧ w2.heap.size + 1 < b ∧ w2.heap.size + 1 < c) ∧ Aside0 (Below w2.heap.size w2 wc))
  case first =>
    have V5 := Aside0.mk (five w2 s g s2 g2 fl tg fl2 tg2)
    go_region
    all_goals go_wp2
    all_goals go_meet
    all_goals obtain ⟨v1, v2, v3, v4, v5⟩ := V5.out
    all_goals refine ⟨_, _, _, rfl, rfl, rfl, ⟨by assumption, by assumption, by assumption, v1, v2⟩, ⟨by omega, by omega, by omega, by omega, by omega, by omega⟩, ⟨below_drew1 (below_alloc (below_alloc (below_alloc (below_alloc (below_alloc (Below.refl _ _) _) _) _) _) _)⟩⟩
  case rest =>
    obtain ⟨a, b, c, rfl, rfl, rfl, HE, HN, HB⟩ := hcut
    obtain ⟨n1, n2, n3, n4, n5, n6⟩ := HN.out
    have B3 := Aside0.mk (below_then B2.out B2.out.size HB.out)
    have LE := Aside0.mk (LW.out a b c n4 n5 n6)
    clear LW HB B2

    generalize w2.heap.size = d at HE n4 n5 n6 ⊢
    generalize hde : d + 1 = e at HE n4 n5 n6 ⊢
    obtain ⟨A1, A2, A3, A4, A5⟩ := HE.out
    have za := A1.frz 2
    have zb := A2.frz 3
    have zc := A3.frz 3
    have A1' := (A1.set2 true)
    have A2' := ((A2.far (p := ⟨a, 2, none⟩) n1.symm (.bool true))).set3 true
    have A3' := (((A3.far (p := ⟨a, 2, none⟩) n2.symm (.bool true)).far (p := ⟨b, 3, none⟩) n3.symm (.bool true))).set3 false
    have G1 := Aside0.mk ((A1'.far (p := ⟨b, 3, none⟩) n1 (.bool true)).far (p := ⟨c, 3, none⟩) n2 (.bool false))
    have G2 := Aside0.mk (A2'.far (p := ⟨c, 3, none⟩) n3 (.bool false))
    have G3 := Aside0.mk A3'
    have nda : d ≠ a := by omega
    have ndb : d ≠ b := by omega
    have ndc : d ≠ c := by omega
    have nea : e ≠ a := by omega
    have neb : e ≠ b := by omega
    have nec : e ≠ c := by omega
    have G4 := Aside0.mk (((A4.far (p := ⟨a, 2, none⟩) nda (.bool true)).far (p := ⟨b, 3, none⟩) ndb (.bool true)).far (p := ⟨c, 3, none⟩) ndc (.bool false))
    have G5 := Aside0.mk (((A5.far (p := ⟨a, 2, none⟩) nea (.bool true)).far (p := ⟨b, 3, none⟩) neb (.bool true)).far (p := ⟨c, 3, none⟩) nec (.bool false))
    have ya := A1.cells.2.2.1
    have yb := (A2.far (p := ⟨a, 2, none⟩) n1.symm (.bool true)).cells.2.2.2
    have yc := ((A3.far (p := ⟨a, 2, none⟩) n2.symm (.bool true)).far (p := ⟨b, 3, none⟩) n3.symm (.bool true)).cells.2.2.2
    have B4 := Aside0.mk (((B3.out.setCell (p := ⟨a, 2, none⟩) LE.out.1 (.bool true)).setCell (p := ⟨b, 3, none⟩) LE.out.2.1 (.bool true)).setCell (p := ⟨c, 3, none⟩) LE.out.2.2 (.bool false))
    have zb2 := (A2.far (p := ⟨a, 2, none⟩) n1.symm (.bool true)).frz 3
    have zc2 := ((A3.far (p := ⟨a, 2, none⟩) n2.symm (.bool true)).far (p := ⟨b, 3, none⟩) n3.symm (.bool true)).frz 3
    clear A1 A2 A3 A4 A5 A1' A2' A3' HE B3
    go_upto_region 6 with (fail)
    clear ya yb yc za zb zc zb2 zc2
    generalize ((wc.setCell ⟨a, 2, none⟩ (.bool true)).setCell ⟨b, 3, none⟩ (.bool true)).setCell ⟨c, 3, none⟩ (.bool false) = w5 at G1 G2 G3 G4 G5 B4 ⊢
    obtain ⟨k0, k1, k2, k3⟩ := G1.out.cells
    obtain ⟨k4, k5, k6, k7⟩ := G2.out.cells
    obtain ⟨k8, k9, k10, k11⟩ := G3.out.cells
    obtain ⟨k12, k13, _, _⟩ := G4.out.cells
    obtain ⟨k14, k15, _, _⟩ := G5.out.cells
    obtain ⟨h1, p1, h2, p2, h3, p3, ht, e1, e2, hlv⟩ := H.out
    have H1 := Aside0.mk h1
    have P1 := Aside0.mk p1
    have H2 := Aside0.mk h2
    have P2 := Aside0.mk p2
    have H3 := Aside0.mk h3
    have P3 := Aside0.mk p3
    have HT := Aside0.mk ht
    have HV := Aside0.mk hlv
    clear h1 p1 h2 p2 h3 p3 ht hlv H G1 G2 G3 G4 G5 hde n1 n2 n3 n4 n5 n6 nda ndb ndc nea neb nec
    by_cases hs : s = s2
    · have ds : (s == s2) = true := beq_iff_eq.2 hs
      have d1 := e1 hs
      clear e1 e2 hs
      go_wp2_with fail
      have TWD := Aside0.mk (below_drew1 B4.out)
      refine start_ (n := 41) (S := fun W' => W'.cell? ⟨a, 0, none⟩ = some (.int .i64 s) ∧ W'.cell? ⟨a, 1, none⟩ = some (.int .u64 g) ∧ W'.cell? ⟨a, 2, none⟩ = some (.bool true) ∧ W'.cell? ⟨a, 3, none⟩ = some (.bool tg) ∧ W'.cell? ⟨b, 0, none⟩ = some (.int .i64 s) ∧ W'.cell? ⟨b, 1, none⟩ = some (.int .u64 g) ∧ W'.cell? ⟨b, 2, none⟩ = some (.bool fl) ∧ W'.cell? ⟨b, 3, none⟩ = some (.bool true) ∧ W'.cell? ⟨c, 0, none⟩ = some (.int .i64 s) ∧ W'.cell? ⟨c, 1, none⟩ = some (.int .u64 g) ∧ W'.cell? ⟨c, 2, none⟩ = some (.bool fl) ∧ W'.cell? ⟨c, 3, none⟩ = some (.bool false) ∧ W'.cell? ⟨d, 0, none⟩ = some (.int .i64 s) ∧ W'.cell? ⟨d, 1, none⟩ = some (.int .u64 g) ∧ W'.cell? ⟨e, 0, none⟩ = some (.int .i64 s2) ∧ W'.cell? ⟨e, 1, none⟩ = some (.int .u64 g2)) (ds := []) #[false, false, false, false, false, false, false, false, false, false, false, false, false, false, false, false, false, false, false, false, false, false, false, false, false, false, false, false, false, false, false, false, false, false, false, false, false, false, false, false, false] (by kernel_rfl) rfl rfl ⟨k0, k1, k2, k3, k4, k5, k6, k7, k8, k9, k10, k11, k12, k13, k14, k15⟩ (fun hHeld => ?_); refine with_tabW law_tab6 law_bits6 (fun HT_ HW_ => ?_)
      generalize w5.drew = wd_ at k0 k1 k2 k3 k4 k5 k6 k7 k8 k9 k10 k11 k12 k13 k14 k15 TWD hHeld ⊢
      refine pure_ (i := 0) (N := some 20) (v := ?_) (a' := ?_) #[true, false, false, false, false, false, false, false, false, false, false, false, false, false, false, false, false, false, false, false, false, false, false, false, false, false, false, false, false, false, false, false, false, false, false, false, false, false, false, false, false] rfl rfl (any_of HT_.out (by kernel_rfl)) (fun _ _ _ h => h) (Or.inl ⟨by rfl, ?_⟩) ?_ ?_
      rotate_left
      · intro w'
        go_simp
        with_reducible rfl
      rotate_left
      · simp only [Act.put, List.setIfInBounds_toArray, List.set_cons_zero, List.set_cons_succ]
        rfl
      refine take_ (i := 2) (N := some 22) (v := ?_) (a' := ?_) #[true, false, true, false, false, false, false, false, false, false, false, false, false, false, false, false, false, false, false, false, false, false, false, false, false, false, false, false, false, false, false, false, false, false, false, false, false, false, false, false, false] rfl rfl (take_ofW HT_.out HW_.out (by kernel_rfl)) (fun _ _ _ h => h) (Or.inl ⟨by rfl, ?_⟩) hHeld ?_ ?_
      rotate_left
      · rintro w' ⟨s0, s1, s2, s3, s4, s5, s6, s7, s8, s9, s10, s11, s12, s13, s14, s15⟩
        go_simp
        with_reducible rfl
      rotate_left
      · simp only [Act.put, List.setIfInBounds_toArray, List.set_cons_zero, List.set_cons_succ]
        rfl
      refine one_ (i := 1) (N := some 21) #[true, true, true, false, false, false, false, false, false, false, false, false, false, false, false, false, false, false, false, false, false, false, false, false, false, false, false, false, false, false, false, false, false, false, false, false, false, false, false, false, false] rfl rfl (one_of HT_.out (by kernel_rfl)) (by decide) (fun K hK => ?_)
      refine goes_ Try.func38 (by kernel_rfl) rfl #[.int .u64 a0] (by rfl) rfl rfl (by (try simp only [List.map_toArray, List.map_cons, List.map_nil]); first | done | rfl) ?_
      refine (fl_b _ _ _ H1.out).mono ?_
      rintro e_ wq1 ⟨rfl, hb⟩
      have hHeld2 := hHeld
      obtain ⟨t0, t1, t2, t3, t4, t5, t6, t7, t8, t9, t10, t11, t12, t13, t14, t15⟩ := hHeld2
      have HS0_ := pw_cell_below hb t0
      have HS1_ := pw_cell_below hb t1
      have HS2_ := pw_cell_below hb t2
      have HS3_ := pw_cell_below hb t3
      have HS4_ := pw_cell_below hb t4
      have HS5_ := pw_cell_below hb t5
      have HS6_ := pw_cell_below hb t6
      have HS7_ := pw_cell_below hb t7
      have HS8_ := pw_cell_below hb t8
      have HS9_ := pw_cell_below hb t9
      have HS10_ := pw_cell_below hb t10
      have HS11_ := pw_cell_below hb t11
      have HS12_ := pw_cell_below hb t12
      have HS13_ := pw_cell_below hb t13
      have HS14_ := pw_cell_below hb t14
      have HS15_ := pw_cell_below hb t15
      have TW1 := Aside0.mk (below_then TWD.out TWD.out.size hb)
      clear hb
      refine ⟨_, rfl, ?_⟩
      refine hK.out _ _ ⟨HS0_, HS1_, HS2_, HS3_, HS4_, HS5_, HS6_, HS7_, HS8_, HS9_, HS10_, HS11_, HS12_, HS13_, HS14_, HS15_⟩ (fun hHeld => ?_)
      clear hK K
      refine norm_ (a' := ?_) ?_ ?_
      rotate_left
      · show Act.put _ (some 21) _ = _
        simp only [Act.put, List.setIfInBounds_toArray, List.set_cons_zero, List.set_cons_succ]
        rfl
      refine one_ (i := 3) (N := some 23) #[true, true, true, true, false, false, false, false, false, false, false, false, false, false, false, false, false, false, false, false, false, false, false, false, false, false, false, false, false, false, false, false, false, false, false, false, false, false, false, false, false] rfl rfl (one_of HT_.out (by kernel_rfl)) (by decide) (fun K hK => ?_)
      refine goes_ Try.func28 (by kernel_rfl) rfl #[.agg #[.int .i64 s, .int .u64 g, .bool true, .bool tg]] (by rfl) rfl rfl (by (try simp only [List.map_toArray, List.map_cons, List.map_nil]); first | done | rfl) ?_
      refine (deadwoodref03_Put.calls _ _ _ _ _ _ P1.out).mono ?_
      rintro e_ wq2 ⟨rfl, hb⟩
      have hHeld2 := hHeld
      obtain ⟨t0, t1, t2, t3, t4, t5, t6, t7, t8, t9, t10, t11, t12, t13, t14, t15⟩ := hHeld2
      have HS0_ := pw_cell_below hb t0
      have HS1_ := pw_cell_below hb t1
      have HS2_ := pw_cell_below hb t2
      have HS3_ := pw_cell_below hb t3
      have HS4_ := pw_cell_below hb t4
      have HS5_ := pw_cell_below hb t5
      have HS6_ := pw_cell_below hb t6
      have HS7_ := pw_cell_below hb t7
      have HS8_ := pw_cell_below hb t8
      have HS9_ := pw_cell_below hb t9
      have HS10_ := pw_cell_below hb t10
      have HS11_ := pw_cell_below hb t11
      have HS12_ := pw_cell_below hb t12
      have HS13_ := pw_cell_below hb t13
      have HS14_ := pw_cell_below hb t14
      have HS15_ := pw_cell_below hb t15
      have TW2 := Aside0.mk (below_then TW1.out TW1.out.size hb)
      clear hb
      refine ⟨_, rfl, ?_⟩
      refine hK.out _ _ ⟨HS0_, HS1_, HS2_, HS3_, HS4_, HS5_, HS6_, HS7_, HS8_, HS9_, HS10_, HS11_, HS12_, HS13_, HS14_, HS15_⟩ (fun hHeld => ?_)
      clear hK K
      refine norm_ (a' := ?_) ?_ ?_
      rotate_left
      · show Act.put _ (some 23) _ = _
        simp only [Act.put, List.setIfInBounds_toArray, List.set_cons_zero, List.set_cons_succ]
        rfl
      refine pure_ (i := 4) (N := some 24) (v := ?_) (a' := ?_) #[true, true, true, true, true, false, false, false, false, false, false, false, false, false, false, false, false, false, false, false, false, false, false, false, false, false, false, false, false, false, false, false, false, false, false, false, false, false, false, false, false] rfl rfl (any_of HT_.out (by kernel_rfl)) (fun _ _ _ h => h) (Or.inl ⟨by rfl, ?_⟩) ?_ ?_
      rotate_left
      · intro w'
        go_simp
        with_reducible rfl
      rotate_left
      · simp only [Act.put, List.setIfInBounds_toArray, List.set_cons_zero, List.set_cons_succ]
        rfl
      refine pure_ (i := 5) (N := some 25) (v := ?_) (a' := ?_) #[true, true, true, true, true, true, false, false, false, false, false, false, false, false, false, false, false, false, false, false, false, false, false, false, false, false, false, false, false, false, false, false, false, false, false, false, false, false, false, false, false] rfl rfl (any_of HT_.out (by kernel_rfl)) (fun _ _ _ h => h) (Or.inl ⟨by rfl, ?_⟩) ?_ ?_
      rotate_left
      · intro w'
        go_simp
        with_reducible rfl
      rotate_left
      · simp only [Act.put, List.setIfInBounds_toArray, List.set_cons_zero, List.set_cons_succ]
        rfl
      refine pure_ (i := 6) (N := some 26) (v := ?_) (a' := ?_) #[true, true, true, true, true, true, true, false, false, false, false, false, false, false, false, false, false, false, false, false, false, false, false, false, false, false, false, false, false, false, false, false, false, false, false, false, false, false, false, false, false] rfl rfl (any_of HT_.out (by kernel_rfl)) (fun _ _ _ h => h) (Or.inl ⟨by rfl, ?_⟩) ?_ ?_
      rotate_left
      · intro w'
        go_simp
        with_reducible rfl
      rotate_left
      · simp only [Act.put, List.setIfInBounds_toArray, List.set_cons_zero, List.set_cons_succ]
        rfl
      refine take_ (i := 8) (N := some 28) (v := ?_) (a' := ?_) #[true, true, true, true, true, true, true, false, true, false, false, false, false, false, false, false, false, false, false, false, false, false, false, false, false, false, false, false, false, false, false, false, false, false, false, false, false, false, false, false, false] rfl rfl (take_ofW HT_.out HW_.out (by kernel_rfl)) (fun _ _ _ h => h) (Or.inl ⟨by rfl, ?_⟩) hHeld ?_ ?_
      rotate_left
      · rintro w' ⟨s0, s1, s2, s3, s4, s5, s6, s7, s8, s9, s10, s11, s12, s13, s14, s15⟩
        go_simp
        with_reducible rfl
      rotate_left
      · simp only [Act.put, List.setIfInBounds_toArray, List.set_cons_zero, List.set_cons_succ]
        rfl
      refine one_ (i := 7) (N := some 27) #[true, true, true, true, true, true, true, true, true, false, false, false, false, false, false, false, false, false, false, false, false, false, false, false, false, false, false, false, false, false, false, false, false, false, false, false, false, false, false, false, false] rfl rfl (one_of HT_.out (by kernel_rfl)) (by decide) (fun K hK => ?_)
      refine goes_ Try.func39 (by kernel_rfl) rfl #[.int .u64 a0] (by rfl) rfl rfl (by (try simp only [List.map_toArray, List.map_cons, List.map_nil]); first | done | rfl) ?_
      refine (tg_b _ _ _ H2.out).mono ?_
      rintro e_ wq3 ⟨rfl, hb⟩
      have hHeld2 := hHeld
      obtain ⟨t0, t1, t2, t3, t4, t5, t6, t7, t8, t9, t10, t11, t12, t13, t14, t15⟩ := hHeld2
      have HS0_ := pw_cell_below hb t0
      have HS1_ := pw_cell_below hb t1
      have HS2_ := pw_cell_below hb t2
      have HS3_ := pw_cell_below hb t3
      have HS4_ := pw_cell_below hb t4
      have HS5_ := pw_cell_below hb t5
      have HS6_ := pw_cell_below hb t6
      have HS7_ := pw_cell_below hb t7
      have HS8_ := pw_cell_below hb t8
      have HS9_ := pw_cell_below hb t9
      have HS10_ := pw_cell_below hb t10
      have HS11_ := pw_cell_below hb t11
      have HS12_ := pw_cell_below hb t12
      have HS13_ := pw_cell_below hb t13
      have HS14_ := pw_cell_below hb t14
      have HS15_ := pw_cell_below hb t15
      have TW3 := Aside0.mk (below_then TW2.out TW2.out.size hb)
      clear hb
      refine ⟨_, rfl, ?_⟩
      refine hK.out _ _ ⟨HS0_, HS1_, HS2_, HS3_, HS4_, HS5_, HS6_, HS7_, HS8_, HS9_, HS10_, HS11_, HS12_, HS13_, HS14_, HS15_⟩ (fun hHeld => ?_)
      clear hK K
      refine norm_ (a' := ?_) ?_ ?_
      rotate_left
      · show Act.put _ (some 27) _ = _
        simp only [Act.put, List.setIfInBounds_toArray, List.set_cons_zero, List.set_cons_succ]
        rfl
      refine one_ (i := 9) (N := some 29) #[true, true, true, true, true, true, true, true, true, true, false, false, false, false, false, false, false, false, false, false, false, false, false, false, false, false, false, false, false, false, false, false, false, false, false, false, false, false, false, false, false] rfl rfl (one_of HT_.out (by kernel_rfl)) (by decide) (fun K hK => ?_)
      refine goes_ Try.func28 (by kernel_rfl) rfl #[.agg #[.int .i64 s, .int .u64 g, .bool fl, .bool true]] (by rfl) rfl rfl (by (try simp only [List.map_toArray, List.map_cons, List.map_nil]); first | done | rfl) ?_
      refine (deadwoodref03_Put.calls _ _ _ _ _ _ P2.out).mono ?_
      rintro e_ wq4 ⟨rfl, hb⟩
      have hHeld2 := hHeld
      obtain ⟨t0, t1, t2, t3, t4, t5, t6, t7, t8, t9, t10, t11, t12, t13, t14, t15⟩ := hHeld2
      have HS0_ := pw_cell_below hb t0
      have HS1_ := pw_cell_below hb t1
      have HS2_ := pw_cell_below hb t2
      have HS3_ := pw_cell_below hb t3
      have HS4_ := pw_cell_below hb t4
      have HS5_ := pw_cell_below hb t5
      have HS6_ := pw_cell_below hb t6
      have HS7_ := pw_cell_below hb t7
      have HS8_ := pw_cell_below hb t8
      have HS9_ := pw_cell_below hb t9
      have HS10_ := pw_cell_below hb t10
      have HS11_ := pw_cell_below hb t11
      have HS12_ := pw_cell_below hb t12
      have HS13_ := pw_cell_below hb t13
      have HS14_ := pw_cell_below hb t14
      have HS15_ := pw_cell_below hb t15
      have TW4 := Aside0.mk (below_then TW3.out TW3.out.size hb)
      clear hb
      refine ⟨_, rfl, ?_⟩
      refine hK.out _ _ ⟨HS0_, HS1_, HS2_, HS3_, HS4_, HS5_, HS6_, HS7_, HS8_, HS9_, HS10_, HS11_, HS12_, HS13_, HS14_, HS15_⟩ (fun hHeld => ?_)
      clear hK K
      refine norm_ (a' := ?_) ?_ ?_
      rotate_left
      · show Act.put _ (some 29) _ = _
        simp only [Act.put, List.setIfInBounds_toArray, List.set_cons_zero, List.set_cons_succ]
        rfl
      refine pure_ (i := 10) (N := some 30) (v := ?_) (a' := ?_) #[true, true, true, true, true, true, true, true, true, true, true, false, false, false, false, false, false, false, false, false, false, false, false, false, false, false, false, false, false, false, false, false, false, false, false, false, false, false, false, false, false] rfl rfl (any_of HT_.out (by kernel_rfl)) (fun _ _ _ h => h) (Or.inl ⟨by rfl, ?_⟩) ?_ ?_
      rotate_left
      · intro w'
        go_simp
        with_reducible rfl
      rotate_left
      · simp only [Act.put, List.setIfInBounds_toArray, List.set_cons_zero, List.set_cons_succ]
        rfl
      refine pure_ (i := 11) (N := some 31) (v := ?_) (a' := ?_) #[true, true, true, true, true, true, true, true, true, true, true, true, false, false, false, false, false, false, false, false, false, false, false, false, false, false, false, false, false, false, false, false, false, false, false, false, false, false, false, false, false] rfl rfl (any_of HT_.out (by kernel_rfl)) (fun _ _ _ h => h) (Or.inl ⟨by rfl, ?_⟩) ?_ ?_
      rotate_left
      · intro w'
        go_simp
        with_reducible rfl
      rotate_left
      · simp only [Act.put, List.setIfInBounds_toArray, List.set_cons_zero, List.set_cons_succ]
        rfl
      refine pure_ (i := 12) (N := some 32) (v := ?_) (a' := ?_) #[true, true, true, true, true, true, true, true, true, true, true, true, true, false, false, false, false, false, false, false, false, false, false, false, false, false, false, false, false, false, false, false, false, false, false, false, false, false, false, false, false] rfl rfl (any_of HT_.out (by kernel_rfl)) (fun _ _ _ h => h) (Or.inl ⟨by rfl, ?_⟩) ?_ ?_
      rotate_left
      · intro w'
        go_simp
        with_reducible rfl
      rotate_left
      · simp only [Act.put, List.setIfInBounds_toArray, List.set_cons_zero, List.set_cons_succ]
        rfl
      refine pure_ (i := 13) (N := some 33) (v := ?_) (a' := ?_) #[true, true, true, true, true, true, true, true, true, true, true, true, true, true, false, false, false, false, false, false, false, false, false, false, false, false, false, false, false, false, false, false, false, false, false, false, false, false, false, false, false] rfl rfl (any_of HT_.out (by kernel_rfl)) (fun _ _ _ h => h) (Or.inl ⟨by rfl, ?_⟩) ?_ ?_
      rotate_left
      · intro w'
        go_simp
        with_reducible rfl
      rotate_left
      · simp only [Act.put, List.setIfInBounds_toArray, List.set_cons_zero, List.set_cons_succ]
        rfl
      refine take_ (i := 15) (N := some 35) (v := ?_) (a' := ?_) #[true, true, true, true, true, true, true, true, true, true, true, true, true, true, false, true, false, false, false, false, false, false, false, false, false, false, false, false, false, false, false, false, false, false, false, false, false, false, false, false, false] rfl rfl (take_ofW HT_.out HW_.out (by kernel_rfl)) (fun _ _ _ h => h) (Or.inl ⟨by rfl, ?_⟩) hHeld ?_ ?_
      rotate_left
      · rintro w' ⟨s0, s1, s2, s3, s4, s5, s6, s7, s8, s9, s10, s11, s12, s13, s14, s15⟩
        go_simp
        with_reducible rfl
      rotate_left
      · simp only [Act.put, List.setIfInBounds_toArray, List.set_cons_zero, List.set_cons_succ]
        rfl
      refine one_ (i := 14) (N := some 34) #[true, true, true, true, true, true, true, true, true, true, true, true, true, true, true, true, false, false, false, false, false, false, false, false, false, false, false, false, false, false, false, false, false, false, false, false, false, false, false, false, false] rfl rfl (one_of HT_.out (by kernel_rfl)) (by decide) (fun K hK => ?_)
      refine goes_ Try.func40 (by kernel_rfl) rfl #[.int .u64 a0] (by rfl) rfl rfl (by (try simp only [List.map_toArray, List.map_cons, List.map_nil]); first | done | rfl) ?_
      refine (kp_b _ _ _ H3.out).mono ?_
      rintro e_ wq5 ⟨rfl, hb⟩
      have hHeld2 := hHeld
      obtain ⟨t0, t1, t2, t3, t4, t5, t6, t7, t8, t9, t10, t11, t12, t13, t14, t15⟩ := hHeld2
      have HS0_ := pw_cell_below hb t0
      have HS1_ := pw_cell_below hb t1
      have HS2_ := pw_cell_below hb t2
      have HS3_ := pw_cell_below hb t3
      have HS4_ := pw_cell_below hb t4
      have HS5_ := pw_cell_below hb t5
      have HS6_ := pw_cell_below hb t6
      have HS7_ := pw_cell_below hb t7
      have HS8_ := pw_cell_below hb t8
      have HS9_ := pw_cell_below hb t9
      have HS10_ := pw_cell_below hb t10
      have HS11_ := pw_cell_below hb t11
      have HS12_ := pw_cell_below hb t12
      have HS13_ := pw_cell_below hb t13
      have HS14_ := pw_cell_below hb t14
      have HS15_ := pw_cell_below hb t15
      have TW5 := Aside0.mk (below_then TW4.out TW4.out.size hb)
      clear hb
      refine ⟨_, rfl, ?_⟩
      refine hK.out _ _ ⟨HS0_, HS1_, HS2_, HS3_, HS4_, HS5_, HS6_, HS7_, HS8_, HS9_, HS10_, HS11_, HS12_, HS13_, HS14_, HS15_⟩ (fun hHeld => ?_)
      clear hK K
      refine norm_ (a' := ?_) ?_ ?_
      rotate_left
      · show Act.put _ (some 34) _ = _
        simp only [Act.put, List.setIfInBounds_toArray, List.set_cons_zero, List.set_cons_succ]
        rfl
      refine one_ (i := 16) (N := some 36) #[true, true, true, true, true, true, true, true, true, true, true, true, true, true, true, true, true, false, false, false, false, false, false, false, false, false, false, false, false, false, false, false, false, false, false, false, false, false, false, false, false] rfl rfl (one_of HT_.out (by kernel_rfl)) (by decide) (fun K hK => ?_)
      refine goes_ Try.func28 (by kernel_rfl) rfl #[.agg #[.int .i64 s, .int .u64 g, .bool fl, .bool false]] (by rfl) rfl rfl (by (try simp only [List.map_toArray, List.map_cons, List.map_nil]); first | done | rfl) ?_
      refine (deadwoodref03_Put.calls _ _ _ _ _ _ P3.out).mono ?_
      rintro e_ wq6 ⟨rfl, hb⟩
      have hHeld2 := hHeld
      obtain ⟨t0, t1, t2, t3, t4, t5, t6, t7, t8, t9, t10, t11, t12, t13, t14, t15⟩ := hHeld2
      have HS0_ := pw_cell_below hb t0
      have HS1_ := pw_cell_below hb t1
      have HS2_ := pw_cell_below hb t2
      have HS3_ := pw_cell_below hb t3
      have HS4_ := pw_cell_below hb t4
      have HS5_ := pw_cell_below hb t5
      have HS6_ := pw_cell_below hb t6
      have HS7_ := pw_cell_below hb t7
      have HS8_ := pw_cell_below hb t8
      have HS9_ := pw_cell_below hb t9
      have HS10_ := pw_cell_below hb t10
      have HS11_ := pw_cell_below hb t11
      have HS12_ := pw_cell_below hb t12
      have HS13_ := pw_cell_below hb t13
      have HS14_ := pw_cell_below hb t14
      have HS15_ := pw_cell_below hb t15
      have TW6 := Aside0.mk (below_then TW5.out TW5.out.size hb)
      clear hb
      refine ⟨_, rfl, ?_⟩
      refine hK.out _ _ ⟨HS0_, HS1_, HS2_, HS3_, HS4_, HS5_, HS6_, HS7_, HS8_, HS9_, HS10_, HS11_, HS12_, HS13_, HS14_, HS15_⟩ (fun hHeld => ?_)
      clear hK K
      refine norm_ (a' := ?_) ?_ ?_
      rotate_left
      · show Act.put _ (some 36) _ = _
        simp only [Act.put, List.setIfInBounds_toArray, List.set_cons_zero, List.set_cons_succ]
        rfl
      refine pure_ (i := 17) (N := some 37) (v := ?_) (a' := ?_) #[true, true, true, true, true, true, true, true, true, true, true, true, true, true, true, true, true, true, false, false, false, false, false, false, false, false, false, false, false, false, false, false, false, false, false, false, false, false, false, false, false] rfl rfl (any_of HT_.out (by kernel_rfl)) (fun _ _ _ h => h) (Or.inl ⟨by rfl, ?_⟩) ?_ ?_
      rotate_left
      · intro w'
        go_simp
        with_reducible rfl
      rotate_left
      · simp only [Act.put, List.setIfInBounds_toArray, List.set_cons_zero, List.set_cons_succ]
        rfl
      refine pure_ (i := 18) (N := some 38) (v := ?_) (a' := ?_) #[true, true, true, true, true, true, true, true, true, true, true, true, true, true, true, true, true, true, true, false, false, false, false, false, false, false, false, false, false, false, false, false, false, false, false, false, false, false, false, false, false] rfl rfl (any_of HT_.out (by kernel_rfl)) (fun _ _ _ h => h) (Or.inl ⟨by rfl, ?_⟩) ?_ ?_
      rotate_left
      · intro w'
        go_simp
        with_reducible rfl
      rotate_left
      · simp only [Act.put, List.setIfInBounds_toArray, List.set_cons_zero, List.set_cons_succ]
        rfl
      refine pure_ (i := 19) (N := some 39) (v := ?_) (a' := ?_) #[true, true, true, true, true, true, true, true, true, true, true, true, true, true, true, true, true, true, true, true, false, false, false, false, false, false, false, false, false, false, false, false, false, false, false, false, false, false, false, false, false] rfl rfl (any_of HT_.out (by kernel_rfl)) (fun _ _ _ h => h) (Or.inl ⟨by rfl, ?_⟩) ?_ ?_
      rotate_left
      · intro w'
        go_simp
        with_reducible rfl
      rotate_left
      · simp only [Act.put, List.setIfInBounds_toArray, List.set_cons_zero, List.set_cons_succ]
        rfl
      refine pure_ (i := 20) (N := some 40) (v := ?_) (a' := ?_) #[true, true, true, true, true, true, true, true, true, true, true, true, true, true, true, true, true, true, true, true, true, false, false, false, false, false, false, false, false, false, false, false, false, false, false, false, false, false, false, false, false] rfl rfl (any_of HT_.out (by kernel_rfl)) (fun _ _ _ h => h) (Or.inl ⟨by rfl, ?_⟩) ?_ ?_
      rotate_left
      · intro w'
        go_simp
        with_reducible rfl
      rotate_left
      · simp only [Act.put, List.setIfInBounds_toArray, List.set_cons_zero, List.set_cons_succ]
        rfl
      refine pure_ (i := 21) (N := some 41) (v := ?_) (a' := ?_) #[true, true, true, true, true, true, true, true, true, true, true, true, true, true, true, true, true, true, true, true, true, true, false, false, false, false, false, false, false, false, false, false, false, false, false, false, false, false, false, false, false] rfl rfl (any_of HT_.out (by kernel_rfl)) (fun _ _ _ h => h) (Or.inl ⟨by rfl, ?_⟩) ?_ ?_
      rotate_left
      · intro w'
        go_simp
        with_reducible rfl
      rotate_left
      · simp only [Act.put, List.setIfInBounds_toArray, List.set_cons_zero, List.set_cons_succ]
        rfl
      refine pure_ (i := 23) (N := some 43) (v := ?_) (a' := ?_) #[true, true, true, true, true, true, true, true, true, true, true, true, true, true, true, true, true, true, true, true, true, true, false, true, false, false, false, false, false, false, false, false, false, false, false, false, false, false, false, false, false] rfl rfl (any_of HT_.out (by kernel_rfl)) (fun _ _ _ h => h) (Or.inl ⟨by rfl, ?_⟩) ?_ ?_
      rotate_left
      · intro w'
        go_simp
        with_reducible rfl
      rotate_left
      · simp only [Act.put, List.setIfInBounds_toArray, List.set_cons_zero, List.set_cons_succ]
        rfl
      refine pure_ (i := 25) (N := some 45) (v := ?_) (a' := ?_) #[true, true, true, true, true, true, true, true, true, true, true, true, true, true, true, true, true, true, true, true, true, true, false, true, false, true, false, false, false, false, false, false, false, false, false, false, false, false, false, false, false] rfl rfl (any_of HT_.out (by kernel_rfl)) (fun _ _ _ h => h) (Or.inl ⟨by rfl, ?_⟩) ?_ ?_
      rotate_left
      · intro w'
        go_simp
        with_reducible rfl
      rotate_left
      · simp only [Act.put, List.setIfInBounds_toArray, List.set_cons_zero, List.set_cons_succ]
        rfl
      refine take_ (i := 24) (N := some 44) (v := ?_) (a' := ?_) #[true, true, true, true, true, true, true, true, true, true, true, true, true, true, true, true, true, true, true, true, true, true, false, true, true, true, false, false, false, false, false, false, false, false, false, false, false, false, false, false, false] rfl rfl (take_ofW HT_.out HW_.out (by kernel_rfl)) (fun _ _ _ h => h) (Or.inl ⟨by rfl, ?_⟩) hHeld ?_ ?_
      rotate_left
      · rintro w' ⟨s0, s1, s2, s3, s4, s5, s6, s7, s8, s9, s10, s11, s12, s13, s14, s15⟩
        go_simp
        with_reducible rfl
      rotate_left
      · simp only [Act.put, List.setIfInBounds_toArray, List.set_cons_zero, List.set_cons_succ]
        rfl
      refine take_ (i := 26) (N := some 46) (v := ?_) (a' := ?_) #[true, true, true, true, true, true, true, true, true, true, true, true, true, true, true, true, true, true, true, true, true, true, false, true, true, true, true, false, false, false, false, false, false, false, false, false, false, false, false, false, false] rfl rfl (take_ofW HT_.out HW_.out (by kernel_rfl)) (fun _ _ _ h => h) (Or.inl ⟨by rfl, ?_⟩) hHeld ?_ ?_
      rotate_left
      · rintro w' ⟨s0, s1, s2, s3, s4, s5, s6, s7, s8, s9, s10, s11, s12, s13, s14, s15⟩
        go_simp
        with_reducible rfl
      rotate_left
      · simp only [Act.put, List.setIfInBounds_toArray, List.set_cons_zero, List.set_cons_succ]
        rfl
      refine pure_ (i := 27) (N := some 47) (v := ?_) (a' := ?_) #[true, true, true, true, true, true, true, true, true, true, true, true, true, true, true, true, true, true, true, true, true, true, false, true, true, true, true, true, false, false, false, false, false, false, false, false, false, false, false, false, false] rfl rfl (any_of HT_.out (by kernel_rfl)) (fun _ _ _ h => h) (Or.inl ⟨by rfl, ?_⟩) ?_ ?_
      rotate_left
      · intro w'
        go_simp
        with_reducible rfl
      rotate_left
      · simp only [Act.put, List.setIfInBounds_toArray, List.set_cons_zero, List.set_cons_succ]
        rfl
      refine one_ (i := 22) (N := some 42) #[true, true, true, true, true, true, true, true, true, true, true, true, true, true, true, true, true, true, true, true, true, true, true, true, true, true, true, true, false, false, false, false, false, false, false, false, false, false, false, false, false] rfl rfl (one_of HT_.out (by kernel_rfl)) (by decide) (fun K hK => ?_)
      refine goes_ Try.func41 (by kernel_rfl) rfl #[.int .u64 a0, .int .u64 a1] (by rfl) rfl rfl (by (try simp only [List.map_toArray, List.map_cons, List.map_nil]); first | done | rfl) ?_
      refine (to_b _ _ _ _ HT.out).mono ?_
      rintro e_ wq7 ⟨rfl, hb⟩
      have hHeld2 := hHeld
      obtain ⟨t0, t1, t2, t3, t4, t5, t6, t7, t8, t9, t10, t11, t12, t13, t14, t15⟩ := hHeld2
      have HS0_ := pw_cell_below hb t0
      have HS1_ := pw_cell_below hb t1
      have HS2_ := pw_cell_below hb t2
      have HS3_ := pw_cell_below hb t3
      have HS4_ := pw_cell_below hb t4
      have HS5_ := pw_cell_below hb t5
      have HS6_ := pw_cell_below hb t6
      have HS7_ := pw_cell_below hb t7
      have HS8_ := pw_cell_below hb t8
      have HS9_ := pw_cell_below hb t9
      have HS10_ := pw_cell_below hb t10
      have HS11_ := pw_cell_below hb t11
      have HS12_ := pw_cell_below hb t12
      have HS13_ := pw_cell_below hb t13
      have HS14_ := pw_cell_below hb t14
      have HS15_ := pw_cell_below hb t15
      have TW7 := Aside0.mk (below_then TW6.out TW6.out.size hb)
      clear hb
      refine ⟨_, rfl, ?_⟩
      refine hK.out _ _ ⟨HS0_, HS1_, HS2_, HS3_, HS4_, HS5_, HS6_, HS7_, HS8_, HS9_, HS10_, HS11_, HS12_, HS13_, HS14_, HS15_⟩ (fun hHeld => ?_)
      clear hK K
      refine norm_ (a' := ?_) ?_ ?_
      rotate_left
      · show Act.put _ (some 42) _ = _
        simp only [Act.put, List.setIfInBounds_toArray, List.set_cons_zero, List.set_cons_succ]
        rfl
      refine pure_ (i := 28) (N := some 48) (v := ?_) (a' := ?_) #[true, true, true, true, true, true, true, true, true, true, true, true, true, true, true, true, true, true, true, true, true, true, true, true, true, true, true, true, true, false, false, false, false, false, false, false, false, false, false, false, false] rfl rfl (any_of HT_.out (by kernel_rfl)) (fun _ _ _ h => h) (Or.inl ⟨by rfl, ?_⟩) ?_ ?_
      rotate_left
      · intro w'
        go_simp
        with_reducible rfl
      rotate_left
      · simp only [Act.put, List.setIfInBounds_toArray, List.set_cons_zero, List.set_cons_succ]
        rfl
      refine pure_ (i := 29) (N := some 49) (v := ?_) (a' := ?_) #[true, true, true, true, true, true, true, true, true, true, true, true, true, true, true, true, true, true, true, true, true, true, true, true, true, true, true, true, true, true, false, false, false, false, false, false, false, false, false, false, false] rfl rfl (any_of HT_.out (by kernel_rfl)) (fun _ _ _ h => h) (Or.inl ⟨by rfl, ?_⟩) ?_ ?_
      rotate_left
      · intro w'
        go_simp
        with_reducible rfl
      rotate_left
      · simp only [Act.put, List.setIfInBounds_toArray, List.set_cons_zero, List.set_cons_succ]
        rfl
      refine pure_ (i := 31) (N := some 51) (v := ?_) (a' := ?_) #[true, true, true, true, true, true, true, true, true, true, true, true, true, true, true, true, true, true, true, true, true, true, true, true, true, true, true, true, true, true, false, true, false, false, false, false, false, false, false, false, false] rfl rfl (any_of HT_.out (by kernel_rfl)) (fun _ _ _ h => h) (Or.inl ⟨by rfl, ?_⟩) ?_ ?_
      rotate_left
      · intro w'
        go_simp
        with_reducible rfl
      rotate_left
      · simp only [Act.put, List.setIfInBounds_toArray, List.set_cons_zero, List.set_cons_succ]
        rfl
      refine take_ (i := 30) (N := some 50) (v := ?_) (a' := ?_) #[true, true, true, true, true, true, true, true, true, true, true, true, true, true, true, true, true, true, true, true, true, true, true, true, true, true, true, true, true, true, true, true, false, false, false, false, false, false, false, false, false] rfl rfl (take_ofW HT_.out HW_.out (by kernel_rfl)) (fun _ _ _ h => h) (Or.inl ⟨by rfl, ?_⟩) hHeld ?_ ?_
      rotate_left
      · rintro w' ⟨s0, s1, s2, s3, s4, s5, s6, s7, s8, s9, s10, s11, s12, s13, s14, s15⟩
        go_simp
        with_reducible rfl
      rotate_left
      · simp only [Act.put, List.setIfInBounds_toArray, List.set_cons_zero, List.set_cons_succ]
        rfl
      refine take_ (i := 32) (N := some 52) (v := ?_) (a' := ?_) #[true, true, true, true, true, true, true, true, true, true, true, true, true, true, true, true, true, true, true, true, true, true, true, true, true, true, true, true, true, true, true, true, true, false, false, false, false, false, false, false, false] rfl rfl (take_ofW HT_.out HW_.out (by kernel_rfl)) (fun _ _ _ h => h) (Or.inl ⟨by rfl, ?_⟩) hHeld ?_ ?_
      rotate_left
      · rintro w' ⟨s0, s1, s2, s3, s4, s5, s6, s7, s8, s9, s10, s11, s12, s13, s14, s15⟩
        go_simp
        with_reducible rfl
      rotate_left
      · simp only [Act.put, List.setIfInBounds_toArray, List.set_cons_zero, List.set_cons_succ]
        rfl
      refine pure_ (i := 33) (N := some 53) (v := ?_) (a' := ?_) #[true, true, true, true, true, true, true, true, true, true, true, true, true, true, true, true, true, true, true, true, true, true, true, true, true, true, true, true, true, true, true, true, true, true, false, false, false, false, false, false, false] rfl rfl (any_of HT_.out (by kernel_rfl)) (fun _ _ _ h => h) (Or.inl ⟨by rfl, ?_⟩) ?_ ?_
      rotate_left
      · intro w'
        go_simp
        with_reducible rfl
      rotate_left
      · simp only [Act.put, List.setIfInBounds_toArray, List.set_cons_zero, List.set_cons_succ]
        rfl
      refine pure_ (i := 34) (N := some 54) (v := ?_) (a' := ?_) #[true, true, true, true, true, true, true, true, true, true, true, true, true, true, true, true, true, true, true, true, true, true, true, true, true, true, true, true, true, true, true, true, true, true, true, false, false, false, false, false, false] rfl rfl (any_of HT_.out (by kernel_rfl)) (fun _ _ _ h => h) (Or.inl ⟨by rfl, ?_⟩) ?_ ?_
      rotate_left
      · intro w'
        go_simp
        with_reducible rfl
      rotate_left
      · simp only [Act.put, List.setIfInBounds_toArray, List.set_cons_zero, List.set_cons_succ]
        rfl
      refine pure_ (i := 35) (N := some 55) (v := ?_) (a' := ?_) #[true, true, true, true, true, true, true, true, true, true, true, true, true, true, true, true, true, true, true, true, true, true, true, true, true, true, true, true, true, true, true, true, true, true, true, true, false, false, false, false, false] rfl rfl (any_of HT_.out (by kernel_rfl)) (fun _ _ _ h => h) (Or.inl ⟨by rfl, ?_⟩) ?_ ?_
      rotate_left
      · intro w'
        go_simp
        with_reducible rfl
      rotate_left
      · simp only [Act.put, List.setIfInBounds_toArray, List.set_cons_zero, List.set_cons_succ]
        rfl
      refine pure_ (i := 36) (N := some 56) (v := ?_) (a' := ?_) #[true, true, true, true, true, true, true, true, true, true, true, true, true, true, true, true, true, true, true, true, true, true, true, true, true, true, true, true, true, true, true, true, true, true, true, true, true, false, false, false, false] rfl rfl (any_of HT_.out (by kernel_rfl)) (fun _ _ _ h => h) (Or.inl ⟨by rfl, ?_⟩) ?_ ?_
      rotate_left
      · intro w'
        go_simp
        with_reducible rfl
      rotate_left
      · simp only [Act.put, List.setIfInBounds_toArray, List.set_cons_zero, List.set_cons_succ]
        rfl
      refine pure_ (i := 37) (N := some 57) (v := ?_) (a' := ?_) #[true, true, true, true, true, true, true, true, true, true, true, true, true, true, true, true, true, true, true, true, true, true, true, true, true, true, true, true, true, true, true, true, true, true, true, true, true, true, false, false, false] rfl rfl (any_of HT_.out (by kernel_rfl)) (fun _ _ _ h => h) (Or.inl ⟨by rfl, ?_⟩) ?_ ?_
      rotate_left
      · intro w'
        go_simp
        with_reducible rfl
      rotate_left
      · simp only [Act.put, List.setIfInBounds_toArray, List.set_cons_zero, List.set_cons_succ]
        rfl
      refine one_ (i := 38) (N := some 58) #[true, true, true, true, true, true, true, true, true, true, true, true, true, true, true, true, true, true, true, true, true, true, true, true, true, true, true, true, true, true, true, true, true, true, true, true, true, true, true, false, false] rfl rfl (one_of HT_.out (by kernel_rfl)) (by decide) (fun K hK => ?_)
      refine goes_ Try.func29 (by kernel_rfl) rfl #[] (by rfl) rfl rfl (by (try simp only [List.map_toArray, List.map_cons, List.map_nil]); first | done | rfl) ?_
      refine (lv_b _ _ HV.out).mono ?_
      rintro e_ wq8 ⟨rfl, hb⟩
      have hHeld2 := hHeld
      obtain ⟨t0, t1, t2, t3, t4, t5, t6, t7, t8, t9, t10, t11, t12, t13, t14, t15⟩ := hHeld2
      have HS0_ := pw_cell_below hb t0
      have HS1_ := pw_cell_below hb t1
      have HS2_ := pw_cell_below hb t2
      have HS3_ := pw_cell_below hb t3
      have HS4_ := pw_cell_below hb t4
      have HS5_ := pw_cell_below hb t5
      have HS6_ := pw_cell_below hb t6
      have HS7_ := pw_cell_below hb t7
      have HS8_ := pw_cell_below hb t8
      have HS9_ := pw_cell_below hb t9
      have HS10_ := pw_cell_below hb t10
      have HS11_ := pw_cell_below hb t11
      have HS12_ := pw_cell_below hb t12
      have HS13_ := pw_cell_below hb t13
      have HS14_ := pw_cell_below hb t14
      have HS15_ := pw_cell_below hb t15
      have TW8 := Aside0.mk (below_then TW7.out TW7.out.size hb)
      clear hb
      refine ⟨_, rfl, ?_⟩
      refine hK.out _ _ ⟨HS0_, HS1_, HS2_, HS3_, HS4_, HS5_, HS6_, HS7_, HS8_, HS9_, HS10_, HS11_, HS12_, HS13_, HS14_, HS15_⟩ (fun hHeld => ?_)
      clear hK K
      refine norm_ (a' := ?_) ?_ ?_
      rotate_left
      · show Act.put _ (some 58) _ = _
        simp only [Act.put, List.setIfInBounds_toArray, List.set_cons_zero, List.set_cons_succ]
        rfl
      refine pure_ (i := 39) (N := some 59) (v := ?_) (a' := ?_) #[true, true, true, true, true, true, true, true, true, true, true, true, true, true, true, true, true, true, true, true, true, true, true, true, true, true, true, true, true, true, true, true, true, true, true, true, true, true, true, true, false] rfl rfl (any_of HT_.out (by kernel_rfl)) (fun _ _ _ h => h) (Or.inl ⟨by rfl, ?_⟩) ?_ ?_
      rotate_left
      · intro w'
        go_simp
        with_reducible rfl
      rotate_left
      · simp only [Act.put, List.setIfInBounds_toArray, List.set_cons_zero, List.set_cons_succ]
        rfl
      refine pure_ (i := 40) (N := some 4) (v := ?_) (a' := ?_) #[true, true, true, true, true, true, true, true, true, true, true, true, true, true, true, true, true, true, true, true, true, true, true, true, true, true, true, true, true, true, true, true, true, true, true, true, true, true, true, true, true] rfl rfl (any_of HT_.out (by kernel_rfl)) (fun _ _ _ h => h) (Or.inl ⟨by rfl, ?_⟩) ?_ ?_
      rotate_left
      · intro w'
        go_simp
        with_reducible rfl
      rotate_left
      · simp only [Act.put, List.setIfInBounds_toArray, List.set_cons_zero, List.set_cons_succ]
        rfl
      refine done_ (done_of HT_.out (by kernel_rfl)) ?_
      go_wp2
      go_ret
      exact ⟨rfl, TW8.out⟩
    · have ds : (s == s2) = false := by rw [beq_eq_false_iff_ne]; exact hs
      have d1 := e2 hs
      subst d1
      clear e1 e2 hs
      go_wp2_with fail
      have TWD := Aside0.mk (below_drew1 B4.out)
      refine start_ (n := 41) (S := fun W' => W'.cell? ⟨a, 0, none⟩ = some (.int .i64 s) ∧ W'.cell? ⟨a, 1, none⟩ = some (.int .u64 g) ∧ W'.cell? ⟨a, 2, none⟩ = some (.bool true) ∧ W'.cell? ⟨a, 3, none⟩ = some (.bool tg) ∧ W'.cell? ⟨b, 0, none⟩ = some (.int .i64 s) ∧ W'.cell? ⟨b, 1, none⟩ = some (.int .u64 g) ∧ W'.cell? ⟨b, 2, none⟩ = some (.bool fl) ∧ W'.cell? ⟨b, 3, none⟩ = some (.bool true) ∧ W'.cell? ⟨c, 0, none⟩ = some (.int .i64 s) ∧ W'.cell? ⟨c, 1, none⟩ = some (.int .u64 g) ∧ W'.cell? ⟨c, 2, none⟩ = some (.bool fl) ∧ W'.cell? ⟨c, 3, none⟩ = some (.bool false) ∧ W'.cell? ⟨d, 0, none⟩ = some (.int .i64 s) ∧ W'.cell? ⟨d, 1, none⟩ = some (.int .u64 g) ∧ W'.cell? ⟨e, 0, none⟩ = some (.int .i64 s2) ∧ W'.cell? ⟨e, 1, none⟩ = some (.int .u64 g2)) (ds := []) #[false, false, false, false, false, false, false, false, false, false, false, false, false, false, false, false, false, false, false, false, false, false, false, false, false, false, false, false, false, false, false, false, false, false, false, false, false, false, false, false, false] (by kernel_rfl) rfl rfl ⟨k0, k1, k2, k3, k4, k5, k6, k7, k8, k9, k10, k11, k12, k13, k14, k15⟩ (fun hHeld => ?_); refine with_tabW law_tab6 law_bits6 (fun HT_ HW_ => ?_)
      generalize w5.drew = wd_ at k0 k1 k2 k3 k4 k5 k6 k7 k8 k9 k10 k11 k12 k13 k14 k15 TWD hHeld ⊢
      refine pure_ (i := 0) (N := some 20) (v := ?_) (a' := ?_) #[true, false, false, false, false, false, false, false, false, false, false, false, false, false, false, false, false, false, false, false, false, false, false, false, false, false, false, false, false, false, false, false, false, false, false, false, false, false, false, false, false] rfl rfl (any_of HT_.out (by kernel_rfl)) (fun _ _ _ h => h) (Or.inl ⟨by rfl, ?_⟩) ?_ ?_
      rotate_left
      · intro w'
        go_simp
        with_reducible rfl
      rotate_left
      · simp only [Act.put, List.setIfInBounds_toArray, List.set_cons_zero, List.set_cons_succ]
        rfl
      refine take_ (i := 2) (N := some 22) (v := ?_) (a' := ?_) #[true, false, true, false, false, false, false, false, false, false, false, false, false, false, false, false, false, false, false, false, false, false, false, false, false, false, false, false, false, false, false, false, false, false, false, false, false, false, false, false, false] rfl rfl (take_ofW HT_.out HW_.out (by kernel_rfl)) (fun _ _ _ h => h) (Or.inl ⟨by rfl, ?_⟩) hHeld ?_ ?_
      rotate_left
      · rintro w' ⟨s0, s1, s2, s3, s4, s5, s6, s7, s8, s9, s10, s11, s12, s13, s14, s15⟩
        go_simp
        with_reducible rfl
      rotate_left
      · simp only [Act.put, List.setIfInBounds_toArray, List.set_cons_zero, List.set_cons_succ]
        rfl
      refine one_ (i := 1) (N := some 21) #[true, true, true, false, false, false, false, false, false, false, false, false, false, false, false, false, false, false, false, false, false, false, false, false, false, false, false, false, false, false, false, false, false, false, false, false, false, false, false, false, false] rfl rfl (one_of HT_.out (by kernel_rfl)) (by decide) (fun K hK => ?_)
      refine goes_ Try.func38 (by kernel_rfl) rfl #[.int .u64 a0] (by rfl) rfl rfl (by (try simp only [List.map_toArray, List.map_cons, List.map_nil]); first | done | rfl) ?_
      refine (fl_b _ _ _ H1.out).mono ?_
      rintro e_ wq1 ⟨rfl, hb⟩
      have hHeld2 := hHeld
      obtain ⟨t0, t1, t2, t3, t4, t5, t6, t7, t8, t9, t10, t11, t12, t13, t14, t15⟩ := hHeld2
      have HS0_ := pw_cell_below hb t0
      have HS1_ := pw_cell_below hb t1
      have HS2_ := pw_cell_below hb t2
      have HS3_ := pw_cell_below hb t3
      have HS4_ := pw_cell_below hb t4
      have HS5_ := pw_cell_below hb t5
      have HS6_ := pw_cell_below hb t6
      have HS7_ := pw_cell_below hb t7
      have HS8_ := pw_cell_below hb t8
      have HS9_ := pw_cell_below hb t9
      have HS10_ := pw_cell_below hb t10
      have HS11_ := pw_cell_below hb t11
      have HS12_ := pw_cell_below hb t12
      have HS13_ := pw_cell_below hb t13
      have HS14_ := pw_cell_below hb t14
      have HS15_ := pw_cell_below hb t15
      have TW1 := Aside0.mk (below_then TWD.out TWD.out.size hb)
      clear hb
      refine ⟨_, rfl, ?_⟩
      refine hK.out _ _ ⟨HS0_, HS1_, HS2_, HS3_, HS4_, HS5_, HS6_, HS7_, HS8_, HS9_, HS10_, HS11_, HS12_, HS13_, HS14_, HS15_⟩ (fun hHeld => ?_)
      clear hK K
      refine norm_ (a' := ?_) ?_ ?_
      rotate_left
      · show Act.put _ (some 21) _ = _
        simp only [Act.put, List.setIfInBounds_toArray, List.set_cons_zero, List.set_cons_succ]
        rfl
      refine one_ (i := 3) (N := some 23) #[true, true, true, true, false, false, false, false, false, false, false, false, false, false, false, false, false, false, false, false, false, false, false, false, false, false, false, false, false, false, false, false, false, false, false, false, false, false, false, false, false] rfl rfl (one_of HT_.out (by kernel_rfl)) (by decide) (fun K hK => ?_)
      refine goes_ Try.func28 (by kernel_rfl) rfl #[.agg #[.int .i64 s, .int .u64 g, .bool true, .bool tg]] (by rfl) rfl rfl (by (try simp only [List.map_toArray, List.map_cons, List.map_nil]); first | done | rfl) ?_
      refine (deadwoodref03_Put.calls _ _ _ _ _ _ P1.out).mono ?_
      rintro e_ wq2 ⟨rfl, hb⟩
      have hHeld2 := hHeld
      obtain ⟨t0, t1, t2, t3, t4, t5, t6, t7, t8, t9, t10, t11, t12, t13, t14, t15⟩ := hHeld2
      have HS0_ := pw_cell_below hb t0
      have HS1_ := pw_cell_below hb t1
      have HS2_ := pw_cell_below hb t2
      have HS3_ := pw_cell_below hb t3
      have HS4_ := pw_cell_below hb t4
      have HS5_ := pw_cell_below hb t5
      have HS6_ := pw_cell_below hb t6
      have HS7_ := pw_cell_below hb t7
      have HS8_ := pw_cell_below hb t8
      have HS9_ := pw_cell_below hb t9
      have HS10_ := pw_cell_below hb t10
      have HS11_ := pw_cell_below hb t11
      have HS12_ := pw_cell_below hb t12
      have HS13_ := pw_cell_below hb t13
      have HS14_ := pw_cell_below hb t14
      have HS15_ := pw_cell_below hb t15
      have TW2 := Aside0.mk (below_then TW1.out TW1.out.size hb)
      clear hb
      refine ⟨_, rfl, ?_⟩
      refine hK.out _ _ ⟨HS0_, HS1_, HS2_, HS3_, HS4_, HS5_, HS6_, HS7_, HS8_, HS9_, HS10_, HS11_, HS12_, HS13_, HS14_, HS15_⟩ (fun hHeld => ?_)
      clear hK K
      refine norm_ (a' := ?_) ?_ ?_
      rotate_left
      · show Act.put _ (some 23) _ = _
        simp only [Act.put, List.setIfInBounds_toArray, List.set_cons_zero, List.set_cons_succ]
        rfl
      refine pure_ (i := 4) (N := some 24) (v := ?_) (a' := ?_) #[true, true, true, true, true, false, false, false, false, false, false, false, false, false, false, false, false, false, false, false, false, false, false, false, false, false, false, false, false, false, false, false, false, false, false, false, false, false, false, false, false] rfl rfl (any_of HT_.out (by kernel_rfl)) (fun _ _ _ h => h) (Or.inl ⟨by rfl, ?_⟩) ?_ ?_
      rotate_left
      · intro w'
        go_simp
        with_reducible rfl
      rotate_left
      · simp only [Act.put, List.setIfInBounds_toArray, List.set_cons_zero, List.set_cons_succ]
        rfl
      refine pure_ (i := 5) (N := some 25) (v := ?_) (a' := ?_) #[true, true, true, true, true, true, false, false, false, false, false, false, false, false, false, false, false, false, false, false, false, false, false, false, false, false, false, false, false, false, false, false, false, false, false, false, false, false, false, false, false] rfl rfl (any_of HT_.out (by kernel_rfl)) (fun _ _ _ h => h) (Or.inl ⟨by rfl, ?_⟩) ?_ ?_
      rotate_left
      · intro w'
        go_simp
        with_reducible rfl
      rotate_left
      · simp only [Act.put, List.setIfInBounds_toArray, List.set_cons_zero, List.set_cons_succ]
        rfl
      refine pure_ (i := 6) (N := some 26) (v := ?_) (a' := ?_) #[true, true, true, true, true, true, true, false, false, false, false, false, false, false, false, false, false, false, false, false, false, false, false, false, false, false, false, false, false, false, false, false, false, false, false, false, false, false, false, false, false] rfl rfl (any_of HT_.out (by kernel_rfl)) (fun _ _ _ h => h) (Or.inl ⟨by rfl, ?_⟩) ?_ ?_
      rotate_left
      · intro w'
        go_simp
        with_reducible rfl
      rotate_left
      · simp only [Act.put, List.setIfInBounds_toArray, List.set_cons_zero, List.set_cons_succ]
        rfl
      refine take_ (i := 8) (N := some 28) (v := ?_) (a' := ?_) #[true, true, true, true, true, true, true, false, true, false, false, false, false, false, false, false, false, false, false, false, false, false, false, false, false, false, false, false, false, false, false, false, false, false, false, false, false, false, false, false, false] rfl rfl (take_ofW HT_.out HW_.out (by kernel_rfl)) (fun _ _ _ h => h) (Or.inl ⟨by rfl, ?_⟩) hHeld ?_ ?_
      rotate_left
      · rintro w' ⟨s0, s1, s2, s3, s4, s5, s6, s7, s8, s9, s10, s11, s12, s13, s14, s15⟩
        go_simp
        with_reducible rfl
      rotate_left
      · simp only [Act.put, List.setIfInBounds_toArray, List.set_cons_zero, List.set_cons_succ]
        rfl
      refine one_ (i := 7) (N := some 27) #[true, true, true, true, true, true, true, true, true, false, false, false, false, false, false, false, false, false, false, false, false, false, false, false, false, false, false, false, false, false, false, false, false, false, false, false, false, false, false, false, false] rfl rfl (one_of HT_.out (by kernel_rfl)) (by decide) (fun K hK => ?_)
      refine goes_ Try.func39 (by kernel_rfl) rfl #[.int .u64 a0] (by rfl) rfl rfl (by (try simp only [List.map_toArray, List.map_cons, List.map_nil]); first | done | rfl) ?_
      refine (tg_b _ _ _ H2.out).mono ?_
      rintro e_ wq3 ⟨rfl, hb⟩
      have hHeld2 := hHeld
      obtain ⟨t0, t1, t2, t3, t4, t5, t6, t7, t8, t9, t10, t11, t12, t13, t14, t15⟩ := hHeld2
      have HS0_ := pw_cell_below hb t0
      have HS1_ := pw_cell_below hb t1
      have HS2_ := pw_cell_below hb t2
      have HS3_ := pw_cell_below hb t3
      have HS4_ := pw_cell_below hb t4
      have HS5_ := pw_cell_below hb t5
      have HS6_ := pw_cell_below hb t6
      have HS7_ := pw_cell_below hb t7
      have HS8_ := pw_cell_below hb t8
      have HS9_ := pw_cell_below hb t9
      have HS10_ := pw_cell_below hb t10
      have HS11_ := pw_cell_below hb t11
      have HS12_ := pw_cell_below hb t12
      have HS13_ := pw_cell_below hb t13
      have HS14_ := pw_cell_below hb t14
      have HS15_ := pw_cell_below hb t15
      have TW3 := Aside0.mk (below_then TW2.out TW2.out.size hb)
      clear hb
      refine ⟨_, rfl, ?_⟩
      refine hK.out _ _ ⟨HS0_, HS1_, HS2_, HS3_, HS4_, HS5_, HS6_, HS7_, HS8_, HS9_, HS10_, HS11_, HS12_, HS13_, HS14_, HS15_⟩ (fun hHeld => ?_)
      clear hK K
      refine norm_ (a' := ?_) ?_ ?_
      rotate_left
      · show Act.put _ (some 27) _ = _
        simp only [Act.put, List.setIfInBounds_toArray, List.set_cons_zero, List.set_cons_succ]
        rfl
      refine one_ (i := 9) (N := some 29) #[true, true, true, true, true, true, true, true, true, true, false, false, false, false, false, false, false, false, false, false, false, false, false, false, false, false, false, false, false, false, false, false, false, false, false, false, false, false, false, false, false] rfl rfl (one_of HT_.out (by kernel_rfl)) (by decide) (fun K hK => ?_)
      refine goes_ Try.func28 (by kernel_rfl) rfl #[.agg #[.int .i64 s, .int .u64 g, .bool fl, .bool true]] (by rfl) rfl rfl (by (try simp only [List.map_toArray, List.map_cons, List.map_nil]); first | done | rfl) ?_
      refine (deadwoodref03_Put.calls _ _ _ _ _ _ P2.out).mono ?_
      rintro e_ wq4 ⟨rfl, hb⟩
      have hHeld2 := hHeld
      obtain ⟨t0, t1, t2, t3, t4, t5, t6, t7, t8, t9, t10, t11, t12, t13, t14, t15⟩ := hHeld2
      have HS0_ := pw_cell_below hb t0
      have HS1_ := pw_cell_below hb t1
      have HS2_ := pw_cell_below hb t2
      have HS3_ := pw_cell_below hb t3
      have HS4_ := pw_cell_below hb t4
      have HS5_ := pw_cell_below hb t5
      have HS6_ := pw_cell_below hb t6
      have HS7_ := pw_cell_below hb t7
      have HS8_ := pw_cell_below hb t8
      have HS9_ := pw_cell_below hb t9
      have HS10_ := pw_cell_below hb t10
      have HS11_ := pw_cell_below hb t11
      have HS12_ := pw_cell_below hb t12
      have HS13_ := pw_cell_below hb t13
      have HS14_ := pw_cell_below hb t14
      have HS15_ := pw_cell_below hb t15
      have TW4 := Aside0.mk (below_then TW3.out TW3.out.size hb)
      clear hb
      refine ⟨_, rfl, ?_⟩
      refine hK.out _ _ ⟨HS0_, HS1_, HS2_, HS3_, HS4_, HS5_, HS6_, HS7_, HS8_, HS9_, HS10_, HS11_, HS12_, HS13_, HS14_, HS15_⟩ (fun hHeld => ?_)
      clear hK K
      refine norm_ (a' := ?_) ?_ ?_
      rotate_left
      · show Act.put _ (some 29) _ = _
        simp only [Act.put, List.setIfInBounds_toArray, List.set_cons_zero, List.set_cons_succ]
        rfl
      refine pure_ (i := 10) (N := some 30) (v := ?_) (a' := ?_) #[true, true, true, true, true, true, true, true, true, true, true, false, false, false, false, false, false, false, false, false, false, false, false, false, false, false, false, false, false, false, false, false, false, false, false, false, false, false, false, false, false] rfl rfl (any_of HT_.out (by kernel_rfl)) (fun _ _ _ h => h) (Or.inl ⟨by rfl, ?_⟩) ?_ ?_
      rotate_left
      · intro w'
        go_simp
        with_reducible rfl
      rotate_left
      · simp only [Act.put, List.setIfInBounds_toArray, List.set_cons_zero, List.set_cons_succ]
        rfl
      refine pure_ (i := 11) (N := some 31) (v := ?_) (a' := ?_) #[true, true, true, true, true, true, true, true, true, true, true, true, false, false, false, false, false, false, false, false, false, false, false, false, false, false, false, false, false, false, false, false, false, false, false, false, false, false, false, false, false] rfl rfl (any_of HT_.out (by kernel_rfl)) (fun _ _ _ h => h) (Or.inl ⟨by rfl, ?_⟩) ?_ ?_
      rotate_left
      · intro w'
        go_simp
        with_reducible rfl
      rotate_left
      · simp only [Act.put, List.setIfInBounds_toArray, List.set_cons_zero, List.set_cons_succ]
        rfl
      refine pure_ (i := 12) (N := some 32) (v := ?_) (a' := ?_) #[true, true, true, true, true, true, true, true, true, true, true, true, true, false, false, false, false, false, false, false, false, false, false, false, false, false, false, false, false, false, false, false, false, false, false, false, false, false, false, false, false] rfl rfl (any_of HT_.out (by kernel_rfl)) (fun _ _ _ h => h) (Or.inl ⟨by rfl, ?_⟩) ?_ ?_
      rotate_left
      · intro w'
        go_simp
        with_reducible rfl
      rotate_left
      · simp only [Act.put, List.setIfInBounds_toArray, List.set_cons_zero, List.set_cons_succ]
        rfl
      refine pure_ (i := 13) (N := some 33) (v := ?_) (a' := ?_) #[true, true, true, true, true, true, true, true, true, true, true, true, true, true, false, false, false, false, false, false, false, false, false, false, false, false, false, false, false, false, false, false, false, false, false, false, false, false, false, false, false] rfl rfl (any_of HT_.out (by kernel_rfl)) (fun _ _ _ h => h) (Or.inl ⟨by rfl, ?_⟩) ?_ ?_
      rotate_left
      · intro w'
        go_simp
        with_reducible rfl
      rotate_left
      · simp only [Act.put, List.setIfInBounds_toArray, List.set_cons_zero, List.set_cons_succ]
        rfl
      refine take_ (i := 15) (N := some 35) (v := ?_) (a' := ?_) #[true, true, true, true, true, true, true, true, true, true, true, true, true, true, false, true, false, false, false, false, false, false, false, false, false, false, false, false, false, false, false, false, false, false, false, false, false, false, false, false, false] rfl rfl (take_ofW HT_.out HW_.out (by kernel_rfl)) (fun _ _ _ h => h) (Or.inl ⟨by rfl, ?_⟩) hHeld ?_ ?_
      rotate_left
      · rintro w' ⟨s0, s1, s2, s3, s4, s5, s6, s7, s8, s9, s10, s11, s12, s13, s14, s15⟩
        go_simp
        with_reducible rfl
      rotate_left
      · simp only [Act.put, List.setIfInBounds_toArray, List.set_cons_zero, List.set_cons_succ]
        rfl
      refine one_ (i := 14) (N := some 34) #[true, true, true, true, true, true, true, true, true, true, true, true, true, true, true, true, false, false, false, false, false, false, false, false, false, false, false, false, false, false, false, false, false, false, false, false, false, false, false, false, false] rfl rfl (one_of HT_.out (by kernel_rfl)) (by decide) (fun K hK => ?_)
      refine goes_ Try.func40 (by kernel_rfl) rfl #[.int .u64 a0] (by rfl) rfl rfl (by (try simp only [List.map_toArray, List.map_cons, List.map_nil]); first | done | rfl) ?_
      refine (kp_b _ _ _ H3.out).mono ?_
      rintro e_ wq5 ⟨rfl, hb⟩
      have hHeld2 := hHeld
      obtain ⟨t0, t1, t2, t3, t4, t5, t6, t7, t8, t9, t10, t11, t12, t13, t14, t15⟩ := hHeld2
      have HS0_ := pw_cell_below hb t0
      have HS1_ := pw_cell_below hb t1
      have HS2_ := pw_cell_below hb t2
      have HS3_ := pw_cell_below hb t3
      have HS4_ := pw_cell_below hb t4
      have HS5_ := pw_cell_below hb t5
      have HS6_ := pw_cell_below hb t6
      have HS7_ := pw_cell_below hb t7
      have HS8_ := pw_cell_below hb t8
      have HS9_ := pw_cell_below hb t9
      have HS10_ := pw_cell_below hb t10
      have HS11_ := pw_cell_below hb t11
      have HS12_ := pw_cell_below hb t12
      have HS13_ := pw_cell_below hb t13
      have HS14_ := pw_cell_below hb t14
      have HS15_ := pw_cell_below hb t15
      have TW5 := Aside0.mk (below_then TW4.out TW4.out.size hb)
      clear hb
      refine ⟨_, rfl, ?_⟩
      refine hK.out _ _ ⟨HS0_, HS1_, HS2_, HS3_, HS4_, HS5_, HS6_, HS7_, HS8_, HS9_, HS10_, HS11_, HS12_, HS13_, HS14_, HS15_⟩ (fun hHeld => ?_)
      clear hK K
      refine norm_ (a' := ?_) ?_ ?_
      rotate_left
      · show Act.put _ (some 34) _ = _
        simp only [Act.put, List.setIfInBounds_toArray, List.set_cons_zero, List.set_cons_succ]
        rfl
      refine one_ (i := 16) (N := some 36) #[true, true, true, true, true, true, true, true, true, true, true, true, true, true, true, true, true, false, false, false, false, false, false, false, false, false, false, false, false, false, false, false, false, false, false, false, false, false, false, false, false] rfl rfl (one_of HT_.out (by kernel_rfl)) (by decide) (fun K hK => ?_)
      refine goes_ Try.func28 (by kernel_rfl) rfl #[.agg #[.int .i64 s, .int .u64 g, .bool fl, .bool false]] (by rfl) rfl rfl (by (try simp only [List.map_toArray, List.map_cons, List.map_nil]); first | done | rfl) ?_
      refine (deadwoodref03_Put.calls _ _ _ _ _ _ P3.out).mono ?_
      rintro e_ wq6 ⟨rfl, hb⟩
      have hHeld2 := hHeld
      obtain ⟨t0, t1, t2, t3, t4, t5, t6, t7, t8, t9, t10, t11, t12, t13, t14, t15⟩ := hHeld2
      have HS0_ := pw_cell_below hb t0
      have HS1_ := pw_cell_below hb t1
      have HS2_ := pw_cell_below hb t2
      have HS3_ := pw_cell_below hb t3
      have HS4_ := pw_cell_below hb t4
      have HS5_ := pw_cell_below hb t5
      have HS6_ := pw_cell_below hb t6
      have HS7_ := pw_cell_below hb t7
      have HS8_ := pw_cell_below hb t8
      have HS9_ := pw_cell_below hb t9
      have HS10_ := pw_cell_below hb t10
      have HS11_ := pw_cell_below hb t11
      have HS12_ := pw_cell_below hb t12
      have HS13_ := pw_cell_below hb t13
      have HS14_ := pw_cell_below hb t14
      have HS15_ := pw_cell_below hb t15
      have TW6 := Aside0.mk (below_then TW5.out TW5.out.size hb)
      clear hb
      refine ⟨_, rfl, ?_⟩
      refine hK.out _ _ ⟨HS0_, HS1_, HS2_, HS3_, HS4_, HS5_, HS6_, HS7_, HS8_, HS9_, HS10_, HS11_, HS12_, HS13_, HS14_, HS15_⟩ (fun hHeld => ?_)
      clear hK K
      refine norm_ (a' := ?_) ?_ ?_
      rotate_left
      · show Act.put _ (some 36) _ = _
        simp only [Act.put, List.setIfInBounds_toArray, List.set_cons_zero, List.set_cons_succ]
        rfl
      refine pure_ (i := 17) (N := some 37) (v := ?_) (a' := ?_) #[true, true, true, true, true, true, true, true, true, true, true, true, true, true, true, true, true, true, false, false, false, false, false, false, false, false, false, false, false, false, false, false, false, false, false, false, false, false, false, false, false] rfl rfl (any_of HT_.out (by kernel_rfl)) (fun _ _ _ h => h) (Or.inl ⟨by rfl, ?_⟩) ?_ ?_
      rotate_left
      · intro w'
        go_simp
        with_reducible rfl
      rotate_left
      · simp only [Act.put, List.setIfInBounds_toArray, List.set_cons_zero, List.set_cons_succ]
        rfl
      refine pure_ (i := 18) (N := some 38) (v := ?_) (a' := ?_) #[true, true, true, true, true, true, true, true, true, true, true, true, true, true, true, true, true, true, true, false, false, false, false, false, false, false, false, false, false, false, false, false, false, false, false, false, false, false, false, false, false] rfl rfl (any_of HT_.out (by kernel_rfl)) (fun _ _ _ h => h) (Or.inl ⟨by rfl, ?_⟩) ?_ ?_
      rotate_left
      · intro w'
        go_simp
        with_reducible rfl
      rotate_left
      · simp only [Act.put, List.setIfInBounds_toArray, List.set_cons_zero, List.set_cons_succ]
        rfl
      refine pure_ (i := 19) (N := some 39) (v := ?_) (a' := ?_) #[true, true, true, true, true, true, true, true, true, true, true, true, true, true, true, true, true, true, true, true, false, false, false, false, false, false, false, false, false, false, false, false, false, false, false, false, false, false, false, false, false] rfl rfl (any_of HT_.out (by kernel_rfl)) (fun _ _ _ h => h) (Or.inl ⟨by rfl, ?_⟩) ?_ ?_
      rotate_left
      · intro w'
        go_simp
        with_reducible rfl
      rotate_left
      · simp only [Act.put, List.setIfInBounds_toArray, List.set_cons_zero, List.set_cons_succ]
        rfl
      refine pure_ (i := 20) (N := some 40) (v := ?_) (a' := ?_) #[true, true, true, true, true, true, true, true, true, true, true, true, true, true, true, true, true, true, true, true, true, false, false, false, false, false, false, false, false, false, false, false, false, false, false, false, false, false, false, false, false] rfl rfl (any_of HT_.out (by kernel_rfl)) (fun _ _ _ h => h) (Or.inl ⟨by rfl, ?_⟩) ?_ ?_
      rotate_left
      · intro w'
        go_simp
        with_reducible rfl
      rotate_left
      · simp only [Act.put, List.setIfInBounds_toArray, List.set_cons_zero, List.set_cons_succ]
        rfl
      refine pure_ (i := 21) (N := some 41) (v := ?_) (a' := ?_) #[true, true, true, true, true, true, true, true, true, true, true, true, true, true, true, true, true, true, true, true, true, true, false, false, false, false, false, false, false, false, false, false, false, false, false, false, false, false, false, false, false] rfl rfl (any_of HT_.out (by kernel_rfl)) (fun _ _ _ h => h) (Or.inl ⟨by rfl, ?_⟩) ?_ ?_
      rotate_left
      · intro w'
        go_simp
        with_reducible rfl
      rotate_left
      · simp only [Act.put, List.setIfInBounds_toArray, List.set_cons_zero, List.set_cons_succ]
        rfl
      refine pure_ (i := 23) (N := some 43) (v := ?_) (a' := ?_) #[true, true, true, true, true, true, true, true, true, true, true, true, true, true, true, true, true, true, true, true, true, true, false, true, false, false, false, false, false, false, false, false, false, false, false, false, false, false, false, false, false] rfl rfl (any_of HT_.out (by kernel_rfl)) (fun _ _ _ h => h) (Or.inl ⟨by rfl, ?_⟩) ?_ ?_
      rotate_left
      · intro w'
        go_simp
        with_reducible rfl
      rotate_left
      · simp only [Act.put, List.setIfInBounds_toArray, List.set_cons_zero, List.set_cons_succ]
        rfl
      refine pure_ (i := 25) (N := some 45) (v := ?_) (a' := ?_) #[true, true, true, true, true, true, true, true, true, true, true, true, true, true, true, true, true, true, true, true, true, true, false, true, false, true, false, false, false, false, false, false, false, false, false, false, false, false, false, false, false] rfl rfl (any_of HT_.out (by kernel_rfl)) (fun _ _ _ h => h) (Or.inl ⟨by rfl, ?_⟩) ?_ ?_
      rotate_left
      · intro w'
        go_simp
        with_reducible rfl
      rotate_left
      · simp only [Act.put, List.setIfInBounds_toArray, List.set_cons_zero, List.set_cons_succ]
        rfl
      refine take_ (i := 24) (N := some 44) (v := ?_) (a' := ?_) #[true, true, true, true, true, true, true, true, true, true, true, true, true, true, true, true, true, true, true, true, true, true, false, true, true, true, false, false, false, false, false, false, false, false, false, false, false, false, false, false, false] rfl rfl (take_ofW HT_.out HW_.out (by kernel_rfl)) (fun _ _ _ h => h) (Or.inl ⟨by rfl, ?_⟩) hHeld ?_ ?_
      rotate_left
      · rintro w' ⟨s0, s1, s2, s3, s4, s5, s6, s7, s8, s9, s10, s11, s12, s13, s14, s15⟩
        go_simp
        with_reducible rfl
      rotate_left
      · simp only [Act.put, List.setIfInBounds_toArray, List.set_cons_zero, List.set_cons_succ]
        rfl
      refine take_ (i := 26) (N := some 46) (v := ?_) (a' := ?_) #[true, true, true, true, true, true, true, true, true, true, true, true, true, true, true, true, true, true, true, true, true, true, false, true, true, true, true, false, false, false, false, false, false, false, false, false, false, false, false, false, false] rfl rfl (take_ofW HT_.out HW_.out (by kernel_rfl)) (fun _ _ _ h => h) (Or.inl ⟨by rfl, ?_⟩) hHeld ?_ ?_
      rotate_left
      · rintro w' ⟨s0, s1, s2, s3, s4, s5, s6, s7, s8, s9, s10, s11, s12, s13, s14, s15⟩
        go_simp
        with_reducible rfl
      rotate_left
      · simp only [Act.put, List.setIfInBounds_toArray, List.set_cons_zero, List.set_cons_succ]
        rfl
      refine pure_ (i := 27) (N := some 47) (v := ?_) (a' := ?_) #[true, true, true, true, true, true, true, true, true, true, true, true, true, true, true, true, true, true, true, true, true, true, false, true, true, true, true, true, false, false, false, false, false, false, false, false, false, false, false, false, false] rfl rfl (any_of HT_.out (by kernel_rfl)) (fun _ _ _ h => h) (Or.inl ⟨by rfl, ?_⟩) ?_ ?_
      rotate_left
      · intro w'
        go_simp
        with_reducible rfl
      rotate_left
      · simp only [Act.put, List.setIfInBounds_toArray, List.set_cons_zero, List.set_cons_succ]
        rfl
      refine one_ (i := 22) (N := some 42) #[true, true, true, true, true, true, true, true, true, true, true, true, true, true, true, true, true, true, true, true, true, true, true, true, true, true, true, true, false, false, false, false, false, false, false, false, false, false, false, false, false] rfl rfl (one_of HT_.out (by kernel_rfl)) (by decide) (fun K hK => ?_)
      refine goes_ Try.func41 (by kernel_rfl) rfl #[.int .u64 a0, .int .u64 a1] (by rfl) rfl rfl (by (try simp only [List.map_toArray, List.map_cons, List.map_nil]); first | done | rfl) ?_
      refine (to_b _ _ _ _ HT.out).mono ?_
      rintro e_ wq7 ⟨rfl, hb⟩
      have hHeld2 := hHeld
      obtain ⟨t0, t1, t2, t3, t4, t5, t6, t7, t8, t9, t10, t11, t12, t13, t14, t15⟩ := hHeld2
      have HS0_ := pw_cell_below hb t0
      have HS1_ := pw_cell_below hb t1
      have HS2_ := pw_cell_below hb t2
      have HS3_ := pw_cell_below hb t3
      have HS4_ := pw_cell_below hb t4
      have HS5_ := pw_cell_below hb t5
      have HS6_ := pw_cell_below hb t6
      have HS7_ := pw_cell_below hb t7
      have HS8_ := pw_cell_below hb t8
      have HS9_ := pw_cell_below hb t9
      have HS10_ := pw_cell_below hb t10
      have HS11_ := pw_cell_below hb t11
      have HS12_ := pw_cell_below hb t12
      have HS13_ := pw_cell_below hb t13
      have HS14_ := pw_cell_below hb t14
      have HS15_ := pw_cell_below hb t15
      have TW7 := Aside0.mk (below_then TW6.out TW6.out.size hb)
      clear hb
      refine ⟨_, rfl, ?_⟩
      refine hK.out _ _ ⟨HS0_, HS1_, HS2_, HS3_, HS4_, HS5_, HS6_, HS7_, HS8_, HS9_, HS10_, HS11_, HS12_, HS13_, HS14_, HS15_⟩ (fun hHeld => ?_)
      clear hK K
      refine norm_ (a' := ?_) ?_ ?_
      rotate_left
      · show Act.put _ (some 42) _ = _
        simp only [Act.put, List.setIfInBounds_toArray, List.set_cons_zero, List.set_cons_succ]
        rfl
      refine pure_ (i := 28) (N := some 48) (v := ?_) (a' := ?_) #[true, true, true, true, true, true, true, true, true, true, true, true, true, true, true, true, true, true, true, true, true, true, true, true, true, true, true, true, true, false, false, false, false, false, false, false, false, false, false, false, false] rfl rfl (any_of HT_.out (by kernel_rfl)) (fun _ _ _ h => h) (Or.inl ⟨by rfl, ?_⟩) ?_ ?_
      rotate_left
      · intro w'
        go_simp
        with_reducible rfl
      rotate_left
      · simp only [Act.put, List.setIfInBounds_toArray, List.set_cons_zero, List.set_cons_succ]
        rfl
      refine pure_ (i := 29) (N := some 49) (v := undef) (a' := ?_) #[true, true, true, true, true, true, true, true, true, true, true, true, true, true, true, true, true, true, true, true, true, true, true, true, true, true, true, true, true, true, false, false, false, false, false, false, false, false, false, false, false] rfl rfl (any_of HT_.out (by kernel_rfl)) (fun _ _ _ h => h) (Or.inr ⟨by rfl, rfl⟩) ?_ ?_
      rotate_left
      · simp only [Act.put, List.setIfInBounds_toArray, List.set_cons_zero, List.set_cons_succ]
        rfl
      refine pure_ (i := 30) (N := some 50) (v := undef) (a' := ?_) #[true, true, true, true, true, true, true, true, true, true, true, true, true, true, true, true, true, true, true, true, true, true, true, true, true, true, true, true, true, true, true, false, false, false, false, false, false, false, false, false, false] rfl rfl (any_of HT_.out (by kernel_rfl)) (fun _ _ _ h => h) (Or.inr ⟨by rfl, rfl⟩) ?_ ?_
      rotate_left
      · simp only [Act.put, List.setIfInBounds_toArray, List.set_cons_zero, List.set_cons_succ]
        rfl
      refine pure_ (i := 31) (N := some 51) (v := undef) (a' := ?_) #[true, true, true, true, true, true, true, true, true, true, true, true, true, true, true, true, true, true, true, true, true, true, true, true, true, true, true, true, true, true, true, true, false, false, false, false, false, false, false, false, false] rfl rfl (any_of HT_.out (by kernel_rfl)) (fun _ _ _ h => h) (Or.inr ⟨by rfl, rfl⟩) ?_ ?_
      rotate_left
      · simp only [Act.put, List.setIfInBounds_toArray, List.set_cons_zero, List.set_cons_succ]
        rfl
      refine pure_ (i := 32) (N := some 52) (v := undef) (a' := ?_) #[true, true, true, true, true, true, true, true, true, true, true, true, true, true, true, true, true, true, true, true, true, true, true, true, true, true, true, true, true, true, true, true, true, false, false, false, false, false, false, false, false] rfl rfl (any_of HT_.out (by kernel_rfl)) (fun _ _ _ h => h) (Or.inr ⟨by rfl, rfl⟩) ?_ ?_
      rotate_left
      · simp only [Act.put, List.setIfInBounds_toArray, List.set_cons_zero, List.set_cons_succ]
        rfl
      refine pure_ (i := 33) (N := some 53) (v := undef) (a' := ?_) #[true, true, true, true, true, true, true, true, true, true, true, true, true, true, true, true, true, true, true, true, true, true, true, true, true, true, true, true, true, true, true, true, true, true, false, false, false, false, false, false, false] rfl rfl (any_of HT_.out (by kernel_rfl)) (fun _ _ _ h => h) (Or.inr ⟨by rfl, rfl⟩) ?_ ?_
      rotate_left
      · simp only [Act.put, List.setIfInBounds_toArray, List.set_cons_zero, List.set_cons_succ]
        rfl
      refine pure_ (i := 34) (N := some 54) (v := ?_) (a' := ?_) #[true, true, true, true, true, true, true, true, true, true, true, true, true, true, true, true, true, true, true, true, true, true, true, true, true, true, true, true, true, true, true, true, true, true, true, false, false, false, false, false, false] rfl rfl (any_of HT_.out (by kernel_rfl)) (fun _ _ _ h => h) (Or.inl ⟨by rfl, ?_⟩) ?_ ?_
      rotate_left
      · intro w'
        go_simp
        with_reducible rfl
      rotate_left
      · simp only [Act.put, List.setIfInBounds_toArray, List.set_cons_zero, List.set_cons_succ]
        rfl
      refine pure_ (i := 35) (N := some 55) (v := ?_) (a' := ?_) #[true, true, true, true, true, true, true, true, true, true, true, true, true, true, true, true, true, true, true, true, true, true, true, true, true, true, true, true, true, true, true, true, true, true, true, true, false, false, false, false, false] rfl rfl (any_of HT_.out (by kernel_rfl)) (fun _ _ _ h => h) (Or.inl ⟨by rfl, ?_⟩) ?_ ?_
      rotate_left
      · intro w'
        go_simp
        with_reducible rfl
      rotate_left
      · simp only [Act.put, List.setIfInBounds_toArray, List.set_cons_zero, List.set_cons_succ]
        rfl
      refine pure_ (i := 36) (N := some 56) (v := ?_) (a' := ?_) #[true, true, true, true, true, true, true, true, true, true, true, true, true, true, true, true, true, true, true, true, true, true, true, true, true, true, true, true, true, true, true, true, true, true, true, true, true, false, false, false, false] rfl rfl (any_of HT_.out (by kernel_rfl)) (fun _ _ _ h => h) (Or.inl ⟨by rfl, ?_⟩) ?_ ?_
      rotate_left
      · intro w'
        go_simp
        with_reducible rfl
      rotate_left
      · simp only [Act.put, List.setIfInBounds_toArray, List.set_cons_zero, List.set_cons_succ]
        rfl
      refine pure_ (i := 37) (N := some 57) (v := ?_) (a' := ?_) #[true, true, true, true, true, true, true, true, true, true, true, true, true, true, true, true, true, true, true, true, true, true, true, true, true, true, true, true, true, true, true, true, true, true, true, true, true, true, false, false, false] rfl rfl (any_of HT_.out (by kernel_rfl)) (fun _ _ _ h => h) (Or.inl ⟨by rfl, ?_⟩) ?_ ?_
      rotate_left
      · intro w'
        go_simp
        with_reducible rfl
      rotate_left
      · simp only [Act.put, List.setIfInBounds_toArray, List.set_cons_zero, List.set_cons_succ]
        rfl
      refine one_ (i := 38) (N := some 58) #[true, true, true, true, true, true, true, true, true, true, true, true, true, true, true, true, true, true, true, true, true, true, true, true, true, true, true, true, true, true, true, true, true, true, true, true, true, true, true, false, false] rfl rfl (one_of HT_.out (by kernel_rfl)) (by decide) (fun K hK => ?_)
      refine goes_ Try.func29 (by kernel_rfl) rfl #[] (by rfl) rfl rfl (by (try simp only [List.map_toArray, List.map_cons, List.map_nil]); first | done | rfl) ?_
      refine (lv_b _ _ HV.out).mono ?_
      rintro e_ wq8 ⟨rfl, hb⟩
      have hHeld2 := hHeld
      obtain ⟨t0, t1, t2, t3, t4, t5, t6, t7, t8, t9, t10, t11, t12, t13, t14, t15⟩ := hHeld2
      have HS0_ := pw_cell_below hb t0
      have HS1_ := pw_cell_below hb t1
      have HS2_ := pw_cell_below hb t2
      have HS3_ := pw_cell_below hb t3
      have HS4_ := pw_cell_below hb t4
      have HS5_ := pw_cell_below hb t5
      have HS6_ := pw_cell_below hb t6
      have HS7_ := pw_cell_below hb t7
      have HS8_ := pw_cell_below hb t8
      have HS9_ := pw_cell_below hb t9
      have HS10_ := pw_cell_below hb t10
      have HS11_ := pw_cell_below hb t11
      have HS12_ := pw_cell_below hb t12
      have HS13_ := pw_cell_below hb t13
      have HS14_ := pw_cell_below hb t14
      have HS15_ := pw_cell_below hb t15
      have TW8 := Aside0.mk (below_then TW7.out TW7.out.size hb)
      clear hb
      refine ⟨_, rfl, ?_⟩
      refine hK.out _ _ ⟨HS0_, HS1_, HS2_, HS3_, HS4_, HS5_, HS6_, HS7_, HS8_, HS9_, HS10_, HS11_, HS12_, HS13_, HS14_, HS15_⟩ (fun hHeld => ?_)
      clear hK K
      refine norm_ (a' := ?_) ?_ ?_
      rotate_left
      · show Act.put _ (some 58) _ = _
        simp only [Act.put, List.setIfInBounds_toArray, List.set_cons_zero, List.set_cons_succ]
        rfl
      refine pure_ (i := 39) (N := some 59) (v := ?_) (a' := ?_) #[true, true, true, true, true, true, true, true, true, true, true, true, true, true, true, true, true, true, true, true, true, true, true, true, true, true, true, true, true, true, true, true, true, true, true, true, true, true, true, true, false] rfl rfl (any_of HT_.out (by kernel_rfl)) (fun _ _ _ h => h) (Or.inl ⟨by rfl, ?_⟩) ?_ ?_
      rotate_left
      · intro w'
        go_simp
        with_reducible rfl
      rotate_left
      · simp only [Act.put, List.setIfInBounds_toArray, List.set_cons_zero, List.set_cons_succ]
        rfl
      refine pure_ (i := 40) (N := some 4) (v := ?_) (a' := ?_) #[true, true, true, true, true, true, true, true, true, true, true, true, true, true, true, true, true, true, true, true, true, true, true, true, true, true, true, true, true, true, true, true, true, true, true, true, true, true, true, true, true] rfl rfl (any_of HT_.out (by kernel_rfl)) (fun _ _ _ h => h) (Or.inl ⟨by rfl, ?_⟩) ?_ ?_
      rotate_left
      · intro w'
        go_simp
        with_reducible rfl
      rotate_left
      · simp only [Act.put, List.setIfInBounds_toArray, List.set_cons_zero, List.set_cons_succ]
        rfl
      refine done_ (done_of HT_.out (by kernel_rfl)) ?_
      go_wp2
      go_ret
      exact ⟨rfl, TW8.out⟩
end Go.Proofs.Ytdbenonbjklkdaa.EdgeLawM
