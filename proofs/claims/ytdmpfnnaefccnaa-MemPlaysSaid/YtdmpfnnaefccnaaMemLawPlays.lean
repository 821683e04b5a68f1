/- What any accesses of a memory of any size tell, one behind the other, and all words, how many accesses there were, and whether it is at fault, behind each, is the document's: with no condition. -/
import Derived.Test.YtdmpfnnaefccnaaMemRef
import Derived.Test.YtdmpfnnaefccnaaMemNil
import Derived.Test.YtdmpfnnaefccnaaMemLawNone
import Derived.Deep.RegionHeld3
import Derived.Deep.DeepCutAuto
import Derived.Deep.CutRange
set_option linter.unusedVariables false
set_option linter.unusedSimpArgs false
namespace Go.Proofs.Ytdmpfnnaefccnaa.MemLawPlays
open Go Go.RowKit Go.Proofs.YtdmpfnnaefccnaaW.PrintWords Go.Proofs.YtdmpfnnaefccnaaW.PrintLast Go.Proofs.Ytdmpfnnaefccnaa.MemW Go.Proofs.Ytdmpfnnaefccnaa.MemDo Go.Proofs.Ytdmpfnnaefccnaa.MemPlaysNum Go.Proofs.Ytdmpfnnaefccnaa.MemRow Go.Proofs.Ytdmpfnnaefccnaa.MemRef Go.Proofs.Ytdmpfnnaefccnaa.MemLawHolds Go.Proofs.Ytdmpfnnaefccnaa.PMemPlays Go.Proofs.Ytdmpfnnaefccnaa.Num
set_option maxHeartbeats 1000000 in
set_option maxRecDepth 100000 in
theorem walk_long (n : Nat) (A0 : Option Addr) (c0 : Nat) (a0 : Int) (w : World) (hn : 60 < n ∨ (200 < a0 ∧ a0 ≤ 4096)) :
    Calls Try.prog 5 #[.int .i64 a0, .slice A0 n c0] w fun e w' => e = .returned (.bool true) ∧ Below w.heap.size w w' := by
  by_cases h : 60 < n
  · have q1 : (60 : Int) < (n : Int) := by omega
    clear hn h
    go_enter Try.func5, Try.ntmps5
    go_wp2_with fail
    refine (lives_calls _).mono ?_
    rintro e w3 ⟨rfl, hb⟩
    have HB := Aside0.mk hb
    clear hb
    go_wp2
    all_goals go_ret
    all_goals exact ⟨rfl, HB.out⟩
  · have q1 : ¬ (60 : Int) < (n : Int) := by omega
    have q2 : 200 < a0 := by omega
    have q3 : a0 ≤ 4096 := by omega
    clear hn h
    go_enter Try.func5, Try.ntmps5
    go_wp2_with fail
    refine (lives_calls _).mono ?_
    rintro e w3 ⟨rfl, hb⟩
    have HB := Aside0.mk hb
    clear hb
    go_wp2
    all_goals go_ret
    all_goals exact ⟨rfl, HB.out⟩
set_option maxHeartbeats 1000000 in
set_option maxRecDepth 100000 in
theorem walk_none (n : Nat) (A0 : Option Addr) (c0 : Nat) (a0 : Int) (w : World) (hn : n ≤ 60) (ha : a0 < 1 ∨ 4096 < a0) :
    Calls Try.prog 5 #[.int .i64 a0, .slice A0 n c0] w fun e w' => e = .returned (.bool true) ∧ Below w.heap.size w w' := by
  have hu44 := Try.underlying44
  have q1 : ¬ (60 : Int) < (n : Int) := by omega
  have q2 : (decide ((200 : Int) < a0) && decide (a0 ≤ 4096)) = false := by rw [Bool.and_eq_false_iff]; rcases ha with h | h <;> simp <;> omega
  have RN := Aside0.mk (ref_new_none a0 ha)
  have HA := Aside0.mk ha
  have Q2 := Aside0.mk q2
  by_cases q3 : (200 : Int) < a0
  all_goals
    have q4 : (¬ (200 : Int) < a0) ∨ ¬ a0 ≤ 4096 := by omega
    clear hn ha q2 q4
    try have q5 : ¬ a0 ≤ 4096 := by have := HA.out; omega
    go_enter Try.func5, Try.ntmps5
    go_wp2_with fail
    refine (new_none a0 _ HA.out).mono ?_
    rintro e w2 ⟨rfl, rfl⟩
    go_wp2_with fail
    refine (deadwoodref06_New.calls a0 _ _ _ _ RN.out).mono ?_
    rintro e w3 ⟨v0, rfl, hr, hb⟩
    obtain ⟨A3, c3, rfl⟩ := Kd.R_slice hr
    have B3 := Aside0.mk hb
    clear hr hb
    go_wp2_with fail
    refine (lives_calls _).mono ?_
    rintro e w4 ⟨rfl, hb⟩
    have B4 := Aside0.mk (below_then (below_alloc B3.out _) (Below.size (below_alloc B3.out _)) hb)
    clear hb
    go_wp2
    all_goals go_ret
    all_goals exact ⟨rfl, B4.out⟩
/-- What a region leaves as it was. -/
def Rest (w0 : World) (b g xb r c : Nat) (vs ws : List Int) (acc bacc : Int) (f f' : Bool) (W : World) : Prop :=
  Mem W b g vs acc f' ∧ W.heap[xb]? = some (.cells #[.slice (some ⟨r, 0, none⟩) ws.length c, .int .i64 bacc, .bool f] 44 (0, 0)) ∧ Row W r c ws ∧ Below w0.heap.size w0 W
theorem Rest.below {w0 : World} {b g xb r c : Nat} {vs ws : List Int} {acc bacc : Int} {f f' : Bool} {W W' : World} (h : Rest w0 b g xb r c vs ws acc bacc f f' W) (hb : Below W.heap.size W W') : Rest w0 b g xb r c vs ws acc bacc f f' W' :=
  ⟨h.1.below hb, blk_below h.2.1 hb, h.2.2.1.below hb, below_then h.2.2.2 h.2.2.2.size hb⟩
theorem meetA {w0 w3 W0 w' : World} {b g xb r c g2 c2 : Nat} {vs ws : List Int} {acc bacc : Int} {f f2 : Bool} (RS : Rest w0 b g xb r c vs ws acc bacc f f2 w3) (hN : r ≠ b ∧ r ≠ g ∧ r ≠ xb)
    (hb : Below W0.heap.size W0 w') (h0 : Below w3.heap.size w3 W0) (hr2 : Row w' g2 c2 vs) (hg2 : g2 = r ∨ W0.heap.size ≤ g2) (o : Obj) :
    (w'.alloc o).heap[w'.heap.size]? = some o ∧ w'.heap.size ≠ xb ∧ Rest w0 b g xb r c vs ws acc bacc f f2 (w'.alloc o) ∧ Row (w'.alloc o) g2 c2 vs ∧ (g2 ≠ b ∧ g2 ≠ g ∧ g2 ≠ xb) := by
  have R2 := (RS.below h0).below hb
  have l1 := RS.1.ltb
  have l2 := (Array.getElem?_eq_some_iff.1 RS.2.1).1
  have l3 := h0.size
  have l4 := hb.size
  refine ⟨heap_alloc_new w' o, by omega, R2.below (below_alloc (Below.refl _ _) o), hr2.alloc o, ?_⟩
  rcases hg2 with rfl | h
  · exact hN
  · exact ⟨by omega, by omega, by omega⟩
theorem meetB {w0 w3 W0 w' : World} {b g xb r c g2 c2 T : Nat} {vs ws : List Int} {acc bacc : Int} {f f2 : Bool} {z0 z1 z2 : Value} (RS : Rest w0 b g xb r c vs ws acc bacc f f2 w3) (hN : r ≠ b ∧ r ≠ g ∧ r ≠ xb)
    (hb : Below W0.heap.size W0 w') (h0 : Below w3.heap.size w3 W0) (hlt : w3.heap.size < W0.heap.size) (hz : w'.heap[w3.heap.size]? = some (.cells #[z0, z1, z2] T (0, 0))) (hr2 : Row w' g2 c2 vs) (hg2 : g2 = r ∨ W0.heap.size ≤ g2) (u0 u1 u2 : Value) :
    (((w'.setCell ⟨w3.heap.size, 0, none⟩ u0).setCell ⟨w3.heap.size, 1, none⟩ u1).setCell ⟨w3.heap.size, 2, none⟩ u2).heap[w3.heap.size]? = some (.cells #[u0, u1, u2] T (0, 0)) ∧ w3.heap.size ≠ xb ∧ Rest w0 b g xb r c vs ws acc bacc f f2 (((w'.setCell ⟨w3.heap.size, 0, none⟩ u0).setCell ⟨w3.heap.size, 1, none⟩ u1).setCell ⟨w3.heap.size, 2, none⟩ u2) ∧ Row (((w'.setCell ⟨w3.heap.size, 0, none⟩ u0).setCell ⟨w3.heap.size, 1, none⟩ u1).setCell ⟨w3.heap.size, 2, none⟩ u2) g2 c2 vs ∧ (g2 ≠ b ∧ g2 ≠ g ∧ g2 ≠ xb) := by
  have R2 := (RS.below h0).below hb
  have l1 := RS.1.ltb
  have l2 := (Array.getElem?_eq_some_iff.1 RS.2.1).1
  have l3 := h0.size
  have l4 := hb.size
  have l5 := RS.2.2.1.lt
  have l6 := RS.2.2.2.size
  have st : ∀ (W : World) (j : Nat) (u : Value), Rest w0 b g xb r c vs ws acc bacc f f2 W → Rest w0 b g xb r c vs ws acc bacc f f2 (W.setCell ⟨w3.heap.size, j, none⟩ u) := fun W j u h =>
    ⟨h.1.move (Below.heap_setCell W ⟨w3.heap.size, j, none⟩ u b (show b ≠ w3.heap.size by omega)) (Below.heap_setCell W ⟨w3.heap.size, j, none⟩ u g (show g ≠ w3.heap.size by omega)), blk_far h.2.1 (p := ⟨w3.heap.size, j, none⟩) (show xb ≠ w3.heap.size by omega) _, h.2.2.1.far (p := ⟨w3.heap.size, j, none⟩) (show r ≠ w3.heap.size by omega) _, h.2.2.2.setCell (show w0.heap.size ≤ w3.heap.size by omega) _⟩
  have ng : g2 ≠ w3.heap.size := by rcases hg2 with rfl | h <;> omega
  refine ⟨blk_set (blk_set (blk_set hz 0 u0) 1 u1) 2 u2, by omega, st _ _ _ (st _ _ _ (st _ _ _ R2)), ((hr2.far (p := ⟨w3.heap.size, 0, none⟩) ng _).far (p := ⟨w3.heap.size, 1, none⟩) ng _).far (p := ⟨w3.heap.size, 2, none⟩) ng _, ?_⟩
  rcases hg2 with rfl | h
  · exact hN
  · exact ⟨by omega, by omega, by omega⟩
theorem stored {w0 wc : World} {b g xb r c g2 c2 : Nat} {vs ws : List Int} {acc bacc : Int} {f f2 : Bool} (RS : Rest w0 b g xb r c vs ws acc bacc f f2 wc) (hr : Row wc g2 c2 vs) (n1 : g2 ≠ xb) (n2 : xb ≠ b) (n3 : xb ≠ g) (n4 : w0.heap.size ≤ xb) :
    Rest w0 b g xb g2 c2 vs vs acc acc f2 f2 (((wc.setCell ⟨xb, 0, none⟩ (.slice (some ⟨g2, 0, none⟩) vs.length c2)).setCell ⟨xb, 1, none⟩ (.int .i64 acc)).setCell ⟨xb, 2, none⟩ (.bool f2)) := by
  have mv : ∀ (W : World) (j : Nat) (u : Value) (k : Nat), k ≠ xb → (W.setCell ⟨xb, j, none⟩ u).heap[k]? = W.heap[k]? := fun W j u k hk => Below.heap_setCell W ⟨xb, j, none⟩ u k hk
  have mv3 : ∀ (u0 u1 u2 : Value) (k : Nat), k ≠ xb → (((wc.setCell ⟨xb, 0, none⟩ u0).setCell ⟨xb, 1, none⟩ u1).setCell ⟨xb, 2, none⟩ u2).heap[k]? = wc.heap[k]? := fun u0 u1 u2 k hk => ((mv _ _ _ _ hk).trans (mv _ _ _ _ hk)).trans (mv _ _ _ _ hk)
  exact ⟨RS.1.move (mv3 _ _ _ _ (Ne.symm n2)) (mv3 _ _ _ _ (Ne.symm n3)), blk_set (blk_set (blk_set RS.2.1 0 _) 1 _) 2 _, hr.move (mv3 _ _ _ _ n1), ((RS.2.2.2.setCell n4 _).setCell n4 _).setCell n4 _⟩
theorem keep3 {w0 : World} {b g xb r c : Nat} {vs ws : List Int} {acc bacc : Int} {f f' : Bool} {W W' : World} {a0 a1 a2 : Addr} {x0 x1 x2 : Value}
    (h : W.cell? a0 = some x0 ∧ W.cell? a1 = some x1 ∧ W.cell? a2 = some x2 ∧ Rest w0 b g xb r c vs ws acc bacc f f' W) (hb : Below W.heap.size W W') :
    W'.cell? a0 = some x0 ∧ W'.cell? a1 = some x1 ∧ W'.cell? a2 = some x2 ∧ Rest w0 b g xb r c vs ws acc bacc f f' W' :=
  ⟨pw_cell_below hb h.1, pw_cell_below hb h.2.1, pw_cell_below hb h.2.2.1, h.2.2.2.below hb⟩
theorem s3_mem {w0 : World} {b g xb r c : Nat} {vs ws : List Int} {acc bacc : Int} {f f' : Bool} {W : World} {a0 a1 a2 : Addr} {x0 x1 x2 : Value}
    (h : W.cell? a0 = some x0 ∧ W.cell? a1 = some x1 ∧ W.cell? a2 = some x2 ∧ Rest w0 b g xb r c vs ws acc bacc f f' W) : Mem W b g vs acc f' := h.2.2.2.1
theorem s3_row {w0 : World} {b g xb r c : Nat} {vs ws : List Int} {acc bacc : Int} {f f' : Bool} {W : World} {a0 a1 a2 : Addr} {x0 x1 x2 : Value}
    (h : W.cell? a0 = some x0 ∧ W.cell? a1 = some x1 ∧ W.cell? a2 = some x2 ∧ Rest w0 b g xb r c vs ws acc bacc f f' W) : Row W r c ws := h.2.2.2.2.2.1
theorem s3_box {w0 : World} {b g xb r c : Nat} {vs ws : List Int} {acc bacc : Int} {f f' : Bool} {W : World} {a0 a1 a2 : Addr} {x0 x1 x2 : Value}
    (h : W.cell? a0 = some x0 ∧ W.cell? a1 = some x1 ∧ W.cell? a2 = some x2 ∧ Rest w0 b g xb r c vs ws acc bacc f f' W) : W.heap[xb]? = some (.cells #[.slice (some ⟨r, 0, none⟩) ws.length c, .int .i64 bacc, .bool f] 44 (0, 0)) := h.2.2.2.2.1
theorem s3_bel {w0 : World} {b g xb r c : Nat} {vs ws : List Int} {acc bacc : Int} {f f' : Bool} {W : World} {a0 a1 a2 : Addr} {x0 x1 x2 : Value}
    (h : W.cell? a0 = some x0 ∧ W.cell? a1 = some x1 ∧ W.cell? a2 = some x2 ∧ Rest w0 b g xb r c vs ws acc bacc f f' W) : Below w0.heap.size w0 W := h.2.2.2.2.2.2
variable {α : Type} (kk : Kd α) (op : α → Int × Int × Int × Int × Int × Int) (hk : ∀ w x cs, kk.K w x cs → cs = [.int .i64 (op x).1, .int .i64 (op x).2.1, .int .i64 (op x).2.2.1, .int .u64 (op x).2.2.2.1, .int .u64 (op x).2.2.2.2.1, .int .u64 (op x).2.2.2.2.2])
set_option maxHeartbeats 4000000 in
set_option maxRecDepth 100000 in
include hk in
theorem walk_in (l0 : List α) (A0 : Option Addr) (c0 : Nat) (m : Nat) (w : World) (hlen : l0.length ≤ 60) (hm1 : 1 ≤ m) (hm2 : m ≤ 200) (hr0 : Kd.C kk w A0 l0.length l0) (hc0 : l0.length ≤ c0) :
    Calls Try.prog 5 #[.int .i64 (m : Int), .slice A0 l0.length c0] w fun e w' => e = .returned (.bool true) ∧ Below w.heap.size w w' := by
  have hu44 := Try.underlying44
  have hu34 := Try.underlying34
  have HR := Aside0.mk hr0
  have HC := Aside0.mk hc0
  have HK := Aside0.mk hk
  clear hk
  have RN := Aside0.mk (ref_new m hm1 (by omega))
  have q60 : ¬ (60 : Int) < (l0.length : Int) := by omega
  have q200 : ¬ (200 : Int) < (m : Int) := by omega
  clear hr0 hc0
  go_enter Try.func5, Try.ntmps5
  go_wp2_with fail
  refine (new_calls m _ hm1 (by omega)).mono ?_
  rintro e w1 ⟨b, g, rfl, hm, hb, hg, hbl⟩
  have M1 := Aside0.mk hm
  have G1 := Aside0.mk hb
  have G2 := Aside0.mk hg
  have B1 := Aside0.mk hbl
  clear hm hb hg hbl
  go_wp2_with fail
  refine (deadwoodref06_New.calls (m : Int) _ _ _ _ RN.out).mono ?_
  rintro e w2 ⟨v0, rfl, hr, hb⟩
  obtain ⟨r, c3, rfl, hrb, hrow⟩ := Row.of_R hr (by rw [List.length_replicate]; exact hm1)
  rw [List.length_replicate]
  have lt1 := M1.out.ltb
  have N1 := Aside0.mk (And.intro (show r ≠ b by omega) (show r ≠ g by omega))
  have M2 := Aside0.mk ((M1.out.below hb).alloc (.cells #[.slice (some ⟨r, 0, none⟩) m c3, .int .i64 0, .bool false] 44 (0, 0)))
  have R2 := Aside0.mk (hrow.alloc (.cells #[.slice (some ⟨r, 0, none⟩) m c3, .int .i64 0, .bool false] 44 (0, 0)))
  have X2 := Aside0.mk (heap_alloc_new w2 (.cells #[.slice (some ⟨r, 0, none⟩) m c3, .int .i64 0, .bool false] 44 (0, 0)))
  have hlt2 := hrow.lt
  have hs2 := hb.size
  have N2 := Aside0.mk (And.intro (show w2.heap.size ≠ b by omega) (And.intro (show w2.heap.size ≠ g by omega) (And.intro (show r ≠ w2.heap.size by omega) (show w.heap.size ≤ w2.heap.size by have := B1.out.size; omega))))
  have B2 := Aside0.mk (below_alloc (below_then B1.out B1.out.size hb) (.cells #[.slice (some ⟨r, 0, none⟩) m c3, .int .i64 0, .bool false] 44 (0, 0)))
  have hmpos : ((m : Int) == 0) = false := by rw [beq_eq_false_iff_ne]; omega
  clear hr hb M1 B1 hrb hrow lt1 hlt2 hs2
  go_wp2
  go_loopg [7] l0.length (fun kx s7 wr => ∃ (i : Nat) (ws : List Int) (f : Bool) (r c : Nat), s7 = .int .i64 i ∧ i + kx = l0.length ∧ Aside0 (ws.length = m) ∧ Aside0 (Mem wr b g ws i f) ∧ Aside0 (wr.heap[w2.heap.size]? = some (.cells #[.slice (some ⟨r, 0, none⟩) ws.length c, .int .i64 i, .bool f] 44 (0, 0))) ∧ Aside0 (Row wr r c ws) ∧ Aside0 (r ≠ b ∧ r ≠ g ∧ r ≠ w2.heap.size) ∧ Aside0 (Below w.heap.size w wr))
  case atStart => exact ⟨0, List.replicate m 0, false, r, c3, rfl, by omega, ⟨by simp⟩, M2, ⟨by rw [List.length_replicate]; exact X2.out⟩, R2, ⟨N1.out.1, N1.out.2, N2.out.2.2.1⟩, B2⟩
  case round =>
    clear M2 X2 R2 B2 N1
    obtain ⟨i, ws, f, r, c, rfl, hi, WL, M2, X2, R2, N1, B2⟩ := hrel
    by_cases hlt : i < l0.length
    · obtain ⟨ad, hA, d0, d1, d2, d3, d4, d5⟩ := op_cells kk op HK.out (Kd.C_below HR.out B2.out) i hlt
      subst hA
      generalize hq : op l0[i] = q at d0 d1 d2 d3 d4 d5
      have HQ := Aside0.mk hq
      clear hq
      have q1 : (i : Int) < (l0.length : Int) := by omega
      have wl : ws.length ≤ 1000 := by rw [WL.out]; omega
      go_wp2_with fail
      refine (do_calls _ b g ws i f _ _ _ _ _ _ M2.out (by omega) (by omega)).mono ?_
      rintro e w3 ⟨rfl, hm, hkp⟩
      have W3 := Aside0.mk ((doW_len ws q.1 q.2.1 q.2.2.1 q.2.2.2.1 q.2.2.2.2.1 q.2.2.2.2.2).trans WL.out)
      have X3 := Keep2.row hkp X2.out (by exact N2.out.1) (by exact N2.out.2.1)
      have B3 := Aside0.mk (B2.out.trans (hkp.below G1.out G2.out B2.out.size))
      have R3 := R2.out.move (hkp.2.2.2.2 r R2.out.lt N1.out.1 N1.out.2.1)
      obtain ⟨x0, x1, x2, z0, z1, z2⟩ := cells3 X3
      have RS := Aside0.mk (show Rest w b g w2.heap.size r c (doW ws q.1 q.2.1 q.2.2.1 q.2.2.2.1 q.2.2.2.2.1 q.2.2.2.2.2) ws ((i : Int) + 1) i f (f || !doI ws q.1 q.2.1 q.2.2.1) w3 from ⟨hm, X3, R3, B3.out⟩)
      obtain ⟨ad', hA', e0, e1, e2, e3, e4, e5⟩ := op_cells kk op HK.out (Kd.C_below HR.out B3.out) i hlt
      obtain rfl : ad = ad' := Option.some.inj hA'
      rw [HQ.out] at e0 e1 e2 e3 e4 e5
      clear hm hkp X3 R3 hA' d0 d1 d2 d3 d4 d5 M2 X2 R2 B2
      go_wp2_with fail
      have RS' := RS.out
      generalize hws : doW ws q.1 q.2.1 q.2.2.1 q.2.2.2.1 q.2.2.2.2.1 q.2.2.2.2.2 = vs at W3 RS RS'
      generalize hff : (f || !doI ws q.1 q.2.1 q.2.2.1) = f2 at RS RS'
      have HWS := Aside0.mk hws
      have HFF := Aside0.mk hff
      clear hws hff
      go_cut [10, 11, 12] (fun v10 v11 v12 wc => ∃ (yb g2 c2 : Nat), v10 = .pointer (some ⟨yb, 0, none⟩) ∧ v11 = .int .u64 (doV ws q.1 q.2.1) ∧ v12 = .bool (doB ws q.1 q.2.1 q.2.2.1 q.2.2.2.1 q.2.2.2.2.1) ∧ Aside0 (wc.heap[yb]? = some (.cells #[.slice (some ⟨g2, 0, none⟩) ws.length c2, .int .i64 ((i : Int) + 1), .bool (f || !doI ws q.1 q.2.1 q.2.2.1)] 44 (0, 0))) ∧ Aside0 (yb ≠ w2.heap.size) ∧ Aside0 (Rest w b g w2.heap.size r c vs ws ((i : Int) + 1) i f f2 wc) ∧ Aside0 (Row wc g2 c2 vs) ∧ Aside0 (g2 ≠ b ∧ g2 ≠ g ∧ g2 ≠ w2.heap.size))
      case first =>
        have x0a := pw_cell_below (below_alloc (Below.refl w3.heap.size w3) (.cells #[.slice none 0 0, .int .i64 0, .bool false] 44 (0, 0))) x0
        have x1a := pw_cell_below (below_alloc (Below.refl w3.heap.size w3) (.cells #[.slice none 0 0, .int .i64 0, .bool false] 44 (0, 0))) x1
        have x2a := pw_cell_below (below_alloc (Below.refl w3.heap.size w3) (.cells #[.slice none 0 0, .int .i64 0, .bool false] 44 (0, 0))) x2
        have e0a := pw_cell_below (below_alloc (Below.refl w3.heap.size w3) (.cells #[.slice none 0 0, .int .i64 0, .bool false] 44 (0, 0))) e0
        have e1a := pw_cell_below (below_alloc (Below.refl w3.heap.size w3) (.cells #[.slice none 0 0, .int .i64 0, .bool false] 44 (0, 0))) e1
        have e2a := pw_cell_below (below_alloc (Below.refl w3.heap.size w3) (.cells #[.slice none 0 0, .int .i64 0, .bool false] 44 (0, 0))) e2
        have e3a := pw_cell_below (below_alloc (Below.refl w3.heap.size w3) (.cells #[.slice none 0 0, .int .i64 0, .bool false] 44 (0, 0))) e3
        have e4a := pw_cell_below (below_alloc (Below.refl w3.heap.size w3) (.cells #[.slice none 0 0, .int .i64 0, .bool false] 44 (0, 0))) e4
        have e5a := pw_cell_below (below_alloc (Below.refl w3.heap.size w3) (.cells #[.slice none 0 0, .int .i64 0, .bool false] 44 (0, 0))) e5
        go_region_with (go_at_call 24; refine (ref_calls _ r c ws i f _ _ _ _ _ _ ?_ (by omega) (by omega) wl).mono ?_; (first | exact RS'.2.2.1 | exact RS'.2.2.1.alloc _); rintro e w' ⟨g2, c2, rfl, hr2, hg2, hb⟩; (try (have hz := blk_below (w := (w3.alloc (.cells #[.slice none 0 0, .int .i64 0, .bool false] 44 (0, 0))).drew) (heap_alloc_new w3 (.cells #[.slice none 0 0, .int .i64 0, .bool false] 44 (0, 0))) hb; obtain ⟨zc0, zc1, zc2, zf0, zf1, zf2⟩ := cells3 hz)))
        all_goals go_wp2_with fail
        all_goals go_meet
        all_goals rw [HWS.out] at hr2
        all_goals first
          | (obtain ⟨m1, m2, m3, m4, m5⟩ := meetA RS.out N1.out hb (by first | exact Below.refl _ _ | exact below_drew1 (Below.refl _ _)) hr2 hg2 _; exact ⟨_, g2, c2, rfl, rfl, rfl, ⟨m1⟩, ⟨m2⟩, ⟨m3⟩, ⟨m4⟩, ⟨m5⟩⟩)
          | (obtain ⟨m1, m2, m3, m4, m5⟩ := meetB RS.out N1.out hb (below_drew1 (below_alloc (Below.refl _ _) _)) (by show w3.heap.size < (w3.alloc _).heap.size; simp) hz hr2 hg2 _ _ _; exact ⟨_, g2, c2, rfl, rfl, rfl, ⟨m1⟩, ⟨m2⟩, ⟨m3⟩, ⟨m4⟩, ⟨m5⟩⟩)
      case rest =>
        obtain ⟨yb, g2, c2, rfl, rfl, rfl, Y4, NY, RS4, R4, N4⟩ := hcut
        have hlv : ws.length = vs.length := WL.out.trans W3.out.symm
        rw [HFF.out, hlv] at Y4
        obtain ⟨yc0, yc1, yc2, _, _, _⟩ := cells3 Y4.out
        obtain ⟨xc0, xc1, xc2, xf0, xf1, xf2⟩ := cells3 RS4.out.2.1
        have ny1 := NY.out
        have ny2 := NY.out.symm
        clear RS RS' x0 x1 x2 z0 z1 z2 e0 e1 e2 e3 e4 e5
        have lv : vs.length ≤ 1000000 := by omega
        have SM := Aside0.mk (MemLawOf.same_self vs lv)
        clear hlv
        go_wp2_with fail
        have ST := stored RS4.out R4.out N4.out.2.2 N2.out.1 N2.out.2.1 N2.out.2.2.2
        generalize (((wc.setCell ⟨w2.heap.size, 0, none⟩ (.slice (some ⟨g2, 0, none⟩) vs.length c2)).setCell ⟨w2.heap.size, 1, none⟩ (.int .i64 ((i : Int) + 1))).setCell ⟨w2.heap.size, 2, none⟩ (.bool f2)) = W5 at ST ⊢
        obtain ⟨v0, v1, v2, _, _, _⟩ := cells3 ST.2.1
        clear RS4 R4 Y4 yc0 yc1 yc2 xc0 xc1 xc2 xf0 xf1 xf2 ny1 ny2
        go_region_held3 (fun W' => W'.cell? ⟨w2.heap.size, 0, none⟩ = some (.slice (some ⟨g2, 0, none⟩) vs.length c2) ∧ W'.cell? ⟨w2.heap.size, 1, none⟩ = some (.int .i64 ((i : Int) + 1)) ∧ W'.cell? ⟨w2.heap.size, 2, none⟩ = some (.bool f2) ∧ Rest w b g w2.heap.size g2 c2 vs vs ((i : Int) + 1) ((i : Int) + 1) f2 f2 W')
          (first
            | exact ⟨v0, v1, v2, ST⟩
            | exact ⟨v0, v1, v2, Rest.below ST (below_drew1 (Below.refl _ _))⟩
            | assumption
            | exact keep3 (by assumption) (by assumption)
            | exact keep3 (by assumption) (pw_below_drewN (Below.refl _ _) _))
          (first
            | (go_at_call 13; refine (words_calls _ b g vs _ f2 (s3_mem (by assumption)) lv).mono ?_; rintro e w' ⟨v5, rfl, ho, hb⟩; obtain ⟨A5, c5, rfl, hc5, hr5⟩ := MemLawOf.C_of_own ho)
            | (go_at_call 12; refine (PMemOf.deadwoodlaw06_same.calls 1000001 _ _ vs _ _ vs true _ hr5 hc5 (Row.reads (s3_row (by assumption))) (Row.len (s3_row (by assumption))).1 SM.out).mono ?_; rintro e w' ⟨rfl, ⟨nd, rfl⟩⟩)
            | (go_at_call 14; refine (accesses_calls _ b g vs _ f2 (s3_mem (by assumption))).mono ?_; rintro e w' ⟨rfl, rfl⟩)
            | (go_at_call 15; refine (fault_calls _ b g vs _ f2 (s3_mem (by assumption))).mono ?_; rintro e w' ⟨rfl, rfl⟩))
        go_wp2
        go_roundg (l0.length - (i + 1))
        case measure => omega
        case rel =>
          refine ⟨i + 1, vs, f2, g2, c2, by go_num, by omega, W3, ⟨?_⟩, ⟨?_⟩, ⟨?_⟩, ⟨N4.out.1, N4.out.2.1, N4.out.2.2⟩, ⟨?_⟩⟩
          all_goals (try rw [show ((i + 1 : Nat) : Int) = (i : Int) + 1 from by omega])
          · exact s3_mem (by assumption)
          · exact s3_box (by assumption)
          · exact s3_row (by assumption)
          · exact s3_bel (by assumption)
    · obtain rfl : i = l0.length := by omega
      clear hlt hi
      go_wp2_with fail
      refine (lives_calls _).mono ?_
      rintro e w4 ⟨rfl, hb⟩
      have B4 := Aside0.mk (below_then B2.out B2.out.size hb)
      clear hb
      go_wp2
      all_goals go_ret
      all_goals exact ⟨rfl, B4.out⟩
include hk in
theorem walk (a0 : Int) (l1 : List α) (A1 : Option Addr) (c1 : Nat) (w : World) {p0 p1 : Prop} (_ : p0) (_ : p1) (hr1 : Kd.C kk w A1 l1.length l1) (hc1 : l1.length ≤ c1) :
    Calls Try.prog 5 #[.int .i64 a0, .slice A1 l1.length c1] w fun e w' => e = .returned (.bool true) ∧ Below w.heap.size w w' := by
  by_cases h : 60 < l1.length ∨ (200 < a0 ∧ a0 ≤ 4096)
  · exact walk_long _ _ _ _ _ h
  · by_cases h2 : a0 < 1 ∨ 4096 < a0
    · exact walk_none _ _ _ _ _ (by omega) h2
    · obtain ⟨m, rfl⟩ : ∃ m : Nat, a0 = m := ⟨a0.toNat, by omega⟩
      exact walk_in kk op hk l1 A1 c1 m w (by omega) (by omega) (by omega) hr1 hc1
end Go.Proofs.Ytdmpfnnaefccnaa.MemLawPlays
