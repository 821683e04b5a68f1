/- What is taken is led to by its edge, marked or not; dropped it isn't, nor when it is taken again; a second Drop is a slip: the law's walk. -/
import Derived.Test.YtdmpfnnaefccnaaGuardLawP
import Derived.Test.YtdmpfnnaefccnaaGMarksLaw
set_option linter.unusedVariables false
set_option linter.unusedSimpArgs false
namespace Go.Proofs.Ytdmpfnnaefccnaa.GuardLawL
open Go Go.Maps Go.RowKit Go.Proofs.YtdmpfnnaefccnaaW.PrintWords Go.Proofs.YtdmpfnnaefccnaaW.PrintLast Go.Proofs.YtdmpfnnaefccnaaW.PrintMore Go.Proofs.Ytdmpfnnaefccnaa.PGuardPlays Go.Proofs.Ytdmpfnnaefccnaa.Num Go.Proofs.Ytdmpfnnaefccnaa.Pure Go.Proofs.Ytdmpfnnaefccnaa.GuardW Go.Proofs.Ytdmpfnnaefccnaa.GuardX Go.Proofs.Ytdmpfnnaefccnaa.GuardSame Go.Proofs.Ytdmpfnnaefccnaa.GuardDo Go.Proofs.Ytdmpfnnaefccnaa.GuardLawP
theorem flag_calls {e f : Nat} (h : edge_Edge_Flagged.f (e : Int) = some (f : Int)) (W : World) : Calls Try.prog 37 #[.int .u64 (e : Int)] W fun e' W' => e' = .returned (.int .u64 (f : Int)) ∧ ∃ n, W' = W.drewN n := (edge_Edge_Flagged.calls _ _ W h).mono fun e W' h => by obtain ⟨h1, n, h2⟩ := h; exact ⟨h1, n, h2⟩
theorem tag_calls {e f : Nat} (h : edge_Edge_Tagged.f (e : Int) = some (f : Int)) (W : World) : Calls Try.prog 38 #[.int .u64 (e : Int)] W fun e' W' => e' = .returned (.int .u64 (f : Int)) ∧ ∃ n, W' = W.drewN n := (edge_Edge_Tagged.calls _ _ W h).mono fun e W' h => by obtain ⟨h1, n, h2⟩ := h; exact ⟨h1, n, h2⟩
section
variable {w : World} {b gb mb : Nat} {L : List Sl} {sl : Int}
theorem leads_is (hG : Gd w b gb mb L sl) (hL : WfL L) {x : Nat} (hx : x < 2 ^ 64) {v : Bool} (h : leadsB L x = v) : Calls Try.prog 32 #[.pointer (some ⟨b, 0, none⟩), .int .u64 (x : Int)] w fun e w' => e = .returned (.bool v) ∧ Gd w' b gb mb L sl ∧ Keep3 w w' b gb mb := by
  subst h
  exact (leads_calls hG hL x hx).mono fun e w' h => by obtain ⟨h1, n, rfl⟩ := h; exact ⟨h1, hG.drewN n, Keep3.drewN _ _ _ _ _⟩
theorem edge_is (hG : Gd w b gb mb L sl) (hL : WfL L) {s : Int} {e : Nat} (h : edgeV L s = e) : Calls Try.prog 31 #[.pointer (some ⟨b, 0, none⟩), .int .i64 s] w fun e' w' => e' = .returned (.int .u64 (e : Int)) ∧ Gd w' b gb mb L sl ∧ Keep3 w w' b gb mb := by
  rw [← h]
  exact (edge_calls hG hL s).mono fun e w' h => by obtain ⟨h1, n, rfl⟩ := h; exact ⟨h1, hG.drewN n, Keep3.drewN _ _ _ _ _⟩
theorem take_yes (hG : Gd w b gb mb L sl) (hL : WfL L) {s : Int} (hs : (Lit.int .i64 s).wf = true) (h : takeOk L s = true) {L2 : List Sl} (h2 : takeL L s = L2) : Calls Try.prog 36 #[.pointer (some ⟨b, 0, none⟩), .int .i64 s] w fun e w' => e = .returned (.bool true) ∧ Gd w' b gb mb L2 sl ∧ Keep3 w w' b gb mb := by
  have hc := take_calls hG hL s hs
  rw [h2, h, show takeS L sl s = sl from by unfold takeS; rw [h, if_pos rfl]] at hc
  exact hc
theorem take_no (hG : Gd w b gb mb L sl) (hL : WfL L) {s : Int} (hs : (Lit.int .i64 s).wf = true) (h : takeOk L s = false) : Calls Try.prog 36 #[.pointer (some ⟨b, 0, none⟩), .int .i64 s] w fun e w' => e = .returned (.bool false) ∧ Gd w' b gb mb L (wrap64 (sl + 1)) ∧ Keep3 w w' b gb mb := by
  have hc := take_calls hG hL s hs
  rw [show takeL L s = L from by unfold takeL; rw [h, if_neg (by decide)], h, show takeS L sl s = wrap64 (sl + 1) from by unfold takeS; rw [h, if_neg (by decide)]] at hc
  exact hc
theorem drop_yes (hG : Gd w b gb mb L sl) (hL : WfL L) {x : Nat} (hx : x < 2 ^ 64) (h : leadsB L x = true) {L2 : List Sl} (h2 : dropL L x = L2) : Calls Try.prog 33 #[.pointer (some ⟨b, 0, none⟩), .int .u64 (x : Int)] w fun e w' => e = .returned (.bool true) ∧ Gd w' b gb mb L2 sl ∧ Keep3 w w' b gb mb := by
  have hc := drop_calls hG hL x hx
  rw [h2, h, show dropS L sl x = sl from by unfold dropS; rw [h, if_pos rfl]] at hc
  exact hc
theorem drop_no (hG : Gd w b gb mb L sl) (hL : WfL L) {x : Nat} (hx : x < 2 ^ 64) (h : leadsB L x = false) : Calls Try.prog 33 #[.pointer (some ⟨b, 0, none⟩), .int .u64 (x : Int)] w fun e w' => e = .returned (.bool false) ∧ Gd w' b gb mb L (wrap64 (sl + 1)) ∧ Keep3 w w' b gb mb := by
  have hc := drop_calls hG hL x hx
  rw [show dropL L x = L from by unfold dropL; rw [h, if_neg (by decide)], h, show dropS L sl x = wrap64 (sl + 1) from by unfold dropS; rw [h, if_neg (by decide)]] at hc
  exact hc
theorem held_is (hG : Gd w b gb mb L sl) {n : Nat} (h : heldN L = n) : Calls Try.prog 34 #[.pointer (some ⟨b, 0, none⟩)] w fun e w' => e = .returned (.int .i64 (n : Int)) ∧ Gd w' b gb mb L sl ∧ Keep3 w w' b gb mb := by
  subst h
  exact (held_calls hG).mono fun e w' h => by obtain ⟨h1, rfl⟩ := h; exact ⟨h1, hG, Keep3.refl _ _ _ _⟩
theorem slips_is (hG : Gd w b gb mb L sl) : Calls Try.prog 35 #[.pointer (some ⟨b, 0, none⟩)] w fun e w' => e = .returned (.int .i64 sl) ∧ Gd w' b gb mb L sl ∧ Keep3 w w' b gb mb :=
  (slips_calls hG).mono fun e w' h => by obtain ⟨h1, rfl⟩ := h; exact ⟨h1, hG, Keep3.refl _ _ _ _⟩
theorem flag_is (hG : Gd w b gb mb L sl) {e f : Nat} (h : edge_Edge_Flagged.f (e : Int) = some (f : Int)) : Calls Try.prog 37 #[.int .u64 (e : Int)] w fun e' w' => e' = .returned (.int .u64 (f : Int)) ∧ Gd w' b gb mb L sl ∧ Keep3 w w' b gb mb :=
  (flag_calls h w).mono fun e w' h => by obtain ⟨h1, n, rfl⟩ := h; exact ⟨h1, hG.drewN n, Keep3.drewN _ _ _ _ _⟩
theorem tag_is (hG : Gd w b gb mb L sl) {e f : Nat} (h : edge_Edge_Tagged.f (e : Int) = some (f : Int)) : Calls Try.prog 38 #[.int .u64 (e : Int)] w fun e' w' => e' = .returned (.int .u64 (f : Int)) ∧ Gd w' b gb mb L sl ∧ Keep3 w w' b gb mb :=
  (tag_calls h w).mono fun e w' h => by obtain ⟨h1, n, rfl⟩ := h; exact ⟨h1, hG.drewN n, Keep3.drewN _ _ _ _ _⟩
end
theorem do_len (L : List Sl) (k s : Int) (x : Nat) : (doL L k s x).length = L.length := by
  unfold doL
  split
  · exact takeL_len _ _
  · exact dropL_len _ _
set_option maxHeartbeats 1000000 in
set_option maxRecDepth 100000 in
theorem walk_none (n s : Int) (A0 : Option Addr) (m c0 : Nat) (w : World) (hn : insideB 250 n = false) :
    Calls Try.prog 8 #[.int .i64 n, .int .i64 s, .slice A0 m c0] w fun e w' => e = .returned (.bool true) ∧ Below w.heap.size w w' := by
  go_enter Try.func8, Try.ntmps8
  go_wp2_with fail
  refine (new_none w n hn).mono ?_
  rintro e w1 ⟨rfl, rfl⟩
  go_wp2_with fail
  refine (lives_calls _).mono ?_
  rintro e w4 ⟨rfl, hb⟩
  have HB := Aside0.mk hb
  clear hb
  go_wp2
  go_ret
  exact ⟨rfl, HB.out⟩
set_option maxHeartbeats 1000000 in
set_option maxRecDepth 100000 in
theorem walk_out (n s : Int) (A0 : Option Addr) (m c0 : Nat) (w : World) (hn : insideB 250 n = true) (h : 60 < m ∨ s < 1 ∨ n < s) :
    Calls Try.prog 8 #[.int .i64 n, .int .i64 s, .slice A0 m c0] w fun e w' => e = .returned (.bool true) ∧ Below w.heap.size w w' := by
  have NC := Aside0.mk (new_calls w n hn)
  clear hn
  by_cases h1 : 60 < m
  · have q1 : decide ((60 : Int) < (m : Int)) = true := decide_eq_true (by omega)
    clear h
    go_enter Try.func8, Try.ntmps8
    go_wp2_with fail
    refine NC.out.mono ?_
    rintro e w1 ⟨b, gb, mb, rfl, hG, hlo, hb1⟩
    clear NC
    go_wp2_with fail
    refine (lives_calls _).mono ?_
    rintro e w4 ⟨rfl, hb⟩
    have HB := Aside0.mk (below_then hb1 hb1.size hb)
    clear hb hb1 hG hlo
    go_wp2
    go_ret
    exact ⟨rfl, HB.out⟩
  · have q1 : decide ((60 : Int) < (m : Int)) = false := decide_eq_false (by omega)
    by_cases h2 : s < 1
    · have q2 : decide (s < 1) = true := decide_eq_true h2
      clear h h1
      go_enter Try.func8, Try.ntmps8
      go_wp2_with fail
      refine NC.out.mono ?_
      rintro e w1 ⟨b, gb, mb, rfl, hG, hlo, hb1⟩
      clear NC
      go_wp2_with fail
      refine (lives_calls _).mono ?_
      rintro e w4 ⟨rfl, hb⟩
      have HB := Aside0.mk (below_then hb1 hb1.size hb)
      clear hb hb1 hG hlo
      go_wp2
      go_ret
      exact ⟨rfl, HB.out⟩
    · have q2 : decide (s < 1) = false := decide_eq_false h2
      have q3 : decide (n < s) = true := decide_eq_true (by omega)
      clear h h1 h2
      go_enter Try.func8, Try.ntmps8
      go_wp2_with fail
      refine NC.out.mono ?_
      rintro e w1 ⟨b, gb, mb, rfl, hG, hlo, hb1⟩
      clear NC
      go_wp2_with fail
      refine (lives_calls _).mono ?_
      rintro e w4 ⟨rfl, hb⟩
      have HB := Aside0.mk (below_then hb1 hb1.size hb)
      clear hb hb1 hG hlo
      go_wp2
      go_ret
      exact ⟨rfl, HB.out⟩
variable {α : Type} (kk : Kd α) (op : α → Int × Int × Int) (hk : ∀ w x cs, kk.K w x cs → cs = [.int .i64 (op x).1, .int .i64 (op x).2.1, .int .u64 (op x).2.2])
set_option maxHeartbeats 4000000 in
set_option maxRecDepth 100000 in
include hk in
theorem walk_in (n s : Int) (l0 : List α) (A0 : Option Addr) (c0 : Nat) (w : World) (hn : insideB 250 n = true) (hlen : l0.length ≤ 60) (hs1 : 1 ≤ s) (hs2 : s ≤ n) (hs : (Lit.int .i64 s).wf = true) (hr0 : Kd.C kk w A0 l0.length l0) (hop : ∀ a ∈ l0, (Lit.int .i64 (op a).2.1).wf = true ∧ ∃ x : Nat, (op a).2.2 = x ∧ x < 2 ^ 64) :
    Calls Try.prog 8 #[.int .i64 n, .int .i64 s, .slice A0 l0.length c0] w fun e w' => e = .returned (.bool true) ∧ Below w.heap.size w w' := by
  have hu := Try.underlying57
  have hu2 := Try.underlying62
  obtain ⟨i1, i2⟩ := inside_iff.1 hn
  have hll : (newL n).length = n.toNat := by unfold newL; rw [if_pos hn, List.length_replicate]
  have RN := Aside0.mk (fun (W : World) => deadwoodref07_New.calls n _ _ W (ref_new n))
  have q1 : decide ((60 : Int) < (l0.length : Int)) = false := decide_eq_false (by omega)
  have q2 : decide (s < 1) = false := decide_eq_false (by omega)
  have q3 : decide (n < s) = false := decide_eq_false (by omega)
  have NC := Aside0.mk (new_calls w n hn)
  have WF0 := new_wf n
  have HR := Aside0.mk hr0
  have HOP := Aside0.mk hop
  have HS := Aside0.mk hs
  generalize newL n = L0 at RN NC WF0 hll
  have IN0 := Aside0.mk (show insideB L0.length s = true from inside_iff.2 ⟨hs1, by omega⟩)
  have HK := Aside0.mk hk
  clear hll hn i1 i2 hr0 hop hk hs hs1 hs2
  go_enter Try.func8, Try.ntmps8
  go_wp2_with fail
  refine NC.out.mono ?_
  rintro e w1 ⟨b, gb, mb, rfl, hG, hlo, hb1⟩
  have lt1 := hG.lt
  go_wp2_with fail
  refine (RN.out _).mono ?_
  rintro e w2 ⟨v0, rfl, hR, hb2⟩
  obtain ⟨A2, c2, rfl⟩ := Kd.R_slice hR
  have X2 := XV.of_R hR lt1
  have s2 := hb2.size
  have H2 := Aside0.mk (show Here w (w2.alloc (.cells #[.slice A2 L0.length c2, .int .i64 0] 57 (0, 0))) b gb mb w2.heap.size L0 0 A2 c2 from ⟨(hG.below hb2).below (below_alloc (Below.refl _ _) _), (X2.bound.step (fun k _ hlt => (below_alloc (Below.refl w2.heap.size w2) _).block k hlt)).mono (fun k hk => ⟨hk.1, by omega⟩), heap_alloc_new w2 _, below_alloc (below_then hb1 hb1.size hb2) _, WF0⟩)
  have LO := Aside0.mk hlo
  have NE := Aside0.mk (show w2.heap.size ≠ b ∧ w2.heap.size ≠ gb ∧ w2.heap.size ≠ mb ∧ w.heap.size ≤ w2.heap.size from ⟨by omega, by omega, by omega, Nat.le_trans hb1.size s2⟩)
  clear hR hb2 hb1 hG hlo RN NC lt1 X2 s2 WF0
  go_wp2_with fail
  generalize w2.heap.size = xb at H2 NE ⊢
  go_loopg [9] l0.length (fun kx s9 wr => ∃ (i : Nat) (L : List Sl) (sl : Int) (Ax : Option Addr) (cx : Nat), s9 = .int .i64 i ∧ i + kx = l0.length ∧ Aside0 (Here w wr b gb mb xb L sl Ax cx ∧ L.length = L0.length))
  case atStart => exact ⟨0, L0, 0, A2, c2, rfl, by omega, ⟨H2.out, rfl⟩⟩
  case round =>
    clear H2 q1 q2 q3
    obtain ⟨i, L, sl, Ax, cx, rfl, hi, ⟨HH', HL⟩⟩ := hrel
    have HH := Aside0.mk HH'
    have HLN := Aside0.mk HL
    clear HH' HL
    by_cases hlt : i < l0.length
    · as_aux_lemma =>
      obtain ⟨ad, hA, p0, p1, p2⟩ := op_cells kk op HK.out (Kd.C_below HR.out HH.out.bel) i hlt
      subst hA
      obtain ⟨hw1, o2, ho2, hlo2⟩ := HOP.out l0[i] (List.getElem_mem hlt)
      rw [ho2] at p2
      obtain ⟨o0, ho0⟩ : ∃ o0, (op l0[i]).1 = o0 := ⟨_, rfl⟩
      obtain ⟨o1, ho1⟩ : ∃ o1, (op l0[i]).2.1 = o1 := ⟨_, rfl⟩
      rw [ho0] at p0
      rw [ho1] at p1 hw1
      clear ho0 ho1
      have q1 : (i : Int) < (l0.length : Int) := by omega
      have x0 : wr.cell? ⟨xb, 0, none⟩ = some (.slice Ax L.length cx) := (blk_cell HH.out.box 0).trans rfl
      have x1 : wr.cell? ⟨xb, 1, none⟩ = some (.int .i64 sl) := (blk_cell HH.out.box 1).trans rfl
      have DW := Aside0.mk (fun (W : World) (b2 : Below wr.heap.size wr W) => do_calls (HH.out.g.below b2) HH.out.wf (ok := fun k => (kept3 b gb mb k ∧ k ≠ xb) ∧ k < wr.heap.size) (fun k hk => hk.1.1) (HH.out.x.bound.step (fun k hk _ => b2.block k hk.2)) o0 o1 hw1 o2 hlo2)
      have WF2 := Aside0.mk (And.intro (do_wf HH.out.wf o0 o1 o2) ((do_len L o0 o1 o2).trans HLN.out))
      generalize doL L o0 o1 o2 = L2 at DW WF2
      generalize doS L sl o0 o1 o2 = s2 at DW
      clear hw1 hlo2 ho2
      go_upto_region 8 with (fail)
      go_cut [10] (fun v10 wc => ∃ (yb : Nat) (A6 : Option Addr) (c6 : Nat), v10 = .pointer (some ⟨yb, 0, none⟩) ∧ Aside0 (GuardLawP.Met w wc b gb mb xb L L2 sl s2 Ax cx yb A6 c6))
      case first =>
        have p0a := pw_cell_below (below_alloc (Below.refl wr.heap.size wr) (.cells #[.slice none 0 0, .int .i64 0] 57 (0, 0))) p0
        have p1a := pw_cell_below (below_alloc (Below.refl wr.heap.size wr) (.cells #[.slice none 0 0, .int .i64 0] 57 (0, 0))) p1
        have p2a := pw_cell_below (below_alloc (Below.refl wr.heap.size wr) (.cells #[.slice none 0 0, .int .i64 0] 57 (0, 0))) p2
        have x0a := pw_cell_below (below_alloc (Below.refl wr.heap.size wr) (.cells #[.slice none 0 0, .int .i64 0] 57 (0, 0))) x0
        have x1a := pw_cell_below (below_alloc (Below.refl wr.heap.size wr) (.cells #[.slice none 0 0, .int .i64 0] 57 (0, 0))) x1
        go_region_law (first | (go_simp; go_at_call 29; refine (DW.out wr.drew (below_drew1 (Below.refl _ _))).mono ?_; rintro e w6 ⟨v0, rfl, hG6, hX6, hK6⟩; obtain ⟨A6, c6, rfl, hc6, hF6⟩ := hX6; have MA := Aside0.mk (closeA HH.out NE.out LO.out (below_drew1 (Below.refl _ _)) hG6 ⟨A6, c6, rfl, hc6, hF6⟩ hK6); clear hG6 hc6 hF6 hK6) | (go_simp; go_at_call 29; refine (DW.out _ (below_drew1 (below_alloc (Below.refl _ _) (.cells #[.slice none 0 0, .int .i64 0] 57 (0, 0))))).mono ?_; rintro e w6 ⟨v0, rfl, hG6, hX6, hK6⟩; obtain ⟨A6, c6, rfl, hc6, hF6⟩ := hX6; have Y6 := keep3_blk hK6 (show (wr.alloc (.cells #[.slice none 0 0, .int .i64 0] 57 (0, 0))).drew.heap[wr.heap.size]? = some (.cells #[.slice none 0 0, .int .i64 0] 57 (0, 0)) from heap_alloc_new wr _) (by have := HH.out.g.lt; omega) (by have := HH.out.g.lt; omega) (by have := HH.out.g.lt; omega); have y60 : w6.cell? ⟨wr.heap.size, 0, none⟩ = some (.slice none 0 0) := (blk_cell Y6 0).trans rfl; have y61 : w6.cell? ⟨wr.heap.size, 1, none⟩ = some (.int .i64 0) := (blk_cell Y6 1).trans rfl; have z60 := blk_frozen Y6 0; have z61 := blk_frozen Y6 1; have MB := Aside0.mk (closeB HH.out NE.out LO.out (below_drew1 (below_alloc (Below.refl _ _) (.cells #[.slice none 0 0, .int .i64 0] 57 (0, 0)))) (by simp) (show (wr.alloc (.cells #[.slice none 0 0, .int .i64 0] 57 (0, 0))).drew.heap[wr.heap.size]? = some (.cells #[.slice none 0 0, .int .i64 0] 57 (0, 0)) from heap_alloc_new wr _) hG6 ⟨A6, c6, rfl, hc6, hF6⟩ hK6); clear hG6 hc6 hF6 hK6 Y6))
        all_goals go_wp2
        all_goals go_meet
        all_goals first | exact ⟨_, A6, c6, rfl, MA⟩ | exact ⟨_, A6, c6, rfl, MB⟩
      case rest =>
        obtain ⟨yb, A6, c6, rfl, ML⟩ := hcut
        obtain ⟨⟨y1, b1⟩, g7, v7, e7, ne7⟩ := ML.out
        have y10 : wc.cell? ⟨yb, 0, none⟩ = some (.slice A6 L2.length c6) := (blk_cell y1 0).trans rfl
        have y11 : wc.cell? ⟨yb, 1, none⟩ = some (.int .i64 s2) := (blk_cell y1 1).trans rfl
        have b10 : wc.cell? ⟨xb, 0, none⟩ = some (.slice Ax L.length cx) := (blk_cell b1 0).trans rfl
        have b11 : wc.cell? ⟨xb, 1, none⟩ = some (.int .i64 sl) := (blk_cell b1 1).trans rfl
        have z10 := blk_frozen b1 0
        have z11 := blk_frozen b1 1
        have ne := NE.out
        have H7 := Aside0.mk (show Here w ((wc.setCell ⟨xb, 0, none⟩ (.slice A6 L2.length c6)).setCell ⟨xb, 1, none⟩ (.int .i64 s2)) b gb mb xb L2 s2 A6 c6 from ⟨g7.move (set2 _ _ _ _ ne.1.symm) (set2 _ _ _ _ ne.2.1.symm) (set2 _ _ _ _ ne.2.2.1.symm), v7.step (fun k hk _ => set2 _ _ _ _ hk.2), blk_set (blk_set b1 0 _) 1 _, (e7.setCell (p := ⟨xb, 0, none⟩) ne.2.2.2 _).setCell (p := ⟨xb, 1, none⟩) ne.2.2.2 _, WF2.out.1⟩)
        clear y1 b1 g7 v7 e7 ne7 ne ML p0 p1 p2 x0 x1 DW
        go_wp2
        go_roundg (l0.length - (i + 1))
        case measure => omega
        case rel => exact ⟨i + 1, L2, s2, A6, c6, by go_num, by omega, ⟨H7.out, WF2.out.2⟩⟩
    · have q1 : ¬ (i : Int) < (l0.length : Int) := by omega
      have hin : insideB L.length s = true := by rw [HLN.out]; exact IN0.out
      have hwf := HH.out.wf
      obtain ⟨e0, e1, e2, e3, e4⟩ := edge_word hwf hin
      have hld : leadsB L e0 = (slAt L s).f0 := by rw [leads_at hin e3, e4, beq_self_eq_true, Bool.and_true]
      have E0 := Aside0.mk (show edgeV L s = e0 ∧ e0 < 2 ^ 64 ∧ leadsB L e0 = (slAt L s).f0 from ⟨e1, by omega, hld⟩)
      have E1 := Aside0.mk (show slotN e0 = s ∧ insideB L.length s = true from ⟨e3, hin⟩)
      have BL := Aside0.mk HH.out.bel
      clear e1 e2 e3 e4 hld hin hwf HR HOP HK
      go_upto_region 11 with (first | (go_at_call 31; refine (edge_is HH.out.g HH.out.wf E0.out.1).mono ?_; rintro e w51 ⟨rfl, hg51, hk51⟩))
      go_cut [64] (fun v64 wc => v64 = .bool false ∧ Aside0 (∃ L1, Gd wc b gb mb L1 sl ∧ WfL L1 ∧ insideB L1.length s = true ∧ (slAt L1 s).f0 = false ∧ Below w.heap.size w wc))
      case first =>
        have bw := fun (W : World) (K : Keep3 wr W b gb mb) => HH.out.bel.trans (K.below (B := w.heap.size) LO.out.1 LO.out.2.1 LO.out.2.2 HH.out.bel.size)
        cases hf : (slAt L s).f0 with
        | false =>
          go_wp2_with fail
          refine (leads_is hg51 HH.out.wf E0.out.2.1 (E0.out.2.2.trans hf)).mono ?_
          rintro e w52 ⟨rfl, hg52, hk52⟩
          have P := Aside0.mk (show ∃ L1, Gd w52 b gb mb L1 sl ∧ WfL L1 ∧ insideB L1.length s = true ∧ (slAt L1 s).f0 = false ∧ Below w.heap.size w w52 from ⟨L, hg52, HH.out.wf, E1.out.2, hf, bw _ (hk51.trans hk52)⟩)
          clear hg51 hg52 hk51 hk52 bw hf
          go_wp2
          go_meet
          case rel => exact ⟨rfl, P⟩
        | true =>
          go_wp2_with fail
          refine (leads_is hg51 HH.out.wf E0.out.2.1 (E0.out.2.2.trans hf)).mono ?_
          rintro e w52 ⟨rfl, hg52, hk52⟩
          have hd : dropL L e0 = putL L s ⟨false, nextG (slAt L s).f1⟩ := by unfold dropL; rw [E0.out.2.2, hf, if_pos rfl, E1.out.1]
          go_wp2_with fail
          refine (drop_yes hg52 HH.out.wf E0.out.2.1 (E0.out.2.2.trans hf) hd).mono ?_
          rintro e w53 ⟨rfl, hg53, hk53⟩
          have P := Aside0.mk (show ∃ L1, Gd w53 b gb mb L1 sl ∧ WfL L1 ∧ insideB L1.length s = true ∧ (slAt L1 s).f0 = false ∧ Below w.heap.size w w53 from ⟨_, hg53, by rw [← hd]; exact drop_wf HH.out.wf e0, by rw [putL_len]; exact E1.out.2, by rw [slAt_put_same E1.out.2], bw _ ((hk51.trans hk52).trans hk53)⟩)
          clear hg51 hg52 hg53 hk51 hk52 hk53 bw hf hd
          go_wp2
          go_meet
          case rel => exact ⟨rfl, P⟩
      case rest =>
        obtain ⟨rfl, ⟨L1, g0, w1', in1, f1, B0⟩⟩ := hcut
        obtain ⟨L2, L4, L5, ev, fv, tv, LV'⟩ := leaves w1' in1 f1
        have LV := Aside0.mk LV'
        have W1 := Aside0.mk w1'
        have h250 : (heldN L1 : Int) ≤ 250 := by have := heldN_le L1; have := w1'.1; omega
        have qh : IntKind.i64.wrap ((heldN L1 : Int) + 1) = (heldN L1 : Int) + 1 := by rw [IntKind.wrap_i64]; omega
        have qh2 : (((heldN L1 + 1 : Nat) : Int) != (heldN L1 : Int) + 1) = false := by rw [bne_eq_false_iff_eq]; omega
        have qw : (wrap64 (wrap64 (sl + 1) + 1) != wrap64 (sl + 2)) = false := by rw [bne_eq_false_iff_eq]; exact wrap_two sl
        have BB := Aside0.mk B0
        have KW := Aside0.mk (fun (W : World) (K : Keep3 wc W b gb mb) => BB.out.trans (K.below (B := w.heap.size) LO.out.1 LO.out.2.1 LO.out.2.2 BB.out.size))
        clear w1' in1 f1 B0 LV' HH E0 E1 BL hg51 hk51 h250
        go_wp2_with fail
        refine (held_is g0 rfl).mono ?_
        rintro e w61 ⟨rfl, hg61, hk61⟩
        have K61 := Aside0.mk hk61
        clear g0 hk61
        go_wp2_with fail
        refine (slips_is hg61).mono ?_
        rintro e w62 ⟨rfl, hg62, hk62⟩
        have K62 := Aside0.mk (K61.out.trans hk62)
        clear hg61 hk62
        go_wp2_with fail
        refine (edge_is hg62 W1.out LV.out.ev).mono ?_
        rintro e w63 ⟨rfl, hg63, hk63⟩
        have K63 := Aside0.mk (K62.out.trans hk63)
        clear hg62 hk63
        go_wp2_with fail
        refine (leads_is hg63 W1.out LV.out.lt.1 LV.out.a1).mono ?_
        rintro e w64 ⟨rfl, hg64, hk64⟩
        have K64 := Aside0.mk (K63.out.trans hk64)
        clear hg63 hk64
        go_wp2_with fail
        refine (take_yes hg64 W1.out HS.out LV.out.a2 LV.out.l2).mono ?_
        rintro e w65 ⟨rfl, hg65, hk65⟩
        have K65 := Aside0.mk (K64.out.trans hk65)
        clear hg64 hk65
        go_wp2_with fail
        refine (leads_is hg65 LV.out.w2 LV.out.lt.1 LV.out.a3).mono ?_
        rintro e w66 ⟨rfl, hg66, hk66⟩
        have K66 := Aside0.mk (K65.out.trans hk66)
        clear hg65 hk66
        go_wp2_with fail
        refine (flag_is hg66 LV.out.fl).mono ?_
        rintro e w67 ⟨rfl, hg67, hk67⟩
        have K67 := Aside0.mk (K66.out.trans hk67)
        clear hg66 hk67
        go_wp2_with fail
        refine (leads_is hg67 LV.out.w2 LV.out.lt.2.1 LV.out.a4).mono ?_
        rintro e w68 ⟨rfl, hg68, hk68⟩
        have K68 := Aside0.mk (K67.out.trans hk68)
        clear hg67 hk68
        go_wp2_with fail
        refine (tag_is hg68 LV.out.tg).mono ?_
        rintro e w69 ⟨rfl, hg69, hk69⟩
        have K69 := Aside0.mk (K68.out.trans hk69)
        clear hg68 hk69
        go_wp2_with fail
        refine (leads_is hg69 LV.out.w2 LV.out.lt.2.2 LV.out.a5).mono ?_
        rintro e w70 ⟨rfl, hg70, hk70⟩
        have K70 := Aside0.mk (K69.out.trans hk70)
        clear hg69 hk70
        go_wp2_with fail
        refine (held_is hg70 LV.out.a6).mono ?_
        rintro e w71 ⟨rfl, hg71, hk71⟩
        have K71 := Aside0.mk (K70.out.trans hk71)
        clear hg70 hk71
        go_wp2_with fail
        refine (take_no hg71 LV.out.w2 HS.out LV.out.a7).mono ?_
        rintro e w72 ⟨rfl, hg72, hk72⟩
        have K72 := Aside0.mk (K71.out.trans hk72)
        clear hg71 hk72
        go_wp2_with fail
        refine (tag_is hg72 LV.out.tg).mono ?_
        rintro e w73 ⟨rfl, hg73, hk73⟩
        have K73 := Aside0.mk (K72.out.trans hk73)
        clear hg72 hk73
        go_wp2_with fail
        refine (drop_yes hg73 LV.out.w2 LV.out.lt.2.2 LV.out.a5 LV.out.l4).mono ?_
        rintro e w74 ⟨rfl, hg74, hk74⟩
        have K74 := Aside0.mk (K73.out.trans hk74)
        clear hg73 hk74
        go_wp2_with fail
        refine (leads_is hg74 LV.out.w4 LV.out.lt.1 LV.out.a8).mono ?_
        rintro e w75 ⟨rfl, hg75, hk75⟩
        have K75 := Aside0.mk (K74.out.trans hk75)
        clear hg74 hk75
        go_wp2_with fail
        refine (drop_no hg75 LV.out.w4 LV.out.lt.1 LV.out.a8).mono ?_
        rintro e w76 ⟨rfl, hg76, hk76⟩
        have K76 := Aside0.mk (K75.out.trans hk76)
        clear hg75 hk76
        go_wp2_with fail
        refine (held_is hg76 LV.out.a9).mono ?_
        rintro e w77 ⟨rfl, hg77, hk77⟩
        have K77 := Aside0.mk (K76.out.trans hk77)
        clear hg76 hk77
        go_wp2_with fail
        refine (slips_is hg77).mono ?_
        rintro e w78 ⟨rfl, hg78, hk78⟩
        have K78 := Aside0.mk (K77.out.trans hk78)
        clear hg77 hk78
        go_wp2_with fail
        refine (take_yes hg78 LV.out.w4 HS.out LV.out.b1 LV.out.l5).mono ?_
        rintro e w79 ⟨rfl, hg79, hk79⟩
        have K79 := Aside0.mk (K78.out.trans hk79)
        clear hg78 hk79
        go_wp2_with fail
        refine (leads_is hg79 LV.out.w5 LV.out.lt.1 LV.out.b2).mono ?_
        rintro e w80 ⟨rfl, hg80, hk80⟩
        have K80 := Aside0.mk (K79.out.trans hk80)
        clear hg79 hk80
        go_wp2_with fail
        refine (lives_calls _).mono ?_
        rintro e w90 ⟨rfl, hb⟩
        have HB := Aside0.mk (below_then (KW.out _ K80.out) (KW.out _ K80.out).size hb)
        clear hb
        go_wp2
        go_ret
        exact ⟨rfl, HB.out⟩
include hk in
theorem walk (n s : Int) (l0 : List α) (A0 : Option Addr) (c0 : Nat) (w : World) (hs : (Lit.int .i64 s).wf = true) (hop : ∀ a ∈ l0, (Lit.int .i64 (op a).2.1).wf = true ∧ (Lit.int .u64 (op a).2.2).wf = true) (hr0 : Kd.C kk w A0 l0.length l0) (hc0 : l0.length ≤ c0) :
    Calls Try.prog 8 #[.int .i64 n, .int .i64 s, .slice A0 l0.length c0] w fun e w' => e = .returned (.bool true) ∧ Below w.heap.size w w' := by
  cases hn : insideB 250 n with
  | false => exact walk_none n s A0 _ c0 w hn
  | true =>
    by_cases hl : 60 < l0.length ∨ s < 1 ∨ n < s
    · exact walk_out n s A0 _ c0 w hn hl
    · exact walk_in kk op hk n s l0 A0 c0 w hn (by omega) (by omega) (by omega) hs hr0 (fun a ha => by
        obtain ⟨h1, h2⟩ := hop a ha
        obtain ⟨y, hy, hy2⟩ := wf_u64 h2
        exact ⟨h1, y, hy, hy2⟩)
end Go.Proofs.Ytdmpfnnaefccnaa.GuardLawL
