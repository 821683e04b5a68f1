/- What any calls of a guard of any size tell, one behind the other, how many are held, how many slips there were, and what any edge leads to, behind each: the law's walk. -/
import Derived.Test.YtdmpfnnaefccnaaGuardDo
set_option linter.unusedVariables false
set_option linter.unusedSimpArgs false
namespace Go.Proofs.Ytdmpfnnaefccnaa.GuardLawP
open Go Go.Maps Go.RowKit Go.Proofs.YtdmpfnnaefccnaaW.PrintWords Go.Proofs.YtdmpfnnaefccnaaW.PrintLast Go.Proofs.YtdmpfnnaefccnaaW.PrintMore Go.Proofs.Ytdmpfnnaefccnaa.PGuardPlays Go.Proofs.Ytdmpfnnaefccnaa.Num Go.Proofs.Ytdmpfnnaefccnaa.Pure Go.Proofs.Ytdmpfnnaefccnaa.GuardW Go.Proofs.Ytdmpfnnaefccnaa.GuardX Go.Proofs.Ytdmpfnnaefccnaa.GuardSame Go.Proofs.Ytdmpfnnaefccnaa.GuardDo
def law_T : Bool × List (List Nat × List Nat) := (true, [([], []), ([0], [0]), ([1], [1]), ([2], [2]), ([2], [2]), ([2], [2]), ([2], [2]), ([5, 6, 2], [2, 5, 6]), ([7, 2], [2, 7]), ([8, 2], [2, 8]), ([2], [2]), ([3, 4, 9, 10, 2, 2], [2, 3, 4, 9, 10]), ([11, 2], [2, 11]), ([2, 12], [2, 12]), ([13, 11], [13]), ([14], [14]), ([14], [14]), ([14], [14]), ([14], [14]), ([14], [14]), ([18, 19, 14], [14, 18, 19]), ([20, 14], [14, 20]), ([21, 14], [14, 21]), ([15, 16, 17, 22, 14, 14], [14, 15, 16, 17, 22]), ([23, 14], [14, 23]), ([14, 24], [14, 24])])
def law_B : List Nat := [0, 1, 3, 7, 7, 7, 7, 103, 231, 487, 7, 2047, 4095, 8191, 16383, 32767, 32767, 32767, 32767, 32767, 819199, 1867775, 3964927, 8388607, 16777215, 33554431]
theorem law_tab : rtab .any (opsOf Try.f7 12) = law_T := by kernel_rfl
theorem law_bits : waitsOk law_T.2 law_B = true := by kernel_rfl

theorem XV.of_R {W : World} {e base b gb mb : Nat} {ok : Nat → Prop} {v : Value} {L : List Sl} (h : Kd.R k91 e W base ok v L) (hlt : b < base ∧ gb < base ∧ mb < base) : XV W (kept3 b gb mb) v L := by
  obtain ⟨A, c, rfl⟩ := Kd.R_slice h
  exact ⟨A, c, rfl, (Kd.R_reads' h).2.1, Kd.F_mono (Kd.R_F (Kd.R_bound h)) (fun k hk => ⟨by omega, by omega, by omega⟩)⟩
variable {α : Type} (kk : Kd α) (op : α → Int × Int × Int) (hk : ∀ w x cs, kk.K w x cs → cs = [.int .i64 (op x).1, .int .i64 (op x).2.1, .int .u64 (op x).2.2])
include hk in
theorem op_cells {w : World} {A : Option Addr} {l : List α} (h : Kd.C kk w A l.length l) (i : Nat) (hi : i < l.length) : ∃ ad, A = some ad ∧ w.cell? (ad.add (i * 3)) = some (.int .i64 (op l[i]).1) ∧ w.cell? ⟨(ad.add (i * 3)).block, (ad.add (i * 3)).off + 1, none⟩ = some (.int .i64 (op l[i]).2.1) ∧ w.cell? ⟨(ad.add (i * 3)).block, (ad.add (i * 3)).off + 2, none⟩ = some (.int .u64 (op l[i]).2.2) := by
  obtain ⟨ad, c, e, hlen, hK, hc0⟩ := Kd.C_get h l[i] (i : Int) (by omega) (by omega)
  have hg : l.getD (i : Int).toNat l[i] = l[i] := by rw [Int.toNat_natCast]; simp [List.getD, hi]
  rw [hg] at hK
  have hcs := hk _ _ _ hK
  have hsz : kk.sz = 3 := by rw [← hlen, hcs]; rfl
  have hc : ∀ j u, c[j]? = some u → w.cell? (ad.add (i * 3 + j)) = some u := by
    intro j u hj
    have := hc0 j u hj
    rwa [hsz, Int.toNat_natCast] at this
  subst hcs
  exact ⟨ad, e, hc 0 _ rfl, by rw [← add_field _ _ 1 (by omega)]; exact hc 1 _ rfl, by rw [← add_field _ _ 2 (by omega)]; exact hc 2 _ rfl⟩
set_option maxHeartbeats 1000000 in
set_option maxRecDepth 100000 in
theorem walk_none (n : Int) (A0 : Option Addr) (m c0 : Nat) (e0 : Int) (w : World) (hn : insideB 250 n = false) :
    Calls Try.prog 7 #[.int .i64 n, .slice A0 m c0, .int .u64 e0] w fun e w' => e = .returned (.bool true) ∧ Below w.heap.size w w' := by
  have hu := Try.underlying57
  have hnl : newL n = [] := by unfold newL; rw [hn, if_neg (by decide)]
  have RN := Aside0.mk (fun (W : World) => deadwoodref07_New.calls n _ _ W (ref_new n))
  rw [hnl] at RN
  go_enter Try.func7, Try.ntmps7
  go_wp2_with fail
  refine (new_none w n hn).mono ?_
  rintro e w1 ⟨rfl, rfl⟩
  go_wp2_with fail
  refine (RN.out _).mono ?_
  rintro e w2 ⟨v0, rfl, hR, hb2⟩
  obtain ⟨A2, c2, rfl⟩ := Kd.R_slice hR
  have B2 := Aside0.mk (below_alloc hb2 (.cells #[.slice A2 0 c2, .int .i64 0] 57 (0, 0)))
  clear hR hb2 RN hnl
  go_wp2_with fail
  refine (lives_calls _).mono ?_
  rintro e w4 ⟨rfl, hb⟩
  have HB := Aside0.mk (below_then B2.out B2.out.size hb)
  clear hb
  go_wp2
  go_ret
  exact ⟨rfl, HB.out⟩
set_option maxHeartbeats 1000000 in
set_option maxRecDepth 100000 in
theorem walk_long (n : Int) (A0 : Option Addr) (m c0 : Nat) (e0 : Int) (w : World) (hn : insideB 250 n = true) (hm : 60 < m) :
    Calls Try.prog 7 #[.int .i64 n, .slice A0 m c0, .int .u64 e0] w fun e w' => e = .returned (.bool true) ∧ Below w.heap.size w w' := by
  have hu := Try.underlying57
  obtain ⟨i1, i2⟩ := inside_iff.1 hn
  have hll : (newL n).length = n.toNat := by unfold newL; rw [if_pos hn, List.length_replicate]
  have RN := Aside0.mk (fun (W : World) => deadwoodref07_New.calls n _ _ W (ref_new n))
  have q0 : (((newL n).length : Int) == 0) = false := by rw [beq_eq_false_iff_ne, hll]; omega
  have q60 : (60 : Int) < (m : Int) := by omega
  have NC := Aside0.mk (new_calls w n hn)
  generalize newL n = L0 at RN q0 NC
  clear hll hn i1 i2
  go_enter Try.func7, Try.ntmps7
  go_wp2_with fail
  refine NC.out.mono ?_
  rintro e w1 ⟨b, gb, mb, rfl, hG, hlo, hb1⟩
  go_wp2_with fail
  refine (RN.out _).mono ?_
  rintro e w2 ⟨v0, rfl, hR, hb2⟩
  obtain ⟨A2, c2, rfl⟩ := Kd.R_slice hR
  have B2 := Aside0.mk (below_alloc (below_then hb1 hb1.size hb2) (.cells #[.slice A2 L0.length c2, .int .i64 0] 57 (0, 0)))
  clear hR hb2 hb1 hG hlo RN NC
  go_wp2_with fail
  refine (lives_calls _).mono ?_
  rintro e w4 ⟨rfl, hb⟩
  have HB := Aside0.mk (below_then B2.out B2.out.size hb)
  clear hb
  go_wp2
  go_ret
  exact ⟨rfl, HB.out⟩
structure Here (w W : World) (b gb mb xb : Nat) (L : List Sl) (sl : Int) (Ax : Option Addr) (cx : Nat) : Prop where
  g : Gd W b gb mb L sl
  x : XV W (fun k => kept3 b gb mb k ∧ k ≠ xb) (.slice Ax L.length cx) L
  box : W.heap[xb]? = some (.cells #[.slice Ax L.length cx, .int .i64 sl] 57 (0, 0))
  bel : Below w.heap.size w W
  wf : WfL L
def Met (w wc : World) (b gb mb xb : Nat) (L L2 : List Sl) (sl s2 : Int) (Ax : Option Addr) (cx yb : Nat) (A6 : Option Addr) (c6 : Nat) : Prop :=
  (wc.heap[yb]? = some (.cells #[.slice A6 L2.length c6, .int .i64 s2] 57 (0, 0)) ∧ wc.heap[xb]? = some (.cells #[.slice Ax L.length cx, .int .i64 sl] 57 (0, 0))) ∧ Gd wc b gb mb L2 s2 ∧ XV wc (fun k => kept3 b gb mb k ∧ k ≠ xb) (.slice A6 L2.length c6) L2 ∧ Below w.heap.size w wc ∧ yb ≠ xb
section
variable {w wr W w6 : World} {b gb mb xb : Nat} {L L2 : List Sl} {sl s2 : Int} {Ax A6 : Option Addr} {cx c6 : Nat}
theorem below6 (HH : Here w wr b gb mb xb L sl Ax cx) (hlo : w.heap.size ≤ b ∧ w.heap.size ≤ gb ∧ w.heap.size ≤ mb) (hb : Below wr.heap.size wr W) (hK6 : Keep3 W w6 b gb mb) : Below w.heap.size w w6 :=
  (below_then HH.bel HH.bel.size hb).trans (hK6.below (B := w.heap.size) hlo.1 hlo.2.1 hlo.2.2 (Nat.le_trans HH.bel.size hb.size))
theorem closeA (HH : Here w wr b gb mb xb L sl Ax cx) (NE : xb ≠ b ∧ xb ≠ gb ∧ xb ≠ mb ∧ w.heap.size ≤ xb) (hlo : w.heap.size ≤ b ∧ w.heap.size ≤ gb ∧ w.heap.size ≤ mb) (hb : Below wr.heap.size wr W) (hG6 : Gd w6 b gb mb L2 s2)
    (hX6 : XV w6 (fun k => ((kept3 b gb mb k ∧ k ≠ xb) ∧ k < wr.heap.size) ∨ W.heap.size ≤ k) (.slice A6 L2.length c6) L2) (hK6 : Keep3 W w6 b gb mb) : Met w (w6.alloc (.cells #[.slice A6 L2.length c6, .int .i64 s2] 57 (0, 0))) b gb mb xb L L2 sl s2 Ax cx w6.heap.size A6 c6 := by
  have lt := HH.g.lt
  have xl := (Array.getElem?_eq_some_iff.1 HH.box).1
  have sz := hb.size
  have x6 := keep3_blk hK6 (blk_below HH.box hb) NE.1 NE.2.1 NE.2.2.1
  have xl6 := (Array.getElem?_eq_some_iff.1 x6).1
  refine ⟨⟨heap_alloc_new w6 _, blk_alloc x6 _⟩, hG6.below (below_alloc (Below.refl _ _) _), (hX6.mono (fun k hk => ?_)).step (fun k _ hlt => (below_alloc (Below.refl w6.heap.size w6) _).block k hlt), below_alloc (below6 HH hlo hb hK6) _, by omega⟩
  rcases hk with ⟨hk, _⟩ | hk
  · exact hk
  · exact ⟨⟨by omega, by omega, by omega⟩, by omega⟩
theorem closeB (HH : Here w wr b gb mb xb L sl Ax cx) (NE : xb ≠ b ∧ xb ≠ gb ∧ xb ≠ mb ∧ w.heap.size ≤ xb) (hlo : w.heap.size ≤ b ∧ w.heap.size ≤ gb ∧ w.heap.size ≤ mb) (hb : Below wr.heap.size wr W) (hs : W.heap.size = wr.heap.size + 1) {y0 y1 : Value} (hy : W.heap[wr.heap.size]? = some (.cells #[y0, y1] 57 (0, 0))) (hG6 : Gd w6 b gb mb L2 s2)
    (hX6 : XV w6 (fun k => ((kept3 b gb mb k ∧ k ≠ xb) ∧ k < wr.heap.size) ∨ W.heap.size ≤ k) (.slice A6 L2.length c6) L2) (hK6 : Keep3 W w6 b gb mb) : Met w ((w6.setCell ⟨wr.heap.size, 0, none⟩ (.slice A6 L2.length c6)).setCell ⟨wr.heap.size, 1, none⟩ (.int .i64 s2)) b gb mb xb L L2 sl s2 Ax cx wr.heap.size A6 c6 := by
  have lt := HH.g.lt
  have xl := (Array.getElem?_eq_some_iff.1 HH.box).1
  have x6 := keep3_blk hK6 (blk_below HH.box hb) NE.1 NE.2.1 NE.2.2.1
  have y6 := keep3_blk hK6 hy (by omega) (by omega) (by omega)
  have b6 := below6 HH hlo hb hK6
  have sw := HH.bel.size
  refine ⟨⟨blk_set (blk_set y6 0 _) 1 _, (set2 _ _ _ _ (by omega)).trans x6⟩, hG6.move (set2 _ _ _ _ (by omega)) (set2 _ _ _ _ (by omega)) (set2 _ _ _ _ (by omega)), (hX6.step (fun k hk _ => set2 _ _ _ _ ?_)).mono (fun k hk => ?_), (b6.setCell (p := ⟨wr.heap.size, 0, none⟩) sw _).setCell (p := ⟨wr.heap.size, 1, none⟩) sw _, by omega⟩
  · rcases hk with ⟨_, hk⟩ | hk <;> omega
  · rcases hk with ⟨hk, _⟩ | hk
    · exact hk
    · exact ⟨⟨by omega, by omega, by omega⟩, by omega⟩
end
theorem Here.below {w W W' : World} {b gb mb xb : Nat} {L : List Sl} {sl : Int} {Ax : Option Addr} {cx : Nat} (h : Here w W b gb mb xb L sl Ax cx) (hb : Below W.heap.size W W') : Here w W' b gb mb xb L sl Ax cx :=
  ⟨h.g.below hb, h.x.step (fun k _ hlt => hb.block k hlt), blk_below h.box hb, below_then h.bel h.bel.size hb, h.wf⟩
set_option maxHeartbeats 4000000 in
set_option maxRecDepth 100000 in
include hk in
theorem walk_in (n : Int) (l0 : List α) (A0 : Option Addr) (c0 : Nat) (e0 : Nat) (w : World) (hn : insideB 250 n = true) (hlen : l0.length ≤ 60) (he0 : e0 < 2 ^ 64) (hr0 : Kd.C kk w A0 l0.length l0) (hop : ∀ a ∈ l0, (Lit.int .i64 (op a).2.1).wf = true ∧ ∃ x : Nat, (op a).2.2 = x ∧ x < 2 ^ 64) :
    Calls Try.prog 7 #[.int .i64 n, .slice A0 l0.length c0, .int .u64 (e0 : Int)] w fun e w' => e = .returned (.bool true) ∧ Below w.heap.size w w' := by
  have hu := Try.underlying57
  have hu2 := Try.underlying62
  obtain ⟨i1, i2⟩ := inside_iff.1 hn
  have hll : (newL n).length = n.toNat := by unfold newL; rw [if_pos hn, List.length_replicate]
  have RN := Aside0.mk (fun (W : World) => deadwoodref07_New.calls n _ _ W (ref_new n))
  have q0 : (((newL n).length : Int) == 0) = false := by rw [beq_eq_false_iff_ne, hll]; omega
  have q60 : ¬ (60 : Int) < (l0.length : Int) := by omega
  have NC := Aside0.mk (new_calls w n hn)
  have WF0 := new_wf n
  have HR := Aside0.mk hr0
  have HOP := Aside0.mk hop
  have HE0 := Aside0.mk he0
  generalize newL n = L0 at RN q0 NC WF0
  have HK := Aside0.mk hk
  clear hll hn i1 i2 hr0 hop he0 hk
  go_enter Try.func7, Try.ntmps7
  go_wp2_with fail
  refine NC.out.mono ?_
  rintro e w1 ⟨b, gb, mb, rfl, hG, hlo, hb1⟩
  have lt1 := hG.lt
  go_wp2_with fail
  refine (RN.out _).mono ?_
  rintro e w2 ⟨v0, rfl, hR, hb2⟩
  obtain ⟨A2, c2, rfl⟩ := Kd.R_slice hR
  have X2 := XV.of_R hR lt1
  have s2 := hb2.size
  have H2 := Aside0.mk (show Here w (w2.alloc (.cells #[.slice A2 L0.length c2, .int .i64 0] 57 (0, 0))) b gb mb w2.heap.size L0 0 A2 c2 from ⟨(hG.below hb2).below (below_alloc (Below.refl _ _) _), (X2.bound.step (fun k _ hlt => (below_alloc (Below.refl w2.heap.size w2) _).block k hlt)).mono (fun k hk => ⟨hk.1, by omega⟩), heap_alloc_new w2 _, below_alloc (below_then hb1 hb1.size hb2) _, WF0⟩)
  have LO := Aside0.mk hlo
  have NE := Aside0.mk (show w2.heap.size ≠ b ∧ w2.heap.size ≠ gb ∧ w2.heap.size ≠ mb ∧ w.heap.size ≤ w2.heap.size from ⟨by omega, by omega, by omega, Nat.le_trans hb1.size s2⟩)
  clear hR hb2 hb1 hG hlo RN NC lt1 X2 s2 WF0
  go_wp2_with fail
  generalize w2.heap.size = xb at H2 NE ⊢
  go_loopg [9] l0.length (fun kx s9 wr => ∃ (i : Nat) (L : List Sl) (sl : Int) (Ax : Option Addr) (cx : Nat), s9 = .int .i64 i ∧ i + kx = l0.length ∧ Aside0 (Here w wr b gb mb xb L sl Ax cx))
  case atStart => exact ⟨0, L0, 0, A2, c2, rfl, by omega, H2⟩
  case round =>
    clear H2
    obtain ⟨i, L, sl, Ax, cx, rfl, hi, HH⟩ := hrel
    by_cases hlt : i < l0.length
    · obtain ⟨ad, hA, p0, p1, p2⟩ := op_cells kk op HK.out (Kd.C_below HR.out HH.out.bel) i hlt
      subst hA
      obtain ⟨hw1, o2, ho2, hlo2⟩ := HOP.out l0[i] (List.getElem_mem hlt)
      rw [ho2] at p2
      obtain ⟨o0, ho0⟩ : ∃ o0, (op l0[i]).1 = o0 := ⟨_, rfl⟩
      obtain ⟨o1, ho1⟩ : ∃ o1, (op l0[i]).2.1 = o1 := ⟨_, rfl⟩
      rw [ho0] at p0
      rw [ho1] at p1 hw1
      have HO := Aside0.mk (And.intro ho1 ho2)
      clear ho0 ho1
      have q1 : (i : Int) < (l0.length : Int) := by omega
      have x0 : wr.cell? ⟨xb, 0, none⟩ = some (.slice Ax L.length cx) := (blk_cell HH.out.box 0).trans rfl
      have x1 : wr.cell? ⟨xb, 1, none⟩ = some (.int .i64 sl) := (blk_cell HH.out.box 1).trans rfl
      have DW := Aside0.mk (fun (W : World) (b2 : Below wr.heap.size wr W) => do_calls (HH.out.g.below b2) HH.out.wf (ok := fun k => (kept3 b gb mb k ∧ k ≠ xb) ∧ k < wr.heap.size) (fun k hk => hk.1.1) (HH.out.x.bound.step (fun k hk _ => b2.block k hk.2)) o0 o1 hw1 o2 hlo2)
      have WF2 := Aside0.mk (do_wf HH.out.wf o0 o1 o2)
      have HO2 := Aside0.mk hlo2
      generalize doL L o0 o1 o2 = L2 at DW WF2
      generalize doS L sl o0 o1 o2 = s2 at DW
      clear hw1 hlo2 ho2
      go_upto_region 10 with (fail)
      go_cut [10, 11] (fun v10 v11 wc => ∃ (yb : Nat) (A6 : Option Addr) (c6 : Nat), v10 = .pointer (some ⟨yb, 0, none⟩) ∧ v11 = .bool true ∧ Aside0 (Met w wc b gb mb xb L L2 sl s2 Ax cx yb A6 c6))
      case first =>
        have p0a := pw_cell_below (below_alloc (Below.refl wr.heap.size wr) (.cells #[.slice none 0 0, .int .i64 0] 57 (0, 0))) p0
        have p1a := pw_cell_below (below_alloc (Below.refl wr.heap.size wr) (.cells #[.slice none 0 0, .int .i64 0] 57 (0, 0))) p1
        have p2a := pw_cell_below (below_alloc (Below.refl wr.heap.size wr) (.cells #[.slice none 0 0, .int .i64 0] 57 (0, 0))) p2
        have x0a := pw_cell_below (below_alloc (Below.refl wr.heap.size wr) (.cells #[.slice none 0 0, .int .i64 0] 57 (0, 0))) x0
        have x1a := pw_cell_below (below_alloc (Below.refl wr.heap.size wr) (.cells #[.slice none 0 0, .int .i64 0] 57 (0, 0))) x1
        go_region_law (first | (go_simp; go_at_call 29; refine (DW.out wr.drew (below_drew1 (Below.refl _ _))).mono ?_; rintro e w6 ⟨v0, rfl, hG6, hX6, hK6⟩; obtain ⟨A6, c6, rfl, hc6, hF6⟩ := hX6; have MA := Aside0.mk (closeA HH.out NE.out LO.out (below_drew1 (Below.refl _ _)) hG6 ⟨A6, c6, rfl, hc6, hF6⟩ hK6); clear hG6 hc6 hF6 hK6) | (go_simp; go_at_call 29; refine (DW.out _ (below_drew1 (below_alloc (Below.refl _ _) (.cells #[.slice none 0 0, .int .i64 0] 57 (0, 0))))).mono ?_; rintro e w6 ⟨v0, rfl, hG6, hX6, hK6⟩; obtain ⟨A6, c6, rfl, hc6, hF6⟩ := hX6; have Y6 := keep3_blk hK6 (show (wr.alloc (.cells #[.slice none 0 0, .int .i64 0] 57 (0, 0))).drew.heap[wr.heap.size]? = some (.cells #[.slice none 0 0, .int .i64 0] 57 (0, 0)) from heap_alloc_new wr _) (by have := HH.out.g.lt; omega) (by have := HH.out.g.lt; omega) (by have := HH.out.g.lt; omega); have y60 : w6.cell? ⟨wr.heap.size, 0, none⟩ = some (.slice none 0 0) := (blk_cell Y6 0).trans rfl; have y61 : w6.cell? ⟨wr.heap.size, 1, none⟩ = some (.int .i64 0) := (blk_cell Y6 1).trans rfl; have z60 := blk_frozen Y6 0; have z61 := blk_frozen Y6 1; have MB := Aside0.mk (closeB HH.out NE.out LO.out (below_drew1 (below_alloc (Below.refl _ _) (.cells #[.slice none 0 0, .int .i64 0] 57 (0, 0)))) (by simp) (show (wr.alloc (.cells #[.slice none 0 0, .int .i64 0] 57 (0, 0))).drew.heap[wr.heap.size]? = some (.cells #[.slice none 0 0, .int .i64 0] 57 (0, 0)) from heap_alloc_new wr _) hG6 ⟨A6, c6, rfl, hc6, hF6⟩ hK6); clear hG6 hc6 hF6 hK6 Y6))
        all_goals go_wp2
        all_goals go_meet
        all_goals first | exact ⟨_, A6, c6, rfl, rfl, MA⟩ | exact ⟨_, A6, c6, rfl, rfl, MB⟩
      case rest =>
        obtain ⟨yb, A6, c6, rfl, rfl, ML⟩ := hcut
        obtain ⟨⟨y1, b1⟩, g7, v7, e7, ne7⟩ := ML.out
        have y10 : wc.cell? ⟨yb, 0, none⟩ = some (.slice A6 L2.length c6) := (blk_cell y1 0).trans rfl
        have y11 : wc.cell? ⟨yb, 1, none⟩ = some (.int .i64 s2) := (blk_cell y1 1).trans rfl
        have b10 : wc.cell? ⟨xb, 0, none⟩ = some (.slice Ax L.length cx) := (blk_cell b1 0).trans rfl
        have b11 : wc.cell? ⟨xb, 1, none⟩ = some (.int .i64 sl) := (blk_cell b1 1).trans rfl
        have z10 := blk_frozen b1 0
        have z11 := blk_frozen b1 1
        have ne := NE.out
        have H7 := Aside0.mk (show Here w ((wc.setCell ⟨xb, 0, none⟩ (.slice A6 L2.length c6)).setCell ⟨xb, 1, none⟩ (.int .i64 s2)) b gb mb xb L2 s2 A6 c6 from ⟨g7.move (set2 _ _ _ _ ne.1.symm) (set2 _ _ _ _ ne.2.1.symm) (set2 _ _ _ _ ne.2.2.1.symm), v7.step (fun k hk _ => set2 _ _ _ _ hk.2), blk_set (blk_set b1 0 _) 1 _, (e7.setCell (p := ⟨xb, 0, none⟩) ne.2.2.2 _).setCell (p := ⟨xb, 1, none⟩) ne.2.2.2 _, WF2.out⟩)
        clear y1 b1 g7 v7 e7 ne7 ne ML p0 p1 p2 x0 x1 DW
        go_upto_region 12 with (fail)
        clear y10 y11 b10 b11 z10 z11
        generalize (wc.setCell ⟨xb, 0, none⟩ (.slice A6 L2.length c6)).setCell ⟨xb, 1, none⟩ (.int .i64 s2) = w7 at H7 ⊢
        obtain ⟨ad2, hA2, _, k2, k3⟩ := op_cells kk op HK.out (Kd.C_below HR.out H7.out.bel) i hlt
        obtain rfl : ad = ad2 := Option.some.inj hA2
        rw [HO.out.1] at k2
        rw [HO.out.2] at k3
        have k0 : w7.cell? ⟨xb, 0, none⟩ = some (.slice A6 L2.length c6) := (blk_cell H7.out.box 0).trans rfl
        have k1 : w7.cell? ⟨xb, 1, none⟩ = some (.int .i64 s2) := (blk_cell H7.out.box 1).trans rfl
        have G7 := Aside0.mk (fun (W : World) (hb : Below w7.heap.size w7 W) => H7.out.g.below hb)
        have C7 := Aside0.mk (fun (W : World) (hb : Below w7.heap.size w7 W) => Kd.F_now (H7.out.x.below hb))
        have HC6 := Aside0.mk H7.out.x.le
        clear hA2
        go_wp2_with fail
        have TWD := Aside0.mk (below_drew1 (Below.refl w7.heap.size w7))
        refine start_ (n := 26) (S := fun W' => W'.cell? ⟨xb, 0, none⟩ = some (.slice A6 L2.length c6) ∧ W'.cell? ⟨xb, 1, none⟩ = some (.int .i64 s2) ∧ W'.cell? ⟨(ad.add (i * 3)).block, (ad.add (i * 3)).off + 1, none⟩ = some (.int .i64 o1) ∧ W'.cell? ⟨(ad.add (i * 3)).block, (ad.add (i * 3)).off + 2, none⟩ = some (.int .u64 (o2 : Int))) (ds := []) #[false, false, false, false, false, false, false, false, false, false, false, false, false, false, false, false, false, false, false, false, false, false, false, false, false, false] (by kernel_rfl) rfl rfl ⟨k0, k1, k2, k3⟩ (fun hHeld => ?_); refine with_tabW law_tab law_bits (fun HT_ HW_ => ?_)
        generalize w7.drew = wd_ at k0 k1 k2 k3 TWD hHeld ⊢
        refine pure_ (i := 0) (N := some 48) (v := ?_) (a' := ?_) #[true, false, false, false, false, false, false, false, false, false, false, false, false, false, false, false, false, false, false, false, false, false, false, false, false, false] rfl rfl (any_of HT_.out (by kernel_rfl)) (fun _ _ _ h => h) (Or.inl ⟨by rfl, ?_⟩) ?_ ?_
        rotate_left
        · intro w'
          go_simp
          with_reducible rfl
        rotate_left
        · simp only [Act.put, List.setIfInBounds_toArray, List.set_cons_zero, List.set_cons_succ]
          rfl
        refine pure_ (i := 1) (N := some 49) (v := ?_) (a' := ?_) #[true, true, false, false, false, false, false, false, false, false, false, false, false, false, false, false, false, false, false, false, false, false, false, false, false, false] rfl rfl (any_of HT_.out (by kernel_rfl)) (fun _ _ _ h => h) (Or.inl ⟨by rfl, ?_⟩) ?_ ?_
        rotate_left
        · intro w'
          go_simp
          with_reducible rfl
        rotate_left
        · simp only [Act.put, List.setIfInBounds_toArray, List.set_cons_zero, List.set_cons_succ]
          rfl
        refine pure_ (i := 2) (N := some 50) (v := ?_) (a' := ?_) #[true, true, true, false, false, false, false, false, false, false, false, false, false, false, false, false, false, false, false, false, false, false, false, false, false, false] rfl rfl (any_of HT_.out (by kernel_rfl)) (fun _ _ _ h => h) (Or.inl ⟨by rfl, ?_⟩) ?_ ?_
        rotate_left
        · intro w'
          go_simp
          with_reducible rfl
        rotate_left
        · simp only [Act.put, List.setIfInBounds_toArray, List.set_cons_zero, List.set_cons_succ]
          rfl
        refine pure_ (i := 3) (N := some 51) (v := ?_) (a' := ?_) #[true, true, true, true, false, false, false, false, false, false, false, false, false, false, false, false, false, false, false, false, false, false, false, false, false, false] rfl rfl (any_of HT_.out (by kernel_rfl)) (fun _ _ _ h => h) (Or.inl ⟨by rfl, ?_⟩) ?_ ?_
        rotate_left
        · intro w'
          go_simp
          with_reducible rfl
        rotate_left
        · simp only [Act.put, List.setIfInBounds_toArray, List.set_cons_zero, List.set_cons_succ]
          rfl
        refine pure_ (i := 5) (N := some 53) (v := ?_) (a' := ?_) #[true, true, true, true, false, true, false, false, false, false, false, false, false, false, false, false, false, false, false, false, false, false, false, false, false, false] rfl rfl (any_of HT_.out (by kernel_rfl)) (fun _ _ _ h => h) (Or.inl ⟨by rfl, ?_⟩) ?_ ?_
        rotate_left
        · intro w'
          go_simp
          with_reducible rfl
        rotate_left
        · simp only [Act.put, List.setIfInBounds_toArray, List.set_cons_zero, List.set_cons_succ]
          rfl
        refine pure_ (i := 6) (N := some 54) (v := ?_) (a' := ?_) #[true, true, true, true, false, true, true, false, false, false, false, false, false, false, false, false, false, false, false, false, false, false, false, false, false, false] rfl rfl (any_of HT_.out (by kernel_rfl)) (fun _ _ _ h => h) (Or.inl ⟨by rfl, ?_⟩) ?_ ?_
        rotate_left
        · intro w'
          go_simp
          with_reducible rfl
        rotate_left
        · simp only [Act.put, List.setIfInBounds_toArray, List.set_cons_zero, List.set_cons_succ]
          rfl
        refine pure_ (i := 7) (N := some 55) (v := ?_) (a' := ?_) #[true, true, true, true, false, true, true, true, false, false, false, false, false, false, false, false, false, false, false, false, false, false, false, false, false, false] rfl rfl (any_of HT_.out (by kernel_rfl)) (fun _ _ _ h => h) (Or.inl ⟨by rfl, ?_⟩) ?_ ?_
        rotate_left
        · intro w'
          go_simp
          with_reducible rfl
        rotate_left
        · simp only [Act.put, List.setIfInBounds_toArray, List.set_cons_zero, List.set_cons_succ]
          rfl
        refine pure_ (i := 8) (N := some 56) (v := ?_) (a' := ?_) #[true, true, true, true, false, true, true, true, true, false, false, false, false, false, false, false, false, false, false, false, false, false, false, false, false, false] rfl rfl (any_of HT_.out (by kernel_rfl)) (fun _ _ _ h => h) (Or.inl ⟨by rfl, ?_⟩) ?_ ?_
        rotate_left
        · intro w'
          go_simp
          with_reducible rfl
        rotate_left
        · simp only [Act.put, List.setIfInBounds_toArray, List.set_cons_zero, List.set_cons_succ]
          rfl
        refine pure_ (i := 10) (N := some 58) (v := ?_) (a' := ?_) #[true, true, true, true, false, true, true, true, true, false, true, false, false, false, false, false, false, false, false, false, false, false, false, false, false, false] rfl rfl (any_of HT_.out (by kernel_rfl)) (fun _ _ _ h => h) (Or.inl ⟨by rfl, ?_⟩) ?_ ?_
        rotate_left
        · intro w'
          go_simp
          with_reducible rfl
        rotate_left
        · simp only [Act.put, List.setIfInBounds_toArray, List.set_cons_zero, List.set_cons_succ]
          rfl
        refine take_ (i := 4) (N := some 52) (v := ?_) (a' := ?_) #[true, true, true, true, true, true, true, true, true, false, true, false, false, false, false, false, false, false, false, false, false, false, false, false, false, false] rfl rfl (take_ofW HT_.out HW_.out (by kernel_rfl)) (fun _ _ _ h => h) (Or.inl ⟨by rfl, ?_⟩) hHeld ?_ ?_
        rotate_left
        · rintro w' ⟨s0, s1, s2, s3⟩
          go_simp
          with_reducible rfl
        rotate_left
        · simp only [Act.put, List.setIfInBounds_toArray, List.set_cons_zero, List.set_cons_succ]
          rfl
        refine take_ (i := 9) (N := some 57) (v := ?_) (a' := ?_) #[true, true, true, true, true, true, true, true, true, true, true, false, false, false, false, false, false, false, false, false, false, false, false, false, false, false] rfl rfl (take_ofW HT_.out HW_.out (by kernel_rfl)) (fun _ _ _ h => h) (Or.inl ⟨by rfl, ?_⟩) hHeld ?_ ?_
        rotate_left
        · rintro w' ⟨s0, s1, s2, s3⟩
          go_simp
          with_reducible rfl
        rotate_left
        · simp only [Act.put, List.setIfInBounds_toArray, List.set_cons_zero, List.set_cons_succ]
          rfl
        refine one_ (i := 11) (N := some 59) #[true, true, true, true, true, true, true, true, true, true, true, true, false, false, false, false, false, false, false, false, false, false, false, false, false, false] rfl rfl (one_of HT_.out (by kernel_rfl)) (by decide) (fun K hK => ?_)
        refine goes_ Try.func30 (by kernel_rfl) rfl #[.pointer (some ⟨b, 0, none⟩), .agg #[.slice A6 L2.length c6, .int .i64 s2], .int .i64 o1, .int .u64 (e0 : Int)] (by rfl) rfl rfl (by (try simp only [List.map_toArray, List.map_cons, List.map_nil]); first | done | rfl) ?_
        refine (same_calls (G7.out _ TWD.out) WF2.out (C7.out _ TWD.out) HC6.out o1 e0 HE0.out).mono ?_
        rintro e_ wq1 ⟨rfl, hb⟩
        have hHeld2 := hHeld
        obtain ⟨t0, t1, t2, t3⟩ := hHeld2
        have HS0_ := pw_cell_below hb t0
        have HS1_ := pw_cell_below hb t1
        have HS2_ := pw_cell_below hb t2
        have HS3_ := pw_cell_below hb t3
        have TW1 := Aside0.mk (below_then TWD.out TWD.out.size hb)
        clear hb
        refine ⟨_, rfl, ?_⟩
        refine hK.out _ _ ⟨HS0_, HS1_, HS2_, HS3_⟩ (fun hHeld => ?_)
        clear hK K
        refine norm_ (a' := ?_) ?_ ?_
        rotate_left
        · show Act.put _ (some 59) _ = _
          simp only [Act.put, List.setIfInBounds_toArray, List.set_cons_zero, List.set_cons_succ]
          rfl
        refine pure_ (i := 12) (N := some 60) (v := ?_) (a' := ?_) #[true, true, true, true, true, true, true, true, true, true, true, true, true, false, false, false, false, false, false, false, false, false, false, false, false, false] rfl rfl (any_of HT_.out (by kernel_rfl)) (fun _ _ _ h => h) (Or.inl ⟨by rfl, ?_⟩) ?_ ?_
        rotate_left
        · intro w'
          go_simp
          with_reducible rfl
        rotate_left
        · simp only [Act.put, List.setIfInBounds_toArray, List.set_cons_zero, List.set_cons_succ]
          rfl
        refine pure_ (i := 13) (N := some 61) (v := ?_) (a' := ?_) #[true, true, true, true, true, true, true, true, true, true, true, true, true, true, false, false, false, false, false, false, false, false, false, false, false, false] rfl rfl (any_of HT_.out (by kernel_rfl)) (fun _ _ _ h => h) (Or.inl ⟨by rfl, ?_⟩) ?_ ?_
        rotate_left
        · intro w'
          go_simp
          with_reducible rfl
        rotate_left
        · simp only [Act.put, List.setIfInBounds_toArray, List.set_cons_zero, List.set_cons_succ]
          rfl
        refine pure_ (i := 14) (N := some 62) (v := ?_) (a' := ?_) #[true, true, true, true, true, true, true, true, true, true, true, true, true, true, true, false, false, false, false, false, false, false, false, false, false, false] rfl rfl (any_of HT_.out (by kernel_rfl)) (fun _ _ _ h => h) (Or.inl ⟨by rfl, ?_⟩) ?_ ?_
        rotate_left
        · intro w'
          go_simp
          with_reducible rfl
        rotate_left
        · simp only [Act.put, List.setIfInBounds_toArray, List.set_cons_zero, List.set_cons_succ]
          rfl
        refine pure_ (i := 15) (N := some 63) (v := ?_) (a' := ?_) #[true, true, true, true, true, true, true, true, true, true, true, true, true, true, true, true, false, false, false, false, false, false, false, false, false, false] rfl rfl (any_of HT_.out (by kernel_rfl)) (fun _ _ _ h => h) (Or.inl ⟨by rfl, ?_⟩) ?_ ?_
        rotate_left
        · intro w'
          go_simp
          with_reducible rfl
        rotate_left
        · simp only [Act.put, List.setIfInBounds_toArray, List.set_cons_zero, List.set_cons_succ]
          rfl
        refine pure_ (i := 17) (N := some 65) (v := ?_) (a' := ?_) #[true, true, true, true, true, true, true, true, true, true, true, true, true, true, true, true, false, true, false, false, false, false, false, false, false, false] rfl rfl (any_of HT_.out (by kernel_rfl)) (fun _ _ _ h => h) (Or.inl ⟨by rfl, ?_⟩) ?_ ?_
        rotate_left
        · intro w'
          go_simp
          with_reducible rfl
        rotate_left
        · simp only [Act.put, List.setIfInBounds_toArray, List.set_cons_zero, List.set_cons_succ]
          rfl
        refine pure_ (i := 18) (N := some 66) (v := ?_) (a' := ?_) #[true, true, true, true, true, true, true, true, true, true, true, true, true, true, true, true, false, true, true, false, false, false, false, false, false, false] rfl rfl (any_of HT_.out (by kernel_rfl)) (fun _ _ _ h => h) (Or.inl ⟨by rfl, ?_⟩) ?_ ?_
        rotate_left
        · intro w'
          go_simp
          with_reducible rfl
        rotate_left
        · simp only [Act.put, List.setIfInBounds_toArray, List.set_cons_zero, List.set_cons_succ]
          rfl
        refine pure_ (i := 19) (N := some 67) (v := ?_) (a' := ?_) #[true, true, true, true, true, true, true, true, true, true, true, true, true, true, true, true, false, true, true, true, false, false, false, false, false, false] rfl rfl (any_of HT_.out (by kernel_rfl)) (fun _ _ _ h => h) (Or.inl ⟨by rfl, ?_⟩) ?_ ?_
        rotate_left
        · intro w'
          go_simp
          with_reducible rfl
        rotate_left
        · simp only [Act.put, List.setIfInBounds_toArray, List.set_cons_zero, List.set_cons_succ]
          rfl
        refine pure_ (i := 20) (N := some 68) (v := ?_) (a' := ?_) #[true, true, true, true, true, true, true, true, true, true, true, true, true, true, true, true, false, true, true, true, true, false, false, false, false, false] rfl rfl (any_of HT_.out (by kernel_rfl)) (fun _ _ _ h => h) (Or.inl ⟨by rfl, ?_⟩) ?_ ?_
        rotate_left
        · intro w'
          go_simp
          with_reducible rfl
        rotate_left
        · simp only [Act.put, List.setIfInBounds_toArray, List.set_cons_zero, List.set_cons_succ]
          rfl
        refine pure_ (i := 21) (N := some 69) (v := ?_) (a' := ?_) #[true, true, true, true, true, true, true, true, true, true, true, true, true, true, true, true, false, true, true, true, true, true, false, false, false, false] rfl rfl (any_of HT_.out (by kernel_rfl)) (fun _ _ _ h => h) (Or.inl ⟨by rfl, ?_⟩) ?_ ?_
        rotate_left
        · intro w'
          go_simp
          with_reducible rfl
        rotate_left
        · simp only [Act.put, List.setIfInBounds_toArray, List.set_cons_zero, List.set_cons_succ]
          rfl
        refine take_ (i := 16) (N := some 64) (v := ?_) (a' := ?_) #[true, true, true, true, true, true, true, true, true, true, true, true, true, true, true, true, true, true, true, true, true, true, false, false, false, false] rfl rfl (take_ofW HT_.out HW_.out (by kernel_rfl)) (fun _ _ _ h => h) (Or.inl ⟨by rfl, ?_⟩) hHeld ?_ ?_
        rotate_left
        · rintro w' ⟨s0, s1, s2, s3⟩
          go_simp
          with_reducible rfl
        rotate_left
        · simp only [Act.put, List.setIfInBounds_toArray, List.set_cons_zero, List.set_cons_succ]
          rfl
        refine take_ (i := 22) (N := some 70) (v := ?_) (a' := ?_) #[true, true, true, true, true, true, true, true, true, true, true, true, true, true, true, true, true, true, true, true, true, true, true, false, false, false] rfl rfl (take_ofW HT_.out HW_.out (by kernel_rfl)) (fun _ _ _ h => h) (Or.inl ⟨by rfl, ?_⟩) hHeld ?_ ?_
        rotate_left
        · rintro w' ⟨s0, s1, s2, s3⟩
          go_simp
          with_reducible rfl
        rotate_left
        · simp only [Act.put, List.setIfInBounds_toArray, List.set_cons_zero, List.set_cons_succ]
          rfl
        refine one_ (i := 23) (N := some 71) #[true, true, true, true, true, true, true, true, true, true, true, true, true, true, true, true, true, true, true, true, true, true, true, true, false, false] rfl rfl (one_of HT_.out (by kernel_rfl)) (by decide) (fun K hK => ?_)
        refine goes_ Try.func30 (by kernel_rfl) rfl #[.pointer (some ⟨b, 0, none⟩), .agg #[.slice A6 L2.length c6, .int .i64 s2], .int .i64 (i : Int), .int .u64 (o2 : Int)] (by rfl) rfl rfl (by (try simp only [List.map_toArray, List.map_cons, List.map_nil]); first | done | rfl) ?_
        refine (same_calls (G7.out _ TW1.out) WF2.out (C7.out _ TW1.out) HC6.out (i : Int) o2 HO2.out).mono ?_
        rintro e_ wq2 ⟨rfl, hb⟩
        have hHeld2 := hHeld
        obtain ⟨t0, t1, t2, t3⟩ := hHeld2
        have HS0_ := pw_cell_below hb t0
        have HS1_ := pw_cell_below hb t1
        have HS2_ := pw_cell_below hb t2
        have HS3_ := pw_cell_below hb t3
        have TW2 := Aside0.mk (below_then TW1.out TW1.out.size hb)
        clear hb
        refine ⟨_, rfl, ?_⟩
        refine hK.out _ _ ⟨HS0_, HS1_, HS2_, HS3_⟩ (fun hHeld => ?_)
        clear hK K
        refine norm_ (a' := ?_) ?_ ?_
        rotate_left
        · show Act.put _ (some 71) _ = _
          simp only [Act.put, List.setIfInBounds_toArray, List.set_cons_zero, List.set_cons_succ]
          rfl
        refine pure_ (i := 24) (N := some 72) (v := ?_) (a' := ?_) #[true, true, true, true, true, true, true, true, true, true, true, true, true, true, true, true, true, true, true, true, true, true, true, true, true, false] rfl rfl (any_of HT_.out (by kernel_rfl)) (fun _ _ _ h => h) (Or.inl ⟨by rfl, ?_⟩) ?_ ?_
        rotate_left
        · intro w'
          go_simp
          with_reducible rfl
        rotate_left
        · simp only [Act.put, List.setIfInBounds_toArray, List.set_cons_zero, List.set_cons_succ]
          rfl
        refine pure_ (i := 25) (N := some 73) (v := ?_) (a' := ?_) #[true, true, true, true, true, true, true, true, true, true, true, true, true, true, true, true, true, true, true, true, true, true, true, true, true, true] rfl rfl (any_of HT_.out (by kernel_rfl)) (fun _ _ _ h => h) (Or.inl ⟨by rfl, ?_⟩) ?_ ?_
        rotate_left
        · intro w'
          go_simp
          with_reducible rfl
        rotate_left
        · simp only [Act.put, List.setIfInBounds_toArray, List.set_cons_zero, List.set_cons_succ]
          rfl
        refine done_ (done_of HT_.out (by kernel_rfl)) ?_
        go_wp2
        go_roundg (l0.length - (i + 1))
        case measure => omega
        case rel => exact ⟨i + 1, L2, s2, A6, c6, by go_num, by omega, ⟨H7.out.below TW2.out⟩⟩
    · have q1 : ¬ (i : Int) < (l0.length : Int) := by omega
      go_wp2_with fail
      refine (lives_calls _).mono ?_
      rintro e w4 ⟨rfl, hb⟩
      have HB := Aside0.mk (below_then HH.out.bel HH.out.bel.size hb)
      clear hb
      go_wp2
      go_ret
      exact ⟨rfl, HB.out⟩
include hk in
theorem walk (n : Int) (l0 : List α) (A0 : Option Addr) (c0 : Nat) (e0 : Int) (w : World) (he0 : (Lit.int .u64 e0).wf = true) (hop : ∀ a ∈ l0, (Lit.int .i64 (op a).2.1).wf = true ∧ (Lit.int .u64 (op a).2.2).wf = true) (hr0 : Kd.C kk w A0 l0.length l0) (hc0 : l0.length ≤ c0) :
    Calls Try.prog 7 #[.int .i64 n, .slice A0 l0.length c0, .int .u64 e0] w fun e w' => e = .returned (.bool true) ∧ Below w.heap.size w w' := by
  obtain ⟨x, rfl, hx⟩ := wf_u64 he0
  cases hn : insideB 250 n with
  | false => exact walk_none n A0 _ c0 _ w hn
  | true =>
    by_cases hl : 60 < l0.length
    · exact walk_long n A0 _ c0 _ w hn hl
    · exact walk_in kk op hk n l0 A0 c0 x w hn (by omega) hx hr0 (fun a ha => by
        obtain ⟨h1, h2⟩ := hop a ha
        obtain ⟨y, hy, hy2⟩ := wf_u64 h2
        exact ⟨h1, y, hy, hy2⟩)
end Go.Proofs.Ytdmpfnnaefccnaa.GuardLawP
