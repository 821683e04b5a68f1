/- A guard that isn't there holds nothing; a copy is by itself: the law's walk. -/
import Derived.Test.YtdmpfnnaefccnaaGuardC2
set_option linter.unusedVariables false
set_option linter.unusedSimpArgs false
namespace Go.Proofs.Ytdmpfnnaefccnaa.GuardLawN
open Go Go.Maps Go.RowKit Go.Proofs.YtdmpfnnaefccnaaW.PrintWords Go.Proofs.YtdmpfnnaefccnaaW.PrintLast Go.Proofs.YtdmpfnnaefccnaaW.PrintMore Go.Proofs.Ytdmpfnnaefccnaa.PGuardPlays Go.Proofs.Ytdmpfnnaefccnaa.Num Go.Proofs.Ytdmpfnnaefccnaa.Pure Go.Proofs.Ytdmpfnnaefccnaa.GuardW Go.Proofs.Ytdmpfnnaefccnaa.GuardX Go.Proofs.Ytdmpfnnaefccnaa.GuardSame Go.Proofs.Ytdmpfnnaefccnaa.GuardDo Go.Proofs.Ytdmpfnnaefccnaa.GuardLawP Go.Proofs.Ytdmpfnnaefccnaa.GuardC Go.Proofs.Ytdmpfnnaefccnaa.GuardC2
theorem do_len (L : List Sl) (k s : Int) (x : Nat) : (doL L k s x).length = L.length := by
  unfold doL
  split
  · exact takeL_len _ _
  · exact dropL_len _ _
variable {α : Type} (kk : Kd α) (op : α → Int × Int × Int) (hk : ∀ w x cs, kk.K w x cs → cs = [.int .i64 (op x).1, .int .i64 (op x).2.1, .int .u64 (op x).2.2])
set_option maxHeartbeats 4000000 in
set_option maxRecDepth 100000 in
include hk in
theorem walk_in (n p0 p1 : Int) (p2 : Nat) (l0 : List α) (A0 : Option Addr) (c0 : Nat) (w : World) (hp1 : (Lit.int .i64 p1).wf = true) (hp2 : p2 < 2 ^ 64) (hr0 : Kd.C kk w A0 l0.length l0) (hop : ∀ a ∈ l0, (Lit.int .i64 (op a).2.1).wf = true ∧ ∃ x : Nat, (op a).2.2 = x ∧ x < 2 ^ 64) :
    Calls Try.prog 9 #[.int .i64 n, .slice A0 l0.length c0, .agg #[.int .i64 p0, .int .i64 p1, .int .u64 (p2 : Int)]] w fun e w' => e = .returned (.bool true) ∧ Below w.heap.size w w' := by
  have hu := Try.underlying57
  have hu2 := Try.underlying62
  have HP := Aside0.mk (And.intro hp1 hp2)
  have HR := Aside0.mk hr0
  have HOP := Aside0.mk hop
  have HK := Aside0.mk hk
  clear hp1 hp2 hr0 hop hk
  go_enter Try.func9, Try.ntmps9
  go_wp2_with fail
  refine (takeN p1 _).mono ?_
  rintro e w1 ⟨rfl, rfl⟩
  go_wp2_with fail
  refine (dropN (p2 : Int) _).mono ?_
  rintro e w1 ⟨rfl, rfl⟩
  go_wp2_with fail
  refine (leadsN p2 HP.out.2 _).mono ?_
  rintro e w1 ⟨rfl, n1, rfl⟩
  go_wp2_with fail
  refine (edgeN p1 _).mono ?_
  rintro e w1 ⟨rfl, rfl⟩
  go_wp2_with fail
  refine (heldN_ _).mono ?_
  rintro e w1 ⟨rfl, rfl⟩
  go_wp2_with fail
  refine (slipsN _).mono ?_
  rintro e w1 ⟨rfl, rfl⟩
  go_wp2_with fail
  refine (cloneN _).mono ?_
  rintro e w1 ⟨rfl, rfl⟩
  have OB0 := Aside0.mk (show ((w.alloc (.cells #[.int .i64 p0, .int .i64 p1, .int .u64 (p2 : Int)] 62 (0, 0))).drewN n1).heap[w.heap.size]? = some (.cells #[.int .i64 p0, .int .i64 p1, .int .u64 (p2 : Int)] 62 (0, 0)) from heap_alloc_new w _)
  have BW := Aside0.mk (show Below w.heap.size w ((w.alloc (.cells #[.int .i64 p0, .int .i64 p1, .int .u64 (p2 : Int)] 62 (0, 0))).drewN n1) from pw_below_drewN (below_alloc (Below.refl _ _) _) n1)
  generalize hob : w.heap.size = ob at OB0 ⊢
  generalize (w.alloc (.cells #[.int .i64 p0, .int .i64 p1, .int .u64 (p2 : Int)] 62 (0, 0))).drewN n1 = wb at OB0 BW ⊢
  cases hn : insideB 250 n with
  | false => as_aux_lemma =>
    have hnl : newL n = [] := by unfold newL; rw [hn, if_neg (by decide)]
    have RN := Aside0.mk (fun (W : World) => deadwoodref07_New.calls n _ _ W (ref_new n))
    rw [hnl] at RN
    go_wp2_with fail
    refine (new_none _ n hn).mono ?_
    rintro e w1 ⟨rfl, rfl⟩
    go_wp2_with fail
    refine (RN.out _).mono ?_
    rintro e w2 ⟨v0, rfl, hR, hb2⟩
    obtain ⟨A2, c2, rfl⟩ := Kd.R_slice hR
    have B2 := Aside0.mk (below_alloc (below_then BW.out BW.out.size hb2) (.cells #[.slice A2 0 c2, .int .i64 0] 57 (0, 0)))
    clear hR hb2 RN hnl
    go_wp2_with fail
    refine (lives_calls _).mono ?_
    rintro e w4 ⟨rfl, hb⟩
    have HB := Aside0.mk (below_then B2.out B2.out.size hb)
    clear hb
    go_wp2
    go_ret
    exact ⟨rfl, HB.out⟩
  | true =>
    have hll : (newL n).length = n.toNat := by unfold newL; rw [if_pos hn, List.length_replicate]
    have RN := Aside0.mk (fun (W : World) => deadwoodref07_New.calls n _ _ W (ref_new n))
    have NC := Aside0.mk (new_calls wb n hn)
    have WF0 := new_wf n
    generalize newL n = L0 at RN NC WF0 hll
    clear hn hll
    go_wp2_with fail
    refine NC.out.mono ?_
    rintro e w1 ⟨b, gb, mb, rfl, hG, hlo, hb1⟩
    have lt1 := hG.lt
    go_wp2_with fail
    refine (RN.out _).mono ?_
    rintro e w2 ⟨v0, rfl, hR, hb2⟩
    obtain ⟨A2, c2, rfl⟩ := Kd.R_slice hR
    have X2 := XV.of_R hR lt1
    have s2 := hb2.size
    have H2 := Aside0.mk (show Here wb (w2.alloc (.cells #[.slice A2 L0.length c2, .int .i64 0] 57 (0, 0))) b gb mb w2.heap.size L0 0 A2 c2 from ⟨(hG.below hb2).below (below_alloc (Below.refl _ _) _), (X2.bound.step (fun k _ hlt => (below_alloc (Below.refl w2.heap.size w2) _).block k hlt)).mono (fun k hk => ⟨hk.1, by omega⟩), heap_alloc_new w2 _, below_alloc (below_then hb1 hb1.size hb2) _, WF0⟩)
    have LO := Aside0.mk hlo
    have NE := Aside0.mk (show w2.heap.size ≠ b ∧ w2.heap.size ≠ gb ∧ w2.heap.size ≠ mb ∧ wb.heap.size ≤ w2.heap.size from ⟨by omega, by omega, by omega, Nat.le_trans hb1.size s2⟩)
    clear hR hb2 hb1 hG hlo RN NC lt1 X2 s2 WF0
    by_cases h60 : 60 < l0.length
    · as_aux_lemma =>
      have q1 : decide ((60 : Int) < (l0.length : Int)) = true := decide_eq_true (by omega)
      clear NE
      go_wp2_with fail
      refine (lives_calls _).mono ?_
      rintro e w4 ⟨rfl, hb⟩
      have HB := Aside0.mk (below_then BW.out BW.out.size (below_then H2.out.bel H2.out.bel.size hb))
      clear hb
      go_wp2
      go_ret
      exact ⟨rfl, HB.out⟩
    · have q1 : decide ((60 : Int) < (l0.length : Int)) = false := decide_eq_false (by omega)
      have hlen : l0.length ≤ 60 := by omega
      clear h60
      go_wp2_with fail
      generalize w2.heap.size = xb at H2 NE ⊢
      go_loopg [10] l0.length (fun kx s9 wr => ∃ (i : Nat) (L : List Sl) (sl : Int) (Ax : Option Addr) (cx : Nat), s9 = .int .i64 i ∧ i + kx = l0.length ∧ Aside0 (Here wb wr b gb mb xb L sl Ax cx ∧ L.length = L0.length))
      case atStart => exact ⟨0, L0, 0, A2, c2, rfl, by omega, ⟨H2.out, rfl⟩⟩
      case round =>
        clear H2 q1
        obtain ⟨i, L, sl, Ax, cx, rfl, hi, ⟨HH', HL⟩⟩ := hrel
        have HH := Aside0.mk HH'
        have HLN := Aside0.mk HL
        have HRB := Aside0.mk (Kd.C_below HR.out BW.out)
        clear HH' HL
        by_cases hlt : i < l0.length
        · as_aux_lemma =>
          obtain ⟨ad, hA, p0, p1, p2⟩ := op_cells kk op HK.out (Kd.C_below HRB.out HH.out.bel) i hlt
          subst hA
          obtain ⟨hw1, o2, ho2, hlo2⟩ := HOP.out l0[i] (List.getElem_mem hlt)
          rw [ho2] at p2
          obtain ⟨o0, ho0⟩ : ∃ o0, (op l0[i]).1 = o0 := ⟨_, rfl⟩
          obtain ⟨o1, ho1⟩ : ∃ o1, (op l0[i]).2.1 = o1 := ⟨_, rfl⟩
          rw [ho0] at p0
          rw [ho1] at p1 hw1
          clear ho0 ho1
          have q1 : (i : Int) < (l0.length : Int) := by omega
          have x0 : wr.cell? ⟨xb, 0, none⟩ = some (.slice Ax L.length cx) := (blk_cell HH.out.box 0).trans rfl
          have x1 : wr.cell? ⟨xb, 1, none⟩ = some (.int .i64 sl) := (blk_cell HH.out.box 1).trans rfl
          have DW := Aside0.mk (fun (W : World) (b2 : Below wr.heap.size wr W) => do_calls (HH.out.g.below b2) HH.out.wf (ok := fun k => (kept3 b gb mb k ∧ k ≠ xb) ∧ k < wr.heap.size) (fun k hk => hk.1.1) (HH.out.x.bound.step (fun k hk _ => b2.block k hk.2)) o0 o1 hw1 o2 hlo2)
          have WF2 := Aside0.mk (And.intro (do_wf HH.out.wf o0 o1 o2) ((do_len L o0 o1 o2).trans HLN.out))
          generalize doL L o0 o1 o2 = L2 at DW WF2
          generalize doS L sl o0 o1 o2 = s2 at DW
          clear hw1 hlo2 ho2
          go_upto_region 11 with (fail)
          go_cut [11] (fun v10 wc => ∃ (yb : Nat) (A6 : Option Addr) (c6 : Nat), v10 = .pointer (some ⟨yb, 0, none⟩) ∧ Aside0 (GuardLawP.Met wb wc b gb mb xb L L2 sl s2 Ax cx yb A6 c6))
          case first =>
            have p0a := pw_cell_below (below_alloc (Below.refl wr.heap.size wr) (.cells #[.slice none 0 0, .int .i64 0] 57 (0, 0))) p0
            have p1a := pw_cell_below (below_alloc (Below.refl wr.heap.size wr) (.cells #[.slice none 0 0, .int .i64 0] 57 (0, 0))) p1
            have p2a := pw_cell_below (below_alloc (Below.refl wr.heap.size wr) (.cells #[.slice none 0 0, .int .i64 0] 57 (0, 0))) p2
            have x0a := pw_cell_below (below_alloc (Below.refl wr.heap.size wr) (.cells #[.slice none 0 0, .int .i64 0] 57 (0, 0))) x0
            have x1a := pw_cell_below (below_alloc (Below.refl wr.heap.size wr) (.cells #[.slice none 0 0, .int .i64 0] 57 (0, 0))) x1
            go_region_law (first | (go_simp; go_at_call 29; refine (DW.out wr.drew (below_drew1 (Below.refl _ _))).mono ?_; rintro e w6 ⟨v0, rfl, hG6, hX6, hK6⟩; obtain ⟨A6, c6, rfl, hc6, hF6⟩ := hX6; have MA := Aside0.mk (closeA HH.out NE.out LO.out (below_drew1 (Below.refl _ _)) hG6 ⟨A6, c6, rfl, hc6, hF6⟩ hK6); clear hG6 hc6 hF6 hK6) | (go_simp; go_at_call 29; refine (DW.out _ (below_drew1 (below_alloc (Below.refl _ _) (.cells #[.slice none 0 0, .int .i64 0] 57 (0, 0))))).mono ?_; rintro e w6 ⟨v0, rfl, hG6, hX6, hK6⟩; obtain ⟨A6, c6, rfl, hc6, hF6⟩ := hX6; have Y6 := keep3_blk hK6 (show (wr.alloc (.cells #[.slice none 0 0, .int .i64 0] 57 (0, 0))).drew.heap[wr.heap.size]? = some (.cells #[.slice none 0 0, .int .i64 0] 57 (0, 0)) from heap_alloc_new wr _) (by have := HH.out.g.lt; omega) (by have := HH.out.g.lt; omega) (by have := HH.out.g.lt; omega); have y60 : w6.cell? ⟨wr.heap.size, 0, none⟩ = some (.slice none 0 0) := (blk_cell Y6 0).trans rfl; have y61 : w6.cell? ⟨wr.heap.size, 1, none⟩ = some (.int .i64 0) := (blk_cell Y6 1).trans rfl; have z60 := blk_frozen Y6 0; have z61 := blk_frozen Y6 1; have MB := Aside0.mk (closeB HH.out NE.out LO.out (below_drew1 (below_alloc (Below.refl _ _) (.cells #[.slice none 0 0, .int .i64 0] 57 (0, 0)))) (by simp) (show (wr.alloc (.cells #[.slice none 0 0, .int .i64 0] 57 (0, 0))).drew.heap[wr.heap.size]? = some (.cells #[.slice none 0 0, .int .i64 0] 57 (0, 0)) from heap_alloc_new wr _) hG6 ⟨A6, c6, rfl, hc6, hF6⟩ hK6); clear hG6 hc6 hF6 hK6 Y6))
            all_goals go_wp2
            all_goals go_meet
            all_goals first | exact ⟨_, A6, c6, rfl, MA⟩ | exact ⟨_, A6, c6, rfl, MB⟩
          case rest =>
            obtain ⟨yb, A6, c6, rfl, ML⟩ := hcut
            obtain ⟨⟨y1, b1⟩, g7, v7, e7, ne7⟩ := ML.out
            have y10 : wc.cell? ⟨yb, 0, none⟩ = some (.slice A6 L2.length c6) := (blk_cell y1 0).trans rfl
            have y11 : wc.cell? ⟨yb, 1, none⟩ = some (.int .i64 s2) := (blk_cell y1 1).trans rfl
            have b10 : wc.cell? ⟨xb, 0, none⟩ = some (.slice Ax L.length cx) := (blk_cell b1 0).trans rfl
            have b11 : wc.cell? ⟨xb, 1, none⟩ = some (.int .i64 sl) := (blk_cell b1 1).trans rfl
            have z10 := blk_frozen b1 0
            have z11 := blk_frozen b1 1
            have ne := NE.out
            have H7 := Aside0.mk (show Here wb ((wc.setCell ⟨xb, 0, none⟩ (.slice A6 L2.length c6)).setCell ⟨xb, 1, none⟩ (.int .i64 s2)) b gb mb xb L2 s2 A6 c6 from ⟨g7.move (set2 _ _ _ _ ne.1.symm) (set2 _ _ _ _ ne.2.1.symm) (set2 _ _ _ _ ne.2.2.1.symm), v7.step (fun k hk _ => set2 _ _ _ _ hk.2), blk_set (blk_set b1 0 _) 1 _, (e7.setCell (p := ⟨xb, 0, none⟩) ne.2.2.2 _).setCell (p := ⟨xb, 1, none⟩) ne.2.2.2 _, WF2.out.1⟩)
            clear y1 b1 g7 v7 e7 ne7 ne ML p0 p1 p2 x0 x1 DW
            go_wp2
            go_roundg (l0.length - (i + 1))
            case measure => omega
            case rel => exact ⟨i + 1, L2, s2, A6, c6, by go_num, by omega, ⟨H7.out, WF2.out.2⟩⟩
        · have q1 : ¬ (i : Int) < (l0.length : Int) := by omega
          clear HR HRB HOP HK HLN
          go_wp2_with fail
          refine (gclone_calls HH.out.g HH.out.wf).mono ?_
          rintro e w3 ⟨b2, gb2, mb2, rfl, hG3, hlo3, hb3⟩
          have G3 := Aside0.mk hG3
          have LO3 := Aside0.mk hlo3
          have B3 := Aside0.mk hb3
          have lt := HH.out.g.lt
          have xl := (Array.getElem?_eq_some_iff.1 HH.out.box).1
          have NB := Aside0.mk (show (b < wr.heap.size ∧ gb < wr.heap.size ∧ mb < wr.heap.size) ∧ xb < wr.heap.size from ⟨lt, xl⟩)
          have X3 := Aside0.mk (HH.out.x.bound.step (w' := w3) (fun k hk _ => hb3.block k hk.2))
          have XB3 := Aside0.mk (blk_below HH.out.box hb3)
          have O3 := Aside0.mk (blk_below (blk_below OB0.out HH.out.bel) hb3)
          have E3 := Aside0.mk (below_then HH.out.bel HH.out.bel.size hb3)
          have x30 : w3.cell? ⟨xb, 0, none⟩ = some (.slice Ax L.length cx) := (blk_cell XB3.out 0).trans rfl
          have x31 : w3.cell? ⟨xb, 1, none⟩ = some (.int .i64 sl) := (blk_cell XB3.out 1).trans rfl
          have o30 : w3.cell? ⟨ob, 0, none⟩ = some (.int .i64 p0) := (blk_cell O3.out 0).trans rfl
          have o31 : w3.cell? ⟨ob, 1, none⟩ = some (.int .i64 p1) := (blk_cell O3.out 1).trans rfl
          have o32 : w3.cell? ⟨ob, 2, none⟩ = some (.int .u64 (p2 : Int)) := (blk_cell O3.out 2).trans rfl
          clear hG3 hlo3 hb3 lt xl
          go_wp2_with fail
          refine (same_calls G3.out HH.out.wf (Kd.F_now (X3.out.below (Below.refl _ _))) X3.out.le p1 p2 HP.out.2).mono ?_
          rintro e w4 ⟨rfl, hb4⟩
          have B4 := Aside0.mk hb4
          have XB4 := Aside0.mk (blk_below XB3.out hb4)
          have O4 := Aside0.mk (blk_below O3.out hb4)
          have E4 := Aside0.mk (below_then E3.out E3.out.size hb4)
          have X4 := Aside0.mk (X3.out.step (w' := w4) (fun k _ hlt => hb4.block k hlt))
          have G4 := Aside0.mk (G3.out.below hb4)
          have H4 := Aside0.mk ((HH.out.g.below B3.out).below hb4)
          have x40 : w4.cell? ⟨xb, 0, none⟩ = some (.slice Ax L.length cx) := (blk_cell XB4.out 0).trans rfl
          have x41 : w4.cell? ⟨xb, 1, none⟩ = some (.int .i64 sl) := (blk_cell XB4.out 1).trans rfl
          have o40 : w4.cell? ⟨ob, 0, none⟩ = some (.int .i64 p0) := (blk_cell O4.out 0).trans rfl
          have o41 : w4.cell? ⟨ob, 1, none⟩ = some (.int .i64 p1) := (blk_cell O4.out 1).trans rfl
          have o42 : w4.cell? ⟨ob, 2, none⟩ = some (.int .u64 (p2 : Int)) := (blk_cell O4.out 2).trans rfl
          clear hb4 x30 x31 o30 o31 o32
          have DC := Aside0.mk (do_calls G4.out HH.out.wf (fun k hk => ⟨by have := LO3.out; omega, by have := LO3.out; omega, by have := LO3.out; omega⟩) X4.out p0 p1 HP.out.1 p2 HP.out.2)
          have WF2 := Aside0.mk (do_wf HH.out.wf p0 p1 p2)
          generalize doL L p0 p1 p2 = L2 at DC WF2
          generalize doS L sl p0 p1 p2 = s2 at DC
          go_wp2_with fail
          refine DC.out.mono ?_
          rintro e w5 ⟨v0, rfl, hG5, hX5, hK5⟩
          obtain ⟨A6, c6, rfl, hc6, hF6⟩ := hX5
          have X5 := Aside0.mk (show XV w5 _ (.slice A6 L2.length c6) L2 from ⟨A6, c6, rfl, hc6, hF6⟩)
          have G5 := Aside0.mk hG5
          have K5 := Aside0.mk hK5
          clear hG5 hK5 hc6 hF6 x40 x41 o40 o41 o42 DC
          go_upto_region 17 with (fail)
          have YB := Aside0.mk (heap_alloc_new w5 (.cells #[.slice A6 L2.length c6, .int .i64 s2] 57 (0, 0)))
          have B6 := Aside0.mk (below_alloc (Below.refl w5.heap.size w5) (.cells #[.slice A6 L2.length c6, .int .i64 s2] 57 (0, 0)))
          have lo3 := LO3.out
          have nb := NB.out
          have obl : ob < w3.heap.size := (Array.getElem?_eq_some_iff.1 O3.out).1
          have oblr : ob < wr.heap.size := Nat.lt_of_lt_of_le (Array.getElem?_eq_some_iff.1 OB0.out).1 HH.out.bel.size
          have XB6 := Aside0.mk (blk_below (keep3_blk K5.out XB4.out (by omega) (by omega) (by omega)) B6.out)
          have O6 := Aside0.mk (blk_below (keep3_blk K5.out O4.out (by omega) (by omega) (by omega)) B6.out)
          have lt4 := H4.out.lt
          have H6 := Aside0.mk ((H4.out.move (K5.out.2.2.2.2 b lt4.1 (by omega) (by omega) (by omega)) (K5.out.2.2.2.2 gb lt4.2.1 (by omega) (by omega) (by omega)) (K5.out.2.2.2.2 mb lt4.2.2 (by omega) (by omega) (by omega))).below B6.out)
          have X6 := Aside0.mk ((X4.out.keep (b := b2) (gb := gb2) (mb := mb2) (fun k hk => ⟨by omega, by omega, by omega⟩) K5.out).step (fun k _ hlt => B6.out.block k hlt))
          have Y6 := Aside0.mk (X5.out.step (fun k _ hlt => B6.out.block k hlt))
          have G6 := Aside0.mk (G5.out.below B6.out)
          have E6 := Aside0.mk (show Below wb.heap.size wb _ from below_then (E4.out.trans (K5.out.below (B := wb.heap.size) (by have := HH.out.bel.size; omega) (by have := HH.out.bel.size; omega) (by have := HH.out.bel.size; omega) E4.out.size)) (Nat.le_trans E4.out.size K5.out.2.2.2.1) B6.out)
          clear lo3 nb obl oblr lt4
          generalize w5.heap.size = yb at YB B6 ⊢
          generalize w5.alloc (.cells #[.slice A6 L2.length c6, .int .i64 s2] 57 (0, 0)) = w6 at YB B6 XB6 O6 H6 X6 Y6 G6 E6 ⊢
          have x60 : w6.cell? ⟨xb, 0, none⟩ = some (.slice Ax L.length cx) := (blk_cell XB6.out 0).trans rfl
          have x61 : w6.cell? ⟨xb, 1, none⟩ = some (.int .i64 sl) := (blk_cell XB6.out 1).trans rfl
          have o60 : w6.cell? ⟨ob, 0, none⟩ = some (.int .i64 p0) := (blk_cell O6.out 0).trans rfl
          have o61 : w6.cell? ⟨ob, 1, none⟩ = some (.int .i64 p1) := (blk_cell O6.out 1).trans rfl
          have o62 : w6.cell? ⟨ob, 2, none⟩ = some (.int .u64 (p2 : Int)) := (blk_cell O6.out 2).trans rfl
          go_wp2_with fail
          refine (same_calls H6.out HH.out.wf (Kd.F_now (X6.out.below (Below.refl _ _))) X6.out.le p1 p2 HP.out.2).mono ?_
          rintro e w7 ⟨rfl, hb7⟩
          have Y7 := Aside0.mk (blk_below YB.out hb7)
          have O7 := Aside0.mk (blk_below O6.out hb7)
          have y70 : w7.cell? ⟨yb, 0, none⟩ = some (.slice A6 L2.length c6) := (blk_cell Y7.out 0).trans rfl
          have y71 : w7.cell? ⟨yb, 1, none⟩ = some (.int .i64 s2) := (blk_cell Y7.out 1).trans rfl
          have o71 : w7.cell? ⟨ob, 1, none⟩ = some (.int .i64 p1) := (blk_cell O7.out 1).trans rfl
          have o72 : w7.cell? ⟨ob, 2, none⟩ = some (.int .u64 (p2 : Int)) := (blk_cell O7.out 2).trans rfl
          have G7 := Aside0.mk (G6.out.below hb7)
          have X7 := Aside0.mk (Y6.out.step (w' := w7) (fun k _ hlt => hb7.block k hlt))
          have E7 := Aside0.mk (below_then E6.out E6.out.size hb7)
          clear hb7 x60 x61 o60 o61 o62
          go_wp2_with fail
          refine (same_calls G7.out WF2.out (Kd.F_now (X7.out.below (Below.refl _ _))) X7.out.le p1 p2 HP.out.2).mono ?_
          rintro e w8 ⟨rfl, hb8⟩
          have E8 := Aside0.mk (below_then E7.out E7.out.size hb8)
          clear hb8 y70 y71 o71 o72
          go_wp2_with fail
          refine (lives_calls _).mono ?_
          rintro e w9 ⟨rfl, hb9⟩
          have HB := Aside0.mk (below_then BW.out BW.out.size (below_then E8.out E8.out.size hb9))
          clear hb9
          go_wp2
          go_ret
          exact ⟨rfl, HB.out⟩
include hk in
theorem walk (n p0 p1 p2 : Int) (l0 : List α) (A0 : Option Addr) (c0 : Nat) (w : World) (hp1 : (Lit.int .i64 p1).wf = true) (hp2 : (Lit.int .u64 p2).wf = true) (hop : ∀ a ∈ l0, (Lit.int .i64 (op a).2.1).wf = true ∧ (Lit.int .u64 (op a).2.2).wf = true) (hr0 : Kd.C kk w A0 l0.length l0) (hc0 : l0.length ≤ c0) :
    Calls Try.prog 9 #[.int .i64 n, .slice A0 l0.length c0, .agg #[.int .i64 p0, .int .i64 p1, .int .u64 p2]] w fun e w' => e = .returned (.bool true) ∧ Below w.heap.size w w' := by
  obtain ⟨x, rfl, hx⟩ := wf_u64 hp2
  exact walk_in kk op hk n p0 p1 x l0 A0 c0 w hp1 hx hr0 (fun a ha => by
    obtain ⟨h1, h2⟩ := hop a ha
    obtain ⟨y, hy, hy2⟩ := wf_u64 h2
    exact ⟨h1, y, hy, hy2⟩)
end Go.Proofs.Ytdmpfnnaefccnaa.GuardLawN
