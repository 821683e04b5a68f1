-- Printed by a program of this session (mkprint.py) out of the translation; Lean checks it.
import Derived.Test.YtkkneaefjahihaaZPModelToldx0
import Derived.Test.YtkkneaefjahihaaZPModelToldx8
namespace Go.Proofs.Ytkkneaefjahihaa.PModelTold
open Go.RowKit Go.Proofs.YtkkneaefjahihaaW.PrintWords Go.Proofs.YtkkneaefjahihaaW.PrintLast Go.Proofs.YtkkneaefjahihaaW.PrintMore
attribute [local go_sem] max2_int min2_int max_two min_two max_three min_three max_four min_four   -- for this text's walks alone
set_option linter.unusedVariables false
set_option linter.unusedSimpArgs false

/-! ### deadwoodref10_Bad: function 28 -/
mutual
def deadwoodref10_Bad.j0 : Nat → Int → Bool → List (S49) → List (S61) → Int → Int → Int → Int → Int → Option (Bool)
  | 0, _, _, _, _, _, _, _, _, _ => none
  | k + 1, x1, x21, x389000, x389001, x390000, x390001, x390002, x390003, x390004 => if x21 = true then (some true) else (if 0 ≤ x1 then (if x1 < (x389001.length : Int) then (if x390000 = 13 then (some ((rd_T61 x389001 x1).f0)) else (if x390000 = 14 then (deadwoodref10_Bad.j1 k true x390000 x390001 x390002 x390003 x390004 ((rd_T61 x389001 x1).f0) ((rd_T61 x389001 x1).f1) ((rd_T61 x389001 x1).f2) ((rd_T61 x389001 x1).f3)) else (deadwoodref10_Bad.j1 k (x390000 == 9) x390000 x390001 x390002 x390003 x390004 ((rd_T61 x389001 x1).f0) ((rd_T61 x389001 x1).f1) ((rd_T61 x389001 x1).f2) ((rd_T61 x389001 x1).f3)))) else (none)) else (none))
def deadwoodref10_Bad.j1 : Nat → Bool → Int → Int → Int → Int → Int → Bool → Bool → List (S49) → Int → Option (Bool)
  | 0, _, _, _, _, _, _, _, _, _, _ => none
  | k + 1, x39, x390000, x390001, x390002, x390003, x390004, x393000, x393001, x393002, x393003 => if x39 = true then (if x393000 = true then (some x393001) else (some true)) else (if x390000 > 9 then (if x393000 = true then (some (!x393001)) else (some true)) else (some (!x393000)))
end
def deadwoodref10_Bad.f (k : Nat) (l0_0 : List (S49)) (l0_1 : List (S61)) (a1 : Int) (a2_0 : Int) (a2_1 : Int) (a2_2 : Int) (a2_3 : Int) (a2_4 : Int) : Option (Bool) := if a1 < 0 then (deadwoodref10_Bad.j0 k a1 true l0_0 l0_1 a2_0 a2_1 a2_2 a2_3 a2_4) else (if a1 ≥ (l0_1.length : Int) then (deadwoodref10_Bad.j0 k a1 true l0_0 l0_1 a2_0 a2_1 a2_2 a2_3 a2_4) else ((deadwoodref09_May.f k a2_0 a2_1 a2_2 a2_3 a2_4).bind fun t390 => (deadwoodref10_Bad.j0 k a1 (!t390) l0_0 l0_1 a2_0 a2_1 a2_2 a2_3 a2_4)))
theorem deadwoodref10_Bad.mono_l : ∀ k, (∀ y0 y1 y2 y3 y4 y5 y6 y7 y8, LeO (deadwoodref10_Bad.j0 k y0 y1 y2 y3 y4 y5 y6 y7 y8) (deadwoodref10_Bad.j0 (k + 1) y0 y1 y2 y3 y4 y5 y6 y7 y8)) ∧ (∀ y0 y1 y2 y3 y4 y5 y6 y7 y8 y9, LeO (deadwoodref10_Bad.j1 k y0 y1 y2 y3 y4 y5 y6 y7 y8 y9) (deadwoodref10_Bad.j1 (k + 1) y0 y1 y2 y3 y4 y5 y6 y7 y8 y9))
  | 0 => ⟨fun _ _ _ _ _ _ _ _ _ r h => by simp [deadwoodref10_Bad.j0] at h, fun _ _ _ _ _ _ _ _ _ _ r h => by simp [deadwoodref10_Bad.j1] at h⟩
  | k + 1 => by
    obtain ⟨ih0, ih1⟩ := deadwoodref10_Bad.mono_l k
    refine ⟨?_, ?_⟩
    · intro y0 y1 y2 y3 y4 y5 y6 y7 y8
      unfold deadwoodref10_Bad.j0
      repeat' first
      | (with_reducible exact ih0 _ _ _ _ _ _ _ _ _)
      | (with_reducible exact ih1 _ _ _ _ _ _ _ _ _ _)
      | (with_reducible exact deadwoodref09_May.mono _ _ _ _ _ _)
      | (with_reducible exact LeO.refl _)
      | (with_reducible exact LeO.none _)
      | (with_reducible refine LeO.ite ?_ ?_)
      | (with_reducible refine LeO.bind ?_ (fun _ => ?_))
      | exact ih0 _ _ _ _ _ _ _ _ _
      | exact ih1 _ _ _ _ _ _ _ _ _ _
      | exact deadwoodref09_May.mono _ _ _ _ _ _
      | exact LeO.none _
      | refine LeO.ite ?_ ?_
      | refine LeO.bind ?_ (fun _ => ?_)
    · intro y0 y1 y2 y3 y4 y5 y6 y7 y8 y9
      unfold deadwoodref10_Bad.j1
      repeat' first
      | (with_reducible exact ih0 _ _ _ _ _ _ _ _ _)
      | (with_reducible exact ih1 _ _ _ _ _ _ _ _ _ _)
      | (with_reducible exact deadwoodref09_May.mono _ _ _ _ _ _)
      | (with_reducible exact LeO.refl _)
      | (with_reducible exact LeO.none _)
      | (with_reducible refine LeO.ite ?_ ?_)
      | (with_reducible refine LeO.bind ?_ (fun _ => ?_))
      | exact ih0 _ _ _ _ _ _ _ _ _
      | exact ih1 _ _ _ _ _ _ _ _ _ _
      | exact deadwoodref09_May.mono _ _ _ _ _ _
      | exact LeO.none _
      | refine LeO.ite ?_ ?_
      | refine LeO.bind ?_ (fun _ => ?_)
theorem deadwoodref10_Bad.mono : ∀ a0 a1 a2 a3 a4 a5 a6 a7 k, LeO (deadwoodref10_Bad.f k a0 a1 a2 a3 a4 a5 a6 a7) (deadwoodref10_Bad.f (k + 1) a0 a1 a2 a3 a4 a5 a6 a7) := by
  intro a0 a1 a2 a3 a4 a5 a6 a7 k
  obtain ⟨ih0, ih1⟩ := deadwoodref10_Bad.mono_l k
  unfold deadwoodref10_Bad.f
  repeat' first
      | (with_reducible exact ih0 _ _ _ _ _ _ _ _ _)
      | (with_reducible exact ih1 _ _ _ _ _ _ _ _ _ _)
      | (with_reducible exact deadwoodref09_May.mono _ _ _ _ _ _)
      | (with_reducible exact LeO.refl _)
      | (with_reducible exact LeO.none _)
      | (with_reducible refine LeO.ite ?_ ?_)
      | (with_reducible refine LeO.bind ?_ (fun _ => ?_))
      | exact ih0 _ _ _ _ _ _ _ _ _
      | exact ih1 _ _ _ _ _ _ _ _ _ _
      | exact deadwoodref09_May.mono _ _ _ _ _ _
      | exact LeO.none _
      | refine LeO.ite ?_ ?_
      | refine LeO.bind ?_ (fun _ => ?_)
set_option maxHeartbeats 8000000 in
set_option maxRecDepth 100000 in
theorem deadwoodref10_Bad.calls (k : Nat) (A0_0 : Option Addr) (c0_0 : Nat) (l0_0 : List (S49)) (A0_1 : Option Addr) (c0_1 : Nat) (l0_1 : List (S61)) (a1 : Int) (a2_0 : Int) (a2_1 : Int) (a2_2 : Int) (a2_3 : Int) (a2_4 : Int) (r : Bool) (w : World) (hr0_0 : Kd.C k49 w A0_0 l0_0.length l0_0) (hc0_0 : l0_0.length ≤ c0_0) (hr0_1 : Kd.C k61 w A0_1 l0_1.length l0_1) (hc0_1 : l0_1.length ≤ c0_1) (h : deadwoodref10_Bad.f k l0_0 l0_1 a1 a2_0 a2_1 a2_2 a2_3 a2_4 = some r) :
    Calls Try.prog 28 #[.agg #[.slice A0_0 l0_0.length c0_0, .slice A0_1 l0_1.length c0_1], .int .i64 a1, .agg #[.int .i64 a2_0, .int .i64 a2_1, .int .i64 a2_2, .int .i64 a2_3, .int .i64 a2_4]] w fun e w' => e = .returned (.bool r) ∧ Below w.heap.size w w' := by
  have hu31 := Try.underlying31
  have hu38 := Try.underlying38
  have hu61 := Try.underlying61
  have HR0_0 := Aside0.mk hr0_0
  have HC0_0 := Aside0.mk hc0_0
  clear hr0_0 hc0_0
  have HR0_1 := Aside0.mk hr0_1
  have HC0_1 := Aside0.mk hc0_1
  clear hr0_1 hc0_1
  have HB := Aside0.mk (Below.refl w.heap.size w)
  have H : (if a1 < 0 then (deadwoodref10_Bad.j0 k a1 true l0_0 l0_1 a2_0 a2_1 a2_2 a2_3 a2_4) else (if a1 ≥ (l0_1.length : Int) then (deadwoodref10_Bad.j0 k a1 true l0_0 l0_1 a2_0 a2_1 a2_2 a2_3 a2_4) else ((deadwoodref09_May.f k a2_0 a2_1 a2_2 a2_3 a2_4).bind fun t390 => (deadwoodref10_Bad.j0 k a1 (!t390) l0_0 l0_1 a2_0 a2_1 a2_2 a2_3 a2_4)))) = some r := h
  clear h
  have HC4 := Aside0.mk H
  clear H
  go_enter Try.func28, Try.ntmps28
  go_upto_region 1 with (first | ((with_reducible refine gate_dst (N := 3) rfl ?_); (try (refine gate_guard (by rfl) ?_; dsimp only)); refine box_event ?hg (N := 3) ?hd (cs := #[.slice A0_0 l0_0.length c0_0, .slice A0_1 l0_1.length c0_1]) (t := 31) ?hr ?_; (case hd => rfl); (case hg => rfl); (case hr => first | (go_simp; done) | (go_simp; rfl)); intro gb388 hg w5 hbox hb; have n0_ := Aside0.mk (below_step (by repeat (first | (with_reducible first | exact HB.out | apply below_alloc | apply pw_below_drewN | apply below_drew1) | exact HB.out)) hb); have n1_ := Aside0.mk (hbox); have n2_ := Aside0.mk ((by rw [hg]; exact (below_size (by repeat (first | (with_reducible first | exact HB.out | apply below_alloc | apply pw_below_drewN | apply below_drew1) | exact HB.out))) : w.heap.size ≤ gb388)); have n3_ := Aside0.mk ((by rw [hg]; exact (below_size (by repeat (first | (with_reducible first | exact HB.out | apply below_alloc | apply pw_below_drewN | apply below_drew1) | exact HB.out))) : w.heap.size ≤ gb388)); clear HB; have HB := n0_; have BK388 := n1_; have GW388 := n2_; have GE388 := n3_; clear n0_ n1_ n2_ n3_; clear hb hbox hg) | ((with_reducible refine gate_dst (N := 5) rfl ?_); (try (refine gate_guard (by rfl) ?_; dsimp only)); refine box_event ?hg (N := 5) ?hd (cs := #[.int .i64 a2_0, .int .i64 a2_1, .int .i64 a2_2, .int .i64 a2_3, .int .i64 a2_4]) (t := 38) ?hr ?_; (case hd => rfl); (case hg => rfl); (case hr => first | (go_simp; done) | (go_simp; rfl)); intro gb389 hg w6 hbox hb; have n0_ := Aside0.mk (blk_below (g := gb388) (o := .cells #[.slice A0_0 l0_0.length c0_0, .slice A0_1 l0_1.length c0_1] 31 (0, 0)) (by (with_reducible repeat (first | refine blk_drewN ?_ _ | refine blk_drew ?_ | refine blk_alloc ?_ _)); exact BK388.out) hb); have n1_ := Aside0.mk (below_step (by repeat (first | (with_reducible first | exact HB.out | apply below_alloc | apply pw_below_drewN | apply below_drew1 | refine below_set ?_ GE388.out) | exact HB.out)) hb); have n2_ := Aside0.mk (hbox); have n3_ := Aside0.mk ((by rw [hg]; exact (below_size (by repeat (first | (with_reducible first | exact HB.out | apply below_alloc | apply pw_below_drewN | apply below_drew1 | refine below_set ?_ GE388.out) | exact HB.out))) : w.heap.size ≤ gb389)); have n4_ := Aside0.mk ((by rw [hg]; exact (below_size (by repeat (first | (with_reducible first | exact HB.out | apply below_alloc | apply pw_below_drewN | apply below_drew1 | refine below_set ?_ GE388.out) | exact HB.out))) : w.heap.size ≤ gb389)); have n5_ := Aside0.mk ((by rw [hg]; exact Nat.ne_of_lt (blk_lt (g := gb388) (o := .cells #[.slice A0_0 l0_0.length c0_0, .slice A0_1 l0_1.length c0_1] 31 (0, 0)) (by (with_reducible repeat (first | refine blk_drewN ?_ _ | refine blk_drew ?_ | refine blk_alloc ?_ _)); exact BK388.out)) : gb388 ≠ gb389)); have n6_ := Aside0.mk ((by rw [hg]; exact Nat.ne_of_gt (blk_lt (g := gb388) (o := .cells #[.slice A0_0 l0_0.length c0_0, .slice A0_1 l0_1.length c0_1] 31 (0, 0)) (by (with_reducible repeat (first | refine blk_drewN ?_ _ | refine blk_drew ?_ | refine blk_alloc ?_ _)); exact BK388.out)) : gb389 ≠ gb388)); clear BK388; clear HB; have BK388 := n0_; have HB := n1_; have BK389 := n2_; have GW389 := n3_; have GE389 := n4_; have NB388_389 := n5_; have NB389_388 := n6_; clear n0_ n1_ n2_ n3_ n4_ n5_ n6_; clear hb hbox hg))
  (try simp only [Act.put, List.setIfInBounds_toArray, List.set_cons_zero, List.set_cons_succ])
  go_cut [21] (fun v21 wc => ∃ (kq : Nat) (x21_3 : Bool), v21 = .bool x21_3 ∧ Aside0 (deadwoodref10_Bad.j0 kq a1 x21_3 l0_0 l0_1 a2_0 a2_1 a2_2 a2_3 a2_4 = some r) ∧ Aside0 (kq ≤ k) ∧ Aside0 (wc.heap[gb388]? = some (.cells #[(.slice A0_0 l0_0.length c0_0), (.slice A0_1 l0_1.length c0_1)] 31 (0, 0))) ∧ Aside0 (wc.heap[gb389]? = some (.cells #[.int .i64 a2_0, .int .i64 a2_1, .int .i64 a2_2, .int .i64 a2_3, .int .i64 a2_4] 38 (0, 0))) ∧ Aside0 (Below w.heap.size w wc))
  case first =>
    have H := HC4.out
    clear HC4
    by_cases c7 : a1 < 0
    · rw [if_pos c7] at H
      have c7b0 : decide (a1 < 0) = true := decide_eq_true c7
      clear c7
      (first | rw [c7b0] | (simp only [i64_w, i32_w]; rw [c7b0]) | skip)
      have H' := Aside0.mk H
      clear H
      go_wp2
      go_meet
      case rel => exact ⟨_, (true), (by first | rfl | (simp; done) | (simp [*]; done)), H', ⟨by first | omega | exact Nat.le_refl _⟩, ⟨by (with_reducible repeat (first | refine blk_drewN ?_ _ | refine blk_drew ?_ | refine blk_alloc ?_ _)); exact BK388.out⟩, ⟨by (with_reducible repeat (first | refine blk_drewN ?_ _ | refine blk_drew ?_ | refine blk_alloc ?_ _)); exact BK389.out⟩, ⟨by repeat (first | (with_reducible first | exact HB.out | apply below_alloc | apply pw_below_drewN | apply below_drew1 | refine below_set ?_ GE388.out | refine below_set ?_ GE389.out) | exact HB.out)⟩⟩
    · rw [if_neg c7] at H
      have c7b0 : decide (a1 < 0) = false := decide_eq_false c7
      clear c7
      (first | rw [c7b0] | (simp only [i64_w, i32_w]; rw [c7b0]) | skip)
      by_cases c8 : a1 ≥ (l0_1.length : Int)
      · rw [if_pos c8] at H
        have c8b0 : decide ((l0_1.length : Int) ≤ a1) = true := decide_eq_true c8
        clear c8
        have H' := Aside0.mk H
        clear H
        have hnb9 := NB388_389.out
        have hnc9 := NB389_388.out
        have hcz10_0 : w6.cell? ⟨gb388, 0, none⟩ = some (.slice A0_0 l0_0.length c0_0) := (blk_cell BK388.out 0).trans rfl
        have hcz10_1 : w6.cell? ⟨gb388, 1, none⟩ = some (.slice A0_1 l0_1.length c0_1) := (blk_cell BK388.out 1).trans rfl
        have hfz10_0 := blk_frozen BK388.out 0
        have hfz10_1 := blk_frozen BK388.out 1
        go_wp2
        go_meet
        case rel => exact ⟨_, (true), (by first | rfl | (simp; done) | (simp [*]; done)), H', ⟨by first | omega | exact Nat.le_refl _⟩, ⟨by (with_reducible repeat (first | refine blk_drewN ?_ _ | refine blk_drew ?_ | refine blk_alloc ?_ _)); exact BK388.out⟩, ⟨by (with_reducible repeat (first | refine blk_drewN ?_ _ | refine blk_drew ?_ | refine blk_alloc ?_ _)); exact BK389.out⟩, ⟨by repeat (first | (with_reducible first | exact HB.out | apply below_alloc | apply pw_below_drewN | apply below_drew1 | refine below_set ?_ GE388.out | refine below_set ?_ GE389.out) | exact HB.out)⟩⟩
      · rw [if_neg c8] at H
        have c8b0 : decide ((l0_1.length : Int) ≤ a1) = false := decide_eq_false c8
        clear c8
        replace H := Option.bind_eq_some_iff.mp H
        obtain ⟨t390, A110, H⟩ := H
        replace H : (deadwoodref10_Bad.j0 k a1 (!t390) l0_0 l0_1 a2_0 a2_1 a2_2 a2_3 a2_4) = some r := H
        have A11 := Aside0.mk A110
        clear A110
        have H' := Aside0.mk H
        clear H
        have hnb12 := NB388_389.out
        have hnc12 := NB389_388.out
        have hcz13_0 : w6.cell? ⟨gb388, 0, none⟩ = some (.slice A0_0 l0_0.length c0_0) := (blk_cell BK388.out 0).trans rfl
        have hcz13_1 : w6.cell? ⟨gb388, 1, none⟩ = some (.slice A0_1 l0_1.length c0_1) := (blk_cell BK388.out 1).trans rfl
        have hfz13_0 := blk_frozen BK388.out 0
        have hfz13_1 := blk_frozen BK388.out 1
        have hcz14_0 : w6.cell? ⟨gb389, 0, none⟩ = some (.int .i64 a2_0) := (blk_cell BK389.out 0).trans rfl
        have hcz14_1 : w6.cell? ⟨gb389, 1, none⟩ = some (.int .i64 a2_1) := (blk_cell BK389.out 1).trans rfl
        have hcz14_2 : w6.cell? ⟨gb389, 2, none⟩ = some (.int .i64 a2_2) := (blk_cell BK389.out 2).trans rfl
        have hcz14_3 : w6.cell? ⟨gb389, 3, none⟩ = some (.int .i64 a2_3) := (blk_cell BK389.out 3).trans rfl
        have hcz14_4 : w6.cell? ⟨gb389, 4, none⟩ = some (.int .i64 a2_4) := (blk_cell BK389.out 4).trans rfl
        have hfz14_0 := blk_frozen BK389.out 0
        have hfz14_1 := blk_frozen BK389.out 1
        have hfz14_2 := blk_frozen BK389.out 2
        have hfz14_3 := blk_frozen BK389.out 3
        have hfz14_4 := blk_frozen BK389.out 4
        go_wp2_with (first | (go_at_call 48; (with_reducible refine (deadwoodref09_May.calls k a2_0 a2_1 a2_2 a2_3 a2_4 t390 _ A11.out).mono ?_); rintro e w15 ⟨rfl, hb⟩; have n0_ := Aside0.mk (blk_below (g := gb388) (o := .cells #[.slice A0_0 l0_0.length c0_0, .slice A0_1 l0_1.length c0_1] 31 (0, 0)) (by (with_reducible repeat (first | refine blk_drewN ?_ _ | refine blk_drew ?_ | refine blk_alloc ?_ _)); exact BK388.out) hb); have n1_ := Aside0.mk (blk_below (g := gb389) (o := .cells #[.int .i64 a2_0, .int .i64 a2_1, .int .i64 a2_2, .int .i64 a2_3, .int .i64 a2_4] 38 (0, 0)) (by (with_reducible repeat (first | refine blk_drewN ?_ _ | refine blk_drew ?_ | refine blk_alloc ?_ _)); exact BK389.out) hb); have n2_ := Aside0.mk (below_step (by repeat (first | (with_reducible first | exact HB.out | apply below_alloc | apply pw_below_drewN | apply below_drew1 | refine below_set ?_ GE388.out | refine below_set ?_ GE389.out) | exact HB.out)) hb); clear BK388; clear BK389; clear HB; have BK388 := n0_; have BK389 := n1_; have HB := n2_; clear n0_ n1_ n2_; (try clear hb); (try clear hb2); (try clear hk); (try clear hi)))
        go_meet
        case rel => exact ⟨_, (!t390), (by first | rfl | (simp; done) | (simp [*]; done)), H', ⟨by first | omega | exact Nat.le_refl _⟩, ⟨by (with_reducible repeat (first | refine blk_drewN ?_ _ | refine blk_drew ?_ | refine blk_alloc ?_ _)); exact BK388.out⟩, ⟨by (with_reducible repeat (first | refine blk_drewN ?_ _ | refine blk_drew ?_ | refine blk_alloc ?_ _)); exact BK389.out⟩, ⟨by repeat (first | (with_reducible first | exact HB.out | apply below_alloc | apply pw_below_drewN | apply below_drew1 | refine below_set ?_ GE388.out | refine below_set ?_ GE389.out) | exact HB.out)⟩⟩
  case rest =>
    clear HC4
    try clear c1
    try clear c2
    try clear p2
    try clear c7
    try clear c7b0
    try clear c8
    try clear c8b0
    try clear c9
    try clear c12
    try clear hcz10_0
    try clear hcz10_1
    try clear hcz13_0
    try clear hcz13_1
    try clear hcz14_0
    try clear hcz14_1
    try clear hcz14_2
    try clear hcz14_3
    try clear hcz14_4
    try clear hfz10_0
    try clear hfz10_1
    try clear hfz13_0
    try clear hfz13_1
    try clear hfz14_0
    try clear hfz14_1
    try clear hfz14_2
    try clear hfz14_3
    try clear hfz14_4
    obtain ⟨kq, x21_3, rfl, HA, HJ3, BK388, BK389, HB⟩ := hcut
    cases kq with
    | zero => exact absurd HA.out (by simp [deadwoodref10_Bad.j0])
    | succ kj3 =>
      have H := HA.out
      clear HA
      simp only [deadwoodref10_Bad.j0] at H
      by_cases c16 : x21_3 = true
      · subst c16
        have H1 : (some true) = some r := by rw [if_pos rfl] at H; exact H
        clear H
        have H := H1
        clear H1
        obtain rfl := Option.some.inj H
        go_wp2
        go_ret
        exact ⟨by first | rfl | (simp [errW_none, errW_some] <;> rfl) | (simp [*, errW_none, errW_some] <;> rfl), by repeat (first | (with_reducible first | exact HB.out | apply below_alloc | apply pw_below_drewN | apply below_drew1 | refine below_set ?_ GE388.out | refine below_set ?_ GE389.out) | exact HB.out)⟩
      · replace c16 := Bool.eq_false_iff.mpr c16
        subst c16
        have H1 : (if 0 ≤ a1 then (if a1 < (l0_1.length : Int) then (if a2_0 = 13 then (some ((rd_T61 l0_1 a1).f0)) else (if a2_0 = 14 then (deadwoodref10_Bad.j1 kj3 true a2_0 a2_1 a2_2 a2_3 a2_4 ((rd_T61 l0_1 a1).f0) ((rd_T61 l0_1 a1).f1) ((rd_T61 l0_1 a1).f2) ((rd_T61 l0_1 a1).f3)) else (deadwoodref10_Bad.j1 kj3 (a2_0 == 9) a2_0 a2_1 a2_2 a2_3 a2_4 ((rd_T61 l0_1 a1).f0) ((rd_T61 l0_1 a1).f1) ((rd_T61 l0_1 a1).f2) ((rd_T61 l0_1 a1).f3)))) else (none)) else (none)) = some r := by rw [if_neg (show ¬ (false = true) by decide)] at H; exact H
        clear H
        have H := H1
        clear H1
        by_cases c17 : 0 ≤ a1
        · rw [if_pos c17] at H
          have c17b0 : decide (0 ≤ a1) = true := decide_eq_true c17
          clear c17
          by_cases c18 : a1 < (l0_1.length : Int)
          · rw [if_pos c18] at H
            have c18b0 : decide (a1 < (l0_1.length : Int)) = true := decide_eq_true c18
            clear c18
            by_cases c19 : a2_0 = 13
            · rw [if_pos c19] at H
              have c19b0 : (a2_0 == 13) = true := beq_iff_eq.mpr c19
              have c19b1 : (a2_0 != 13) = false := bne_eq_false_iff_eq.mpr c19
              clear c19
              obtain rfl := Option.some.inj H
              have hnb20 := NB388_389.out
              have hnc20 := NB389_388.out
              have hcz21_0 : wc.cell? ⟨gb388, 0, none⟩ = some (.slice A0_0 l0_0.length c0_0) := (blk_cell BK388.out 0).trans rfl
              have hcz21_1 : wc.cell? ⟨gb388, 1, none⟩ = some (.slice A0_1 l0_1.length c0_1) := (blk_cell BK388.out 1).trans rfl
              have hfz21_0 := blk_frozen BK388.out 0
              have hfz21_1 := blk_frozen BK388.out 1
              have p391 : 0 ≤ (a1 : Int) := of_decide_eq_true (by first | (with_reducible assumption) | assumption)
              have q391 : a1 < (l0_1.length : Int) := of_decide_eq_true (by first | (with_reducible assumption) | assumption)
              obtain ⟨ad391, A391_2, c391_2, e391, hx391_0, hx391_1, hx391_2, hx391_3, hl391_2, hi391_2⟩ := at_T61 HR0_1.out a1 p391 q391
              cases e391
              replace hx391_0 := (HB.out.cell (World.block_lt_of_cell? w _ hx391_0)).trans hx391_0
              replace hx391_1 := (HB.out.cell (World.block_lt_of_cell? w _ hx391_1)).trans hx391_1
              replace hx391_2 := (HB.out.cell (World.block_lt_of_cell? w _ hx391_2)).trans hx391_2
              replace hx391_3 := (HB.out.cell (World.block_lt_of_cell? w _ hx391_3)).trans hx391_3
              have HR391_2 := Aside0.mk hi391_2
              have HC391_2 := Aside0.mk hl391_2
              clear hi391_2 hl391_2
              replace p391 := eq_true p391
              replace q391 := eq_true q391
              go_wp2_with (first | ((with_reducible refine gate_dst (N := 7) rfl ?_); (try (refine gate_guard (by rfl) ?_; dsimp only)); refine box_event ?hg (N := 7) ?hd (cs := #[.bool false, .bool false, .slice none 0 0, .int .i64 0]) (t := 61) ?hr ?_; (case hd => rfl); (case hg => rfl); (case hr => first | (go_simp; done) | (go_simp; rfl)); intro gb392 hg w22 hbox hb; have n0_ := Aside0.mk (blk_below (g := gb388) (o := .cells #[.slice A0_0 l0_0.length c0_0, .slice (some ad391) l0_1.length c0_1] 31 (0, 0)) (by (with_reducible repeat (first | refine blk_drewN ?_ _ | refine blk_drew ?_ | refine blk_alloc ?_ _)); exact BK388.out) hb); have n1_ := Aside0.mk (blk_below (g := gb389) (o := .cells #[.int .i64 a2_0, .int .i64 a2_1, .int .i64 a2_2, .int .i64 a2_3, .int .i64 a2_4] 38 (0, 0)) (by (with_reducible repeat (first | refine blk_drewN ?_ _ | refine blk_drew ?_ | refine blk_alloc ?_ _)); exact BK389.out) hb); have n2_ := Aside0.mk (below_step (by repeat (first | (with_reducible first | exact HB.out | apply below_alloc | apply pw_below_drewN | apply below_drew1 | refine below_set ?_ GE388.out | refine below_set ?_ GE389.out) | exact HB.out)) hb); have n3_ := Aside0.mk (hbox); have n4_ := Aside0.mk ((by rw [hg]; exact (below_size (by repeat (first | (with_reducible first | exact HB.out | apply below_alloc | apply pw_below_drewN | apply below_drew1 | refine below_set ?_ GE388.out | refine below_set ?_ GE389.out) | exact HB.out))) : w.heap.size ≤ gb392)); have n5_ := Aside0.mk ((by rw [hg]; exact (below_size (by repeat (first | (with_reducible first | exact HB.out | apply below_alloc | apply pw_below_drewN | apply below_drew1 | refine below_set ?_ GE388.out | refine below_set ?_ GE389.out) | exact HB.out))) : w.heap.size ≤ gb392)); have n6_ := Aside0.mk ((by rw [hg]; exact Nat.ne_of_lt (blk_lt (g := gb388) (o := .cells #[.slice A0_0 l0_0.length c0_0, .slice (some ad391) l0_1.length c0_1] 31 (0, 0)) (by (with_reducible repeat (first | refine blk_drewN ?_ _ | refine blk_drew ?_ | refine blk_alloc ?_ _)); exact BK388.out)) : gb388 ≠ gb392)); have n7_ := Aside0.mk ((by rw [hg]; exact Nat.ne_of_gt (blk_lt (g := gb388) (o := .cells #[.slice A0_0 l0_0.length c0_0, .slice (some ad391) l0_1.length c0_1] 31 (0, 0)) (by (with_reducible repeat (first | refine blk_drewN ?_ _ | refine blk_drew ?_ | refine blk_alloc ?_ _)); exact BK388.out)) : gb392 ≠ gb388)); have n8_ := Aside0.mk ((by rw [hg]; exact Nat.ne_of_lt (blk_lt (g := gb389) (o := .cells #[.int .i64 a2_0, .int .i64 a2_1, .int .i64 a2_2, .int .i64 a2_3, .int .i64 a2_4] 38 (0, 0)) (by (with_reducible repeat (first | refine blk_drewN ?_ _ | refine blk_drew ?_ | refine blk_alloc ?_ _)); exact BK389.out)) : gb389 ≠ gb392)); have n9_ := Aside0.mk ((by rw [hg]; exact Nat.ne_of_gt (blk_lt (g := gb389) (o := .cells #[.int .i64 a2_0, .int .i64 a2_1, .int .i64 a2_2, .int .i64 a2_3, .int .i64 a2_4] 38 (0, 0)) (by (with_reducible repeat (first | refine blk_drewN ?_ _ | refine blk_drew ?_ | refine blk_alloc ?_ _)); exact BK389.out)) : gb392 ≠ gb389)); clear BK388; clear BK389; clear HB; have BK388 := n0_; have BK389 := n1_; have HB := n2_; have BK392 := n3_; have GW392 := n4_; have GE392 := n5_; have NB388_392 := n6_; have NB392_388 := n7_; have NB389_392 := n8_; have NB392_389 := n9_; clear n0_ n1_ n2_ n3_ n4_ n5_ n6_ n7_ n8_ n9_; clear hb hbox hg; have hnb23 := NB392_388.out; have hnc23 := NB388_392.out; have hnb24 := NB392_389.out; have hnc24 := NB389_392.out; have hcz25_0 : w22.cell? ⟨gb392, 0, none⟩ = some (.bool false) := (blk_cell BK392.out 0).trans rfl; have hcz25_1 : w22.cell? ⟨gb392, 1, none⟩ = some (.bool false) := (blk_cell BK392.out 1).trans rfl; have hcz25_2 : w22.cell? ⟨gb392, 2, none⟩ = some (.slice none 0 0) := (blk_cell BK392.out 2).trans rfl; have hcz25_3 : w22.cell? ⟨gb392, 3, none⟩ = some (.int .i64 0) := (blk_cell BK392.out 3).trans rfl; have hfz25_0 := blk_frozen BK392.out 0; have hfz25_1 := blk_frozen BK392.out 1; have hfz25_2 := blk_frozen BK392.out 2; have hfz25_3 := blk_frozen BK392.out 3; have hcz26_0 : w22.cell? ⟨gb389, 0, none⟩ = some (.int .i64 a2_0) := (blk_cell BK389.out 0).trans rfl; have hcz26_1 : w22.cell? ⟨gb389, 1, none⟩ = some (.int .i64 a2_1) := (blk_cell BK389.out 1).trans rfl; have hcz26_2 : w22.cell? ⟨gb389, 2, none⟩ = some (.int .i64 a2_2) := (blk_cell BK389.out 2).trans rfl; have hcz26_3 : w22.cell? ⟨gb389, 3, none⟩ = some (.int .i64 a2_3) := (blk_cell BK389.out 3).trans rfl; have hcz26_4 : w22.cell? ⟨gb389, 4, none⟩ = some (.int .i64 a2_4) := (blk_cell BK389.out 4).trans rfl; have hfz26_0 := blk_frozen BK389.out 0; have hfz26_1 := blk_frozen BK389.out 1; have hfz26_2 := blk_frozen BK389.out 2; have hfz26_3 := blk_frozen BK389.out 3; have hfz26_4 := blk_frozen BK389.out 4))
              go_ret
              exact ⟨by first | rfl | (simp [errW_none, errW_some] <;> rfl) | (simp [*, errW_none, errW_some] <;> rfl), by repeat (first | (with_reducible first | exact HB.out | apply below_alloc | apply pw_below_drewN | apply below_drew1 | refine below_set ?_ GE388.out | refine below_set ?_ GE389.out | refine below_set ?_ GE392.out) | exact HB.out)⟩
            · rw [if_neg c19] at H
              have c19b0 : (a2_0 == 13) = false := beq_eq_false_iff_ne.mpr c19
              have c19b1 : (a2_0 != 13) = true := bne_iff_ne.mpr c19
              have HC27 := Aside0.mk H
              clear H
              have hnb28 := NB388_389.out
              have hnc28 := NB389_388.out
              have hcz29_0 : wc.cell? ⟨gb388, 0, none⟩ = some (.slice A0_0 l0_0.length c0_0) := (blk_cell BK388.out 0).trans rfl
              have hcz29_1 : wc.cell? ⟨gb388, 1, none⟩ = some (.slice A0_1 l0_1.length c0_1) := (blk_cell BK388.out 1).trans rfl
              have hfz29_0 := blk_frozen BK388.out 0
              have hfz29_1 := blk_frozen BK388.out 1
              have p391 : 0 ≤ (a1 : Int) := of_decide_eq_true (by first | (with_reducible assumption) | assumption)
              have q391 : a1 < (l0_1.length : Int) := of_decide_eq_true (by first | (with_reducible assumption) | assumption)
              obtain ⟨ad391, A391_2, c391_2, e391, hx391_0, hx391_1, hx391_2, hx391_3, hl391_2, hi391_2⟩ := at_T61 HR0_1.out a1 p391 q391
              cases e391
              replace hx391_0 := (HB.out.cell (World.block_lt_of_cell? w _ hx391_0)).trans hx391_0
              replace hx391_1 := (HB.out.cell (World.block_lt_of_cell? w _ hx391_1)).trans hx391_1
              replace hx391_2 := (HB.out.cell (World.block_lt_of_cell? w _ hx391_2)).trans hx391_2
              replace hx391_3 := (HB.out.cell (World.block_lt_of_cell? w _ hx391_3)).trans hx391_3
              have HR391_2 := Aside0.mk hi391_2
              have HC391_2 := Aside0.mk hl391_2
              clear hi391_2 hl391_2
              replace p391 := eq_true p391
              replace q391 := eq_true q391
              go_upto_region 6 with (first | ((with_reducible refine gate_dst (N := 7) rfl ?_); (try (refine gate_guard (by rfl) ?_; dsimp only)); refine box_event ?hg (N := 7) ?hd (cs := #[.bool false, .bool false, .slice none 0 0, .int .i64 0]) (t := 61) ?hr ?_; (case hd => rfl); (case hg => rfl); (case hr => first | (go_simp; done) | (go_simp; rfl)); intro gb392 hg w30 hbox hb; have n0_ := Aside0.mk (blk_below (g := gb388) (o := .cells #[.slice A0_0 l0_0.length c0_0, .slice (some ad391) l0_1.length c0_1] 31 (0, 0)) (by (with_reducible repeat (first | refine blk_drewN ?_ _ | refine blk_drew ?_ | refine blk_alloc ?_ _)); exact BK388.out) hb); have n1_ := Aside0.mk (blk_below (g := gb389) (o := .cells #[.int .i64 a2_0, .int .i64 a2_1, .int .i64 a2_2, .int .i64 a2_3, .int .i64 a2_4] 38 (0, 0)) (by (with_reducible repeat (first | refine blk_drewN ?_ _ | refine blk_drew ?_ | refine blk_alloc ?_ _)); exact BK389.out) hb); have n2_ := Aside0.mk (below_step (by repeat (first | (with_reducible first | exact HB.out | apply below_alloc | apply pw_below_drewN | apply below_drew1 | refine below_set ?_ GE388.out | refine below_set ?_ GE389.out) | exact HB.out)) hb); have n3_ := Aside0.mk (hbox); have n4_ := Aside0.mk ((by rw [hg]; exact (below_size (by repeat (first | (with_reducible first | exact HB.out | apply below_alloc | apply pw_below_drewN | apply below_drew1 | refine below_set ?_ GE388.out | refine below_set ?_ GE389.out) | exact HB.out))) : w.heap.size ≤ gb392)); have n5_ := Aside0.mk ((by rw [hg]; exact (below_size (by repeat (first | (with_reducible first | exact HB.out | apply below_alloc | apply pw_below_drewN | apply below_drew1 | refine below_set ?_ GE388.out | refine below_set ?_ GE389.out) | exact HB.out))) : w.heap.size ≤ gb392)); have n6_ := Aside0.mk ((by rw [hg]; exact Nat.ne_of_lt (blk_lt (g := gb388) (o := .cells #[.slice A0_0 l0_0.length c0_0, .slice (some ad391) l0_1.length c0_1] 31 (0, 0)) (by (with_reducible repeat (first | refine blk_drewN ?_ _ | refine blk_drew ?_ | refine blk_alloc ?_ _)); exact BK388.out)) : gb388 ≠ gb392)); have n7_ := Aside0.mk ((by rw [hg]; exact Nat.ne_of_gt (blk_lt (g := gb388) (o := .cells #[.slice A0_0 l0_0.length c0_0, .slice (some ad391) l0_1.length c0_1] 31 (0, 0)) (by (with_reducible repeat (first | refine blk_drewN ?_ _ | refine blk_drew ?_ | refine blk_alloc ?_ _)); exact BK388.out)) : gb392 ≠ gb388)); have n8_ := Aside0.mk ((by rw [hg]; exact Nat.ne_of_lt (blk_lt (g := gb389) (o := .cells #[.int .i64 a2_0, .int .i64 a2_1, .int .i64 a2_2, .int .i64 a2_3, .int .i64 a2_4] 38 (0, 0)) (by (with_reducible repeat (first | refine blk_drewN ?_ _ | refine blk_drew ?_ | refine blk_alloc ?_ _)); exact BK389.out)) : gb389 ≠ gb392)); have n9_ := Aside0.mk ((by rw [hg]; exact Nat.ne_of_gt (blk_lt (g := gb389) (o := .cells #[.int .i64 a2_0, .int .i64 a2_1, .int .i64 a2_2, .int .i64 a2_3, .int .i64 a2_4] 38 (0, 0)) (by (with_reducible repeat (first | refine blk_drewN ?_ _ | refine blk_drew ?_ | refine blk_alloc ?_ _)); exact BK389.out)) : gb392 ≠ gb389)); clear BK388; clear BK389; clear HB; have BK388 := n0_; have BK389 := n1_; have HB := n2_; have BK392 := n3_; have GW392 := n4_; have GE392 := n5_; have NB388_392 := n6_; have NB392_388 := n7_; have NB389_392 := n8_; have NB392_389 := n9_; clear n0_ n1_ n2_ n3_ n4_ n5_ n6_ n7_ n8_ n9_; clear hb hbox hg; have hnb31 := NB392_388.out; have hnc31 := NB388_392.out; have hnb32 := NB392_389.out; have hnc32 := NB389_392.out; have hcz33_0 : w30.cell? ⟨gb392, 0, none⟩ = some (.bool false) := (blk_cell BK392.out 0).trans rfl; have hcz33_1 : w30.cell? ⟨gb392, 1, none⟩ = some (.bool false) := (blk_cell BK392.out 1).trans rfl; have hcz33_2 : w30.cell? ⟨gb392, 2, none⟩ = some (.slice none 0 0) := (blk_cell BK392.out 2).trans rfl; have hcz33_3 : w30.cell? ⟨gb392, 3, none⟩ = some (.int .i64 0) := (blk_cell BK392.out 3).trans rfl; have hfz33_0 := blk_frozen BK392.out 0; have hfz33_1 := blk_frozen BK392.out 1; have hfz33_2 := blk_frozen BK392.out 2; have hfz33_3 := blk_frozen BK392.out 3; have hcz34_0 : w30.cell? ⟨gb389, 0, none⟩ = some (.int .i64 a2_0) := (blk_cell BK389.out 0).trans rfl; have hcz34_1 : w30.cell? ⟨gb389, 1, none⟩ = some (.int .i64 a2_1) := (blk_cell BK389.out 1).trans rfl; have hcz34_2 : w30.cell? ⟨gb389, 2, none⟩ = some (.int .i64 a2_2) := (blk_cell BK389.out 2).trans rfl; have hcz34_3 : w30.cell? ⟨gb389, 3, none⟩ = some (.int .i64 a2_3) := (blk_cell BK389.out 3).trans rfl; have hcz34_4 : w30.cell? ⟨gb389, 4, none⟩ = some (.int .i64 a2_4) := (blk_cell BK389.out 4).trans rfl; have hfz34_0 := blk_frozen BK389.out 0; have hfz34_1 := blk_frozen BK389.out 1; have hfz34_2 := blk_frozen BK389.out 2; have hfz34_3 := blk_frozen BK389.out 3; have hfz34_4 := blk_frozen BK389.out 4))
              (try simp only [Act.put, List.setIfInBounds_toArray, List.set_cons_zero, List.set_cons_succ])
              go_cut [39] (fun v39 wc => ∃ (kq : Nat) (x39_26 : Bool), v39 = .bool x39_26 ∧ Aside0 (deadwoodref10_Bad.j1 kq x39_26 a2_0 a2_1 a2_2 a2_3 a2_4 ((rd_T61 l0_1 a1).f0) ((rd_T61 l0_1 a1).f1) ((rd_T61 l0_1 a1).f2) ((rd_T61 l0_1 a1).f3) = some r) ∧ Aside0 (kq ≤ kj3) ∧ Aside0 (wc.heap[gb388]? = some (.cells #[(.slice A0_0 l0_0.length c0_0), (.slice (some ad391) l0_1.length c0_1)] 31 (0, 0))) ∧ Aside0 (wc.heap[gb389]? = some (.cells #[.int .i64 a2_0, .int .i64 a2_1, .int .i64 a2_2, .int .i64 a2_3, .int .i64 a2_4] 38 (0, 0))) ∧ Aside0 (wc.heap[gb392]? = some (.cells #[.bool ((rd_T61 l0_1 a1).f0), .bool ((rd_T61 l0_1 a1).f1), (.slice A391_2 ((rd_T61 l0_1 a1).f2).length c391_2), .int .i64 ((rd_T61 l0_1 a1).f3)] 61 (0, 0))) ∧ Aside0 (Below w.heap.size w wc))
              case first =>
                have H := HC27.out
                clear HC27
                by_cases c35 : a2_0 = 14
                · rw [if_pos c35] at H
                  have c35b0 : (a2_0 == 14) = true := beq_iff_eq.mpr c35
                  have c35b1 : (a2_0 != 14) = false := bne_eq_false_iff_eq.mpr c35
                  clear c35
                  (first | rw [c35b0] | (simp only [i64_w, i32_w]; rw [c35b0]) | skip)
                  have H' := Aside0.mk H
                  clear H
                  have hnb36 := NB389_388.out
                  have hnc36 := NB388_389.out
                  have hnb37 := NB389_392.out
                  have hnc37 := NB392_389.out
                  have hcz38_0 : w30.cell? ⟨gb389, 0, none⟩ = some (.int .i64 a2_0) := (blk_cell BK389.out 0).trans rfl
                  have hcz38_1 : w30.cell? ⟨gb389, 1, none⟩ = some (.int .i64 a2_1) := (blk_cell BK389.out 1).trans rfl
                  have hcz38_2 : w30.cell? ⟨gb389, 2, none⟩ = some (.int .i64 a2_2) := (blk_cell BK389.out 2).trans rfl
                  have hcz38_3 : w30.cell? ⟨gb389, 3, none⟩ = some (.int .i64 a2_3) := (blk_cell BK389.out 3).trans rfl
                  have hcz38_4 : w30.cell? ⟨gb389, 4, none⟩ = some (.int .i64 a2_4) := (blk_cell BK389.out 4).trans rfl
                  have hfz38_0 := blk_frozen BK389.out 0
                  have hfz38_1 := blk_frozen BK389.out 1
                  have hfz38_2 := blk_frozen BK389.out 2
                  have hfz38_3 := blk_frozen BK389.out 3
                  have hfz38_4 := blk_frozen BK389.out 4
                  go_wp2
                  go_meet
                  case rel => exact ⟨_, (true), (by first | rfl | (simp; done) | (simp [*]; done)), H', ⟨by have := HJ3.out; first | omega | exact Nat.le_refl _⟩, ⟨by (with_reducible repeat (first | refine blk_drewN ?_ _ | refine blk_drew ?_ | refine blk_alloc ?_ _)); refine blk_far ?_ NB388_392.out _; (with_reducible repeat (first | refine blk_drewN ?_ _ | refine blk_drew ?_ | refine blk_alloc ?_ _)); refine blk_far ?_ NB388_392.out _; (with_reducible repeat (first | refine blk_drewN ?_ _ | refine blk_drew ?_ | refine blk_alloc ?_ _)); refine blk_far ?_ NB388_392.out _; (with_reducible repeat (first | refine blk_drewN ?_ _ | refine blk_drew ?_ | refine blk_alloc ?_ _)); refine blk_far ?_ NB388_392.out _; (with_reducible repeat (first | refine blk_drewN ?_ _ | refine blk_drew ?_ | refine blk_alloc ?_ _)); exact BK388.out⟩, ⟨by (with_reducible repeat (first | refine blk_drewN ?_ _ | refine blk_drew ?_ | refine blk_alloc ?_ _)); refine blk_far ?_ NB389_392.out _; (with_reducible repeat (first | refine blk_drewN ?_ _ | refine blk_drew ?_ | refine blk_alloc ?_ _)); refine blk_far ?_ NB389_392.out _; (with_reducible repeat (first | refine blk_drewN ?_ _ | refine blk_drew ?_ | refine blk_alloc ?_ _)); refine blk_far ?_ NB389_392.out _; (with_reducible repeat (first | refine blk_drewN ?_ _ | refine blk_drew ?_ | refine blk_alloc ?_ _)); refine blk_far ?_ NB389_392.out _; (with_reducible repeat (first | refine blk_drewN ?_ _ | refine blk_drew ?_ | refine blk_alloc ?_ _)); exact BK389.out⟩, ⟨by (with_reducible repeat (first | refine blk_drewN ?_ _ | refine blk_drew ?_ | refine blk_alloc ?_ _)); refine blk_put (cs := #[.bool ((rd_T61 l0_1 a1).f0), .bool ((rd_T61 l0_1 a1).f1), .slice A391_2 ((rd_T61 l0_1 a1).f2).length c391_2, .int .i64 0]) ?_ 3 _ rfl; (with_reducible repeat (first | refine blk_drewN ?_ _ | refine blk_drew ?_ | refine blk_alloc ?_ _)); refine blk_put (cs := #[.bool ((rd_T61 l0_1 a1).f0), .bool ((rd_T61 l0_1 a1).f1), .slice none 0 0, .int .i64 0]) ?_ 2 _ rfl; (with_reducible repeat (first | refine blk_drewN ?_ _ | refine blk_drew ?_ | refine blk_alloc ?_ _)); refine blk_put (cs := #[.bool ((rd_T61 l0_1 a1).f0), .bool false, .slice none 0 0, .int .i64 0]) ?_ 1 _ rfl; (with_reducible repeat (first | refine blk_drewN ?_ _ | refine blk_drew ?_ | refine blk_alloc ?_ _)); refine blk_put (cs := #[.bool false, .bool false, .slice none 0 0, .int .i64 0]) ?_ 0 _ rfl; (with_reducible repeat (first | refine blk_drewN ?_ _ | refine blk_drew ?_ | refine blk_alloc ?_ _)); exact BK392.out⟩, ⟨by repeat (first | (with_reducible first | exact HB.out | apply below_alloc | apply pw_below_drewN | apply below_drew1 | refine below_set ?_ GE388.out | refine below_set ?_ GE389.out | refine below_set ?_ GE392.out) | exact HB.out)⟩⟩
                · rw [if_neg c35] at H
                  have c35b0 : (a2_0 == 14) = false := beq_eq_false_iff_ne.mpr c35
                  have c35b1 : (a2_0 != 14) = true := bne_iff_ne.mpr c35
                  (first | rw [c35b0] | (simp only [i64_w, i32_w]; rw [c35b0]) | skip)
                  have H' := Aside0.mk H
                  clear H
                  have hnb39 := NB389_388.out
                  have hnc39 := NB388_389.out
                  have hnb40 := NB389_392.out
                  have hnc40 := NB392_389.out
                  have hcz41_0 : w30.cell? ⟨gb389, 0, none⟩ = some (.int .i64 a2_0) := (blk_cell BK389.out 0).trans rfl
                  have hcz41_1 : w30.cell? ⟨gb389, 1, none⟩ = some (.int .i64 a2_1) := (blk_cell BK389.out 1).trans rfl
                  have hcz41_2 : w30.cell? ⟨gb389, 2, none⟩ = some (.int .i64 a2_2) := (blk_cell BK389.out 2).trans rfl
                  have hcz41_3 : w30.cell? ⟨gb389, 3, none⟩ = some (.int .i64 a2_3) := (blk_cell BK389.out 3).trans rfl
                  have hcz41_4 : w30.cell? ⟨gb389, 4, none⟩ = some (.int .i64 a2_4) := (blk_cell BK389.out 4).trans rfl
                  have hfz41_0 := blk_frozen BK389.out 0
                  have hfz41_1 := blk_frozen BK389.out 1
                  have hfz41_2 := blk_frozen BK389.out 2
                  have hfz41_3 := blk_frozen BK389.out 3
                  have hfz41_4 := blk_frozen BK389.out 4
                  go_wp2
                  go_meet
                  case rel => exact ⟨_, ((a2_0 == 9)), (by first | rfl | (simp; done) | (simp [*]; done)), H', ⟨by have := HJ3.out; first | omega | exact Nat.le_refl _⟩, ⟨by (with_reducible repeat (first | refine blk_drewN ?_ _ | refine blk_drew ?_ | refine blk_alloc ?_ _)); refine blk_far ?_ NB388_392.out _; (with_reducible repeat (first | refine blk_drewN ?_ _ | refine blk_drew ?_ | refine blk_alloc ?_ _)); refine blk_far ?_ NB388_392.out _; (with_reducible repeat (first | refine blk_drewN ?_ _ | refine blk_drew ?_ | refine blk_alloc ?_ _)); refine blk_far ?_ NB388_392.out _; (with_reducible repeat (first | refine blk_drewN ?_ _ | refine blk_drew ?_ | refine blk_alloc ?_ _)); refine blk_far ?_ NB388_392.out _; (with_reducible repeat (first | refine blk_drewN ?_ _ | refine blk_drew ?_ | refine blk_alloc ?_ _)); exact BK388.out⟩, ⟨by (with_reducible repeat (first | refine blk_drewN ?_ _ | refine blk_drew ?_ | refine blk_alloc ?_ _)); refine blk_far ?_ NB389_392.out _; (with_reducible repeat (first | refine blk_drewN ?_ _ | refine blk_drew ?_ | refine blk_alloc ?_ _)); refine blk_far ?_ NB389_392.out _; (with_reducible repeat (first | refine blk_drewN ?_ _ | refine blk_drew ?_ | refine blk_alloc ?_ _)); refine blk_far ?_ NB389_392.out _; (with_reducible repeat (first | refine blk_drewN ?_ _ | refine blk_drew ?_ | refine blk_alloc ?_ _)); refine blk_far ?_ NB389_392.out _; (with_reducible repeat (first | refine blk_drewN ?_ _ | refine blk_drew ?_ | refine blk_alloc ?_ _)); exact BK389.out⟩, ⟨by (with_reducible repeat (first | refine blk_drewN ?_ _ | refine blk_drew ?_ | refine blk_alloc ?_ _)); refine blk_put (cs := #[.bool ((rd_T61 l0_1 a1).f0), .bool ((rd_T61 l0_1 a1).f1), .slice A391_2 ((rd_T61 l0_1 a1).f2).length c391_2, .int .i64 0]) ?_ 3 _ rfl; (with_reducible repeat (first | refine blk_drewN ?_ _ | refine blk_drew ?_ | refine blk_alloc ?_ _)); refine blk_put (cs := #[.bool ((rd_T61 l0_1 a1).f0), .bool ((rd_T61 l0_1 a1).f1), .slice none 0 0, .int .i64 0]) ?_ 2 _ rfl; (with_reducible repeat (first | refine blk_drewN ?_ _ | refine blk_drew ?_ | refine blk_alloc ?_ _)); refine blk_put (cs := #[.bool ((rd_T61 l0_1 a1).f0), .bool false, .slice none 0 0, .int .i64 0]) ?_ 1 _ rfl; (with_reducible repeat (first | refine blk_drewN ?_ _ | refine blk_drew ?_ | refine blk_alloc ?_ _)); refine blk_put (cs := #[.bool false, .bool false, .slice none 0 0, .int .i64 0]) ?_ 0 _ rfl; (with_reducible repeat (first | refine blk_drewN ?_ _ | refine blk_drew ?_ | refine blk_alloc ?_ _)); exact BK392.out⟩, ⟨by repeat (first | (with_reducible first | exact HB.out | apply below_alloc | apply pw_below_drewN | apply below_drew1 | refine below_set ?_ GE388.out | refine below_set ?_ GE389.out | refine below_set ?_ GE392.out) | exact HB.out)⟩⟩
              case rest =>
                clear HC27
                try clear c1
                try clear c2
                try clear p2
                try clear c3
                try clear p3
                try clear q3
                try clear hx3
                try clear c4
                try clear c7
                try clear c7b0
                try clear c8
                try clear c8b0
                try clear c9
                try clear c12
                try clear c16
                try clear c17
                try clear c17b0
                try clear c18
                try clear c18b0
                try clear c19
                try clear c19b0
                try clear c19b1
                try clear c20
                try clear c23
                try clear c24
                try clear c28
                try clear c31
                try clear c32
                try clear c35
                try clear c35b0
                try clear c35b1
                try clear c36
                try clear c37
                try clear c39
                try clear p39
                try clear q39
                try clear hx39
                try clear c40
                try clear hcz10_0
                try clear hcz10_1
                try clear hcz13_0
                try clear hcz13_1
                try clear hcz14_0
                try clear hcz14_1
                try clear hcz14_2
                try clear hcz14_3
                try clear hcz14_4
                try clear hcz21_0
                try clear hcz21_1
                try clear hcz25_0
                try clear hcz25_1
                try clear hcz25_2
                try clear hcz25_3
                try clear hcz26_0
                try clear hcz26_1
                try clear hcz26_2
                try clear hcz26_3
                try clear hcz26_4
                try clear hcz29_0
                try clear hcz29_1
                try clear hcz33_0
                try clear hcz33_1
                try clear hcz33_2
                try clear hcz33_3
                try clear hcz34_0
                try clear hcz34_1
                try clear hcz34_2
                try clear hcz34_3
                try clear hcz34_4
                try clear hcz38_0
                try clear hcz38_1
                try clear hcz38_2
                try clear hcz38_3
                try clear hcz38_4
                try clear hcz41_0
                try clear hcz41_1
                try clear hcz41_2
                try clear hcz41_3
                try clear hcz41_4
                try clear hfz10_0
                try clear hfz10_1
                try clear hfz13_0
                try clear hfz13_1
                try clear hfz14_0
                try clear hfz14_1
                try clear hfz14_2
                try clear hfz14_3
                try clear hfz14_4
                try clear hfz21_0
                try clear hfz21_1
                try clear hfz25_0
                try clear hfz25_1
                try clear hfz25_2
                try clear hfz25_3
                try clear hfz26_0
                try clear hfz26_1
                try clear hfz26_2
                try clear hfz26_3
                try clear hfz26_4
                try clear hfz29_0
                try clear hfz29_1
                try clear hfz33_0
                try clear hfz33_1
                try clear hfz33_2
                try clear hfz33_3
                try clear hfz34_0
                try clear hfz34_1
                try clear hfz34_2
                try clear hfz34_3
                try clear hfz34_4
                try clear hfz38_0
                try clear hfz38_1
                try clear hfz38_2
                try clear hfz38_3
                try clear hfz38_4
                try clear hfz41_0
                try clear hfz41_1
                try clear hfz41_2
                try clear hfz41_3
                try clear hfz41_4
                try clear hx391_0
                try clear hx391_1
                try clear hx391_2
                try clear hx391_3
                try clear p2
                try clear p391
                try clear q391
                obtain ⟨kq, x39_26, rfl, HA, HJ26, BK388, BK389, BK392, HB⟩ := hcut
                cases kq with
                | zero => exact absurd HA.out (by simp [deadwoodref10_Bad.j1])
                | succ kj26 =>
                  have H := HA.out
                  clear HA
                  simp only [deadwoodref10_Bad.j1] at H
                  by_cases c42 : x39_26 = true
                  · subst c42
                    have H1 : (if ((rd_T61 l0_1 a1).f0) = true then (some ((rd_T61 l0_1 a1).f1)) else (some true)) = some r := by rw [if_pos rfl] at H; exact H
                    clear H
                    have H := H1
                    clear H1
                    by_cases c43 : ((rd_T61 l0_1 a1).f0) = true
                    · rw [if_pos c43] at H
                      have c43b0 : ((rd_T61 l0_1 a1).f0) = true := c43
                      clear c43
                      obtain rfl := Option.some.inj H
                      have hnb44 := NB392_388.out
                      have hnc44 := NB388_392.out
                      have hnb45 := NB392_389.out
                      have hnc45 := NB389_392.out
                      have hcz46_0 : wc.cell? ⟨gb392, 0, none⟩ = some (.bool ((rd_T61 l0_1 a1).f0)) := (blk_cell BK392.out 0).trans rfl
                      have hcz46_1 : wc.cell? ⟨gb392, 1, none⟩ = some (.bool ((rd_T61 l0_1 a1).f1)) := (blk_cell BK392.out 1).trans rfl
                      have hcz46_2 : wc.cell? ⟨gb392, 2, none⟩ = some (.slice A391_2 ((rd_T61 l0_1 a1).f2).length c391_2) := (blk_cell BK392.out 2).trans rfl
                      have hcz46_3 : wc.cell? ⟨gb392, 3, none⟩ = some (.int .i64 ((rd_T61 l0_1 a1).f3)) := (blk_cell BK392.out 3).trans rfl
                      have hfz46_0 := blk_frozen BK392.out 0
                      have hfz46_1 := blk_frozen BK392.out 1
                      have hfz46_2 := blk_frozen BK392.out 2
                      have hfz46_3 := blk_frozen BK392.out 3
                      go_wp2
                      go_ret
                      exact ⟨by first | rfl | (simp [errW_none, errW_some] <;> rfl) | (simp [*, errW_none, errW_some] <;> rfl), by repeat (first | (with_reducible first | exact HB.out | apply below_alloc | apply pw_below_drewN | apply below_drew1 | refine below_set ?_ GE388.out | refine below_set ?_ GE389.out | refine below_set ?_ GE392.out) | exact HB.out)⟩
                    · rw [if_neg c43] at H
                      have c43b0 : ((rd_T61 l0_1 a1).f0) = false := by simpa using c43
                      clear c43
                      obtain rfl := Option.some.inj H
                      have hnb47 := NB392_388.out
                      have hnc47 := NB388_392.out
                      have hnb48 := NB392_389.out
                      have hnc48 := NB389_392.out
                      have hcz49_0 : wc.cell? ⟨gb392, 0, none⟩ = some (.bool ((rd_T61 l0_1 a1).f0)) := (blk_cell BK392.out 0).trans rfl
                      have hcz49_1 : wc.cell? ⟨gb392, 1, none⟩ = some (.bool ((rd_T61 l0_1 a1).f1)) := (blk_cell BK392.out 1).trans rfl
                      have hcz49_2 : wc.cell? ⟨gb392, 2, none⟩ = some (.slice A391_2 ((rd_T61 l0_1 a1).f2).length c391_2) := (blk_cell BK392.out 2).trans rfl
                      have hcz49_3 : wc.cell? ⟨gb392, 3, none⟩ = some (.int .i64 ((rd_T61 l0_1 a1).f3)) := (blk_cell BK392.out 3).trans rfl
                      have hfz49_0 := blk_frozen BK392.out 0
                      have hfz49_1 := blk_frozen BK392.out 1
                      have hfz49_2 := blk_frozen BK392.out 2
                      have hfz49_3 := blk_frozen BK392.out 3
                      go_wp2
                      go_ret
                      exact ⟨by first | rfl | (simp [errW_none, errW_some] <;> rfl) | (simp [*, errW_none, errW_some] <;> rfl), by repeat (first | (with_reducible first | exact HB.out | apply below_alloc | apply pw_below_drewN | apply below_drew1 | refine below_set ?_ GE388.out | refine below_set ?_ GE389.out | refine below_set ?_ GE392.out) | exact HB.out)⟩
                  · replace c42 := Bool.eq_false_iff.mpr c42
                    subst c42
                    have H1 : (if a2_0 > 9 then (if ((rd_T61 l0_1 a1).f0) = true then (some (!((rd_T61 l0_1 a1).f1))) else (some true)) else (some (!((rd_T61 l0_1 a1).f0)))) = some r := by rw [if_neg (show ¬ (false = true) by decide)] at H; exact H
                    clear H
                    have H := H1
                    clear H1
                    by_cases c50 : a2_0 > 9
                    · rw [if_pos c50] at H
                      have c50b0 : decide (9 < a2_0) = true := decide_eq_true c50
                      clear c50
                      by_cases c51 : ((rd_T61 l0_1 a1).f0) = true
                      · rw [if_pos c51] at H
                        have c51b0 : ((rd_T61 l0_1 a1).f0) = true := c51
                        clear c51
                        obtain rfl := Option.some.inj H
                        have hnb52 := NB389_388.out
                        have hnc52 := NB388_389.out
                        have hnb53 := NB389_392.out
                        have hnc53 := NB392_389.out
                        have hcz54_0 : wc.cell? ⟨gb389, 0, none⟩ = some (.int .i64 a2_0) := (blk_cell BK389.out 0).trans rfl
                        have hcz54_1 : wc.cell? ⟨gb389, 1, none⟩ = some (.int .i64 a2_1) := (blk_cell BK389.out 1).trans rfl
                        have hcz54_2 : wc.cell? ⟨gb389, 2, none⟩ = some (.int .i64 a2_2) := (blk_cell BK389.out 2).trans rfl
                        have hcz54_3 : wc.cell? ⟨gb389, 3, none⟩ = some (.int .i64 a2_3) := (blk_cell BK389.out 3).trans rfl
                        have hcz54_4 : wc.cell? ⟨gb389, 4, none⟩ = some (.int .i64 a2_4) := (blk_cell BK389.out 4).trans rfl
                        have hfz54_0 := blk_frozen BK389.out 0
                        have hfz54_1 := blk_frozen BK389.out 1
                        have hfz54_2 := blk_frozen BK389.out 2
                        have hfz54_3 := blk_frozen BK389.out 3
                        have hfz54_4 := blk_frozen BK389.out 4
                        have hnb55 := NB392_388.out
                        have hnc55 := NB388_392.out
                        have hcz56_0 : wc.cell? ⟨gb392, 0, none⟩ = some (.bool ((rd_T61 l0_1 a1).f0)) := (blk_cell BK392.out 0).trans rfl
                        have hcz56_1 : wc.cell? ⟨gb392, 1, none⟩ = some (.bool ((rd_T61 l0_1 a1).f1)) := (blk_cell BK392.out 1).trans rfl
                        have hcz56_2 : wc.cell? ⟨gb392, 2, none⟩ = some (.slice A391_2 ((rd_T61 l0_1 a1).f2).length c391_2) := (blk_cell BK392.out 2).trans rfl
                        have hcz56_3 : wc.cell? ⟨gb392, 3, none⟩ = some (.int .i64 ((rd_T61 l0_1 a1).f3)) := (blk_cell BK392.out 3).trans rfl
                        have hfz56_0 := blk_frozen BK392.out 0
                        have hfz56_1 := blk_frozen BK392.out 1
                        have hfz56_2 := blk_frozen BK392.out 2
                        have hfz56_3 := blk_frozen BK392.out 3
                        go_wp2
                        go_ret
                        exact ⟨by first | rfl | (simp [errW_none, errW_some] <;> rfl) | (simp [*, errW_none, errW_some] <;> rfl), by repeat (first | (with_reducible first | exact HB.out | apply below_alloc | apply pw_below_drewN | apply below_drew1 | refine below_set ?_ GE388.out | refine below_set ?_ GE389.out | refine below_set ?_ GE392.out) | exact HB.out)⟩
                      · rw [if_neg c51] at H
                        have c51b0 : ((rd_T61 l0_1 a1).f0) = false := by simpa using c51
                        clear c51
                        obtain rfl := Option.some.inj H
                        have hnb57 := NB389_388.out
                        have hnc57 := NB388_389.out
                        have hnb58 := NB389_392.out
                        have hnc58 := NB392_389.out
                        have hcz59_0 : wc.cell? ⟨gb389, 0, none⟩ = some (.int .i64 a2_0) := (blk_cell BK389.out 0).trans rfl
                        have hcz59_1 : wc.cell? ⟨gb389, 1, none⟩ = some (.int .i64 a2_1) := (blk_cell BK389.out 1).trans rfl
                        have hcz59_2 : wc.cell? ⟨gb389, 2, none⟩ = some (.int .i64 a2_2) := (blk_cell BK389.out 2).trans rfl
                        have hcz59_3 : wc.cell? ⟨gb389, 3, none⟩ = some (.int .i64 a2_3) := (blk_cell BK389.out 3).trans rfl
                        have hcz59_4 : wc.cell? ⟨gb389, 4, none⟩ = some (.int .i64 a2_4) := (blk_cell BK389.out 4).trans rfl
                        have hfz59_0 := blk_frozen BK389.out 0
                        have hfz59_1 := blk_frozen BK389.out 1
                        have hfz59_2 := blk_frozen BK389.out 2
                        have hfz59_3 := blk_frozen BK389.out 3
                        have hfz59_4 := blk_frozen BK389.out 4
                        have hnb60 := NB392_388.out
                        have hnc60 := NB388_392.out
                        have hcz61_0 : wc.cell? ⟨gb392, 0, none⟩ = some (.bool ((rd_T61 l0_1 a1).f0)) := (blk_cell BK392.out 0).trans rfl
                        have hcz61_1 : wc.cell? ⟨gb392, 1, none⟩ = some (.bool ((rd_T61 l0_1 a1).f1)) := (blk_cell BK392.out 1).trans rfl
                        have hcz61_2 : wc.cell? ⟨gb392, 2, none⟩ = some (.slice A391_2 ((rd_T61 l0_1 a1).f2).length c391_2) := (blk_cell BK392.out 2).trans rfl
                        have hcz61_3 : wc.cell? ⟨gb392, 3, none⟩ = some (.int .i64 ((rd_T61 l0_1 a1).f3)) := (blk_cell BK392.out 3).trans rfl
                        have hfz61_0 := blk_frozen BK392.out 0
                        have hfz61_1 := blk_frozen BK392.out 1
                        have hfz61_2 := blk_frozen BK392.out 2
                        have hfz61_3 := blk_frozen BK392.out 3
                        go_wp2
                        go_ret
                        exact ⟨by first | rfl | (simp [errW_none, errW_some] <;> rfl) | (simp [*, errW_none, errW_some] <;> rfl), by repeat (first | (with_reducible first | exact HB.out | apply below_alloc | apply pw_below_drewN | apply below_drew1 | refine below_set ?_ GE388.out | refine below_set ?_ GE389.out | refine below_set ?_ GE392.out) | exact HB.out)⟩
                    · rw [if_neg c50] at H
                      have c50b0 : decide (9 < a2_0) = false := decide_eq_false c50
                      clear c50
                      obtain rfl := Option.some.inj H
                      have hnb62 := NB389_388.out
                      have hnc62 := NB388_389.out
                      have hnb63 := NB389_392.out
                      have hnc63 := NB392_389.out
                      have hcz64_0 : wc.cell? ⟨gb389, 0, none⟩ = some (.int .i64 a2_0) := (blk_cell BK389.out 0).trans rfl
                      have hcz64_1 : wc.cell? ⟨gb389, 1, none⟩ = some (.int .i64 a2_1) := (blk_cell BK389.out 1).trans rfl
                      have hcz64_2 : wc.cell? ⟨gb389, 2, none⟩ = some (.int .i64 a2_2) := (blk_cell BK389.out 2).trans rfl
                      have hcz64_3 : wc.cell? ⟨gb389, 3, none⟩ = some (.int .i64 a2_3) := (blk_cell BK389.out 3).trans rfl
                      have hcz64_4 : wc.cell? ⟨gb389, 4, none⟩ = some (.int .i64 a2_4) := (blk_cell BK389.out 4).trans rfl
                      have hfz64_0 := blk_frozen BK389.out 0
                      have hfz64_1 := blk_frozen BK389.out 1
                      have hfz64_2 := blk_frozen BK389.out 2
                      have hfz64_3 := blk_frozen BK389.out 3
                      have hfz64_4 := blk_frozen BK389.out 4
                      have hnb65 := NB392_388.out
                      have hnc65 := NB388_392.out
                      have hcz66_0 : wc.cell? ⟨gb392, 0, none⟩ = some (.bool ((rd_T61 l0_1 a1).f0)) := (blk_cell BK392.out 0).trans rfl
                      have hcz66_1 : wc.cell? ⟨gb392, 1, none⟩ = some (.bool ((rd_T61 l0_1 a1).f1)) := (blk_cell BK392.out 1).trans rfl
                      have hcz66_2 : wc.cell? ⟨gb392, 2, none⟩ = some (.slice A391_2 ((rd_T61 l0_1 a1).f2).length c391_2) := (blk_cell BK392.out 2).trans rfl
                      have hcz66_3 : wc.cell? ⟨gb392, 3, none⟩ = some (.int .i64 ((rd_T61 l0_1 a1).f3)) := (blk_cell BK392.out 3).trans rfl
                      have hfz66_0 := blk_frozen BK392.out 0
                      have hfz66_1 := blk_frozen BK392.out 1
                      have hfz66_2 := blk_frozen BK392.out 2
                      have hfz66_3 := blk_frozen BK392.out 3
                      go_wp2
                      go_ret
                      exact ⟨by first | rfl | (simp [errW_none, errW_some] <;> rfl) | (simp [*, errW_none, errW_some] <;> rfl), by repeat (first | (with_reducible first | exact HB.out | apply below_alloc | apply pw_below_drewN | apply below_drew1 | refine below_set ?_ GE388.out | refine below_set ?_ GE389.out | refine below_set ?_ GE392.out) | exact HB.out)⟩
          · rw [if_neg c18] at H
            exact absurd H (by simp)
        · rw [if_neg c17] at H
          exact absurd H (by simp)

/-! ### deadwoodref08_Cut: function 30 -/
def deadwoodref08_Cut.l0 : Nat → List (S49) → Int → Int → Int → List (S49) → Int → Option ((List (S49)))
  | 0, _, _, _, _, _, _ => none
  | k + 1, x0, x1, x2, x3, x9, x10 => if x10 < (x0.length : Int) then (if 0 ≤ x10 then (if ((rd_T49 x0 x10).f0) ≥ x1 then (if ((rd_T49 x0 x10).f0) ≤ x2 then (if (x9.length : Int) < x3 then (if x9.length < 8796093022208 then (deadwoodref08_Cut.l0 k x0 x1 x2 x3 (x9 ++ [(⟨(rd_T49 x0 x10).f0, (rd_T49 x0 x10).f1⟩ : S49)]) (wrap64 (x10 + 1))) else (none)) else (deadwoodref08_Cut.l0 k x0 x1 x2 x3 x9 (wrap64 (x10 + 1)))) else (deadwoodref08_Cut.l0 k x0 x1 x2 x3 x9 (wrap64 (x10 + 1)))) else (deadwoodref08_Cut.l0 k x0 x1 x2 x3 x9 (wrap64 (x10 + 1)))) else (none)) else (some x9)
def deadwoodref08_Cut.f (k : Nat) (l0 : List (S49)) (a1 : Int) (a2 : Int) (a3 : Int) : Option ((List (S49))) := deadwoodref08_Cut.l0 k l0 a1 a2 a3 ([] : List (S49)) 0
theorem deadwoodref08_Cut.mono_l : ∀ k, (∀ y0 y1 y2 y3 y4 y5, LeO (deadwoodref08_Cut.l0 k y0 y1 y2 y3 y4 y5) (deadwoodref08_Cut.l0 (k + 1) y0 y1 y2 y3 y4 y5))
  | 0 => fun _ _ _ _ _ _ r h => by simp [deadwoodref08_Cut.l0] at h
  | k + 1 => by
    have ih0 := deadwoodref08_Cut.mono_l k
    · intro y0 y1 y2 y3 y4 y5
      unfold deadwoodref08_Cut.l0
      repeat' first
      | (with_reducible exact ih0 _ _ _ _ _ _)
      | (with_reducible exact LeO.refl _)
      | (with_reducible exact LeO.none _)
      | (with_reducible refine LeO.ite ?_ ?_)
      | (with_reducible refine LeO.bind ?_ (fun _ => ?_))
      | exact ih0 _ _ _ _ _ _
      | exact LeO.none _
      | refine LeO.ite ?_ ?_
      | refine LeO.bind ?_ (fun _ => ?_)
theorem deadwoodref08_Cut.mono : ∀ a0 a1 a2 a3 k, LeO (deadwoodref08_Cut.f k a0 a1 a2 a3) (deadwoodref08_Cut.f (k + 1) a0 a1 a2 a3) := by
  intro a0 a1 a2 a3 k
  have ih0 := deadwoodref08_Cut.mono_l k
  unfold deadwoodref08_Cut.f
  repeat' first
      | (with_reducible exact ih0 _ _ _ _ _ _)
      | (with_reducible exact LeO.refl _)
      | (with_reducible exact LeO.none _)
      | (with_reducible refine LeO.ite ?_ ?_)
      | (with_reducible refine LeO.bind ?_ (fun _ => ?_))
      | exact ih0 _ _ _ _ _ _
      | exact LeO.none _
      | refine LeO.ite ?_ ?_
      | refine LeO.bind ?_ (fun _ => ?_)
set_option maxHeartbeats 8000000 in
set_option maxRecDepth 100000 in
theorem deadwoodref08_Cut.calls (k : Nat) (A0 : Option Addr) (c0 : Nat) (l0 : List (S49)) (a1 : Int) (a2 : Int) (a3 : Int) (r : List (S49)) (w : World) (hr0 : Kd.C k49 w A0 l0.length l0) (hc0 : l0.length ≤ c0) (h : deadwoodref08_Cut.f k l0 a1 a2 a3 = some r) :
    Calls Try.prog 30 #[.slice A0 l0.length c0, .int .i64 a1, .int .i64 a2, .int .i64 a3] w fun e w' => ∃ v0_ : Value, e = .returned (v0_) ∧ Kd.R k49 49 w' w.heap.size (fun _ => True) v0_ r ∧ Below w.heap.size w w' := by
  have hu49 := Try.underlying49
  have HR0 := Aside0.mk hr0
  have HC0 := Aside0.mk hc0
  clear hr0 hc0
  have HB := Aside0.mk (Below.refl w.heap.size w)
  have H : (deadwoodref08_Cut.l0 k l0 a1 a2 a3 ([] : List (S49)) 0) = some r := h
  clear h
  have H' := Aside0.mk H
  clear H
  go_enter Try.func30, Try.ntmps30
  go_wp2
  go_loopg [9, 10] k (fun kq v9 v10 w' => ∃ (x9_1 : List (S49)) (x10_1 : Int), v10 = .int .i64 x10_1 ∧ Aside0 (deadwoodref08_Cut.l0 kq l0 a1 a2 a3 x9_1 x10_1 = some r) ∧ Aside0 (kq ≤ k) ∧ Aside0 (Kd.R k49 49 w' w.heap.size (fun _ => True) v9 x9_1) ∧ Aside0 (Below w.heap.size w w'))
  case atStart => exact ⟨(([] : List (S49))), (0), (by first | rfl | (simp; done) | (simp [*]; done)), H', ⟨Nat.le_refl _⟩, ⟨by first | exact Kd.R_nil _ _ _ _ _ | exact Kd.N_nil _ _ _ _ _ | exact Kd.V_nil _ _ _ _ _ | exact Kd.Q_nil _ _ _ _ _ | exact Kd.S_nil _ _ _ _ _⟩, ⟨by repeat (first | (with_reducible first | exact HB.out | apply below_alloc | apply pw_below_drewN | apply below_drew1) | exact HB.out)⟩⟩
  case round =>
    clear H'
    try clear p2
    try clear c3
    obtain ⟨x9_1, x10_1, rfl, HA, HK1, HO_9, HB⟩ := hrel
    cases gk with
    | zero => exact absurd HA.out (by simp [deadwoodref08_Cut.l0])
    | succ k1 =>
      have H := HA.out
      clear HA
      simp only [deadwoodref08_Cut.l0] at H
      by_cases c5 : x10_1 < (l0.length : Int)
      · rw [if_pos c5] at H
        have c5b0 : decide (x10_1 < (l0.length : Int)) = true := decide_eq_true c5
        clear c5
        by_cases c6 : 0 ≤ x10_1
        · rw [if_pos c6] at H
          have c6b0 : decide (0 ≤ x10_1) = true := decide_eq_true c6
          clear c6
          by_cases c7 : ((rd_T49 l0 x10_1).f0) ≥ a1
          · rw [if_pos c7] at H
            have c7b0 : decide (a1 ≤ ((rd_T49 l0 x10_1).f0)) = true := decide_eq_true c7
            clear c7
            by_cases c8 : ((rd_T49 l0 x10_1).f0) ≤ a2
            · rw [if_pos c8] at H
              have c8b0 : decide (((rd_T49 l0 x10_1).f0) ≤ a2) = true := decide_eq_true c8
              clear c8
              by_cases c9 : (x9_1.length : Int) < a3
              · rw [if_pos c9] at H
                have c9b0 : decide ((x9_1.length : Int) < a3) = true := decide_eq_true c9
                clear c9
                by_cases c10 : x9_1.length < 8796093022208
                · rw [if_pos c10] at H
                  have LMc10 := Aside0.mk c10
                  clear c10
                  obtain ⟨y396, hy396⟩ : ∃ y_ : List (S49), y_ = (x9_1 ++ [(⟨(rd_T49 l0 x10_1).f0, (rd_T49 l0 x10_1).f1⟩ : S49)]) := ⟨_, rfl⟩
                  replace H : (deadwoodref08_Cut.l0 k1 l0 a1 a2 a3 y396 (wrap64 (x10_1 + 1))) = some r := by first | (rw [hy396]; with_reducible exact H) | (have H2_ := (Option.bind_some _ _).symm.trans H; rw [hy396]; with_reducible exact H2_) | (have H2_ := (Option.bind_some _ _).symm.trans H; with_reducible exact H2_) | with_reducible exact H | (rw [hy396]; exact H) | exact H
                  have Ny396 := Aside0.mk hy396
                  clear hy396
                  have H' := Aside0.mk H
                  clear H
                  have p393 : 0 ≤ (x10_1 : Int) := of_decide_eq_true (by first | (with_reducible assumption) | assumption)
                  have q393 : x10_1 < (l0.length : Int) := of_decide_eq_true (by first | (with_reducible assumption) | assumption)
                  obtain ⟨ad393, e393, hx393_0, hx393_1⟩ := at_T49 HR0.out x10_1 p393 q393
                  cases e393
                  replace hx393_0 := (HB.out.cell (World.block_lt_of_cell? w _ hx393_0)).trans hx393_0
                  replace hx393_1 := (HB.out.cell (World.block_lt_of_cell? w _ hx393_1)).trans hx393_1
                  replace p393 := eq_true p393
                  replace q393 := eq_true q393
                  have p394 : 0 ≤ (x10_1 : Int) := of_decide_eq_true (by first | (with_reducible assumption) | assumption)
                  have q394 : x10_1 < (l0.length : Int) := of_decide_eq_true (by first | (with_reducible assumption) | assumption)
                  obtain ⟨ad394, e394, hx394_0, hx394_1⟩ := at_T49 HR0.out x10_1 p394 q394
                  obtain rfl : ad393 = ad394 := (by injection e394)
                  replace hx394_0 := (HB.out.cell (World.block_lt_of_cell? w _ hx394_0)).trans hx394_0
                  replace hx394_1 := (HB.out.cell (World.block_lt_of_cell? w _ hx394_1)).trans hx394_1
                  replace p394 := eq_true p394
                  replace q394 := eq_true q394
                  obtain ⟨Ao11, co11, eo11⟩ := Kd.R_slice HO_9.out
                  subst eo11
                  have p395 : 0 ≤ (x10_1 : Int) := of_decide_eq_true (by first | (with_reducible assumption) | assumption)
                  have q395 : x10_1 < (l0.length : Int) := of_decide_eq_true (by first | (with_reducible assumption) | assumption)
                  obtain ⟨ad395, e395, hx395_0, hx395_1⟩ := at_T49 HR0.out x10_1 p395 q395
                  obtain rfl : ad393 = ad395 := (by injection e395)
                  replace hx395_0 := (HB.out.cell (World.block_lt_of_cell? w _ hx395_0)).trans hx395_0
                  replace hx395_1 := (HB.out.cell (World.block_lt_of_cell? w _ hx395_1)).trans hx395_1
                  replace p395 := eq_true p395
                  replace q395 := eq_true q395
                  go_wp2_with (first | ((with_reducible refine gate_builtin (b := .append) (xs := #[.tmp 39, .tmp 44]) rfl ?_); (try (refine gate_guard (by rfl) ?_; dsimp only)); at_builtin; refine Kd.R_append k49 (w0 := w) w.heap.size rfl (.tmp 39) (.tmp 44) 24 49 (.agg #[(.int .i64 0), (.int .i64 0)]) 16 rfl Try.underlying24 info49 rfl (by decide) (by omega) (.slice Ao11 x9_1.length co11) x9_1 (⟨(rd_T49 l0 x10_1).f0, (rd_T49 l0 x10_1).f1⟩ : S49) [.int .i64 ((rd_T49 l0 x10_1).f0), .int .i64 ((rd_T49 l0 x10_1).f1)] (fun _ => True) (fun _ => False) rfl rfl ?aP (fun _ hk => hk.elim) ?aF ?aO ?aB ?aS ?aL ?_; (case aP => exact k49_mkM _ _ _ (⟨(rd_T49 l0 x10_1).f0, (rd_T49 l0 x10_1).f1⟩ : S49)); (case aB => exact (by repeat (first | (with_reducible first | exact HB.out | apply below_alloc | apply pw_below_drewN | apply below_drew1) | exact HB.out))); (case aF => exact (fun _ _ => trivial)); (case aO => exact (by (with_reducible repeat (first | apply Kd.R_alloc | apply Kd.R_drewN | apply Kd.R_drew)); exact HO_9.out)); (case aS => exact (below_size (by repeat (first | (with_reducible first | exact HB.out | apply below_alloc | apply pw_below_drewN | apply below_drew1) | exact HB.out)))); (case aL => have := LMc10.out; omega); intro v397 w12 ho hb hg hat; rw [← Ny396.out] at ho; have n0_ := Aside0.mk (hb); have n1_ := Aside0.mk (ho); clear HB; clear HO_9; have HB := n0_; have HO398 := n1_; clear n0_ n1_; clear ho hb hg hat))
                  go_roundg k1
                  case measure => have := HK1.out; omega
                  case rel => exact ⟨(y396), (wrap64 (x10_1 + 1)), (by first | rfl | (simp; done) | (simp [*]; done)), H', ⟨by have := HK1.out; omega⟩, ⟨by (with_reducible repeat (first | apply Kd.R_alloc | apply Kd.R_drewN | apply Kd.R_drew)); exact HO398.out⟩, ⟨by repeat (first | (with_reducible first | exact HB.out | apply below_alloc | apply pw_below_drewN | apply below_drew1) | exact HB.out)⟩⟩
                · rw [if_neg c10] at H
                  exact absurd H (by simp)
              · rw [if_neg c9] at H
                have c9b0 : decide ((x9_1.length : Int) < a3) = false := decide_eq_false c9
                clear c9
                have H' := Aside0.mk H
                clear H
                have p393 : 0 ≤ (x10_1 : Int) := of_decide_eq_true (by first | (with_reducible assumption) | assumption)
                have q393 : x10_1 < (l0.length : Int) := of_decide_eq_true (by first | (with_reducible assumption) | assumption)
                obtain ⟨ad393, e393, hx393_0, hx393_1⟩ := at_T49 HR0.out x10_1 p393 q393
                cases e393
                replace hx393_0 := (HB.out.cell (World.block_lt_of_cell? w _ hx393_0)).trans hx393_0
                replace hx393_1 := (HB.out.cell (World.block_lt_of_cell? w _ hx393_1)).trans hx393_1
                replace p393 := eq_true p393
                replace q393 := eq_true q393
                have p394 : 0 ≤ (x10_1 : Int) := of_decide_eq_true (by first | (with_reducible assumption) | assumption)
                have q394 : x10_1 < (l0.length : Int) := of_decide_eq_true (by first | (with_reducible assumption) | assumption)
                obtain ⟨ad394, e394, hx394_0, hx394_1⟩ := at_T49 HR0.out x10_1 p394 q394
                obtain rfl : ad393 = ad394 := (by injection e394)
                replace hx394_0 := (HB.out.cell (World.block_lt_of_cell? w _ hx394_0)).trans hx394_0
                replace hx394_1 := (HB.out.cell (World.block_lt_of_cell? w _ hx394_1)).trans hx394_1
                replace p394 := eq_true p394
                replace q394 := eq_true q394
                obtain ⟨Ao13, co13, eo13⟩ := Kd.R_slice HO_9.out
                subst eo13
                go_wp2
                go_roundg k1
                case measure => have := HK1.out; omega
                case rel => exact ⟨(x9_1), (wrap64 (x10_1 + 1)), (by first | rfl | (simp; done) | (simp [*]; done)), H', ⟨by have := HK1.out; omega⟩, ⟨by (with_reducible repeat (first | apply Kd.R_alloc | apply Kd.R_drewN | apply Kd.R_drew)); exact HO_9.out⟩, ⟨by repeat (first | (with_reducible first | exact HB.out | apply below_alloc | apply pw_below_drewN | apply below_drew1) | exact HB.out)⟩⟩
            · rw [if_neg c8] at H
              have c8b0 : decide (((rd_T49 l0 x10_1).f0) ≤ a2) = false := decide_eq_false c8
              clear c8
              have H' := Aside0.mk H
              clear H
              have p393 : 0 ≤ (x10_1 : Int) := of_decide_eq_true (by first | (with_reducible assumption) | assumption)
              have q393 : x10_1 < (l0.length : Int) := of_decide_eq_true (by first | (with_reducible assumption) | assumption)
              obtain ⟨ad393, e393, hx393_0, hx393_1⟩ := at_T49 HR0.out x10_1 p393 q393
              cases e393
              replace hx393_0 := (HB.out.cell (World.block_lt_of_cell? w _ hx393_0)).trans hx393_0
              replace hx393_1 := (HB.out.cell (World.block_lt_of_cell? w _ hx393_1)).trans hx393_1
              replace p393 := eq_true p393
              replace q393 := eq_true q393
              have p394 : 0 ≤ (x10_1 : Int) := of_decide_eq_true (by first | (with_reducible assumption) | assumption)
              have q394 : x10_1 < (l0.length : Int) := of_decide_eq_true (by first | (with_reducible assumption) | assumption)
              obtain ⟨ad394, e394, hx394_0, hx394_1⟩ := at_T49 HR0.out x10_1 p394 q394
              obtain rfl : ad393 = ad394 := (by injection e394)
              replace hx394_0 := (HB.out.cell (World.block_lt_of_cell? w _ hx394_0)).trans hx394_0
              replace hx394_1 := (HB.out.cell (World.block_lt_of_cell? w _ hx394_1)).trans hx394_1
              replace p394 := eq_true p394
              replace q394 := eq_true q394
              go_wp2
              go_roundg k1
              case measure => have := HK1.out; omega
              case rel => exact ⟨(x9_1), (wrap64 (x10_1 + 1)), (by first | rfl | (simp; done) | (simp [*]; done)), H', ⟨by have := HK1.out; omega⟩, ⟨by (with_reducible repeat (first | apply Kd.R_alloc | apply Kd.R_drewN | apply Kd.R_drew)); exact HO_9.out⟩, ⟨by repeat (first | (with_reducible first | exact HB.out | apply below_alloc | apply pw_below_drewN | apply below_drew1) | exact HB.out)⟩⟩
          · rw [if_neg c7] at H
            have c7b0 : decide (a1 ≤ ((rd_T49 l0 x10_1).f0)) = false := decide_eq_false c7
            clear c7
            have H' := Aside0.mk H
            clear H
            have p393 : 0 ≤ (x10_1 : Int) := of_decide_eq_true (by first | (with_reducible assumption) | assumption)
            have q393 : x10_1 < (l0.length : Int) := of_decide_eq_true (by first | (with_reducible assumption) | assumption)
            obtain ⟨ad393, e393, hx393_0, hx393_1⟩ := at_T49 HR0.out x10_1 p393 q393
            cases e393
            replace hx393_0 := (HB.out.cell (World.block_lt_of_cell? w _ hx393_0)).trans hx393_0
            replace hx393_1 := (HB.out.cell (World.block_lt_of_cell? w _ hx393_1)).trans hx393_1
            replace p393 := eq_true p393
            replace q393 := eq_true q393
            go_wp2
            go_roundg k1
            case measure => have := HK1.out; omega
            case rel => exact ⟨(x9_1), (wrap64 (x10_1 + 1)), (by first | rfl | (simp; done) | (simp [*]; done)), H', ⟨by have := HK1.out; omega⟩, ⟨by (with_reducible repeat (first | apply Kd.R_alloc | apply Kd.R_drewN | apply Kd.R_drew)); exact HO_9.out⟩, ⟨by repeat (first | (with_reducible first | exact HB.out | apply below_alloc | apply pw_below_drewN | apply below_drew1) | exact HB.out)⟩⟩
        · rw [if_neg c6] at H
          exact absurd H (by simp)
      · rw [if_neg c5] at H
        have c5b0 : decide (x10_1 < (l0.length : Int)) = false := decide_eq_false c5
        clear c5
        obtain rfl := Option.some.inj H
        go_wp2
        go_ret
        exact ⟨_, by first | rfl | (simp [errW_none, errW_some] <;> rfl) | (simp [*, errW_none, errW_some] <;> rfl), by (with_reducible repeat (first | apply Kd.R_alloc | apply Kd.R_drewN | apply Kd.R_drew)); exact HO_9.out, by repeat (first | (with_reducible first | exact HB.out | apply below_alloc | apply pw_below_drewN | apply below_drew1) | exact HB.out)⟩

end Go.Proofs.Ytkkneaefjahihaa.PModelTold
