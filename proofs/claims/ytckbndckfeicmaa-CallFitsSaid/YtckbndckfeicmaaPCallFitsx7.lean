-- Printed by a program of this session (mkprint.py) out of the translation; Lean checks it.
import Derived.Test.YtckbndckfeicmaaPCallFitsx0
import Derived.Test.YtckbndckfeicmaaPCallFitsx6
namespace Go.Proofs.Ytckbndckfeicmaa.PCallFits
open Go.RowKit Go.Proofs.YtckbndckfeicmaaW.PrintWords Go.Proofs.YtckbndckfeicmaaW.PrintLast Go.Proofs.YtckbndckfeicmaaW.PrintMore
attribute [local go_sem] max2_int min2_int max_two min_two max_three min_three max_four min_four   -- for this text's walks alone
set_option linter.unusedVariables false
set_option linter.unusedSimpArgs false

/-! ### deadwoodref09_Fits: function 25 -/
mutual
def deadwoodref09_Fits.j0 : Nat → Bool → Int → Int → Int → Int → Int → Int → Int → Int → Int → List (S61) → Option (Bool)
  | 0, _, _, _, _, _, _, _, _, _, _, _ => none
  | k + 1, x38, x162000, x162001, x162002, x162003, x162004, x163000, x163001, x163002, x163003, x163004 => if x38 = true then (some false) else (if x163000 = 8 then (some true) else ((deadwoodref09_May.f k x162000 x162001 x162002 x162003 x162004).bind fun t163 => (if t163 = true then (if x163000 = 0 then (if x162000 = 0 then (some true) else (if x162000 = 9 then (some true) else (some (decide (x162000 > 10))))) else (if x163000 = 1 then (if x162000 = 1 then (if x163001 = x162001 then (if x162000 = 7 then (if x163001 > x162001 then (some false) else (if x162000 = 8 then (if x163001 < x162001 then (some false) else ((deadwoodref09_pair.f x162000).bind fun t164 => (some t164))) else ((deadwoodref09_pair.f x162000).bind fun t165 => (some t165)))) else (if x162000 = 8 then (if x163001 < x162001 then (some false) else ((deadwoodref09_pair.f x162000).bind fun t166 => (some t166))) else ((deadwoodref09_pair.f x162000).bind fun t167 => (some t167)))) else (some false)) else (if x162000 = 2 then (if x163001 = x162001 then (if x162000 = 7 then (if x163001 > x162001 then (some false) else (if x162000 = 8 then (if x163001 < x162001 then (some false) else ((deadwoodref09_pair.f x162000).bind fun t168 => (some t168))) else ((deadwoodref09_pair.f x162000).bind fun t169 => (some t169)))) else (if x162000 = 8 then (if x163001 < x162001 then (some false) else ((deadwoodref09_pair.f x162000).bind fun t170 => (some t170))) else ((deadwoodref09_pair.f x162000).bind fun t171 => (some t171)))) else (some false)) else (if x162000 = 7 then (if x163001 > x162001 then (some false) else (if x162000 = 8 then (if x163001 < x162001 then (some false) else ((deadwoodref09_pair.f x162000).bind fun t172 => (some t172))) else ((deadwoodref09_pair.f x162000).bind fun t173 => (some t173)))) else (if x162000 = 8 then (if x163001 < x162001 then (some false) else ((deadwoodref09_pair.f x162000).bind fun t174 => (some t174))) else ((deadwoodref09_pair.f x162000).bind fun t175 => (some t175)))))) else (if x163000 = 2 then (if x162000 = 4 then (some (decide (x163003 ≥ 0))) else (some false)) else (if x163000 = 3 then (if x162000 = 3 then ((deadwoodref09_within.f k x163004 x162001 x162003).bind fun t176 => (if t176 = true then (some (decide ((x163004.length : Int) ≤ x162004))) else (some false))) else (some false)) else (if x163000 = 4 then ((deadwoodref09_pair.f x162000).bind fun t177 => (some t177)) else (if x163000 = 5 then (deadwoodref09_Fits.j1 k x163000 (x163000 == 5) x162000 x162001 x162002 x162003 x162004) else (deadwoodref09_Fits.j1 k x163000 (x163000 == 6) x162000 x162001 x162002 x162003 x162004))))))) else (some false))))
def deadwoodref09_Fits.j1 : Nat → Int → Bool → Int → Int → Int → Int → Int → Option (Bool)
  | 0, _, _, _, _, _, _, _ => none
  | k + 1, x46, x143, x162000, x162001, x162002, x162003, x162004 => if x143 = true then (some (x162000 == 0)) else (if x46 = 7 then ((deadwoodref09_Reads.f x162000).bind fun t178 => (some t178)) else (some false))
end
def deadwoodref09_Fits.f (k : Nat) (a0_0 : Int) (a0_1 : Int) (a0_2 : Int) (a0_3 : Int) (a0_4 : Int) (a1_0 : Int) (a1_1 : Int) (a1_2 : Int) (a1_3 : Int) (l1_4 : List (S61)) : Option (Bool) := if a1_0 = 1 then (if a1_0 = 2 then (if a1_0 = 3 then (deadwoodref09_Fits.j0 k false a0_0 a0_1 a0_2 a0_3 a0_4 a1_0 a1_1 a1_2 a1_3 l1_4) else (deadwoodref09_Fits.j0 k (decide ((l1_4.length : Int) > 0)) a0_0 a0_1 a0_2 a0_3 a0_4 a1_0 a1_1 a1_2 a1_3 l1_4)) else (if a1_3 = 0 then (if a1_0 = 3 then (deadwoodref09_Fits.j0 k false a0_0 a0_1 a0_2 a0_3 a0_4 a1_0 a1_1 a1_2 a1_3 l1_4) else (deadwoodref09_Fits.j0 k (decide ((l1_4.length : Int) > 0)) a0_0 a0_1 a0_2 a0_3 a0_4 a1_0 a1_1 a1_2 a1_3 l1_4)) else (deadwoodref09_Fits.j0 k true a0_0 a0_1 a0_2 a0_3 a0_4 a1_0 a1_1 a1_2 a1_3 l1_4))) else (if a1_1 = 0 then (if a1_2 = 0 then (if a1_0 = 2 then (if a1_0 = 3 then (deadwoodref09_Fits.j0 k false a0_0 a0_1 a0_2 a0_3 a0_4 a1_0 a1_1 a1_2 a1_3 l1_4) else (deadwoodref09_Fits.j0 k (decide ((l1_4.length : Int) > 0)) a0_0 a0_1 a0_2 a0_3 a0_4 a1_0 a1_1 a1_2 a1_3 l1_4)) else (if a1_3 = 0 then (if a1_0 = 3 then (deadwoodref09_Fits.j0 k false a0_0 a0_1 a0_2 a0_3 a0_4 a1_0 a1_1 a1_2 a1_3 l1_4) else (deadwoodref09_Fits.j0 k (decide ((l1_4.length : Int) > 0)) a0_0 a0_1 a0_2 a0_3 a0_4 a1_0 a1_1 a1_2 a1_3 l1_4)) else (deadwoodref09_Fits.j0 k true a0_0 a0_1 a0_2 a0_3 a0_4 a1_0 a1_1 a1_2 a1_3 l1_4))) else (deadwoodref09_Fits.j0 k true a0_0 a0_1 a0_2 a0_3 a0_4 a1_0 a1_1 a1_2 a1_3 l1_4)) else (deadwoodref09_Fits.j0 k true a0_0 a0_1 a0_2 a0_3 a0_4 a1_0 a1_1 a1_2 a1_3 l1_4))
theorem deadwoodref09_Fits.mono_l : ∀ k, (∀ y0 y1 y2 y3 y4 y5 y6 y7 y8 y9 y10, LeO (deadwoodref09_Fits.j0 k y0 y1 y2 y3 y4 y5 y6 y7 y8 y9 y10) (deadwoodref09_Fits.j0 (k + 1) y0 y1 y2 y3 y4 y5 y6 y7 y8 y9 y10)) ∧ (∀ y0 y1 y2 y3 y4 y5 y6, LeO (deadwoodref09_Fits.j1 k y0 y1 y2 y3 y4 y5 y6) (deadwoodref09_Fits.j1 (k + 1) y0 y1 y2 y3 y4 y5 y6))
  | 0 => ⟨fun _ _ _ _ _ _ _ _ _ _ _ r h => by simp [deadwoodref09_Fits.j0] at h, fun _ _ _ _ _ _ _ r h => by simp [deadwoodref09_Fits.j1] at h⟩
  | k + 1 => by
    obtain ⟨ih0, ih1⟩ := deadwoodref09_Fits.mono_l k
    refine ⟨?_, ?_⟩
    · intro y0 y1 y2 y3 y4 y5 y6 y7 y8 y9 y10
      unfold deadwoodref09_Fits.j0
      repeat' first
      | (with_reducible exact ih0 _ _ _ _ _ _ _ _ _ _ _)
      | (with_reducible exact ih1 _ _ _ _ _ _ _)
      | (with_reducible exact deadwoodref09_May.mono _ _ _ _ _ _)
      | (with_reducible exact deadwoodref09_within.mono _ _ _ _)
      | (with_reducible exact LeO.refl _)
      | (with_reducible exact LeO.none _)
      | (with_reducible refine LeO.ite ?_ ?_)
      | (with_reducible refine LeO.bind ?_ (fun _ => ?_))
      | exact ih0 _ _ _ _ _ _ _ _ _ _ _
      | exact ih1 _ _ _ _ _ _ _
      | exact deadwoodref09_May.mono _ _ _ _ _ _
      | exact deadwoodref09_within.mono _ _ _ _
      | exact LeO.none _
      | refine LeO.ite ?_ ?_
      | refine LeO.bind ?_ (fun _ => ?_)
    · intro y0 y1 y2 y3 y4 y5 y6
      unfold deadwoodref09_Fits.j1
      repeat' first
      | (with_reducible exact ih0 _ _ _ _ _ _ _ _ _ _ _)
      | (with_reducible exact ih1 _ _ _ _ _ _ _)
      | (with_reducible exact deadwoodref09_May.mono _ _ _ _ _ _)
      | (with_reducible exact deadwoodref09_within.mono _ _ _ _)
      | (with_reducible exact LeO.refl _)
      | (with_reducible exact LeO.none _)
      | (with_reducible refine LeO.ite ?_ ?_)
      | (with_reducible refine LeO.bind ?_ (fun _ => ?_))
      | exact ih0 _ _ _ _ _ _ _ _ _ _ _
      | exact ih1 _ _ _ _ _ _ _
      | exact deadwoodref09_May.mono _ _ _ _ _ _
      | exact deadwoodref09_within.mono _ _ _ _
      | exact LeO.none _
      | refine LeO.ite ?_ ?_
      | refine LeO.bind ?_ (fun _ => ?_)
theorem deadwoodref09_Fits.mono : ∀ a0 a1 a2 a3 a4 a5 a6 a7 a8 a9 k, LeO (deadwoodref09_Fits.f k a0 a1 a2 a3 a4 a5 a6 a7 a8 a9) (deadwoodref09_Fits.f (k + 1) a0 a1 a2 a3 a4 a5 a6 a7 a8 a9) := by
  intro a0 a1 a2 a3 a4 a5 a6 a7 a8 a9 k
  obtain ⟨ih0, ih1⟩ := deadwoodref09_Fits.mono_l k
  unfold deadwoodref09_Fits.f
  repeat' first
      | (with_reducible exact ih0 _ _ _ _ _ _ _ _ _ _ _)
      | (with_reducible exact ih1 _ _ _ _ _ _ _)
      | (with_reducible exact deadwoodref09_May.mono _ _ _ _ _ _)
      | (with_reducible exact deadwoodref09_within.mono _ _ _ _)
      | (with_reducible exact LeO.refl _)
      | (with_reducible exact LeO.none _)
      | (with_reducible refine LeO.ite ?_ ?_)
      | (with_reducible refine LeO.bind ?_ (fun _ => ?_))
      | exact ih0 _ _ _ _ _ _ _ _ _ _ _
      | exact ih1 _ _ _ _ _ _ _
      | exact deadwoodref09_May.mono _ _ _ _ _ _
      | exact deadwoodref09_within.mono _ _ _ _
      | exact LeO.none _
      | refine LeO.ite ?_ ?_
      | refine LeO.bind ?_ (fun _ => ?_)
set_option maxHeartbeats 8000000 in
set_option maxRecDepth 100000 in
theorem deadwoodref09_Fits.calls (k : Nat) (a0_0 : Int) (a0_1 : Int) (a0_2 : Int) (a0_3 : Int) (a0_4 : Int) (a1_0 : Int) (a1_1 : Int) (a1_2 : Int) (a1_3 : Int) (A1_4 : Option Addr) (c1_4 : Nat) (l1_4 : List (S61)) (r : Bool) (w : World) (hr1_4 : Kd.C k61 w A1_4 l1_4.length l1_4) (hc1_4 : l1_4.length ≤ c1_4) (h : deadwoodref09_Fits.f k a0_0 a0_1 a0_2 a0_3 a0_4 a1_0 a1_1 a1_2 a1_3 l1_4 = some r) :
    Calls Try.prog 25 #[.agg #[.int .i64 a0_0, .int .i64 a0_1, .int .i64 a0_2, .int .i64 a0_3, .int .i64 a0_4], .agg #[.int .i64 a1_0, .int .i64 a1_1, .int .i64 a1_2, .int .i64 a1_3, .slice A1_4 l1_4.length c1_4]] w fun e w' => e = .returned (.bool r) ∧ Below w.heap.size w w' := by
  have hu38 := Try.underlying38
  have hu41 := Try.underlying41
  have HR1_4 := Aside0.mk hr1_4
  have HC1_4 := Aside0.mk hc1_4
  clear hr1_4 hc1_4
  have HB := Aside0.mk (Below.refl w.heap.size w)
  have H : (if a1_0 = 1 then (if a1_0 = 2 then (if a1_0 = 3 then (deadwoodref09_Fits.j0 k false a0_0 a0_1 a0_2 a0_3 a0_4 a1_0 a1_1 a1_2 a1_3 l1_4) else (deadwoodref09_Fits.j0 k (decide ((l1_4.length : Int) > 0)) a0_0 a0_1 a0_2 a0_3 a0_4 a1_0 a1_1 a1_2 a1_3 l1_4)) else (if a1_3 = 0 then (if a1_0 = 3 then (deadwoodref09_Fits.j0 k false a0_0 a0_1 a0_2 a0_3 a0_4 a1_0 a1_1 a1_2 a1_3 l1_4) else (deadwoodref09_Fits.j0 k (decide ((l1_4.length : Int) > 0)) a0_0 a0_1 a0_2 a0_3 a0_4 a1_0 a1_1 a1_2 a1_3 l1_4)) else (deadwoodref09_Fits.j0 k true a0_0 a0_1 a0_2 a0_3 a0_4 a1_0 a1_1 a1_2 a1_3 l1_4))) else (if a1_1 = 0 then (if a1_2 = 0 then (if a1_0 = 2 then (if a1_0 = 3 then (deadwoodref09_Fits.j0 k false a0_0 a0_1 a0_2 a0_3 a0_4 a1_0 a1_1 a1_2 a1_3 l1_4) else (deadwoodref09_Fits.j0 k (decide ((l1_4.length : Int) > 0)) a0_0 a0_1 a0_2 a0_3 a0_4 a1_0 a1_1 a1_2 a1_3 l1_4)) else (if a1_3 = 0 then (if a1_0 = 3 then (deadwoodref09_Fits.j0 k false a0_0 a0_1 a0_2 a0_3 a0_4 a1_0 a1_1 a1_2 a1_3 l1_4) else (deadwoodref09_Fits.j0 k (decide ((l1_4.length : Int) > 0)) a0_0 a0_1 a0_2 a0_3 a0_4 a1_0 a1_1 a1_2 a1_3 l1_4)) else (deadwoodref09_Fits.j0 k true a0_0 a0_1 a0_2 a0_3 a0_4 a1_0 a1_1 a1_2 a1_3 l1_4))) else (deadwoodref09_Fits.j0 k true a0_0 a0_1 a0_2 a0_3 a0_4 a1_0 a1_1 a1_2 a1_3 l1_4)) else (deadwoodref09_Fits.j0 k true a0_0 a0_1 a0_2 a0_3 a0_4 a1_0 a1_1 a1_2 a1_3 l1_4))) = some r := h
  clear h
  have HC3 := Aside0.mk H
  clear H
  go_enter Try.func25, Try.ntmps25
  go_upto_region 1 with (first | ((with_reducible refine gate_dst (N := 2) rfl ?_); (try (refine gate_guard (by rfl) ?_; dsimp only)); refine box_event ?hg (N := 2) ?hd (cs := #[.int .i64 a0_0, .int .i64 a0_1, .int .i64 a0_2, .int .i64 a0_3, .int .i64 a0_4]) (t := 38) ?hr ?_; (case hd => rfl); (case hg => rfl); (case hr => first | (go_simp; done) | (go_simp; rfl)); intro gb161 hg w4 hbox hb; have n0_ := Aside0.mk (below_step (by repeat (first | (with_reducible first | exact HB.out | apply below_alloc | apply pw_below_drewN | apply below_drew1) | exact HB.out)) hb); have n1_ := Aside0.mk (hbox); have n2_ := Aside0.mk ((by rw [hg]; exact (below_size (by repeat (first | (with_reducible first | exact HB.out | apply below_alloc | apply pw_below_drewN | apply below_drew1) | exact HB.out))) : w.heap.size ≤ gb161)); have n3_ := Aside0.mk ((by rw [hg]; exact (below_size (by repeat (first | (with_reducible first | exact HB.out | apply below_alloc | apply pw_below_drewN | apply below_drew1) | exact HB.out))) : w.heap.size ≤ gb161)); clear HB; have HB := n0_; have BK161 := n1_; have GW161 := n2_; have GE161 := n3_; clear n0_ n1_ n2_ n3_; clear hb hbox hg) | ((with_reducible refine gate_dst (N := 3) rfl ?_); (try (refine gate_guard (by rfl) ?_; dsimp only)); refine box_event ?hg (N := 3) ?hd (cs := #[.int .i64 a1_0, .int .i64 a1_1, .int .i64 a1_2, .int .i64 a1_3, .slice A1_4 l1_4.length c1_4]) (t := 41) ?hr ?_; (case hd => rfl); (case hg => rfl); (case hr => first | (go_simp; done) | (go_simp; rfl)); intro gb162 hg w5 hbox hb; have n0_ := Aside0.mk (blk_below (g := gb161) (o := .cells #[.int .i64 a0_0, .int .i64 a0_1, .int .i64 a0_2, .int .i64 a0_3, .int .i64 a0_4] 38 (0, 0)) (by (with_reducible repeat (first | refine blk_drewN ?_ _ | refine blk_drew ?_ | refine blk_alloc ?_ _)); exact BK161.out) hb); have n1_ := Aside0.mk (below_step (by repeat (first | (with_reducible first | exact HB.out | apply below_alloc | apply pw_below_drewN | apply below_drew1 | refine below_set ?_ GE161.out) | exact HB.out)) hb); have n2_ := Aside0.mk (hbox); have n3_ := Aside0.mk ((by rw [hg]; exact (below_size (by repeat (first | (with_reducible first | exact HB.out | apply below_alloc | apply pw_below_drewN | apply below_drew1 | refine below_set ?_ GE161.out) | exact HB.out))) : w.heap.size ≤ gb162)); have n4_ := Aside0.mk ((by rw [hg]; exact (below_size (by repeat (first | (with_reducible first | exact HB.out | apply below_alloc | apply pw_below_drewN | apply below_drew1 | refine below_set ?_ GE161.out) | exact HB.out))) : w.heap.size ≤ gb162)); have n5_ := Aside0.mk ((by rw [hg]; exact Nat.ne_of_lt (blk_lt (g := gb161) (o := .cells #[.int .i64 a0_0, .int .i64 a0_1, .int .i64 a0_2, .int .i64 a0_3, .int .i64 a0_4] 38 (0, 0)) (by (with_reducible repeat (first | refine blk_drewN ?_ _ | refine blk_drew ?_ | refine blk_alloc ?_ _)); exact BK161.out)) : gb161 ≠ gb162)); have n6_ := Aside0.mk ((by rw [hg]; exact Nat.ne_of_gt (blk_lt (g := gb161) (o := .cells #[.int .i64 a0_0, .int .i64 a0_1, .int .i64 a0_2, .int .i64 a0_3, .int .i64 a0_4] 38 (0, 0)) (by (with_reducible repeat (first | refine blk_drewN ?_ _ | refine blk_drew ?_ | refine blk_alloc ?_ _)); exact BK161.out)) : gb162 ≠ gb161)); clear BK161; clear HB; have BK161 := n0_; have HB := n1_; have BK162 := n2_; have GW162 := n3_; have GE162 := n4_; have NB161_162 := n5_; have NB162_161 := n6_; clear n0_ n1_ n2_ n3_ n4_ n5_ n6_; clear hb hbox hg))
  (try simp only [Act.put, List.setIfInBounds_toArray, List.set_cons_zero, List.set_cons_succ])
  go_cut [38] (fun v38 wc => ∃ (kq : Nat) (x38_2 : Bool), v38 = .bool x38_2 ∧ Aside0 (deadwoodref09_Fits.j0 kq x38_2 a0_0 a0_1 a0_2 a0_3 a0_4 a1_0 a1_1 a1_2 a1_3 l1_4 = some r) ∧ Aside0 (kq ≤ k) ∧ Aside0 (wc.heap[gb161]? = some (.cells #[.int .i64 a0_0, .int .i64 a0_1, .int .i64 a0_2, .int .i64 a0_3, .int .i64 a0_4] 38 (0, 0))) ∧ Aside0 (wc.heap[gb162]? = some (.cells #[.int .i64 a1_0, .int .i64 a1_1, .int .i64 a1_2, .int .i64 a1_3, (.slice A1_4 l1_4.length c1_4)] 41 (0, 0))) ∧ Aside0 (Below w.heap.size w wc))
  case first =>
    have H := HC3.out
    clear HC3
    by_cases c6 : a1_0 = 1
    · rw [if_pos c6] at H
      have c6b0 : (a1_0 == 1) = true := beq_iff_eq.mpr c6
      have c6b1 : (a1_0 != 1) = false := bne_eq_false_iff_eq.mpr c6
      clear c6
      (first | rw [c6b0] | (simp only [i64_w, i32_w]; rw [c6b0]) | skip)
      by_cases c7 : a1_0 = 2
      · rw [if_pos c7] at H
        have c7b0 : (a1_0 == 2) = true := beq_iff_eq.mpr c7
        have c7b1 : (a1_0 != 2) = false := bne_eq_false_iff_eq.mpr c7
        clear c7
        by_cases c8 : a1_0 = 3
        · rw [if_pos c8] at H
          have c8b0 : (a1_0 == 3) = true := beq_iff_eq.mpr c8
          have c8b1 : (a1_0 != 3) = false := bne_eq_false_iff_eq.mpr c8
          clear c8
          have H' := Aside0.mk H
          clear H
          have hnb9 := NB162_161.out
          have hnc9 := NB161_162.out
          have hcz10_0 : w5.cell? ⟨gb162, 0, none⟩ = some (.int .i64 a1_0) := (blk_cell BK162.out 0).trans rfl
          have hcz10_1 : w5.cell? ⟨gb162, 1, none⟩ = some (.int .i64 a1_1) := (blk_cell BK162.out 1).trans rfl
          have hcz10_2 : w5.cell? ⟨gb162, 2, none⟩ = some (.int .i64 a1_2) := (blk_cell BK162.out 2).trans rfl
          have hcz10_3 : w5.cell? ⟨gb162, 3, none⟩ = some (.int .i64 a1_3) := (blk_cell BK162.out 3).trans rfl
          have hcz10_4 : w5.cell? ⟨gb162, 4, none⟩ = some (.slice A1_4 l1_4.length c1_4) := (blk_cell BK162.out 4).trans rfl
          have hfz10_0 := blk_frozen BK162.out 0
          have hfz10_1 := blk_frozen BK162.out 1
          have hfz10_2 := blk_frozen BK162.out 2
          have hfz10_3 := blk_frozen BK162.out 3
          have hfz10_4 := blk_frozen BK162.out 4
          go_wp2
          go_meet
          case rel => exact ⟨_, (false), (by first | rfl | (simp; done) | (simp [*]; done)), H', ⟨by first | omega | exact Nat.le_refl _⟩, ⟨by (with_reducible repeat (first | refine blk_drewN ?_ _ | refine blk_drew ?_ | refine blk_alloc ?_ _)); exact BK161.out⟩, ⟨by (with_reducible repeat (first | refine blk_drewN ?_ _ | refine blk_drew ?_ | refine blk_alloc ?_ _)); exact BK162.out⟩, ⟨by repeat (first | (with_reducible first | exact HB.out | apply below_alloc | apply pw_below_drewN | apply below_drew1 | refine below_set ?_ GE161.out | refine below_set ?_ GE162.out) | exact HB.out)⟩⟩
        · rw [if_neg c8] at H
          have c8b0 : (a1_0 == 3) = false := beq_eq_false_iff_ne.mpr c8
          have c8b1 : (a1_0 != 3) = true := bne_iff_ne.mpr c8
          have H' := Aside0.mk H
          clear H
          have hnb11 := NB162_161.out
          have hnc11 := NB161_162.out
          have hcz12_0 : w5.cell? ⟨gb162, 0, none⟩ = some (.int .i64 a1_0) := (blk_cell BK162.out 0).trans rfl
          have hcz12_1 : w5.cell? ⟨gb162, 1, none⟩ = some (.int .i64 a1_1) := (blk_cell BK162.out 1).trans rfl
          have hcz12_2 : w5.cell? ⟨gb162, 2, none⟩ = some (.int .i64 a1_2) := (blk_cell BK162.out 2).trans rfl
          have hcz12_3 : w5.cell? ⟨gb162, 3, none⟩ = some (.int .i64 a1_3) := (blk_cell BK162.out 3).trans rfl
          have hcz12_4 : w5.cell? ⟨gb162, 4, none⟩ = some (.slice A1_4 l1_4.length c1_4) := (blk_cell BK162.out 4).trans rfl
          have hfz12_0 := blk_frozen BK162.out 0
          have hfz12_1 := blk_frozen BK162.out 1
          have hfz12_2 := blk_frozen BK162.out 2
          have hfz12_3 := blk_frozen BK162.out 3
          have hfz12_4 := blk_frozen BK162.out 4
          go_wp2
          go_meet
          case rel => exact ⟨_, (decide ((l1_4.length : Int) > 0)), (by first | rfl | (simp; done) | (simp [*]; done)), H', ⟨by first | omega | exact Nat.le_refl _⟩, ⟨by (with_reducible repeat (first | refine blk_drewN ?_ _ | refine blk_drew ?_ | refine blk_alloc ?_ _)); exact BK161.out⟩, ⟨by (with_reducible repeat (first | refine blk_drewN ?_ _ | refine blk_drew ?_ | refine blk_alloc ?_ _)); exact BK162.out⟩, ⟨by repeat (first | (with_reducible first | exact HB.out | apply below_alloc | apply pw_below_drewN | apply below_drew1 | refine below_set ?_ GE161.out | refine below_set ?_ GE162.out) | exact HB.out)⟩⟩
      · rw [if_neg c7] at H
        have c7b0 : (a1_0 == 2) = false := beq_eq_false_iff_ne.mpr c7
        have c7b1 : (a1_0 != 2) = true := bne_iff_ne.mpr c7
        by_cases c13 : a1_3 = 0
        · rw [if_pos c13] at H
          have c13b0 : (a1_3 == 0) = true := beq_iff_eq.mpr c13
          have c13b1 : (a1_3 != 0) = false := bne_eq_false_iff_eq.mpr c13
          clear c13
          by_cases c14 : a1_0 = 3
          · rw [if_pos c14] at H
            have c14b0 : (a1_0 == 3) = true := beq_iff_eq.mpr c14
            have c14b1 : (a1_0 != 3) = false := bne_eq_false_iff_eq.mpr c14
            clear c14
            have H' := Aside0.mk H
            clear H
            have hnb15 := NB162_161.out
            have hnc15 := NB161_162.out
            have hcz16_0 : w5.cell? ⟨gb162, 0, none⟩ = some (.int .i64 a1_0) := (blk_cell BK162.out 0).trans rfl
            have hcz16_1 : w5.cell? ⟨gb162, 1, none⟩ = some (.int .i64 a1_1) := (blk_cell BK162.out 1).trans rfl
            have hcz16_2 : w5.cell? ⟨gb162, 2, none⟩ = some (.int .i64 a1_2) := (blk_cell BK162.out 2).trans rfl
            have hcz16_3 : w5.cell? ⟨gb162, 3, none⟩ = some (.int .i64 a1_3) := (blk_cell BK162.out 3).trans rfl
            have hcz16_4 : w5.cell? ⟨gb162, 4, none⟩ = some (.slice A1_4 l1_4.length c1_4) := (blk_cell BK162.out 4).trans rfl
            have hfz16_0 := blk_frozen BK162.out 0
            have hfz16_1 := blk_frozen BK162.out 1
            have hfz16_2 := blk_frozen BK162.out 2
            have hfz16_3 := blk_frozen BK162.out 3
            have hfz16_4 := blk_frozen BK162.out 4
            go_wp2
            go_meet
            case rel => exact ⟨_, (false), (by first | rfl | (simp; done) | (simp [*]; done)), H', ⟨by first | omega | exact Nat.le_refl _⟩, ⟨by (with_reducible repeat (first | refine blk_drewN ?_ _ | refine blk_drew ?_ | refine blk_alloc ?_ _)); exact BK161.out⟩, ⟨by (with_reducible repeat (first | refine blk_drewN ?_ _ | refine blk_drew ?_ | refine blk_alloc ?_ _)); exact BK162.out⟩, ⟨by repeat (first | (with_reducible first | exact HB.out | apply below_alloc | apply pw_below_drewN | apply below_drew1 | refine below_set ?_ GE161.out | refine below_set ?_ GE162.out) | exact HB.out)⟩⟩
          · rw [if_neg c14] at H
            have c14b0 : (a1_0 == 3) = false := beq_eq_false_iff_ne.mpr c14
            have c14b1 : (a1_0 != 3) = true := bne_iff_ne.mpr c14
            have H' := Aside0.mk H
            clear H
            have hnb17 := NB162_161.out
            have hnc17 := NB161_162.out
            have hcz18_0 : w5.cell? ⟨gb162, 0, none⟩ = some (.int .i64 a1_0) := (blk_cell BK162.out 0).trans rfl
            have hcz18_1 : w5.cell? ⟨gb162, 1, none⟩ = some (.int .i64 a1_1) := (blk_cell BK162.out 1).trans rfl
            have hcz18_2 : w5.cell? ⟨gb162, 2, none⟩ = some (.int .i64 a1_2) := (blk_cell BK162.out 2).trans rfl
            have hcz18_3 : w5.cell? ⟨gb162, 3, none⟩ = some (.int .i64 a1_3) := (blk_cell BK162.out 3).trans rfl
            have hcz18_4 : w5.cell? ⟨gb162, 4, none⟩ = some (.slice A1_4 l1_4.length c1_4) := (blk_cell BK162.out 4).trans rfl
            have hfz18_0 := blk_frozen BK162.out 0
            have hfz18_1 := blk_frozen BK162.out 1
            have hfz18_2 := blk_frozen BK162.out 2
            have hfz18_3 := blk_frozen BK162.out 3
            have hfz18_4 := blk_frozen BK162.out 4
            go_wp2
            go_meet
            case rel => exact ⟨_, (decide ((l1_4.length : Int) > 0)), (by first | rfl | (simp; done) | (simp [*]; done)), H', ⟨by first | omega | exact Nat.le_refl _⟩, ⟨by (with_reducible repeat (first | refine blk_drewN ?_ _ | refine blk_drew ?_ | refine blk_alloc ?_ _)); exact BK161.out⟩, ⟨by (with_reducible repeat (first | refine blk_drewN ?_ _ | refine blk_drew ?_ | refine blk_alloc ?_ _)); exact BK162.out⟩, ⟨by repeat (first | (with_reducible first | exact HB.out | apply below_alloc | apply pw_below_drewN | apply below_drew1 | refine below_set ?_ GE161.out | refine below_set ?_ GE162.out) | exact HB.out)⟩⟩
        · rw [if_neg c13] at H
          have c13b0 : (a1_3 == 0) = false := beq_eq_false_iff_ne.mpr c13
          have c13b1 : (a1_3 != 0) = true := bne_iff_ne.mpr c13
          have H' := Aside0.mk H
          clear H
          have hnb19 := NB162_161.out
          have hnc19 := NB161_162.out
          have hcz20_0 : w5.cell? ⟨gb162, 0, none⟩ = some (.int .i64 a1_0) := (blk_cell BK162.out 0).trans rfl
          have hcz20_1 : w5.cell? ⟨gb162, 1, none⟩ = some (.int .i64 a1_1) := (blk_cell BK162.out 1).trans rfl
          have hcz20_2 : w5.cell? ⟨gb162, 2, none⟩ = some (.int .i64 a1_2) := (blk_cell BK162.out 2).trans rfl
          have hcz20_3 : w5.cell? ⟨gb162, 3, none⟩ = some (.int .i64 a1_3) := (blk_cell BK162.out 3).trans rfl
          have hcz20_4 : w5.cell? ⟨gb162, 4, none⟩ = some (.slice A1_4 l1_4.length c1_4) := (blk_cell BK162.out 4).trans rfl
          have hfz20_0 := blk_frozen BK162.out 0
          have hfz20_1 := blk_frozen BK162.out 1
          have hfz20_2 := blk_frozen BK162.out 2
          have hfz20_3 := blk_frozen BK162.out 3
          have hfz20_4 := blk_frozen BK162.out 4
          go_wp2
          go_meet
          case rel => exact ⟨_, (true), (by first | rfl | (simp; done) | (simp [*]; done)), H', ⟨by first | omega | exact Nat.le_refl _⟩, ⟨by (with_reducible repeat (first | refine blk_drewN ?_ _ | refine blk_drew ?_ | refine blk_alloc ?_ _)); exact BK161.out⟩, ⟨by (with_reducible repeat (first | refine blk_drewN ?_ _ | refine blk_drew ?_ | refine blk_alloc ?_ _)); exact BK162.out⟩, ⟨by repeat (first | (with_reducible first | exact HB.out | apply below_alloc | apply pw_below_drewN | apply below_drew1 | refine below_set ?_ GE161.out | refine below_set ?_ GE162.out) | exact HB.out)⟩⟩
    · rw [if_neg c6] at H
      have c6b0 : (a1_0 == 1) = false := beq_eq_false_iff_ne.mpr c6
      have c6b1 : (a1_0 != 1) = true := bne_iff_ne.mpr c6
      (first | rw [c6b0] | (simp only [i64_w, i32_w]; rw [c6b0]) | skip)
      by_cases c21 : a1_1 = 0
      · rw [if_pos c21] at H
        have c21b0 : (a1_1 == 0) = true := beq_iff_eq.mpr c21
        have c21b1 : (a1_1 != 0) = false := bne_eq_false_iff_eq.mpr c21
        clear c21
        by_cases c22 : a1_2 = 0
        · rw [if_pos c22] at H
          have c22b0 : (a1_2 == 0) = true := beq_iff_eq.mpr c22
          have c22b1 : (a1_2 != 0) = false := bne_eq_false_iff_eq.mpr c22
          clear c22
          by_cases c23 : a1_0 = 2
          · rw [if_pos c23] at H
            have c23b0 : (a1_0 == 2) = true := beq_iff_eq.mpr c23
            have c23b1 : (a1_0 != 2) = false := bne_eq_false_iff_eq.mpr c23
            clear c23
            by_cases c24 : a1_0 = 3
            · rw [if_pos c24] at H
              have c24b0 : (a1_0 == 3) = true := beq_iff_eq.mpr c24
              have c24b1 : (a1_0 != 3) = false := bne_eq_false_iff_eq.mpr c24
              clear c24
              have H' := Aside0.mk H
              clear H
              have hnb25 := NB162_161.out
              have hnc25 := NB161_162.out
              have hcz26_0 : w5.cell? ⟨gb162, 0, none⟩ = some (.int .i64 a1_0) := (blk_cell BK162.out 0).trans rfl
              have hcz26_1 : w5.cell? ⟨gb162, 1, none⟩ = some (.int .i64 a1_1) := (blk_cell BK162.out 1).trans rfl
              have hcz26_2 : w5.cell? ⟨gb162, 2, none⟩ = some (.int .i64 a1_2) := (blk_cell BK162.out 2).trans rfl
              have hcz26_3 : w5.cell? ⟨gb162, 3, none⟩ = some (.int .i64 a1_3) := (blk_cell BK162.out 3).trans rfl
              have hcz26_4 : w5.cell? ⟨gb162, 4, none⟩ = some (.slice A1_4 l1_4.length c1_4) := (blk_cell BK162.out 4).trans rfl
              have hfz26_0 := blk_frozen BK162.out 0
              have hfz26_1 := blk_frozen BK162.out 1
              have hfz26_2 := blk_frozen BK162.out 2
              have hfz26_3 := blk_frozen BK162.out 3
              have hfz26_4 := blk_frozen BK162.out 4
              go_wp2
              go_meet
              case rel => exact ⟨_, (false), (by first | rfl | (simp; done) | (simp [*]; done)), H', ⟨by first | omega | exact Nat.le_refl _⟩, ⟨by (with_reducible repeat (first | refine blk_drewN ?_ _ | refine blk_drew ?_ | refine blk_alloc ?_ _)); exact BK161.out⟩, ⟨by (with_reducible repeat (first | refine blk_drewN ?_ _ | refine blk_drew ?_ | refine blk_alloc ?_ _)); exact BK162.out⟩, ⟨by repeat (first | (with_reducible first | exact HB.out | apply below_alloc | apply pw_below_drewN | apply below_drew1 | refine below_set ?_ GE161.out | refine below_set ?_ GE162.out) | exact HB.out)⟩⟩
            · rw [if_neg c24] at H
              have c24b0 : (a1_0 == 3) = false := beq_eq_false_iff_ne.mpr c24
              have c24b1 : (a1_0 != 3) = true := bne_iff_ne.mpr c24
              have H' := Aside0.mk H
              clear H
              have hnb27 := NB162_161.out
              have hnc27 := NB161_162.out
              have hcz28_0 : w5.cell? ⟨gb162, 0, none⟩ = some (.int .i64 a1_0) := (blk_cell BK162.out 0).trans rfl
              have hcz28_1 : w5.cell? ⟨gb162, 1, none⟩ = some (.int .i64 a1_1) := (blk_cell BK162.out 1).trans rfl
              have hcz28_2 : w5.cell? ⟨gb162, 2, none⟩ = some (.int .i64 a1_2) := (blk_cell BK162.out 2).trans rfl
              have hcz28_3 : w5.cell? ⟨gb162, 3, none⟩ = some (.int .i64 a1_3) := (blk_cell BK162.out 3).trans rfl
              have hcz28_4 : w5.cell? ⟨gb162, 4, none⟩ = some (.slice A1_4 l1_4.length c1_4) := (blk_cell BK162.out 4).trans rfl
              have hfz28_0 := blk_frozen BK162.out 0
              have hfz28_1 := blk_frozen BK162.out 1
              have hfz28_2 := blk_frozen BK162.out 2
              have hfz28_3 := blk_frozen BK162.out 3
              have hfz28_4 := blk_frozen BK162.out 4
              go_wp2
              go_meet
              case rel => exact ⟨_, (decide ((l1_4.length : Int) > 0)), (by first | rfl | (simp; done) | (simp [*]; done)), H', ⟨by first | omega | exact Nat.le_refl _⟩, ⟨by (with_reducible repeat (first | refine blk_drewN ?_ _ | refine blk_drew ?_ | refine blk_alloc ?_ _)); exact BK161.out⟩, ⟨by (with_reducible repeat (first | refine blk_drewN ?_ _ | refine blk_drew ?_ | refine blk_alloc ?_ _)); exact BK162.out⟩, ⟨by repeat (first | (with_reducible first | exact HB.out | apply below_alloc | apply pw_below_drewN | apply below_drew1 | refine below_set ?_ GE161.out | refine below_set ?_ GE162.out) | exact HB.out)⟩⟩
          · rw [if_neg c23] at H
            have c23b0 : (a1_0 == 2) = false := beq_eq_false_iff_ne.mpr c23
            have c23b1 : (a1_0 != 2) = true := bne_iff_ne.mpr c23
            by_cases c29 : a1_3 = 0
            · rw [if_pos c29] at H
              have c29b0 : (a1_3 == 0) = true := beq_iff_eq.mpr c29
              have c29b1 : (a1_3 != 0) = false := bne_eq_false_iff_eq.mpr c29
              clear c29
              by_cases c30 : a1_0 = 3
              · rw [if_pos c30] at H
                have c30b0 : (a1_0 == 3) = true := beq_iff_eq.mpr c30
                have c30b1 : (a1_0 != 3) = false := bne_eq_false_iff_eq.mpr c30
                clear c30
                have H' := Aside0.mk H
                clear H
                have hnb31 := NB162_161.out
                have hnc31 := NB161_162.out
                have hcz32_0 : w5.cell? ⟨gb162, 0, none⟩ = some (.int .i64 a1_0) := (blk_cell BK162.out 0).trans rfl
                have hcz32_1 : w5.cell? ⟨gb162, 1, none⟩ = some (.int .i64 a1_1) := (blk_cell BK162.out 1).trans rfl
                have hcz32_2 : w5.cell? ⟨gb162, 2, none⟩ = some (.int .i64 a1_2) := (blk_cell BK162.out 2).trans rfl
                have hcz32_3 : w5.cell? ⟨gb162, 3, none⟩ = some (.int .i64 a1_3) := (blk_cell BK162.out 3).trans rfl
                have hcz32_4 : w5.cell? ⟨gb162, 4, none⟩ = some (.slice A1_4 l1_4.length c1_4) := (blk_cell BK162.out 4).trans rfl
                have hfz32_0 := blk_frozen BK162.out 0
                have hfz32_1 := blk_frozen BK162.out 1
                have hfz32_2 := blk_frozen BK162.out 2
                have hfz32_3 := blk_frozen BK162.out 3
                have hfz32_4 := blk_frozen BK162.out 4
                go_wp2
                go_meet
                case rel => exact ⟨_, (false), (by first | rfl | (simp; done) | (simp [*]; done)), H', ⟨by first | omega | exact Nat.le_refl _⟩, ⟨by (with_reducible repeat (first | refine blk_drewN ?_ _ | refine blk_drew ?_ | refine blk_alloc ?_ _)); exact BK161.out⟩, ⟨by (with_reducible repeat (first | refine blk_drewN ?_ _ | refine blk_drew ?_ | refine blk_alloc ?_ _)); exact BK162.out⟩, ⟨by repeat (first | (with_reducible first | exact HB.out | apply below_alloc | apply pw_below_drewN | apply below_drew1 | refine below_set ?_ GE161.out | refine below_set ?_ GE162.out) | exact HB.out)⟩⟩
              · rw [if_neg c30] at H
                have c30b0 : (a1_0 == 3) = false := beq_eq_false_iff_ne.mpr c30
                have c30b1 : (a1_0 != 3) = true := bne_iff_ne.mpr c30
                have H' := Aside0.mk H
                clear H
                have hnb33 := NB162_161.out
                have hnc33 := NB161_162.out
                have hcz34_0 : w5.cell? ⟨gb162, 0, none⟩ = some (.int .i64 a1_0) := (blk_cell BK162.out 0).trans rfl
                have hcz34_1 : w5.cell? ⟨gb162, 1, none⟩ = some (.int .i64 a1_1) := (blk_cell BK162.out 1).trans rfl
                have hcz34_2 : w5.cell? ⟨gb162, 2, none⟩ = some (.int .i64 a1_2) := (blk_cell BK162.out 2).trans rfl
                have hcz34_3 : w5.cell? ⟨gb162, 3, none⟩ = some (.int .i64 a1_3) := (blk_cell BK162.out 3).trans rfl
                have hcz34_4 : w5.cell? ⟨gb162, 4, none⟩ = some (.slice A1_4 l1_4.length c1_4) := (blk_cell BK162.out 4).trans rfl
                have hfz34_0 := blk_frozen BK162.out 0
                have hfz34_1 := blk_frozen BK162.out 1
                have hfz34_2 := blk_frozen BK162.out 2
                have hfz34_3 := blk_frozen BK162.out 3
                have hfz34_4 := blk_frozen BK162.out 4
                go_wp2
                go_meet
                case rel => exact ⟨_, (decide ((l1_4.length : Int) > 0)), (by first | rfl | (simp; done) | (simp [*]; done)), H', ⟨by first | omega | exact Nat.le_refl _⟩, ⟨by (with_reducible repeat (first | refine blk_drewN ?_ _ | refine blk_drew ?_ | refine blk_alloc ?_ _)); exact BK161.out⟩, ⟨by (with_reducible repeat (first | refine blk_drewN ?_ _ | refine blk_drew ?_ | refine blk_alloc ?_ _)); exact BK162.out⟩, ⟨by repeat (first | (with_reducible first | exact HB.out | apply below_alloc | apply pw_below_drewN | apply below_drew1 | refine below_set ?_ GE161.out | refine below_set ?_ GE162.out) | exact HB.out)⟩⟩
            · rw [if_neg c29] at H
              have c29b0 : (a1_3 == 0) = false := beq_eq_false_iff_ne.mpr c29
              have c29b1 : (a1_3 != 0) = true := bne_iff_ne.mpr c29
              have H' := Aside0.mk H
              clear H
              have hnb35 := NB162_161.out
              have hnc35 := NB161_162.out
              have hcz36_0 : w5.cell? ⟨gb162, 0, none⟩ = some (.int .i64 a1_0) := (blk_cell BK162.out 0).trans rfl
              have hcz36_1 : w5.cell? ⟨gb162, 1, none⟩ = some (.int .i64 a1_1) := (blk_cell BK162.out 1).trans rfl
              have hcz36_2 : w5.cell? ⟨gb162, 2, none⟩ = some (.int .i64 a1_2) := (blk_cell BK162.out 2).trans rfl
              have hcz36_3 : w5.cell? ⟨gb162, 3, none⟩ = some (.int .i64 a1_3) := (blk_cell BK162.out 3).trans rfl
              have hcz36_4 : w5.cell? ⟨gb162, 4, none⟩ = some (.slice A1_4 l1_4.length c1_4) := (blk_cell BK162.out 4).trans rfl
              have hfz36_0 := blk_frozen BK162.out 0
              have hfz36_1 := blk_frozen BK162.out 1
              have hfz36_2 := blk_frozen BK162.out 2
              have hfz36_3 := blk_frozen BK162.out 3
              have hfz36_4 := blk_frozen BK162.out 4
              go_wp2
              go_meet
              case rel => exact ⟨_, (true), (by first | rfl | (simp; done) | (simp [*]; done)), H', ⟨by first | omega | exact Nat.le_refl _⟩, ⟨by (with_reducible repeat (first | refine blk_drewN ?_ _ | refine blk_drew ?_ | refine blk_alloc ?_ _)); exact BK161.out⟩, ⟨by (with_reducible repeat (first | refine blk_drewN ?_ _ | refine blk_drew ?_ | refine blk_alloc ?_ _)); exact BK162.out⟩, ⟨by repeat (first | (with_reducible first | exact HB.out | apply below_alloc | apply pw_below_drewN | apply below_drew1 | refine below_set ?_ GE161.out | refine below_set ?_ GE162.out) | exact HB.out)⟩⟩
        · rw [if_neg c22] at H
          have c22b0 : (a1_2 == 0) = false := beq_eq_false_iff_ne.mpr c22
          have c22b1 : (a1_2 != 0) = true := bne_iff_ne.mpr c22
          have H' := Aside0.mk H
          clear H
          have hnb37 := NB162_161.out
          have hnc37 := NB161_162.out
          have hcz38_0 : w5.cell? ⟨gb162, 0, none⟩ = some (.int .i64 a1_0) := (blk_cell BK162.out 0).trans rfl
          have hcz38_1 : w5.cell? ⟨gb162, 1, none⟩ = some (.int .i64 a1_1) := (blk_cell BK162.out 1).trans rfl
          have hcz38_2 : w5.cell? ⟨gb162, 2, none⟩ = some (.int .i64 a1_2) := (blk_cell BK162.out 2).trans rfl
          have hcz38_3 : w5.cell? ⟨gb162, 3, none⟩ = some (.int .i64 a1_3) := (blk_cell BK162.out 3).trans rfl
          have hcz38_4 : w5.cell? ⟨gb162, 4, none⟩ = some (.slice A1_4 l1_4.length c1_4) := (blk_cell BK162.out 4).trans rfl
          have hfz38_0 := blk_frozen BK162.out 0
          have hfz38_1 := blk_frozen BK162.out 1
          have hfz38_2 := blk_frozen BK162.out 2
          have hfz38_3 := blk_frozen BK162.out 3
          have hfz38_4 := blk_frozen BK162.out 4
          go_wp2
          go_meet
          case rel => exact ⟨_, (true), (by first | rfl | (simp; done) | (simp [*]; done)), H', ⟨by first | omega | exact Nat.le_refl _⟩, ⟨by (with_reducible repeat (first | refine blk_drewN ?_ _ | refine blk_drew ?_ | refine blk_alloc ?_ _)); exact BK161.out⟩, ⟨by (with_reducible repeat (first | refine blk_drewN ?_ _ | refine blk_drew ?_ | refine blk_alloc ?_ _)); exact BK162.out⟩, ⟨by repeat (first | (with_reducible first | exact HB.out | apply below_alloc | apply pw_below_drewN | apply below_drew1 | refine below_set ?_ GE161.out | refine below_set ?_ GE162.out) | exact HB.out)⟩⟩
      · rw [if_neg c21] at H
        have c21b0 : (a1_1 == 0) = false := beq_eq_false_iff_ne.mpr c21
        have c21b1 : (a1_1 != 0) = true := bne_iff_ne.mpr c21
        have H' := Aside0.mk H
        clear H
        have hnb39 := NB162_161.out
        have hnc39 := NB161_162.out
        have hcz40_0 : w5.cell? ⟨gb162, 0, none⟩ = some (.int .i64 a1_0) := (blk_cell BK162.out 0).trans rfl
        have hcz40_1 : w5.cell? ⟨gb162, 1, none⟩ = some (.int .i64 a1_1) := (blk_cell BK162.out 1).trans rfl
        have hcz40_2 : w5.cell? ⟨gb162, 2, none⟩ = some (.int .i64 a1_2) := (blk_cell BK162.out 2).trans rfl
        have hcz40_3 : w5.cell? ⟨gb162, 3, none⟩ = some (.int .i64 a1_3) := (blk_cell BK162.out 3).trans rfl
        have hcz40_4 : w5.cell? ⟨gb162, 4, none⟩ = some (.slice A1_4 l1_4.length c1_4) := (blk_cell BK162.out 4).trans rfl
        have hfz40_0 := blk_frozen BK162.out 0
        have hfz40_1 := blk_frozen BK162.out 1
        have hfz40_2 := blk_frozen BK162.out 2
        have hfz40_3 := blk_frozen BK162.out 3
        have hfz40_4 := blk_frozen BK162.out 4
        go_wp2
        go_meet
        case rel => exact ⟨_, (true), (by first | rfl | (simp; done) | (simp [*]; done)), H', ⟨by first | omega | exact Nat.le_refl _⟩, ⟨by (with_reducible repeat (first | refine blk_drewN ?_ _ | refine blk_drew ?_ | refine blk_alloc ?_ _)); exact BK161.out⟩, ⟨by (with_reducible repeat (first | refine blk_drewN ?_ _ | refine blk_drew ?_ | refine blk_alloc ?_ _)); exact BK162.out⟩, ⟨by repeat (first | (with_reducible first | exact HB.out | apply below_alloc | apply pw_below_drewN | apply below_drew1 | refine below_set ?_ GE161.out | refine below_set ?_ GE162.out) | exact HB.out)⟩⟩
  case rest =>
    clear HC3
    (try clear c1); (try clear c2); (try clear p2); (try clear c3); (try clear c6); (try clear c6b0); (try clear c6b1); (try clear c7); (try clear c7b0); (try clear c7b1); (try clear c8); (try clear c8b0); (try clear c8b1); (try clear c9); (try clear c11); (try clear c13); (try clear c13b0); (try clear c13b1); (try clear c14); (try clear c14b0); (try clear c14b1); (try clear c15); (try clear c17); (try clear c19); (try clear c21); (try clear c21b0); (try clear c21b1); (try clear c22); (try clear c22b0); (try clear c22b1); (try clear c23); (try clear c23b0); (try clear c23b1); (try clear c24); (try clear c24b0); (try clear c24b1); (try clear c25); (try clear c27); (try clear c29); (try clear c29b0); (try clear c29b1); (try clear c30); (try clear c30b0); (try clear c30b1); (try clear c31); (try clear c33); (try clear c35); (try clear c37); (try clear c39); (try clear hcz10_0); (try clear hcz10_1); (try clear hcz10_2); (try clear hcz10_3); (try clear hcz10_4); (try clear hcz12_0); (try clear hcz12_1); (try clear hcz12_2); (try clear hcz12_3); (try clear hcz12_4); (try clear hcz16_0); (try clear hcz16_1); (try clear hcz16_2); (try clear hcz16_3); (try clear hcz16_4); (try clear hcz18_0); (try clear hcz18_1); (try clear hcz18_2); (try clear hcz18_3); (try clear hcz18_4); (try clear hcz20_0); (try clear hcz20_1); (try clear hcz20_2); (try clear hcz20_3); (try clear hcz20_4); (try clear hcz26_0); (try clear hcz26_1); (try clear hcz26_2); (try clear hcz26_3); (try clear hcz26_4); (try clear hcz28_0); (try clear hcz28_1); (try clear hcz28_2); (try clear hcz28_3); (try clear hcz28_4); (try clear hcz32_0); (try clear hcz32_1); (try clear hcz32_2); (try clear hcz32_3); (try clear hcz32_4); (try clear hcz34_0); (try clear hcz34_1); (try clear hcz34_2); (try clear hcz34_3); (try clear hcz34_4); (try clear hcz36_0); (try clear hcz36_1); (try clear hcz36_2); (try clear hcz36_3); (try clear hcz36_4); (try clear hcz38_0); (try clear hcz38_1); (try clear hcz38_2); (try clear hcz38_3); (try clear hcz38_4); (try clear hcz40_0); (try clear hcz40_1); (try clear hcz40_2); (try clear hcz40_3); (try clear hcz40_4); (try clear hfz10_0); (try clear hfz10_1); (try clear hfz10_2); (try clear hfz10_3); (try clear hfz10_4); (try clear hfz12_0); (try clear hfz12_1); (try clear hfz12_2); (try clear hfz12_3); (try clear hfz12_4); (try clear hfz16_0); (try clear hfz16_1); (try clear hfz16_2); (try clear hfz16_3); (try clear hfz16_4); (try clear hfz18_0); (try clear hfz18_1); (try clear hfz18_2); (try clear hfz18_3); (try clear hfz18_4); (try clear hfz20_0); (try clear hfz20_1); (try clear hfz20_2); (try clear hfz20_3); (try clear hfz20_4); (try clear hfz26_0); (try clear hfz26_1); (try clear hfz26_2); (try clear hfz26_3); (try clear hfz26_4); (try clear hfz28_0); (try clear hfz28_1); (try clear hfz28_2); (try clear hfz28_3); (try clear hfz28_4); (try clear hfz32_0); (try clear hfz32_1); (try clear hfz32_2); (try clear hfz32_3); (try clear hfz32_4); (try clear hfz34_0); (try clear hfz34_1); (try clear hfz34_2); (try clear hfz34_3); (try clear hfz34_4); (try clear hfz36_0); (try clear hfz36_1); (try clear hfz36_2); (try clear hfz36_3); (try clear hfz36_4); (try clear hfz38_0); (try clear hfz38_1); (try clear hfz38_2); (try clear hfz38_3); (try clear hfz38_4); (try clear hfz40_0); (try clear hfz40_1); (try clear hfz40_2); (try clear hfz40_3); (try clear hfz40_4)
    obtain ⟨kq, x38_2, rfl, HA, HJ2, BK161, BK162, HB⟩ := hcut
    cases kq with
    | zero => exact absurd HA.out (by simp [deadwoodref09_Fits.j0])
    | succ kj2 =>
      have H := HA.out
      clear HA
      simp only [deadwoodref09_Fits.j0] at H
      by_cases c41 : x38_2 = true
      · subst c41
        have H1 : (some false) = some r := by rw [if_pos rfl] at H; exact H
        clear H
        have H := H1
        clear H1
        obtain rfl := Option.some.inj H
        go_wp2
        go_ret
        exact ⟨by first | rfl | (simp [errW_none, errW_some] <;> rfl) | (simp [*, errW_none, errW_some] <;> rfl), by repeat (first | (with_reducible first | exact HB.out | apply below_alloc | apply pw_below_drewN | apply below_drew1 | refine below_set ?_ GE161.out | refine below_set ?_ GE162.out) | exact HB.out)⟩
      · replace c41 := Bool.eq_false_iff.mpr c41
        subst c41
        have H1 : (if a1_0 = 8 then (some true) else ((deadwoodref09_May.f kj2 a0_0 a0_1 a0_2 a0_3 a0_4).bind fun t163 => (if t163 = true then (if a1_0 = 0 then (if a0_0 = 0 then (some true) else (if a0_0 = 9 then (some true) else (some (decide (a0_0 > 10))))) else (if a1_0 = 1 then (if a0_0 = 1 then (if a1_1 = a0_1 then (if a0_0 = 7 then (if a1_1 > a0_1 then (some false) else (if a0_0 = 8 then (if a1_1 < a0_1 then (some false) else ((deadwoodref09_pair.f a0_0).bind fun t164 => (some t164))) else ((deadwoodref09_pair.f a0_0).bind fun t165 => (some t165)))) else (if a0_0 = 8 then (if a1_1 < a0_1 then (some false) else ((deadwoodref09_pair.f a0_0).bind fun t166 => (some t166))) else ((deadwoodref09_pair.f a0_0).bind fun t167 => (some t167)))) else (some false)) else (if a0_0 = 2 then (if a1_1 = a0_1 then (if a0_0 = 7 then (if a1_1 > a0_1 then (some false) else (if a0_0 = 8 then (if a1_1 < a0_1 then (some false) else ((deadwoodref09_pair.f a0_0).bind fun t168 => (some t168))) else ((deadwoodref09_pair.f a0_0).bind fun t169 => (some t169)))) else (if a0_0 = 8 then (if a1_1 < a0_1 then (some false) else ((deadwoodref09_pair.f a0_0).bind fun t170 => (some t170))) else ((deadwoodref09_pair.f a0_0).bind fun t171 => (some t171)))) else (some false)) else (if a0_0 = 7 then (if a1_1 > a0_1 then (some false) else (if a0_0 = 8 then (if a1_1 < a0_1 then (some false) else ((deadwoodref09_pair.f a0_0).bind fun t172 => (some t172))) else ((deadwoodref09_pair.f a0_0).bind fun t173 => (some t173)))) else (if a0_0 = 8 then (if a1_1 < a0_1 then (some false) else ((deadwoodref09_pair.f a0_0).bind fun t174 => (some t174))) else ((deadwoodref09_pair.f a0_0).bind fun t175 => (some t175)))))) else (if a1_0 = 2 then (if a0_0 = 4 then (some (decide (a1_3 ≥ 0))) else (some false)) else (if a1_0 = 3 then (if a0_0 = 3 then ((deadwoodref09_within.f kj2 l1_4 a0_1 a0_3).bind fun t176 => (if t176 = true then (some (decide ((l1_4.length : Int) ≤ a0_4))) else (some false))) else (some false)) else (if a1_0 = 4 then ((deadwoodref09_pair.f a0_0).bind fun t177 => (some t177)) else (if a1_0 = 5 then (deadwoodref09_Fits.j1 kj2 a1_0 (a1_0 == 5) a0_0 a0_1 a0_2 a0_3 a0_4) else (deadwoodref09_Fits.j1 kj2 a1_0 (a1_0 == 6) a0_0 a0_1 a0_2 a0_3 a0_4))))))) else (some false)))) = some r := by rw [if_neg (show ¬ (false = true) by decide)] at H; exact H
        clear H
        have H := H1
        clear H1
        by_cases c42 : a1_0 = 8
        · rw [if_pos c42] at H
          have c42b0 : (a1_0 == 8) = true := beq_iff_eq.mpr c42
          have c42b1 : (a1_0 != 8) = false := bne_eq_false_iff_eq.mpr c42
          clear c42
          obtain rfl := Option.some.inj H
          have hnb43 := NB162_161.out
          have hnc43 := NB161_162.out
          have hcz44_0 : wc.cell? ⟨gb162, 0, none⟩ = some (.int .i64 a1_0) := (blk_cell BK162.out 0).trans rfl
          have hcz44_1 : wc.cell? ⟨gb162, 1, none⟩ = some (.int .i64 a1_1) := (blk_cell BK162.out 1).trans rfl
          have hcz44_2 : wc.cell? ⟨gb162, 2, none⟩ = some (.int .i64 a1_2) := (blk_cell BK162.out 2).trans rfl
          have hcz44_3 : wc.cell? ⟨gb162, 3, none⟩ = some (.int .i64 a1_3) := (blk_cell BK162.out 3).trans rfl
          have hcz44_4 : wc.cell? ⟨gb162, 4, none⟩ = some (.slice A1_4 l1_4.length c1_4) := (blk_cell BK162.out 4).trans rfl
          have hfz44_0 := blk_frozen BK162.out 0
          have hfz44_1 := blk_frozen BK162.out 1
          have hfz44_2 := blk_frozen BK162.out 2
          have hfz44_3 := blk_frozen BK162.out 3
          have hfz44_4 := blk_frozen BK162.out 4
          go_wp2
          go_ret
          exact ⟨by first | rfl | (simp [errW_none, errW_some] <;> rfl) | (simp [*, errW_none, errW_some] <;> rfl), by repeat (first | (with_reducible first | exact HB.out | apply below_alloc | apply pw_below_drewN | apply below_drew1 | refine below_set ?_ GE161.out | refine below_set ?_ GE162.out) | exact HB.out)⟩
        · rw [if_neg c42] at H
          have c42b0 : (a1_0 == 8) = false := beq_eq_false_iff_ne.mpr c42
          have c42b1 : (a1_0 != 8) = true := bne_iff_ne.mpr c42
          replace H := Option.bind_eq_some_iff.mp H
          obtain ⟨t163, A450, H⟩ := H
          replace H : (if t163 = true then (if a1_0 = 0 then (if a0_0 = 0 then (some true) else (if a0_0 = 9 then (some true) else (some (decide (a0_0 > 10))))) else (if a1_0 = 1 then (if a0_0 = 1 then (if a1_1 = a0_1 then (if a0_0 = 7 then (if a1_1 > a0_1 then (some false) else (if a0_0 = 8 then (if a1_1 < a0_1 then (some false) else ((deadwoodref09_pair.f a0_0).bind fun t164 => (some t164))) else ((deadwoodref09_pair.f a0_0).bind fun t165 => (some t165)))) else (if a0_0 = 8 then (if a1_1 < a0_1 then (some false) else ((deadwoodref09_pair.f a0_0).bind fun t166 => (some t166))) else ((deadwoodref09_pair.f a0_0).bind fun t167 => (some t167)))) else (some false)) else (if a0_0 = 2 then (if a1_1 = a0_1 then (if a0_0 = 7 then (if a1_1 > a0_1 then (some false) else (if a0_0 = 8 then (if a1_1 < a0_1 then (some false) else ((deadwoodref09_pair.f a0_0).bind fun t168 => (some t168))) else ((deadwoodref09_pair.f a0_0).bind fun t169 => (some t169)))) else (if a0_0 = 8 then (if a1_1 < a0_1 then (some false) else ((deadwoodref09_pair.f a0_0).bind fun t170 => (some t170))) else ((deadwoodref09_pair.f a0_0).bind fun t171 => (some t171)))) else (some false)) else (if a0_0 = 7 then (if a1_1 > a0_1 then (some false) else (if a0_0 = 8 then (if a1_1 < a0_1 then (some false) else ((deadwoodref09_pair.f a0_0).bind fun t172 => (some t172))) else ((deadwoodref09_pair.f a0_0).bind fun t173 => (some t173)))) else (if a0_0 = 8 then (if a1_1 < a0_1 then (some false) else ((deadwoodref09_pair.f a0_0).bind fun t174 => (some t174))) else ((deadwoodref09_pair.f a0_0).bind fun t175 => (some t175)))))) else (if a1_0 = 2 then (if a0_0 = 4 then (some (decide (a1_3 ≥ 0))) else (some false)) else (if a1_0 = 3 then (if a0_0 = 3 then ((deadwoodref09_within.f kj2 l1_4 a0_1 a0_3).bind fun t176 => (if t176 = true then (some (decide ((l1_4.length : Int) ≤ a0_4))) else (some false))) else (some false)) else (if a1_0 = 4 then ((deadwoodref09_pair.f a0_0).bind fun t177 => (some t177)) else (if a1_0 = 5 then (deadwoodref09_Fits.j1 kj2 a1_0 (a1_0 == 5) a0_0 a0_1 a0_2 a0_3 a0_4) else (deadwoodref09_Fits.j1 kj2 a1_0 (a1_0 == 6) a0_0 a0_1 a0_2 a0_3 a0_4))))))) else (some false)) = some r := H
          have A45 := Aside0.mk A450
          clear A450
          by_cases c46 : t163 = true
          · subst c46
            have H1 : (if a1_0 = 0 then (if a0_0 = 0 then (some true) else (if a0_0 = 9 then (some true) else (some (decide (a0_0 > 10))))) else (if a1_0 = 1 then (if a0_0 = 1 then (if a1_1 = a0_1 then (if a0_0 = 7 then (if a1_1 > a0_1 then (some false) else (if a0_0 = 8 then (if a1_1 < a0_1 then (some false) else ((deadwoodref09_pair.f a0_0).bind fun t164 => (some t164))) else ((deadwoodref09_pair.f a0_0).bind fun t165 => (some t165)))) else (if a0_0 = 8 then (if a1_1 < a0_1 then (some false) else ((deadwoodref09_pair.f a0_0).bind fun t166 => (some t166))) else ((deadwoodref09_pair.f a0_0).bind fun t167 => (some t167)))) else (some false)) else (if a0_0 = 2 then (if a1_1 = a0_1 then (if a0_0 = 7 then (if a1_1 > a0_1 then (some false) else (if a0_0 = 8 then (if a1_1 < a0_1 then (some false) else ((deadwoodref09_pair.f a0_0).bind fun t168 => (some t168))) else ((deadwoodref09_pair.f a0_0).bind fun t169 => (some t169)))) else (if a0_0 = 8 then (if a1_1 < a0_1 then (some false) else ((deadwoodref09_pair.f a0_0).bind fun t170 => (some t170))) else ((deadwoodref09_pair.f a0_0).bind fun t171 => (some t171)))) else (some false)) else (if a0_0 = 7 then (if a1_1 > a0_1 then (some false) else (if a0_0 = 8 then (if a1_1 < a0_1 then (some false) else ((deadwoodref09_pair.f a0_0).bind fun t172 => (some t172))) else ((deadwoodref09_pair.f a0_0).bind fun t173 => (some t173)))) else (if a0_0 = 8 then (if a1_1 < a0_1 then (some false) else ((deadwoodref09_pair.f a0_0).bind fun t174 => (some t174))) else ((deadwoodref09_pair.f a0_0).bind fun t175 => (some t175)))))) else (if a1_0 = 2 then (if a0_0 = 4 then (some (decide (a1_3 ≥ 0))) else (some false)) else (if a1_0 = 3 then (if a0_0 = 3 then ((deadwoodref09_within.f kj2 l1_4 a0_1 a0_3).bind fun t176 => (if t176 = true then (some (decide ((l1_4.length : Int) ≤ a0_4))) else (some false))) else (some false)) else (if a1_0 = 4 then ((deadwoodref09_pair.f a0_0).bind fun t177 => (some t177)) else (if a1_0 = 5 then (deadwoodref09_Fits.j1 kj2 a1_0 (a1_0 == 5) a0_0 a0_1 a0_2 a0_3 a0_4) else (deadwoodref09_Fits.j1 kj2 a1_0 (a1_0 == 6) a0_0 a0_1 a0_2 a0_3 a0_4))))))) = some r := by rw [if_pos rfl] at H; exact H
            clear H
            have H := H1
            clear H1
            by_cases c47 : a1_0 = 0
            · rw [if_pos c47] at H
              have c47b0 : (a1_0 == 0) = true := beq_iff_eq.mpr c47
              have c47b1 : (a1_0 != 0) = false := bne_eq_false_iff_eq.mpr c47
              clear c47
              by_cases c48 : a0_0 = 0
              · rw [if_pos c48] at H
                have c48b0 : (a0_0 == 0) = true := beq_iff_eq.mpr c48
                have c48b1 : (a0_0 != 0) = false := bne_eq_false_iff_eq.mpr c48
                clear c48
                obtain rfl := Option.some.inj H
                have hnb49 := NB162_161.out
                have hnc49 := NB161_162.out
                have hcz50_0 : wc.cell? ⟨gb162, 0, none⟩ = some (.int .i64 a1_0) := (blk_cell BK162.out 0).trans rfl
                have hcz50_1 : wc.cell? ⟨gb162, 1, none⟩ = some (.int .i64 a1_1) := (blk_cell BK162.out 1).trans rfl
                have hcz50_2 : wc.cell? ⟨gb162, 2, none⟩ = some (.int .i64 a1_2) := (blk_cell BK162.out 2).trans rfl
                have hcz50_3 : wc.cell? ⟨gb162, 3, none⟩ = some (.int .i64 a1_3) := (blk_cell BK162.out 3).trans rfl
                have hcz50_4 : wc.cell? ⟨gb162, 4, none⟩ = some (.slice A1_4 l1_4.length c1_4) := (blk_cell BK162.out 4).trans rfl
                have hfz50_0 := blk_frozen BK162.out 0
                have hfz50_1 := blk_frozen BK162.out 1
                have hfz50_2 := blk_frozen BK162.out 2
                have hfz50_3 := blk_frozen BK162.out 3
                have hfz50_4 := blk_frozen BK162.out 4
                have hcz51_0 : wc.cell? ⟨gb161, 0, none⟩ = some (.int .i64 a0_0) := (blk_cell BK161.out 0).trans rfl
                have hcz51_1 : wc.cell? ⟨gb161, 1, none⟩ = some (.int .i64 a0_1) := (blk_cell BK161.out 1).trans rfl
                have hcz51_2 : wc.cell? ⟨gb161, 2, none⟩ = some (.int .i64 a0_2) := (blk_cell BK161.out 2).trans rfl
                have hcz51_3 : wc.cell? ⟨gb161, 3, none⟩ = some (.int .i64 a0_3) := (blk_cell BK161.out 3).trans rfl
                have hcz51_4 : wc.cell? ⟨gb161, 4, none⟩ = some (.int .i64 a0_4) := (blk_cell BK161.out 4).trans rfl
                have hfz51_0 := blk_frozen BK161.out 0
                have hfz51_1 := blk_frozen BK161.out 1
                have hfz51_2 := blk_frozen BK161.out 2
                have hfz51_3 := blk_frozen BK161.out 3
                have hfz51_4 := blk_frozen BK161.out 4
                go_wp2_with (first | ((with_reducible refine gate_callee (f := 31) rfl ?_); refine goesL_ (some 43) rfl rfl Try.func31 (by kernel_rfl) rfl #[.agg #[.int .i64 a0_0, .int .i64 a0_1, .int .i64 a0_2, .int .i64 a0_3, .int .i64 a0_4]] rfl (by (try simp only [List.map_toArray, List.map_cons, List.map_nil]); first | done | rfl | (simp only [List.length_drop, List.length_take]; rfl)) ?_; (with_reducible refine (deadwoodref09_May.calls kj2 a0_0 a0_1 a0_2 a0_3 a0_4 true _ A45.out).mono ?_); rintro e w52 ⟨rfl, hb⟩; refine ⟨_, rfl, ?_⟩; have n0_ := Aside0.mk (blk_below (g := gb161) (o := .cells #[.int .i64 a0_0, .int .i64 a0_1, .int .i64 a0_2, .int .i64 a0_3, .int .i64 a0_4] 38 (0, 0)) (by (with_reducible repeat (first | refine blk_drewN ?_ _ | refine blk_drew ?_ | refine blk_alloc ?_ _)); exact BK161.out) hb); have n1_ := Aside0.mk (blk_below (g := gb162) (o := .cells #[.int .i64 a1_0, .int .i64 a1_1, .int .i64 a1_2, .int .i64 a1_3, .slice A1_4 l1_4.length c1_4] 41 (0, 0)) (by (with_reducible repeat (first | refine blk_drewN ?_ _ | refine blk_drew ?_ | refine blk_alloc ?_ _)); exact BK162.out) hb); have n2_ := Aside0.mk (below_step (by repeat (first | (with_reducible first | exact HB.out | apply below_alloc | apply pw_below_drewN | apply below_drew1 | refine below_set ?_ GE161.out | refine below_set ?_ GE162.out) | exact HB.out)) hb); clear BK161; clear BK162; clear HB; have BK161 := n0_; have BK162 := n1_; have HB := n2_; clear n0_ n1_ n2_; (try clear hb); (try clear hb2); (try clear hk); (try clear hi); have hcz53_0 : w52.cell? ⟨gb162, 0, none⟩ = some (.int .i64 a1_0) := (blk_cell BK162.out 0).trans rfl; have hcz53_1 : w52.cell? ⟨gb162, 1, none⟩ = some (.int .i64 a1_1) := (blk_cell BK162.out 1).trans rfl; have hcz53_2 : w52.cell? ⟨gb162, 2, none⟩ = some (.int .i64 a1_2) := (blk_cell BK162.out 2).trans rfl; have hcz53_3 : w52.cell? ⟨gb162, 3, none⟩ = some (.int .i64 a1_3) := (blk_cell BK162.out 3).trans rfl; have hcz53_4 : w52.cell? ⟨gb162, 4, none⟩ = some (.slice A1_4 l1_4.length c1_4) := (blk_cell BK162.out 4).trans rfl; have hfz53_0 := blk_frozen BK162.out 0; have hfz53_1 := blk_frozen BK162.out 1; have hfz53_2 := blk_frozen BK162.out 2; have hfz53_3 := blk_frozen BK162.out 3; have hfz53_4 := blk_frozen BK162.out 4; have hcz54_0 : w52.cell? ⟨gb161, 0, none⟩ = some (.int .i64 a0_0) := (blk_cell BK161.out 0).trans rfl; have hcz54_1 : w52.cell? ⟨gb161, 1, none⟩ = some (.int .i64 a0_1) := (blk_cell BK161.out 1).trans rfl; have hcz54_2 : w52.cell? ⟨gb161, 2, none⟩ = some (.int .i64 a0_2) := (blk_cell BK161.out 2).trans rfl; have hcz54_3 : w52.cell? ⟨gb161, 3, none⟩ = some (.int .i64 a0_3) := (blk_cell BK161.out 3).trans rfl; have hcz54_4 : w52.cell? ⟨gb161, 4, none⟩ = some (.int .i64 a0_4) := (blk_cell BK161.out 4).trans rfl; have hfz54_0 := blk_frozen BK161.out 0; have hfz54_1 := blk_frozen BK161.out 1; have hfz54_2 := blk_frozen BK161.out 2; have hfz54_3 := blk_frozen BK161.out 3; have hfz54_4 := blk_frozen BK161.out 4))
                go_ret
                exact ⟨by first | rfl | (simp [errW_none, errW_some] <;> rfl) | (simp [*, errW_none, errW_some] <;> rfl), by repeat (first | (with_reducible first | exact HB.out | apply below_alloc | apply pw_below_drewN | apply below_drew1 | refine below_set ?_ GE161.out | refine below_set ?_ GE162.out) | exact HB.out)⟩
              · rw [if_neg c48] at H
                have c48b0 : (a0_0 == 0) = false := beq_eq_false_iff_ne.mpr c48
                have c48b1 : (a0_0 != 0) = true := bne_iff_ne.mpr c48
                by_cases c55 : a0_0 = 9
                · rw [if_pos c55] at H
                  have c55b0 : (a0_0 == 9) = true := beq_iff_eq.mpr c55
                  have c55b1 : (a0_0 != 9) = false := bne_eq_false_iff_eq.mpr c55
                  clear c55
                  obtain rfl := Option.some.inj H
                  have hnb56 := NB162_161.out
                  have hnc56 := NB161_162.out
                  have hcz57_0 : wc.cell? ⟨gb162, 0, none⟩ = some (.int .i64 a1_0) := (blk_cell BK162.out 0).trans rfl
                  have hcz57_1 : wc.cell? ⟨gb162, 1, none⟩ = some (.int .i64 a1_1) := (blk_cell BK162.out 1).trans rfl
                  have hcz57_2 : wc.cell? ⟨gb162, 2, none⟩ = some (.int .i64 a1_2) := (blk_cell BK162.out 2).trans rfl
                  have hcz57_3 : wc.cell? ⟨gb162, 3, none⟩ = some (.int .i64 a1_3) := (blk_cell BK162.out 3).trans rfl
                  have hcz57_4 : wc.cell? ⟨gb162, 4, none⟩ = some (.slice A1_4 l1_4.length c1_4) := (blk_cell BK162.out 4).trans rfl
                  have hfz57_0 := blk_frozen BK162.out 0
                  have hfz57_1 := blk_frozen BK162.out 1
                  have hfz57_2 := blk_frozen BK162.out 2
                  have hfz57_3 := blk_frozen BK162.out 3
                  have hfz57_4 := blk_frozen BK162.out 4
                  have hcz58_0 : wc.cell? ⟨gb161, 0, none⟩ = some (.int .i64 a0_0) := (blk_cell BK161.out 0).trans rfl
                  have hcz58_1 : wc.cell? ⟨gb161, 1, none⟩ = some (.int .i64 a0_1) := (blk_cell BK161.out 1).trans rfl
                  have hcz58_2 : wc.cell? ⟨gb161, 2, none⟩ = some (.int .i64 a0_2) := (blk_cell BK161.out 2).trans rfl
                  have hcz58_3 : wc.cell? ⟨gb161, 3, none⟩ = some (.int .i64 a0_3) := (blk_cell BK161.out 3).trans rfl
                  have hcz58_4 : wc.cell? ⟨gb161, 4, none⟩ = some (.int .i64 a0_4) := (blk_cell BK161.out 4).trans rfl
                  have hfz58_0 := blk_frozen BK161.out 0
                  have hfz58_1 := blk_frozen BK161.out 1
                  have hfz58_2 := blk_frozen BK161.out 2
                  have hfz58_3 := blk_frozen BK161.out 3
                  have hfz58_4 := blk_frozen BK161.out 4
                  go_wp2_with (first | ((with_reducible refine gate_callee (f := 31) rfl ?_); refine goesL_ (some 43) rfl rfl Try.func31 (by kernel_rfl) rfl #[.agg #[.int .i64 a0_0, .int .i64 a0_1, .int .i64 a0_2, .int .i64 a0_3, .int .i64 a0_4]] rfl (by (try simp only [List.map_toArray, List.map_cons, List.map_nil]); first | done | rfl | (simp only [List.length_drop, List.length_take]; rfl)) ?_; (with_reducible refine (deadwoodref09_May.calls kj2 a0_0 a0_1 a0_2 a0_3 a0_4 true _ A45.out).mono ?_); rintro e w59 ⟨rfl, hb⟩; refine ⟨_, rfl, ?_⟩; have n0_ := Aside0.mk (blk_below (g := gb161) (o := .cells #[.int .i64 a0_0, .int .i64 a0_1, .int .i64 a0_2, .int .i64 a0_3, .int .i64 a0_4] 38 (0, 0)) (by (with_reducible repeat (first | refine blk_drewN ?_ _ | refine blk_drew ?_ | refine blk_alloc ?_ _)); exact BK161.out) hb); have n1_ := Aside0.mk (blk_below (g := gb162) (o := .cells #[.int .i64 a1_0, .int .i64 a1_1, .int .i64 a1_2, .int .i64 a1_3, .slice A1_4 l1_4.length c1_4] 41 (0, 0)) (by (with_reducible repeat (first | refine blk_drewN ?_ _ | refine blk_drew ?_ | refine blk_alloc ?_ _)); exact BK162.out) hb); have n2_ := Aside0.mk (below_step (by repeat (first | (with_reducible first | exact HB.out | apply below_alloc | apply pw_below_drewN | apply below_drew1 | refine below_set ?_ GE161.out | refine below_set ?_ GE162.out) | exact HB.out)) hb); clear BK161; clear BK162; clear HB; have BK161 := n0_; have BK162 := n1_; have HB := n2_; clear n0_ n1_ n2_; (try clear hb); (try clear hb2); (try clear hk); (try clear hi); have hcz60_0 : w59.cell? ⟨gb162, 0, none⟩ = some (.int .i64 a1_0) := (blk_cell BK162.out 0).trans rfl; have hcz60_1 : w59.cell? ⟨gb162, 1, none⟩ = some (.int .i64 a1_1) := (blk_cell BK162.out 1).trans rfl; have hcz60_2 : w59.cell? ⟨gb162, 2, none⟩ = some (.int .i64 a1_2) := (blk_cell BK162.out 2).trans rfl; have hcz60_3 : w59.cell? ⟨gb162, 3, none⟩ = some (.int .i64 a1_3) := (blk_cell BK162.out 3).trans rfl; have hcz60_4 : w59.cell? ⟨gb162, 4, none⟩ = some (.slice A1_4 l1_4.length c1_4) := (blk_cell BK162.out 4).trans rfl; have hfz60_0 := blk_frozen BK162.out 0; have hfz60_1 := blk_frozen BK162.out 1; have hfz60_2 := blk_frozen BK162.out 2; have hfz60_3 := blk_frozen BK162.out 3; have hfz60_4 := blk_frozen BK162.out 4; have hcz61_0 : w59.cell? ⟨gb161, 0, none⟩ = some (.int .i64 a0_0) := (blk_cell BK161.out 0).trans rfl; have hcz61_1 : w59.cell? ⟨gb161, 1, none⟩ = some (.int .i64 a0_1) := (blk_cell BK161.out 1).trans rfl; have hcz61_2 : w59.cell? ⟨gb161, 2, none⟩ = some (.int .i64 a0_2) := (blk_cell BK161.out 2).trans rfl; have hcz61_3 : w59.cell? ⟨gb161, 3, none⟩ = some (.int .i64 a0_3) := (blk_cell BK161.out 3).trans rfl; have hcz61_4 : w59.cell? ⟨gb161, 4, none⟩ = some (.int .i64 a0_4) := (blk_cell BK161.out 4).trans rfl; have hfz61_0 := blk_frozen BK161.out 0; have hfz61_1 := blk_frozen BK161.out 1; have hfz61_2 := blk_frozen BK161.out 2; have hfz61_3 := blk_frozen BK161.out 3; have hfz61_4 := blk_frozen BK161.out 4))
                  go_ret
                  exact ⟨by first | rfl | (simp [errW_none, errW_some] <;> rfl) | (simp [*, errW_none, errW_some] <;> rfl), by repeat (first | (with_reducible first | exact HB.out | apply below_alloc | apply pw_below_drewN | apply below_drew1 | refine below_set ?_ GE161.out | refine below_set ?_ GE162.out) | exact HB.out)⟩
                · rw [if_neg c55] at H
                  have c55b0 : (a0_0 == 9) = false := beq_eq_false_iff_ne.mpr c55
                  have c55b1 : (a0_0 != 9) = true := bne_iff_ne.mpr c55
                  obtain rfl := Option.some.inj H
                  have hnb62 := NB162_161.out
                  have hnc62 := NB161_162.out
                  have hcz63_0 : wc.cell? ⟨gb162, 0, none⟩ = some (.int .i64 a1_0) := (blk_cell BK162.out 0).trans rfl
                  have hcz63_1 : wc.cell? ⟨gb162, 1, none⟩ = some (.int .i64 a1_1) := (blk_cell BK162.out 1).trans rfl
                  have hcz63_2 : wc.cell? ⟨gb162, 2, none⟩ = some (.int .i64 a1_2) := (blk_cell BK162.out 2).trans rfl
                  have hcz63_3 : wc.cell? ⟨gb162, 3, none⟩ = some (.int .i64 a1_3) := (blk_cell BK162.out 3).trans rfl
                  have hcz63_4 : wc.cell? ⟨gb162, 4, none⟩ = some (.slice A1_4 l1_4.length c1_4) := (blk_cell BK162.out 4).trans rfl
                  have hfz63_0 := blk_frozen BK162.out 0
                  have hfz63_1 := blk_frozen BK162.out 1
                  have hfz63_2 := blk_frozen BK162.out 2
                  have hfz63_3 := blk_frozen BK162.out 3
                  have hfz63_4 := blk_frozen BK162.out 4
                  have hcz64_0 : wc.cell? ⟨gb161, 0, none⟩ = some (.int .i64 a0_0) := (blk_cell BK161.out 0).trans rfl
                  have hcz64_1 : wc.cell? ⟨gb161, 1, none⟩ = some (.int .i64 a0_1) := (blk_cell BK161.out 1).trans rfl
                  have hcz64_2 : wc.cell? ⟨gb161, 2, none⟩ = some (.int .i64 a0_2) := (blk_cell BK161.out 2).trans rfl
                  have hcz64_3 : wc.cell? ⟨gb161, 3, none⟩ = some (.int .i64 a0_3) := (blk_cell BK161.out 3).trans rfl
                  have hcz64_4 : wc.cell? ⟨gb161, 4, none⟩ = some (.int .i64 a0_4) := (blk_cell BK161.out 4).trans rfl
                  have hfz64_0 := blk_frozen BK161.out 0
                  have hfz64_1 := blk_frozen BK161.out 1
                  have hfz64_2 := blk_frozen BK161.out 2
                  have hfz64_3 := blk_frozen BK161.out 3
                  have hfz64_4 := blk_frozen BK161.out 4
                  go_wp2_with (first | ((with_reducible refine gate_callee (f := 31) rfl ?_); refine goesL_ (some 43) rfl rfl Try.func31 (by kernel_rfl) rfl #[.agg #[.int .i64 a0_0, .int .i64 a0_1, .int .i64 a0_2, .int .i64 a0_3, .int .i64 a0_4]] rfl (by (try simp only [List.map_toArray, List.map_cons, List.map_nil]); first | done | rfl | (simp only [List.length_drop, List.length_take]; rfl)) ?_; (with_reducible refine (deadwoodref09_May.calls kj2 a0_0 a0_1 a0_2 a0_3 a0_4 true _ A45.out).mono ?_); rintro e w65 ⟨rfl, hb⟩; refine ⟨_, rfl, ?_⟩; have n0_ := Aside0.mk (blk_below (g := gb161) (o := .cells #[.int .i64 a0_0, .int .i64 a0_1, .int .i64 a0_2, .int .i64 a0_3, .int .i64 a0_4] 38 (0, 0)) (by (with_reducible repeat (first | refine blk_drewN ?_ _ | refine blk_drew ?_ | refine blk_alloc ?_ _)); exact BK161.out) hb); have n1_ := Aside0.mk (blk_below (g := gb162) (o := .cells #[.int .i64 a1_0, .int .i64 a1_1, .int .i64 a1_2, .int .i64 a1_3, .slice A1_4 l1_4.length c1_4] 41 (0, 0)) (by (with_reducible repeat (first | refine blk_drewN ?_ _ | refine blk_drew ?_ | refine blk_alloc ?_ _)); exact BK162.out) hb); have n2_ := Aside0.mk (below_step (by repeat (first | (with_reducible first | exact HB.out | apply below_alloc | apply pw_below_drewN | apply below_drew1 | refine below_set ?_ GE161.out | refine below_set ?_ GE162.out) | exact HB.out)) hb); clear BK161; clear BK162; clear HB; have BK161 := n0_; have BK162 := n1_; have HB := n2_; clear n0_ n1_ n2_; (try clear hb); (try clear hb2); (try clear hk); (try clear hi); have hcz66_0 : w65.cell? ⟨gb162, 0, none⟩ = some (.int .i64 a1_0) := (blk_cell BK162.out 0).trans rfl; have hcz66_1 : w65.cell? ⟨gb162, 1, none⟩ = some (.int .i64 a1_1) := (blk_cell BK162.out 1).trans rfl; have hcz66_2 : w65.cell? ⟨gb162, 2, none⟩ = some (.int .i64 a1_2) := (blk_cell BK162.out 2).trans rfl; have hcz66_3 : w65.cell? ⟨gb162, 3, none⟩ = some (.int .i64 a1_3) := (blk_cell BK162.out 3).trans rfl; have hcz66_4 : w65.cell? ⟨gb162, 4, none⟩ = some (.slice A1_4 l1_4.length c1_4) := (blk_cell BK162.out 4).trans rfl; have hfz66_0 := blk_frozen BK162.out 0; have hfz66_1 := blk_frozen BK162.out 1; have hfz66_2 := blk_frozen BK162.out 2; have hfz66_3 := blk_frozen BK162.out 3; have hfz66_4 := blk_frozen BK162.out 4; have hcz67_0 : w65.cell? ⟨gb161, 0, none⟩ = some (.int .i64 a0_0) := (blk_cell BK161.out 0).trans rfl; have hcz67_1 : w65.cell? ⟨gb161, 1, none⟩ = some (.int .i64 a0_1) := (blk_cell BK161.out 1).trans rfl; have hcz67_2 : w65.cell? ⟨gb161, 2, none⟩ = some (.int .i64 a0_2) := (blk_cell BK161.out 2).trans rfl; have hcz67_3 : w65.cell? ⟨gb161, 3, none⟩ = some (.int .i64 a0_3) := (blk_cell BK161.out 3).trans rfl; have hcz67_4 : w65.cell? ⟨gb161, 4, none⟩ = some (.int .i64 a0_4) := (blk_cell BK161.out 4).trans rfl; have hfz67_0 := blk_frozen BK161.out 0; have hfz67_1 := blk_frozen BK161.out 1; have hfz67_2 := blk_frozen BK161.out 2; have hfz67_3 := blk_frozen BK161.out 3; have hfz67_4 := blk_frozen BK161.out 4))
                  go_ret
                  exact ⟨by first | rfl | (simp [errW_none, errW_some] <;> rfl) | (simp [*, errW_none, errW_some] <;> rfl), by repeat (first | (with_reducible first | exact HB.out | apply below_alloc | apply pw_below_drewN | apply below_drew1 | refine below_set ?_ GE161.out | refine below_set ?_ GE162.out) | exact HB.out)⟩
            · rw [if_neg c47] at H
              have c47b0 : (a1_0 == 0) = false := beq_eq_false_iff_ne.mpr c47
              have c47b1 : (a1_0 != 0) = true := bne_iff_ne.mpr c47
              by_cases c68 : a1_0 = 1
              · rw [if_pos c68] at H
                have c68b0 : (a1_0 == 1) = true := beq_iff_eq.mpr c68
                have c68b1 : (a1_0 != 1) = false := bne_eq_false_iff_eq.mpr c68
                clear c68
                by_cases c69 : a0_0 = 1
                · rw [if_pos c69] at H
                  have c69b0 : (a0_0 == 1) = true := beq_iff_eq.mpr c69
                  have c69b1 : (a0_0 != 1) = false := bne_eq_false_iff_eq.mpr c69
                  clear c69
                  by_cases c70 : a1_1 = a0_1
                  · rw [if_pos c70] at H
                    have c70b0 : (a1_1 == a0_1) = true := beq_iff_eq.mpr c70
                    have c70b1 : (a1_1 != a0_1) = false := bne_eq_false_iff_eq.mpr c70
                    clear c70
                    by_cases c71 : a0_0 = 7
                    · rw [if_pos c71] at H
                      have c71b0 : (a0_0 == 7) = true := beq_iff_eq.mpr c71
                      have c71b1 : (a0_0 != 7) = false := bne_eq_false_iff_eq.mpr c71
                      clear c71
                      by_cases c72 : a1_1 > a0_1
                      · rw [if_pos c72] at H
                        have c72b0 : decide (a0_1 < a1_1) = true := decide_eq_true c72
                        clear c72
                        obtain rfl := Option.some.inj H
                        have hnb73 := NB162_161.out
                        have hnc73 := NB161_162.out
                        have hcz74_0 : wc.cell? ⟨gb162, 0, none⟩ = some (.int .i64 a1_0) := (blk_cell BK162.out 0).trans rfl
                        have hcz74_1 : wc.cell? ⟨gb162, 1, none⟩ = some (.int .i64 a1_1) := (blk_cell BK162.out 1).trans rfl
                        have hcz74_2 : wc.cell? ⟨gb162, 2, none⟩ = some (.int .i64 a1_2) := (blk_cell BK162.out 2).trans rfl
                        have hcz74_3 : wc.cell? ⟨gb162, 3, none⟩ = some (.int .i64 a1_3) := (blk_cell BK162.out 3).trans rfl
                        have hcz74_4 : wc.cell? ⟨gb162, 4, none⟩ = some (.slice A1_4 l1_4.length c1_4) := (blk_cell BK162.out 4).trans rfl
                        have hfz74_0 := blk_frozen BK162.out 0
                        have hfz74_1 := blk_frozen BK162.out 1
                        have hfz74_2 := blk_frozen BK162.out 2
                        have hfz74_3 := blk_frozen BK162.out 3
                        have hfz74_4 := blk_frozen BK162.out 4
                        have hcz75_0 : wc.cell? ⟨gb161, 0, none⟩ = some (.int .i64 a0_0) := (blk_cell BK161.out 0).trans rfl
                        have hcz75_1 : wc.cell? ⟨gb161, 1, none⟩ = some (.int .i64 a0_1) := (blk_cell BK161.out 1).trans rfl
                        have hcz75_2 : wc.cell? ⟨gb161, 2, none⟩ = some (.int .i64 a0_2) := (blk_cell BK161.out 2).trans rfl
                        have hcz75_3 : wc.cell? ⟨gb161, 3, none⟩ = some (.int .i64 a0_3) := (blk_cell BK161.out 3).trans rfl
                        have hcz75_4 : wc.cell? ⟨gb161, 4, none⟩ = some (.int .i64 a0_4) := (blk_cell BK161.out 4).trans rfl
                        have hfz75_0 := blk_frozen BK161.out 0
                        have hfz75_1 := blk_frozen BK161.out 1
                        have hfz75_2 := blk_frozen BK161.out 2
                        have hfz75_3 := blk_frozen BK161.out 3
                        have hfz75_4 := blk_frozen BK161.out 4
                        go_wp2_with (first | ((with_reducible refine gate_callee (f := 31) rfl ?_); refine goesL_ (some 43) rfl rfl Try.func31 (by kernel_rfl) rfl #[.agg #[.int .i64 a0_0, .int .i64 a0_1, .int .i64 a0_2, .int .i64 a0_3, .int .i64 a0_4]] rfl (by (try simp only [List.map_toArray, List.map_cons, List.map_nil]); first | done | rfl | (simp only [List.length_drop, List.length_take]; rfl)) ?_; (with_reducible refine (deadwoodref09_May.calls kj2 a0_0 a0_1 a0_2 a0_3 a0_4 true _ A45.out).mono ?_); rintro e w76 ⟨rfl, hb⟩; refine ⟨_, rfl, ?_⟩; have n0_ := Aside0.mk (blk_below (g := gb161) (o := .cells #[.int .i64 a0_0, .int .i64 a0_1, .int .i64 a0_2, .int .i64 a0_3, .int .i64 a0_4] 38 (0, 0)) (by (with_reducible repeat (first | refine blk_drewN ?_ _ | refine blk_drew ?_ | refine blk_alloc ?_ _)); exact BK161.out) hb); have n1_ := Aside0.mk (blk_below (g := gb162) (o := .cells #[.int .i64 a1_0, .int .i64 a1_1, .int .i64 a1_2, .int .i64 a1_3, .slice A1_4 l1_4.length c1_4] 41 (0, 0)) (by (with_reducible repeat (first | refine blk_drewN ?_ _ | refine blk_drew ?_ | refine blk_alloc ?_ _)); exact BK162.out) hb); have n2_ := Aside0.mk (below_step (by repeat (first | (with_reducible first | exact HB.out | apply below_alloc | apply pw_below_drewN | apply below_drew1 | refine below_set ?_ GE161.out | refine below_set ?_ GE162.out) | exact HB.out)) hb); clear BK161; clear BK162; clear HB; have BK161 := n0_; have BK162 := n1_; have HB := n2_; clear n0_ n1_ n2_; (try clear hb); (try clear hb2); (try clear hk); (try clear hi); have hcz77_0 : w76.cell? ⟨gb162, 0, none⟩ = some (.int .i64 a1_0) := (blk_cell BK162.out 0).trans rfl; have hcz77_1 : w76.cell? ⟨gb162, 1, none⟩ = some (.int .i64 a1_1) := (blk_cell BK162.out 1).trans rfl; have hcz77_2 : w76.cell? ⟨gb162, 2, none⟩ = some (.int .i64 a1_2) := (blk_cell BK162.out 2).trans rfl; have hcz77_3 : w76.cell? ⟨gb162, 3, none⟩ = some (.int .i64 a1_3) := (blk_cell BK162.out 3).trans rfl; have hcz77_4 : w76.cell? ⟨gb162, 4, none⟩ = some (.slice A1_4 l1_4.length c1_4) := (blk_cell BK162.out 4).trans rfl; have hfz77_0 := blk_frozen BK162.out 0; have hfz77_1 := blk_frozen BK162.out 1; have hfz77_2 := blk_frozen BK162.out 2; have hfz77_3 := blk_frozen BK162.out 3; have hfz77_4 := blk_frozen BK162.out 4; have hcz78_0 : w76.cell? ⟨gb161, 0, none⟩ = some (.int .i64 a0_0) := (blk_cell BK161.out 0).trans rfl; have hcz78_1 : w76.cell? ⟨gb161, 1, none⟩ = some (.int .i64 a0_1) := (blk_cell BK161.out 1).trans rfl; have hcz78_2 : w76.cell? ⟨gb161, 2, none⟩ = some (.int .i64 a0_2) := (blk_cell BK161.out 2).trans rfl; have hcz78_3 : w76.cell? ⟨gb161, 3, none⟩ = some (.int .i64 a0_3) := (blk_cell BK161.out 3).trans rfl; have hcz78_4 : w76.cell? ⟨gb161, 4, none⟩ = some (.int .i64 a0_4) := (blk_cell BK161.out 4).trans rfl; have hfz78_0 := blk_frozen BK161.out 0; have hfz78_1 := blk_frozen BK161.out 1; have hfz78_2 := blk_frozen BK161.out 2; have hfz78_3 := blk_frozen BK161.out 3; have hfz78_4 := blk_frozen BK161.out 4))
                        go_ret
                        exact ⟨by first | rfl | (simp [errW_none, errW_some] <;> rfl) | (simp [*, errW_none, errW_some] <;> rfl), by repeat (first | (with_reducible first | exact HB.out | apply below_alloc | apply pw_below_drewN | apply below_drew1 | refine below_set ?_ GE161.out | refine below_set ?_ GE162.out) | exact HB.out)⟩
                      · rw [if_neg c72] at H
                        have c72b0 : decide (a0_1 < a1_1) = false := decide_eq_false c72
                        clear c72
                        by_cases c79 : a0_0 = 8
                        · rw [if_pos c79] at H
                          have c79b0 : (a0_0 == 8) = true := beq_iff_eq.mpr c79
                          have c79b1 : (a0_0 != 8) = false := bne_eq_false_iff_eq.mpr c79
                          clear c79
                          by_cases c80 : a1_1 < a0_1
                          · rw [if_pos c80] at H
                            have c80b0 : decide (a1_1 < a0_1) = true := decide_eq_true c80
                            clear c80
                            obtain rfl := Option.some.inj H
                            have hnb81 := NB162_161.out
                            have hnc81 := NB161_162.out
                            have hcz82_0 : wc.cell? ⟨gb162, 0, none⟩ = some (.int .i64 a1_0) := (blk_cell BK162.out 0).trans rfl
                            have hcz82_1 : wc.cell? ⟨gb162, 1, none⟩ = some (.int .i64 a1_1) := (blk_cell BK162.out 1).trans rfl
                            have hcz82_2 : wc.cell? ⟨gb162, 2, none⟩ = some (.int .i64 a1_2) := (blk_cell BK162.out 2).trans rfl
                            have hcz82_3 : wc.cell? ⟨gb162, 3, none⟩ = some (.int .i64 a1_3) := (blk_cell BK162.out 3).trans rfl
                            have hcz82_4 : wc.cell? ⟨gb162, 4, none⟩ = some (.slice A1_4 l1_4.length c1_4) := (blk_cell BK162.out 4).trans rfl
                            have hfz82_0 := blk_frozen BK162.out 0
                            have hfz82_1 := blk_frozen BK162.out 1
                            have hfz82_2 := blk_frozen BK162.out 2
                            have hfz82_3 := blk_frozen BK162.out 3
                            have hfz82_4 := blk_frozen BK162.out 4
                            have hcz83_0 : wc.cell? ⟨gb161, 0, none⟩ = some (.int .i64 a0_0) := (blk_cell BK161.out 0).trans rfl
                            have hcz83_1 : wc.cell? ⟨gb161, 1, none⟩ = some (.int .i64 a0_1) := (blk_cell BK161.out 1).trans rfl
                            have hcz83_2 : wc.cell? ⟨gb161, 2, none⟩ = some (.int .i64 a0_2) := (blk_cell BK161.out 2).trans rfl
                            have hcz83_3 : wc.cell? ⟨gb161, 3, none⟩ = some (.int .i64 a0_3) := (blk_cell BK161.out 3).trans rfl
                            have hcz83_4 : wc.cell? ⟨gb161, 4, none⟩ = some (.int .i64 a0_4) := (blk_cell BK161.out 4).trans rfl
                            have hfz83_0 := blk_frozen BK161.out 0
                            have hfz83_1 := blk_frozen BK161.out 1
                            have hfz83_2 := blk_frozen BK161.out 2
                            have hfz83_3 := blk_frozen BK161.out 3
                            have hfz83_4 := blk_frozen BK161.out 4
                            go_wp2_with (first | ((with_reducible refine gate_callee (f := 31) rfl ?_); refine goesL_ (some 43) rfl rfl Try.func31 (by kernel_rfl) rfl #[.agg #[.int .i64 a0_0, .int .i64 a0_1, .int .i64 a0_2, .int .i64 a0_3, .int .i64 a0_4]] rfl (by (try simp only [List.map_toArray, List.map_cons, List.map_nil]); first | done | rfl | (simp only [List.length_drop, List.length_take]; rfl)) ?_; (with_reducible refine (deadwoodref09_May.calls kj2 a0_0 a0_1 a0_2 a0_3 a0_4 true _ A45.out).mono ?_); rintro e w84 ⟨rfl, hb⟩; refine ⟨_, rfl, ?_⟩; have n0_ := Aside0.mk (blk_below (g := gb161) (o := .cells #[.int .i64 a0_0, .int .i64 a0_1, .int .i64 a0_2, .int .i64 a0_3, .int .i64 a0_4] 38 (0, 0)) (by (with_reducible repeat (first | refine blk_drewN ?_ _ | refine blk_drew ?_ | refine blk_alloc ?_ _)); exact BK161.out) hb); have n1_ := Aside0.mk (blk_below (g := gb162) (o := .cells #[.int .i64 a1_0, .int .i64 a1_1, .int .i64 a1_2, .int .i64 a1_3, .slice A1_4 l1_4.length c1_4] 41 (0, 0)) (by (with_reducible repeat (first | refine blk_drewN ?_ _ | refine blk_drew ?_ | refine blk_alloc ?_ _)); exact BK162.out) hb); have n2_ := Aside0.mk (below_step (by repeat (first | (with_reducible first | exact HB.out | apply below_alloc | apply pw_below_drewN | apply below_drew1 | refine below_set ?_ GE161.out | refine below_set ?_ GE162.out) | exact HB.out)) hb); clear BK161; clear BK162; clear HB; have BK161 := n0_; have BK162 := n1_; have HB := n2_; clear n0_ n1_ n2_; (try clear hb); (try clear hb2); (try clear hk); (try clear hi); have hcz85_0 : w84.cell? ⟨gb162, 0, none⟩ = some (.int .i64 a1_0) := (blk_cell BK162.out 0).trans rfl; have hcz85_1 : w84.cell? ⟨gb162, 1, none⟩ = some (.int .i64 a1_1) := (blk_cell BK162.out 1).trans rfl; have hcz85_2 : w84.cell? ⟨gb162, 2, none⟩ = some (.int .i64 a1_2) := (blk_cell BK162.out 2).trans rfl; have hcz85_3 : w84.cell? ⟨gb162, 3, none⟩ = some (.int .i64 a1_3) := (blk_cell BK162.out 3).trans rfl; have hcz85_4 : w84.cell? ⟨gb162, 4, none⟩ = some (.slice A1_4 l1_4.length c1_4) := (blk_cell BK162.out 4).trans rfl; have hfz85_0 := blk_frozen BK162.out 0; have hfz85_1 := blk_frozen BK162.out 1; have hfz85_2 := blk_frozen BK162.out 2; have hfz85_3 := blk_frozen BK162.out 3; have hfz85_4 := blk_frozen BK162.out 4; have hcz86_0 : w84.cell? ⟨gb161, 0, none⟩ = some (.int .i64 a0_0) := (blk_cell BK161.out 0).trans rfl; have hcz86_1 : w84.cell? ⟨gb161, 1, none⟩ = some (.int .i64 a0_1) := (blk_cell BK161.out 1).trans rfl; have hcz86_2 : w84.cell? ⟨gb161, 2, none⟩ = some (.int .i64 a0_2) := (blk_cell BK161.out 2).trans rfl; have hcz86_3 : w84.cell? ⟨gb161, 3, none⟩ = some (.int .i64 a0_3) := (blk_cell BK161.out 3).trans rfl; have hcz86_4 : w84.cell? ⟨gb161, 4, none⟩ = some (.int .i64 a0_4) := (blk_cell BK161.out 4).trans rfl; have hfz86_0 := blk_frozen BK161.out 0; have hfz86_1 := blk_frozen BK161.out 1; have hfz86_2 := blk_frozen BK161.out 2; have hfz86_3 := blk_frozen BK161.out 3; have hfz86_4 := blk_frozen BK161.out 4))
                            go_ret
                            exact ⟨by first | rfl | (simp [errW_none, errW_some] <;> rfl) | (simp [*, errW_none, errW_some] <;> rfl), by repeat (first | (with_reducible first | exact HB.out | apply below_alloc | apply pw_below_drewN | apply below_drew1 | refine below_set ?_ GE161.out | refine below_set ?_ GE162.out) | exact HB.out)⟩
                          · rw [if_neg c80] at H
                            have c80b0 : decide (a1_1 < a0_1) = false := decide_eq_false c80
                            clear c80
                            replace H := Option.bind_eq_some_iff.mp H
                            obtain ⟨t164, A870, H⟩ := H
                            replace H : (some t164) = some r := H
                            have A87 := Aside0.mk A870
                            clear A870
                            obtain rfl := Option.some.inj H
                            have hnb88 := NB162_161.out
                            have hnc88 := NB161_162.out
                            have hcz89_0 : wc.cell? ⟨gb162, 0, none⟩ = some (.int .i64 a1_0) := (blk_cell BK162.out 0).trans rfl
                            have hcz89_1 : wc.cell? ⟨gb162, 1, none⟩ = some (.int .i64 a1_1) := (blk_cell BK162.out 1).trans rfl
                            have hcz89_2 : wc.cell? ⟨gb162, 2, none⟩ = some (.int .i64 a1_2) := (blk_cell BK162.out 2).trans rfl
                            have hcz89_3 : wc.cell? ⟨gb162, 3, none⟩ = some (.int .i64 a1_3) := (blk_cell BK162.out 3).trans rfl
                            have hcz89_4 : wc.cell? ⟨gb162, 4, none⟩ = some (.slice A1_4 l1_4.length c1_4) := (blk_cell BK162.out 4).trans rfl
                            have hfz89_0 := blk_frozen BK162.out 0
                            have hfz89_1 := blk_frozen BK162.out 1
                            have hfz89_2 := blk_frozen BK162.out 2
                            have hfz89_3 := blk_frozen BK162.out 3
                            have hfz89_4 := blk_frozen BK162.out 4
                            have hcz90_0 : wc.cell? ⟨gb161, 0, none⟩ = some (.int .i64 a0_0) := (blk_cell BK161.out 0).trans rfl
                            have hcz90_1 : wc.cell? ⟨gb161, 1, none⟩ = some (.int .i64 a0_1) := (blk_cell BK161.out 1).trans rfl
                            have hcz90_2 : wc.cell? ⟨gb161, 2, none⟩ = some (.int .i64 a0_2) := (blk_cell BK161.out 2).trans rfl
                            have hcz90_3 : wc.cell? ⟨gb161, 3, none⟩ = some (.int .i64 a0_3) := (blk_cell BK161.out 3).trans rfl
                            have hcz90_4 : wc.cell? ⟨gb161, 4, none⟩ = some (.int .i64 a0_4) := (blk_cell BK161.out 4).trans rfl
                            have hfz90_0 := blk_frozen BK161.out 0
                            have hfz90_1 := blk_frozen BK161.out 1
                            have hfz90_2 := blk_frozen BK161.out 2
                            have hfz90_3 := blk_frozen BK161.out 3
                            have hfz90_4 := blk_frozen BK161.out 4
                            go_wp2_with (first | ((with_reducible refine gate_callee (f := 31) rfl ?_); refine goesL_ (some 43) rfl rfl Try.func31 (by kernel_rfl) rfl #[.agg #[.int .i64 a0_0, .int .i64 a0_1, .int .i64 a0_2, .int .i64 a0_3, .int .i64 a0_4]] rfl (by (try simp only [List.map_toArray, List.map_cons, List.map_nil]); first | done | rfl | (simp only [List.length_drop, List.length_take]; rfl)) ?_; (with_reducible refine (deadwoodref09_May.calls kj2 a0_0 a0_1 a0_2 a0_3 a0_4 true _ A45.out).mono ?_); rintro e w91 ⟨rfl, hb⟩; refine ⟨_, rfl, ?_⟩; have n0_ := Aside0.mk (blk_below (g := gb161) (o := .cells #[.int .i64 a0_0, .int .i64 a0_1, .int .i64 a0_2, .int .i64 a0_3, .int .i64 a0_4] 38 (0, 0)) (by (with_reducible repeat (first | refine blk_drewN ?_ _ | refine blk_drew ?_ | refine blk_alloc ?_ _)); exact BK161.out) hb); have n1_ := Aside0.mk (blk_below (g := gb162) (o := .cells #[.int .i64 a1_0, .int .i64 a1_1, .int .i64 a1_2, .int .i64 a1_3, .slice A1_4 l1_4.length c1_4] 41 (0, 0)) (by (with_reducible repeat (first | refine blk_drewN ?_ _ | refine blk_drew ?_ | refine blk_alloc ?_ _)); exact BK162.out) hb); have n2_ := Aside0.mk (below_step (by repeat (first | (with_reducible first | exact HB.out | apply below_alloc | apply pw_below_drewN | apply below_drew1 | refine below_set ?_ GE161.out | refine below_set ?_ GE162.out) | exact HB.out)) hb); clear BK161; clear BK162; clear HB; have BK161 := n0_; have BK162 := n1_; have HB := n2_; clear n0_ n1_ n2_; (try clear hb); (try clear hb2); (try clear hk); (try clear hi); have hcz92_0 : w91.cell? ⟨gb162, 0, none⟩ = some (.int .i64 a1_0) := (blk_cell BK162.out 0).trans rfl; have hcz92_1 : w91.cell? ⟨gb162, 1, none⟩ = some (.int .i64 a1_1) := (blk_cell BK162.out 1).trans rfl; have hcz92_2 : w91.cell? ⟨gb162, 2, none⟩ = some (.int .i64 a1_2) := (blk_cell BK162.out 2).trans rfl; have hcz92_3 : w91.cell? ⟨gb162, 3, none⟩ = some (.int .i64 a1_3) := (blk_cell BK162.out 3).trans rfl; have hcz92_4 : w91.cell? ⟨gb162, 4, none⟩ = some (.slice A1_4 l1_4.length c1_4) := (blk_cell BK162.out 4).trans rfl; have hfz92_0 := blk_frozen BK162.out 0; have hfz92_1 := blk_frozen BK162.out 1; have hfz92_2 := blk_frozen BK162.out 2; have hfz92_3 := blk_frozen BK162.out 3; have hfz92_4 := blk_frozen BK162.out 4; have hcz93_0 : w91.cell? ⟨gb161, 0, none⟩ = some (.int .i64 a0_0) := (blk_cell BK161.out 0).trans rfl; have hcz93_1 : w91.cell? ⟨gb161, 1, none⟩ = some (.int .i64 a0_1) := (blk_cell BK161.out 1).trans rfl; have hcz93_2 : w91.cell? ⟨gb161, 2, none⟩ = some (.int .i64 a0_2) := (blk_cell BK161.out 2).trans rfl; have hcz93_3 : w91.cell? ⟨gb161, 3, none⟩ = some (.int .i64 a0_3) := (blk_cell BK161.out 3).trans rfl; have hcz93_4 : w91.cell? ⟨gb161, 4, none⟩ = some (.int .i64 a0_4) := (blk_cell BK161.out 4).trans rfl; have hfz93_0 := blk_frozen BK161.out 0; have hfz93_1 := blk_frozen BK161.out 1; have hfz93_2 := blk_frozen BK161.out 2; have hfz93_3 := blk_frozen BK161.out 3; have hfz93_4 := blk_frozen BK161.out 4) | ((with_reducible refine gate_callee (f := 69) rfl ?_); refine goesL_ (some 105) rfl rfl Try.func69 (by kernel_rfl) rfl #[.int .i64 a0_0] rfl (by (try simp only [List.map_toArray, List.map_cons, List.map_nil]); first | done | rfl | (simp only [List.length_drop, List.length_take]; rfl)) ?_; (with_reducible refine (deadwoodref09_pair.calls a0_0 t164 _ A87.out).mono ?_); rintro e w' ⟨rfl, ⟨nd, rfl⟩⟩; refine ⟨_, rfl, ?_⟩))
                            go_ret
                            exact ⟨by first | rfl | (simp [errW_none, errW_some] <;> rfl) | (simp [*, errW_none, errW_some] <;> rfl), by repeat (first | (with_reducible first | exact HB.out | apply below_alloc | apply pw_below_drewN | apply below_drew1 | refine below_set ?_ GE161.out | refine below_set ?_ GE162.out) | exact HB.out)⟩
                        · rw [if_neg c79] at H
                          have c79b0 : (a0_0 == 8) = false := beq_eq_false_iff_ne.mpr c79
                          have c79b1 : (a0_0 != 8) = true := bne_iff_ne.mpr c79
                          replace H := Option.bind_eq_some_iff.mp H
                          obtain ⟨t165, A940, H⟩ := H
                          replace H : (some t165) = some r := H
                          have A94 := Aside0.mk A940
                          clear A940
                          obtain rfl := Option.some.inj H
                          have hnb95 := NB162_161.out
                          have hnc95 := NB161_162.out
                          have hcz96_0 : wc.cell? ⟨gb162, 0, none⟩ = some (.int .i64 a1_0) := (blk_cell BK162.out 0).trans rfl
                          have hcz96_1 : wc.cell? ⟨gb162, 1, none⟩ = some (.int .i64 a1_1) := (blk_cell BK162.out 1).trans rfl
                          have hcz96_2 : wc.cell? ⟨gb162, 2, none⟩ = some (.int .i64 a1_2) := (blk_cell BK162.out 2).trans rfl
                          have hcz96_3 : wc.cell? ⟨gb162, 3, none⟩ = some (.int .i64 a1_3) := (blk_cell BK162.out 3).trans rfl
                          have hcz96_4 : wc.cell? ⟨gb162, 4, none⟩ = some (.slice A1_4 l1_4.length c1_4) := (blk_cell BK162.out 4).trans rfl
                          have hfz96_0 := blk_frozen BK162.out 0
                          have hfz96_1 := blk_frozen BK162.out 1
                          have hfz96_2 := blk_frozen BK162.out 2
                          have hfz96_3 := blk_frozen BK162.out 3
                          have hfz96_4 := blk_frozen BK162.out 4
                          have hcz97_0 : wc.cell? ⟨gb161, 0, none⟩ = some (.int .i64 a0_0) := (blk_cell BK161.out 0).trans rfl
                          have hcz97_1 : wc.cell? ⟨gb161, 1, none⟩ = some (.int .i64 a0_1) := (blk_cell BK161.out 1).trans rfl
                          have hcz97_2 : wc.cell? ⟨gb161, 2, none⟩ = some (.int .i64 a0_2) := (blk_cell BK161.out 2).trans rfl
                          have hcz97_3 : wc.cell? ⟨gb161, 3, none⟩ = some (.int .i64 a0_3) := (blk_cell BK161.out 3).trans rfl
                          have hcz97_4 : wc.cell? ⟨gb161, 4, none⟩ = some (.int .i64 a0_4) := (blk_cell BK161.out 4).trans rfl
                          have hfz97_0 := blk_frozen BK161.out 0
                          have hfz97_1 := blk_frozen BK161.out 1
                          have hfz97_2 := blk_frozen BK161.out 2
                          have hfz97_3 := blk_frozen BK161.out 3
                          have hfz97_4 := blk_frozen BK161.out 4
                          go_wp2_with (first | ((with_reducible refine gate_callee (f := 31) rfl ?_); refine goesL_ (some 43) rfl rfl Try.func31 (by kernel_rfl) rfl #[.agg #[.int .i64 a0_0, .int .i64 a0_1, .int .i64 a0_2, .int .i64 a0_3, .int .i64 a0_4]] rfl (by (try simp only [List.map_toArray, List.map_cons, List.map_nil]); first | done | rfl | (simp only [List.length_drop, List.length_take]; rfl)) ?_; (with_reducible refine (deadwoodref09_May.calls kj2 a0_0 a0_1 a0_2 a0_3 a0_4 true _ A45.out).mono ?_); rintro e w98 ⟨rfl, hb⟩; refine ⟨_, rfl, ?_⟩; have n0_ := Aside0.mk (blk_below (g := gb161) (o := .cells #[.int .i64 a0_0, .int .i64 a0_1, .int .i64 a0_2, .int .i64 a0_3, .int .i64 a0_4] 38 (0, 0)) (by (with_reducible repeat (first | refine blk_drewN ?_ _ | refine blk_drew ?_ | refine blk_alloc ?_ _)); exact BK161.out) hb); have n1_ := Aside0.mk (blk_below (g := gb162) (o := .cells #[.int .i64 a1_0, .int .i64 a1_1, .int .i64 a1_2, .int .i64 a1_3, .slice A1_4 l1_4.length c1_4] 41 (0, 0)) (by (with_reducible repeat (first | refine blk_drewN ?_ _ | refine blk_drew ?_ | refine blk_alloc ?_ _)); exact BK162.out) hb); have n2_ := Aside0.mk (below_step (by repeat (first | (with_reducible first | exact HB.out | apply below_alloc | apply pw_below_drewN | apply below_drew1 | refine below_set ?_ GE161.out | refine below_set ?_ GE162.out) | exact HB.out)) hb); clear BK161; clear BK162; clear HB; have BK161 := n0_; have BK162 := n1_; have HB := n2_; clear n0_ n1_ n2_; (try clear hb); (try clear hb2); (try clear hk); (try clear hi); have hcz99_0 : w98.cell? ⟨gb162, 0, none⟩ = some (.int .i64 a1_0) := (blk_cell BK162.out 0).trans rfl; have hcz99_1 : w98.cell? ⟨gb162, 1, none⟩ = some (.int .i64 a1_1) := (blk_cell BK162.out 1).trans rfl; have hcz99_2 : w98.cell? ⟨gb162, 2, none⟩ = some (.int .i64 a1_2) := (blk_cell BK162.out 2).trans rfl; have hcz99_3 : w98.cell? ⟨gb162, 3, none⟩ = some (.int .i64 a1_3) := (blk_cell BK162.out 3).trans rfl; have hcz99_4 : w98.cell? ⟨gb162, 4, none⟩ = some (.slice A1_4 l1_4.length c1_4) := (blk_cell BK162.out 4).trans rfl; have hfz99_0 := blk_frozen BK162.out 0; have hfz99_1 := blk_frozen BK162.out 1; have hfz99_2 := blk_frozen BK162.out 2; have hfz99_3 := blk_frozen BK162.out 3; have hfz99_4 := blk_frozen BK162.out 4; have hcz100_0 : w98.cell? ⟨gb161, 0, none⟩ = some (.int .i64 a0_0) := (blk_cell BK161.out 0).trans rfl; have hcz100_1 : w98.cell? ⟨gb161, 1, none⟩ = some (.int .i64 a0_1) := (blk_cell BK161.out 1).trans rfl; have hcz100_2 : w98.cell? ⟨gb161, 2, none⟩ = some (.int .i64 a0_2) := (blk_cell BK161.out 2).trans rfl; have hcz100_3 : w98.cell? ⟨gb161, 3, none⟩ = some (.int .i64 a0_3) := (blk_cell BK161.out 3).trans rfl; have hcz100_4 : w98.cell? ⟨gb161, 4, none⟩ = some (.int .i64 a0_4) := (blk_cell BK161.out 4).trans rfl; have hfz100_0 := blk_frozen BK161.out 0; have hfz100_1 := blk_frozen BK161.out 1; have hfz100_2 := blk_frozen BK161.out 2; have hfz100_3 := blk_frozen BK161.out 3; have hfz100_4 := blk_frozen BK161.out 4) | ((with_reducible refine gate_callee (f := 69) rfl ?_); refine goesL_ (some 105) rfl rfl Try.func69 (by kernel_rfl) rfl #[.int .i64 a0_0] rfl (by (try simp only [List.map_toArray, List.map_cons, List.map_nil]); first | done | rfl | (simp only [List.length_drop, List.length_take]; rfl)) ?_; (with_reducible refine (deadwoodref09_pair.calls a0_0 t165 _ A94.out).mono ?_); rintro e w' ⟨rfl, ⟨nd, rfl⟩⟩; refine ⟨_, rfl, ?_⟩))
                          go_ret
                          exact ⟨by first | rfl | (simp [errW_none, errW_some] <;> rfl) | (simp [*, errW_none, errW_some] <;> rfl), by repeat (first | (with_reducible first | exact HB.out | apply below_alloc | apply pw_below_drewN | apply below_drew1 | refine below_set ?_ GE161.out | refine below_set ?_ GE162.out) | exact HB.out)⟩
                    · rw [if_neg c71] at H
                      have c71b0 : (a0_0 == 7) = false := beq_eq_false_iff_ne.mpr c71
                      have c71b1 : (a0_0 != 7) = true := bne_iff_ne.mpr c71
                      by_cases c101 : a0_0 = 8
                      · rw [if_pos c101] at H
                        have c101b0 : (a0_0 == 8) = true := beq_iff_eq.mpr c101
                        have c101b1 : (a0_0 != 8) = false := bne_eq_false_iff_eq.mpr c101
                        clear c101
                        by_cases c102 : a1_1 < a0_1
                        · rw [if_pos c102] at H
                          have c102b0 : decide (a1_1 < a0_1) = true := decide_eq_true c102
                          clear c102
                          obtain rfl := Option.some.inj H
                          have hnb103 := NB162_161.out
                          have hnc103 := NB161_162.out
                          have hcz104_0 : wc.cell? ⟨gb162, 0, none⟩ = some (.int .i64 a1_0) := (blk_cell BK162.out 0).trans rfl
                          have hcz104_1 : wc.cell? ⟨gb162, 1, none⟩ = some (.int .i64 a1_1) := (blk_cell BK162.out 1).trans rfl
                          have hcz104_2 : wc.cell? ⟨gb162, 2, none⟩ = some (.int .i64 a1_2) := (blk_cell BK162.out 2).trans rfl
                          have hcz104_3 : wc.cell? ⟨gb162, 3, none⟩ = some (.int .i64 a1_3) := (blk_cell BK162.out 3).trans rfl
                          have hcz104_4 : wc.cell? ⟨gb162, 4, none⟩ = some (.slice A1_4 l1_4.length c1_4) := (blk_cell BK162.out 4).trans rfl
                          have hfz104_0 := blk_frozen BK162.out 0
                          have hfz104_1 := blk_frozen BK162.out 1
                          have hfz104_2 := blk_frozen BK162.out 2
                          have hfz104_3 := blk_frozen BK162.out 3
                          have hfz104_4 := blk_frozen BK162.out 4
                          have hcz105_0 : wc.cell? ⟨gb161, 0, none⟩ = some (.int .i64 a0_0) := (blk_cell BK161.out 0).trans rfl
                          have hcz105_1 : wc.cell? ⟨gb161, 1, none⟩ = some (.int .i64 a0_1) := (blk_cell BK161.out 1).trans rfl
                          have hcz105_2 : wc.cell? ⟨gb161, 2, none⟩ = some (.int .i64 a0_2) := (blk_cell BK161.out 2).trans rfl
                          have hcz105_3 : wc.cell? ⟨gb161, 3, none⟩ = some (.int .i64 a0_3) := (blk_cell BK161.out 3).trans rfl
                          have hcz105_4 : wc.cell? ⟨gb161, 4, none⟩ = some (.int .i64 a0_4) := (blk_cell BK161.out 4).trans rfl
                          have hfz105_0 := blk_frozen BK161.out 0
                          have hfz105_1 := blk_frozen BK161.out 1
                          have hfz105_2 := blk_frozen BK161.out 2
                          have hfz105_3 := blk_frozen BK161.out 3
                          have hfz105_4 := blk_frozen BK161.out 4
                          go_wp2_with (first | ((with_reducible refine gate_callee (f := 31) rfl ?_); refine goesL_ (some 43) rfl rfl Try.func31 (by kernel_rfl) rfl #[.agg #[.int .i64 a0_0, .int .i64 a0_1, .int .i64 a0_2, .int .i64 a0_3, .int .i64 a0_4]] rfl (by (try simp only [List.map_toArray, List.map_cons, List.map_nil]); first | done | rfl | (simp only [List.length_drop, List.length_take]; rfl)) ?_; (with_reducible refine (deadwoodref09_May.calls kj2 a0_0 a0_1 a0_2 a0_3 a0_4 true _ A45.out).mono ?_); rintro e w106 ⟨rfl, hb⟩; refine ⟨_, rfl, ?_⟩; have n0_ := Aside0.mk (blk_below (g := gb161) (o := .cells #[.int .i64 a0_0, .int .i64 a0_1, .int .i64 a0_2, .int .i64 a0_3, .int .i64 a0_4] 38 (0, 0)) (by (with_reducible repeat (first | refine blk_drewN ?_ _ | refine blk_drew ?_ | refine blk_alloc ?_ _)); exact BK161.out) hb); have n1_ := Aside0.mk (blk_below (g := gb162) (o := .cells #[.int .i64 a1_0, .int .i64 a1_1, .int .i64 a1_2, .int .i64 a1_3, .slice A1_4 l1_4.length c1_4] 41 (0, 0)) (by (with_reducible repeat (first | refine blk_drewN ?_ _ | refine blk_drew ?_ | refine blk_alloc ?_ _)); exact BK162.out) hb); have n2_ := Aside0.mk (below_step (by repeat (first | (with_reducible first | exact HB.out | apply below_alloc | apply pw_below_drewN | apply below_drew1 | refine below_set ?_ GE161.out | refine below_set ?_ GE162.out) | exact HB.out)) hb); clear BK161; clear BK162; clear HB; have BK161 := n0_; have BK162 := n1_; have HB := n2_; clear n0_ n1_ n2_; (try clear hb); (try clear hb2); (try clear hk); (try clear hi); have hcz107_0 : w106.cell? ⟨gb162, 0, none⟩ = some (.int .i64 a1_0) := (blk_cell BK162.out 0).trans rfl; have hcz107_1 : w106.cell? ⟨gb162, 1, none⟩ = some (.int .i64 a1_1) := (blk_cell BK162.out 1).trans rfl; have hcz107_2 : w106.cell? ⟨gb162, 2, none⟩ = some (.int .i64 a1_2) := (blk_cell BK162.out 2).trans rfl; have hcz107_3 : w106.cell? ⟨gb162, 3, none⟩ = some (.int .i64 a1_3) := (blk_cell BK162.out 3).trans rfl; have hcz107_4 : w106.cell? ⟨gb162, 4, none⟩ = some (.slice A1_4 l1_4.length c1_4) := (blk_cell BK162.out 4).trans rfl; have hfz107_0 := blk_frozen BK162.out 0; have hfz107_1 := blk_frozen BK162.out 1; have hfz107_2 := blk_frozen BK162.out 2; have hfz107_3 := blk_frozen BK162.out 3; have hfz107_4 := blk_frozen BK162.out 4; have hcz108_0 : w106.cell? ⟨gb161, 0, none⟩ = some (.int .i64 a0_0) := (blk_cell BK161.out 0).trans rfl; have hcz108_1 : w106.cell? ⟨gb161, 1, none⟩ = some (.int .i64 a0_1) := (blk_cell BK161.out 1).trans rfl; have hcz108_2 : w106.cell? ⟨gb161, 2, none⟩ = some (.int .i64 a0_2) := (blk_cell BK161.out 2).trans rfl; have hcz108_3 : w106.cell? ⟨gb161, 3, none⟩ = some (.int .i64 a0_3) := (blk_cell BK161.out 3).trans rfl; have hcz108_4 : w106.cell? ⟨gb161, 4, none⟩ = some (.int .i64 a0_4) := (blk_cell BK161.out 4).trans rfl; have hfz108_0 := blk_frozen BK161.out 0; have hfz108_1 := blk_frozen BK161.out 1; have hfz108_2 := blk_frozen BK161.out 2; have hfz108_3 := blk_frozen BK161.out 3; have hfz108_4 := blk_frozen BK161.out 4))
                          go_ret
                          exact ⟨by first | rfl | (simp [errW_none, errW_some] <;> rfl) | (simp [*, errW_none, errW_some] <;> rfl), by repeat (first | (with_reducible first | exact HB.out | apply below_alloc | apply pw_below_drewN | apply below_drew1 | refine below_set ?_ GE161.out | refine below_set ?_ GE162.out) | exact HB.out)⟩
                        · rw [if_neg c102] at H
                          have c102b0 : decide (a1_1 < a0_1) = false := decide_eq_false c102
                          clear c102
                          replace H := Option.bind_eq_some_iff.mp H
                          obtain ⟨t166, A1090, H⟩ := H
                          replace H : (some t166) = some r := H
                          have A109 := Aside0.mk A1090
                          clear A1090
                          obtain rfl := Option.some.inj H
                          have hnb110 := NB162_161.out
                          have hnc110 := NB161_162.out
                          have hcz111_0 : wc.cell? ⟨gb162, 0, none⟩ = some (.int .i64 a1_0) := (blk_cell BK162.out 0).trans rfl
                          have hcz111_1 : wc.cell? ⟨gb162, 1, none⟩ = some (.int .i64 a1_1) := (blk_cell BK162.out 1).trans rfl
                          have hcz111_2 : wc.cell? ⟨gb162, 2, none⟩ = some (.int .i64 a1_2) := (blk_cell BK162.out 2).trans rfl
                          have hcz111_3 : wc.cell? ⟨gb162, 3, none⟩ = some (.int .i64 a1_3) := (blk_cell BK162.out 3).trans rfl
                          have hcz111_4 : wc.cell? ⟨gb162, 4, none⟩ = some (.slice A1_4 l1_4.length c1_4) := (blk_cell BK162.out 4).trans rfl
                          have hfz111_0 := blk_frozen BK162.out 0
                          have hfz111_1 := blk_frozen BK162.out 1
                          have hfz111_2 := blk_frozen BK162.out 2
                          have hfz111_3 := blk_frozen BK162.out 3
                          have hfz111_4 := blk_frozen BK162.out 4
                          have hcz112_0 : wc.cell? ⟨gb161, 0, none⟩ = some (.int .i64 a0_0) := (blk_cell BK161.out 0).trans rfl
                          have hcz112_1 : wc.cell? ⟨gb161, 1, none⟩ = some (.int .i64 a0_1) := (blk_cell BK161.out 1).trans rfl
                          have hcz112_2 : wc.cell? ⟨gb161, 2, none⟩ = some (.int .i64 a0_2) := (blk_cell BK161.out 2).trans rfl
                          have hcz112_3 : wc.cell? ⟨gb161, 3, none⟩ = some (.int .i64 a0_3) := (blk_cell BK161.out 3).trans rfl
                          have hcz112_4 : wc.cell? ⟨gb161, 4, none⟩ = some (.int .i64 a0_4) := (blk_cell BK161.out 4).trans rfl
                          have hfz112_0 := blk_frozen BK161.out 0
                          have hfz112_1 := blk_frozen BK161.out 1
                          have hfz112_2 := blk_frozen BK161.out 2
                          have hfz112_3 := blk_frozen BK161.out 3
                          have hfz112_4 := blk_frozen BK161.out 4
                          go_wp2_with (first | ((with_reducible refine gate_callee (f := 31) rfl ?_); refine goesL_ (some 43) rfl rfl Try.func31 (by kernel_rfl) rfl #[.agg #[.int .i64 a0_0, .int .i64 a0_1, .int .i64 a0_2, .int .i64 a0_3, .int .i64 a0_4]] rfl (by (try simp only [List.map_toArray, List.map_cons, List.map_nil]); first | done | rfl | (simp only [List.length_drop, List.length_take]; rfl)) ?_; (with_reducible refine (deadwoodref09_May.calls kj2 a0_0 a0_1 a0_2 a0_3 a0_4 true _ A45.out).mono ?_); rintro e w113 ⟨rfl, hb⟩; refine ⟨_, rfl, ?_⟩; have n0_ := Aside0.mk (blk_below (g := gb161) (o := .cells #[.int .i64 a0_0, .int .i64 a0_1, .int .i64 a0_2, .int .i64 a0_3, .int .i64 a0_4] 38 (0, 0)) (by (with_reducible repeat (first | refine blk_drewN ?_ _ | refine blk_drew ?_ | refine blk_alloc ?_ _)); exact BK161.out) hb); have n1_ := Aside0.mk (blk_below (g := gb162) (o := .cells #[.int .i64 a1_0, .int .i64 a1_1, .int .i64 a1_2, .int .i64 a1_3, .slice A1_4 l1_4.length c1_4] 41 (0, 0)) (by (with_reducible repeat (first | refine blk_drewN ?_ _ | refine blk_drew ?_ | refine blk_alloc ?_ _)); exact BK162.out) hb); have n2_ := Aside0.mk (below_step (by repeat (first | (with_reducible first | exact HB.out | apply below_alloc | apply pw_below_drewN | apply below_drew1 | refine below_set ?_ GE161.out | refine below_set ?_ GE162.out) | exact HB.out)) hb); clear BK161; clear BK162; clear HB; have BK161 := n0_; have BK162 := n1_; have HB := n2_; clear n0_ n1_ n2_; (try clear hb); (try clear hb2); (try clear hk); (try clear hi); have hcz114_0 : w113.cell? ⟨gb162, 0, none⟩ = some (.int .i64 a1_0) := (blk_cell BK162.out 0).trans rfl; have hcz114_1 : w113.cell? ⟨gb162, 1, none⟩ = some (.int .i64 a1_1) := (blk_cell BK162.out 1).trans rfl; have hcz114_2 : w113.cell? ⟨gb162, 2, none⟩ = some (.int .i64 a1_2) := (blk_cell BK162.out 2).trans rfl; have hcz114_3 : w113.cell? ⟨gb162, 3, none⟩ = some (.int .i64 a1_3) := (blk_cell BK162.out 3).trans rfl; have hcz114_4 : w113.cell? ⟨gb162, 4, none⟩ = some (.slice A1_4 l1_4.length c1_4) := (blk_cell BK162.out 4).trans rfl; have hfz114_0 := blk_frozen BK162.out 0; have hfz114_1 := blk_frozen BK162.out 1; have hfz114_2 := blk_frozen BK162.out 2; have hfz114_3 := blk_frozen BK162.out 3; have hfz114_4 := blk_frozen BK162.out 4; have hcz115_0 : w113.cell? ⟨gb161, 0, none⟩ = some (.int .i64 a0_0) := (blk_cell BK161.out 0).trans rfl; have hcz115_1 : w113.cell? ⟨gb161, 1, none⟩ = some (.int .i64 a0_1) := (blk_cell BK161.out 1).trans rfl; have hcz115_2 : w113.cell? ⟨gb161, 2, none⟩ = some (.int .i64 a0_2) := (blk_cell BK161.out 2).trans rfl; have hcz115_3 : w113.cell? ⟨gb161, 3, none⟩ = some (.int .i64 a0_3) := (blk_cell BK161.out 3).trans rfl; have hcz115_4 : w113.cell? ⟨gb161, 4, none⟩ = some (.int .i64 a0_4) := (blk_cell BK161.out 4).trans rfl; have hfz115_0 := blk_frozen BK161.out 0; have hfz115_1 := blk_frozen BK161.out 1; have hfz115_2 := blk_frozen BK161.out 2; have hfz115_3 := blk_frozen BK161.out 3; have hfz115_4 := blk_frozen BK161.out 4) | ((with_reducible refine gate_callee (f := 69) rfl ?_); refine goesL_ (some 105) rfl rfl Try.func69 (by kernel_rfl) rfl #[.int .i64 a0_0] rfl (by (try simp only [List.map_toArray, List.map_cons, List.map_nil]); first | done | rfl | (simp only [List.length_drop, List.length_take]; rfl)) ?_; (with_reducible refine (deadwoodref09_pair.calls a0_0 t166 _ A109.out).mono ?_); rintro e w' ⟨rfl, ⟨nd, rfl⟩⟩; refine ⟨_, rfl, ?_⟩))
                          go_ret
                          exact ⟨by first | rfl | (simp [errW_none, errW_some] <;> rfl) | (simp [*, errW_none, errW_some] <;> rfl), by repeat (first | (with_reducible first | exact HB.out | apply below_alloc | apply pw_below_drewN | apply below_drew1 | refine below_set ?_ GE161.out | refine below_set ?_ GE162.out) | exact HB.out)⟩
                      · rw [if_neg c101] at H
                        have c101b0 : (a0_0 == 8) = false := beq_eq_false_iff_ne.mpr c101
                        have c101b1 : (a0_0 != 8) = true := bne_iff_ne.mpr c101
                        replace H := Option.bind_eq_some_iff.mp H
                        obtain ⟨t167, A1160, H⟩ := H
                        replace H : (some t167) = some r := H
                        have A116 := Aside0.mk A1160
                        clear A1160
                        obtain rfl := Option.some.inj H
                        have hnb117 := NB162_161.out
                        have hnc117 := NB161_162.out
                        have hcz118_0 : wc.cell? ⟨gb162, 0, none⟩ = some (.int .i64 a1_0) := (blk_cell BK162.out 0).trans rfl
                        have hcz118_1 : wc.cell? ⟨gb162, 1, none⟩ = some (.int .i64 a1_1) := (blk_cell BK162.out 1).trans rfl
                        have hcz118_2 : wc.cell? ⟨gb162, 2, none⟩ = some (.int .i64 a1_2) := (blk_cell BK162.out 2).trans rfl
                        have hcz118_3 : wc.cell? ⟨gb162, 3, none⟩ = some (.int .i64 a1_3) := (blk_cell BK162.out 3).trans rfl
                        have hcz118_4 : wc.cell? ⟨gb162, 4, none⟩ = some (.slice A1_4 l1_4.length c1_4) := (blk_cell BK162.out 4).trans rfl
                        have hfz118_0 := blk_frozen BK162.out 0
                        have hfz118_1 := blk_frozen BK162.out 1
                        have hfz118_2 := blk_frozen BK162.out 2
                        have hfz118_3 := blk_frozen BK162.out 3
                        have hfz118_4 := blk_frozen BK162.out 4
                        have hcz119_0 : wc.cell? ⟨gb161, 0, none⟩ = some (.int .i64 a0_0) := (blk_cell BK161.out 0).trans rfl
                        have hcz119_1 : wc.cell? ⟨gb161, 1, none⟩ = some (.int .i64 a0_1) := (blk_cell BK161.out 1).trans rfl
                        have hcz119_2 : wc.cell? ⟨gb161, 2, none⟩ = some (.int .i64 a0_2) := (blk_cell BK161.out 2).trans rfl
                        have hcz119_3 : wc.cell? ⟨gb161, 3, none⟩ = some (.int .i64 a0_3) := (blk_cell BK161.out 3).trans rfl
                        have hcz119_4 : wc.cell? ⟨gb161, 4, none⟩ = some (.int .i64 a0_4) := (blk_cell BK161.out 4).trans rfl
                        have hfz119_0 := blk_frozen BK161.out 0
                        have hfz119_1 := blk_frozen BK161.out 1
                        have hfz119_2 := blk_frozen BK161.out 2
                        have hfz119_3 := blk_frozen BK161.out 3
                        have hfz119_4 := blk_frozen BK161.out 4
                        go_wp2_with (first | ((with_reducible refine gate_callee (f := 31) rfl ?_); refine goesL_ (some 43) rfl rfl Try.func31 (by kernel_rfl) rfl #[.agg #[.int .i64 a0_0, .int .i64 a0_1, .int .i64 a0_2, .int .i64 a0_3, .int .i64 a0_4]] rfl (by (try simp only [List.map_toArray, List.map_cons, List.map_nil]); first | done | rfl | (simp only [List.length_drop, List.length_take]; rfl)) ?_; (with_reducible refine (deadwoodref09_May.calls kj2 a0_0 a0_1 a0_2 a0_3 a0_4 true _ A45.out).mono ?_); rintro e w120 ⟨rfl, hb⟩; refine ⟨_, rfl, ?_⟩; have n0_ := Aside0.mk (blk_below (g := gb161) (o := .cells #[.int .i64 a0_0, .int .i64 a0_1, .int .i64 a0_2, .int .i64 a0_3, .int .i64 a0_4] 38 (0, 0)) (by (with_reducible repeat (first | refine blk_drewN ?_ _ | refine blk_drew ?_ | refine blk_alloc ?_ _)); exact BK161.out) hb); have n1_ := Aside0.mk (blk_below (g := gb162) (o := .cells #[.int .i64 a1_0, .int .i64 a1_1, .int .i64 a1_2, .int .i64 a1_3, .slice A1_4 l1_4.length c1_4] 41 (0, 0)) (by (with_reducible repeat (first | refine blk_drewN ?_ _ | refine blk_drew ?_ | refine blk_alloc ?_ _)); exact BK162.out) hb); have n2_ := Aside0.mk (below_step (by repeat (first | (with_reducible first | exact HB.out | apply below_alloc | apply pw_below_drewN | apply below_drew1 | refine below_set ?_ GE161.out | refine below_set ?_ GE162.out) | exact HB.out)) hb); clear BK161; clear BK162; clear HB; have BK161 := n0_; have BK162 := n1_; have HB := n2_; clear n0_ n1_ n2_; (try clear hb); (try clear hb2); (try clear hk); (try clear hi); have hcz121_0 : w120.cell? ⟨gb162, 0, none⟩ = some (.int .i64 a1_0) := (blk_cell BK162.out 0).trans rfl; have hcz121_1 : w120.cell? ⟨gb162, 1, none⟩ = some (.int .i64 a1_1) := (blk_cell BK162.out 1).trans rfl; have hcz121_2 : w120.cell? ⟨gb162, 2, none⟩ = some (.int .i64 a1_2) := (blk_cell BK162.out 2).trans rfl; have hcz121_3 : w120.cell? ⟨gb162, 3, none⟩ = some (.int .i64 a1_3) := (blk_cell BK162.out 3).trans rfl; have hcz121_4 : w120.cell? ⟨gb162, 4, none⟩ = some (.slice A1_4 l1_4.length c1_4) := (blk_cell BK162.out 4).trans rfl; have hfz121_0 := blk_frozen BK162.out 0; have hfz121_1 := blk_frozen BK162.out 1; have hfz121_2 := blk_frozen BK162.out 2; have hfz121_3 := blk_frozen BK162.out 3; have hfz121_4 := blk_frozen BK162.out 4; have hcz122_0 : w120.cell? ⟨gb161, 0, none⟩ = some (.int .i64 a0_0) := (blk_cell BK161.out 0).trans rfl; have hcz122_1 : w120.cell? ⟨gb161, 1, none⟩ = some (.int .i64 a0_1) := (blk_cell BK161.out 1).trans rfl; have hcz122_2 : w120.cell? ⟨gb161, 2, none⟩ = some (.int .i64 a0_2) := (blk_cell BK161.out 2).trans rfl; have hcz122_3 : w120.cell? ⟨gb161, 3, none⟩ = some (.int .i64 a0_3) := (blk_cell BK161.out 3).trans rfl; have hcz122_4 : w120.cell? ⟨gb161, 4, none⟩ = some (.int .i64 a0_4) := (blk_cell BK161.out 4).trans rfl; have hfz122_0 := blk_frozen BK161.out 0; have hfz122_1 := blk_frozen BK161.out 1; have hfz122_2 := blk_frozen BK161.out 2; have hfz122_3 := blk_frozen BK161.out 3; have hfz122_4 := blk_frozen BK161.out 4) | ((with_reducible refine gate_callee (f := 69) rfl ?_); refine goesL_ (some 105) rfl rfl Try.func69 (by kernel_rfl) rfl #[.int .i64 a0_0] rfl (by (try simp only [List.map_toArray, List.map_cons, List.map_nil]); first | done | rfl | (simp only [List.length_drop, List.length_take]; rfl)) ?_; (with_reducible refine (deadwoodref09_pair.calls a0_0 t167 _ A116.out).mono ?_); rintro e w' ⟨rfl, ⟨nd, rfl⟩⟩; refine ⟨_, rfl, ?_⟩))
                        go_ret
                        exact ⟨by first | rfl | (simp [errW_none, errW_some] <;> rfl) | (simp [*, errW_none, errW_some] <;> rfl), by repeat (first | (with_reducible first | exact HB.out | apply below_alloc | apply pw_below_drewN | apply below_drew1 | refine below_set ?_ GE161.out | refine below_set ?_ GE162.out) | exact HB.out)⟩
                  · rw [if_neg c70] at H
                    have c70b0 : (a1_1 == a0_1) = false := beq_eq_false_iff_ne.mpr c70
                    have c70b1 : (a1_1 != a0_1) = true := bne_iff_ne.mpr c70
                    obtain rfl := Option.some.inj H
                    have hnb123 := NB162_161.out
                    have hnc123 := NB161_162.out
                    have hcz124_0 : wc.cell? ⟨gb162, 0, none⟩ = some (.int .i64 a1_0) := (blk_cell BK162.out 0).trans rfl
                    have hcz124_1 : wc.cell? ⟨gb162, 1, none⟩ = some (.int .i64 a1_1) := (blk_cell BK162.out 1).trans rfl
                    have hcz124_2 : wc.cell? ⟨gb162, 2, none⟩ = some (.int .i64 a1_2) := (blk_cell BK162.out 2).trans rfl
                    have hcz124_3 : wc.cell? ⟨gb162, 3, none⟩ = some (.int .i64 a1_3) := (blk_cell BK162.out 3).trans rfl
                    have hcz124_4 : wc.cell? ⟨gb162, 4, none⟩ = some (.slice A1_4 l1_4.length c1_4) := (blk_cell BK162.out 4).trans rfl
                    have hfz124_0 := blk_frozen BK162.out 0
                    have hfz124_1 := blk_frozen BK162.out 1
                    have hfz124_2 := blk_frozen BK162.out 2
                    have hfz124_3 := blk_frozen BK162.out 3
                    have hfz124_4 := blk_frozen BK162.out 4
                    have hcz125_0 : wc.cell? ⟨gb161, 0, none⟩ = some (.int .i64 a0_0) := (blk_cell BK161.out 0).trans rfl
                    have hcz125_1 : wc.cell? ⟨gb161, 1, none⟩ = some (.int .i64 a0_1) := (blk_cell BK161.out 1).trans rfl
                    have hcz125_2 : wc.cell? ⟨gb161, 2, none⟩ = some (.int .i64 a0_2) := (blk_cell BK161.out 2).trans rfl
                    have hcz125_3 : wc.cell? ⟨gb161, 3, none⟩ = some (.int .i64 a0_3) := (blk_cell BK161.out 3).trans rfl
                    have hcz125_4 : wc.cell? ⟨gb161, 4, none⟩ = some (.int .i64 a0_4) := (blk_cell BK161.out 4).trans rfl
                    have hfz125_0 := blk_frozen BK161.out 0
                    have hfz125_1 := blk_frozen BK161.out 1
                    have hfz125_2 := blk_frozen BK161.out 2
                    have hfz125_3 := blk_frozen BK161.out 3
                    have hfz125_4 := blk_frozen BK161.out 4
                    go_wp2_with (first | ((with_reducible refine gate_callee (f := 31) rfl ?_); refine goesL_ (some 43) rfl rfl Try.func31 (by kernel_rfl) rfl #[.agg #[.int .i64 a0_0, .int .i64 a0_1, .int .i64 a0_2, .int .i64 a0_3, .int .i64 a0_4]] rfl (by (try simp only [List.map_toArray, List.map_cons, List.map_nil]); first | done | rfl | (simp only [List.length_drop, List.length_take]; rfl)) ?_; (with_reducible refine (deadwoodref09_May.calls kj2 a0_0 a0_1 a0_2 a0_3 a0_4 true _ A45.out).mono ?_); rintro e w126 ⟨rfl, hb⟩; refine ⟨_, rfl, ?_⟩; have n0_ := Aside0.mk (blk_below (g := gb161) (o := .cells #[.int .i64 a0_0, .int .i64 a0_1, .int .i64 a0_2, .int .i64 a0_3, .int .i64 a0_4] 38 (0, 0)) (by (with_reducible repeat (first | refine blk_drewN ?_ _ | refine blk_drew ?_ | refine blk_alloc ?_ _)); exact BK161.out) hb); have n1_ := Aside0.mk (blk_below (g := gb162) (o := .cells #[.int .i64 a1_0, .int .i64 a1_1, .int .i64 a1_2, .int .i64 a1_3, .slice A1_4 l1_4.length c1_4] 41 (0, 0)) (by (with_reducible repeat (first | refine blk_drewN ?_ _ | refine blk_drew ?_ | refine blk_alloc ?_ _)); exact BK162.out) hb); have n2_ := Aside0.mk (below_step (by repeat (first | (with_reducible first | exact HB.out | apply below_alloc | apply pw_below_drewN | apply below_drew1 | refine below_set ?_ GE161.out | refine below_set ?_ GE162.out) | exact HB.out)) hb); clear BK161; clear BK162; clear HB; have BK161 := n0_; have BK162 := n1_; have HB := n2_; clear n0_ n1_ n2_; (try clear hb); (try clear hb2); (try clear hk); (try clear hi); have hcz127_0 : w126.cell? ⟨gb162, 0, none⟩ = some (.int .i64 a1_0) := (blk_cell BK162.out 0).trans rfl; have hcz127_1 : w126.cell? ⟨gb162, 1, none⟩ = some (.int .i64 a1_1) := (blk_cell BK162.out 1).trans rfl; have hcz127_2 : w126.cell? ⟨gb162, 2, none⟩ = some (.int .i64 a1_2) := (blk_cell BK162.out 2).trans rfl; have hcz127_3 : w126.cell? ⟨gb162, 3, none⟩ = some (.int .i64 a1_3) := (blk_cell BK162.out 3).trans rfl; have hcz127_4 : w126.cell? ⟨gb162, 4, none⟩ = some (.slice A1_4 l1_4.length c1_4) := (blk_cell BK162.out 4).trans rfl; have hfz127_0 := blk_frozen BK162.out 0; have hfz127_1 := blk_frozen BK162.out 1; have hfz127_2 := blk_frozen BK162.out 2; have hfz127_3 := blk_frozen BK162.out 3; have hfz127_4 := blk_frozen BK162.out 4; have hcz128_0 : w126.cell? ⟨gb161, 0, none⟩ = some (.int .i64 a0_0) := (blk_cell BK161.out 0).trans rfl; have hcz128_1 : w126.cell? ⟨gb161, 1, none⟩ = some (.int .i64 a0_1) := (blk_cell BK161.out 1).trans rfl; have hcz128_2 : w126.cell? ⟨gb161, 2, none⟩ = some (.int .i64 a0_2) := (blk_cell BK161.out 2).trans rfl; have hcz128_3 : w126.cell? ⟨gb161, 3, none⟩ = some (.int .i64 a0_3) := (blk_cell BK161.out 3).trans rfl; have hcz128_4 : w126.cell? ⟨gb161, 4, none⟩ = some (.int .i64 a0_4) := (blk_cell BK161.out 4).trans rfl; have hfz128_0 := blk_frozen BK161.out 0; have hfz128_1 := blk_frozen BK161.out 1; have hfz128_2 := blk_frozen BK161.out 2; have hfz128_3 := blk_frozen BK161.out 3; have hfz128_4 := blk_frozen BK161.out 4))
                    go_ret
                    exact ⟨by first | rfl | (simp [errW_none, errW_some] <;> rfl) | (simp [*, errW_none, errW_some] <;> rfl), by repeat (first | (with_reducible first | exact HB.out | apply below_alloc | apply pw_below_drewN | apply below_drew1 | refine below_set ?_ GE161.out | refine below_set ?_ GE162.out) | exact HB.out)⟩
                · rw [if_neg c69] at H
                  have c69b0 : (a0_0 == 1) = false := beq_eq_false_iff_ne.mpr c69
                  have c69b1 : (a0_0 != 1) = true := bne_iff_ne.mpr c69
                  by_cases c129 : a0_0 = 2
                  · rw [if_pos c129] at H
                    have c129b0 : (a0_0 == 2) = true := beq_iff_eq.mpr c129
                    have c129b1 : (a0_0 != 2) = false := bne_eq_false_iff_eq.mpr c129
                    clear c129
                    by_cases c130 : a1_1 = a0_1
                    · rw [if_pos c130] at H
                      have c130b0 : (a1_1 == a0_1) = true := beq_iff_eq.mpr c130
                      have c130b1 : (a1_1 != a0_1) = false := bne_eq_false_iff_eq.mpr c130
                      clear c130
                      by_cases c131 : a0_0 = 7
                      · rw [if_pos c131] at H
                        have c131b0 : (a0_0 == 7) = true := beq_iff_eq.mpr c131
                        have c131b1 : (a0_0 != 7) = false := bne_eq_false_iff_eq.mpr c131
                        clear c131
                        by_cases c132 : a1_1 > a0_1
                        · rw [if_pos c132] at H
                          have c132b0 : decide (a0_1 < a1_1) = true := decide_eq_true c132
                          clear c132
                          obtain rfl := Option.some.inj H
                          have hnb133 := NB162_161.out
                          have hnc133 := NB161_162.out
                          have hcz134_0 : wc.cell? ⟨gb162, 0, none⟩ = some (.int .i64 a1_0) := (blk_cell BK162.out 0).trans rfl
                          have hcz134_1 : wc.cell? ⟨gb162, 1, none⟩ = some (.int .i64 a1_1) := (blk_cell BK162.out 1).trans rfl
                          have hcz134_2 : wc.cell? ⟨gb162, 2, none⟩ = some (.int .i64 a1_2) := (blk_cell BK162.out 2).trans rfl
                          have hcz134_3 : wc.cell? ⟨gb162, 3, none⟩ = some (.int .i64 a1_3) := (blk_cell BK162.out 3).trans rfl
                          have hcz134_4 : wc.cell? ⟨gb162, 4, none⟩ = some (.slice A1_4 l1_4.length c1_4) := (blk_cell BK162.out 4).trans rfl
                          have hfz134_0 := blk_frozen BK162.out 0
                          have hfz134_1 := blk_frozen BK162.out 1
                          have hfz134_2 := blk_frozen BK162.out 2
                          have hfz134_3 := blk_frozen BK162.out 3
                          have hfz134_4 := blk_frozen BK162.out 4
                          have hcz135_0 : wc.cell? ⟨gb161, 0, none⟩ = some (.int .i64 a0_0) := (blk_cell BK161.out 0).trans rfl
                          have hcz135_1 : wc.cell? ⟨gb161, 1, none⟩ = some (.int .i64 a0_1) := (blk_cell BK161.out 1).trans rfl
                          have hcz135_2 : wc.cell? ⟨gb161, 2, none⟩ = some (.int .i64 a0_2) := (blk_cell BK161.out 2).trans rfl
                          have hcz135_3 : wc.cell? ⟨gb161, 3, none⟩ = some (.int .i64 a0_3) := (blk_cell BK161.out 3).trans rfl
                          have hcz135_4 : wc.cell? ⟨gb161, 4, none⟩ = some (.int .i64 a0_4) := (blk_cell BK161.out 4).trans rfl
                          have hfz135_0 := blk_frozen BK161.out 0
                          have hfz135_1 := blk_frozen BK161.out 1
                          have hfz135_2 := blk_frozen BK161.out 2
                          have hfz135_3 := blk_frozen BK161.out 3
                          have hfz135_4 := blk_frozen BK161.out 4
                          go_wp2_with (first | ((with_reducible refine gate_callee (f := 31) rfl ?_); refine goesL_ (some 43) rfl rfl Try.func31 (by kernel_rfl) rfl #[.agg #[.int .i64 a0_0, .int .i64 a0_1, .int .i64 a0_2, .int .i64 a0_3, .int .i64 a0_4]] rfl (by (try simp only [List.map_toArray, List.map_cons, List.map_nil]); first | done | rfl | (simp only [List.length_drop, List.length_take]; rfl)) ?_; (with_reducible refine (deadwoodref09_May.calls kj2 a0_0 a0_1 a0_2 a0_3 a0_4 true _ A45.out).mono ?_); rintro e w136 ⟨rfl, hb⟩; refine ⟨_, rfl, ?_⟩; have n0_ := Aside0.mk (blk_below (g := gb161) (o := .cells #[.int .i64 a0_0, .int .i64 a0_1, .int .i64 a0_2, .int .i64 a0_3, .int .i64 a0_4] 38 (0, 0)) (by (with_reducible repeat (first | refine blk_drewN ?_ _ | refine blk_drew ?_ | refine blk_alloc ?_ _)); exact BK161.out) hb); have n1_ := Aside0.mk (blk_below (g := gb162) (o := .cells #[.int .i64 a1_0, .int .i64 a1_1, .int .i64 a1_2, .int .i64 a1_3, .slice A1_4 l1_4.length c1_4] 41 (0, 0)) (by (with_reducible repeat (first | refine blk_drewN ?_ _ | refine blk_drew ?_ | refine blk_alloc ?_ _)); exact BK162.out) hb); have n2_ := Aside0.mk (below_step (by repeat (first | (with_reducible first | exact HB.out | apply below_alloc | apply pw_below_drewN | apply below_drew1 | refine below_set ?_ GE161.out | refine below_set ?_ GE162.out) | exact HB.out)) hb); clear BK161; clear BK162; clear HB; have BK161 := n0_; have BK162 := n1_; have HB := n2_; clear n0_ n1_ n2_; (try clear hb); (try clear hb2); (try clear hk); (try clear hi); have hcz137_0 : w136.cell? ⟨gb162, 0, none⟩ = some (.int .i64 a1_0) := (blk_cell BK162.out 0).trans rfl; have hcz137_1 : w136.cell? ⟨gb162, 1, none⟩ = some (.int .i64 a1_1) := (blk_cell BK162.out 1).trans rfl; have hcz137_2 : w136.cell? ⟨gb162, 2, none⟩ = some (.int .i64 a1_2) := (blk_cell BK162.out 2).trans rfl; have hcz137_3 : w136.cell? ⟨gb162, 3, none⟩ = some (.int .i64 a1_3) := (blk_cell BK162.out 3).trans rfl; have hcz137_4 : w136.cell? ⟨gb162, 4, none⟩ = some (.slice A1_4 l1_4.length c1_4) := (blk_cell BK162.out 4).trans rfl; have hfz137_0 := blk_frozen BK162.out 0; have hfz137_1 := blk_frozen BK162.out 1; have hfz137_2 := blk_frozen BK162.out 2; have hfz137_3 := blk_frozen BK162.out 3; have hfz137_4 := blk_frozen BK162.out 4; have hcz138_0 : w136.cell? ⟨gb161, 0, none⟩ = some (.int .i64 a0_0) := (blk_cell BK161.out 0).trans rfl; have hcz138_1 : w136.cell? ⟨gb161, 1, none⟩ = some (.int .i64 a0_1) := (blk_cell BK161.out 1).trans rfl; have hcz138_2 : w136.cell? ⟨gb161, 2, none⟩ = some (.int .i64 a0_2) := (blk_cell BK161.out 2).trans rfl; have hcz138_3 : w136.cell? ⟨gb161, 3, none⟩ = some (.int .i64 a0_3) := (blk_cell BK161.out 3).trans rfl; have hcz138_4 : w136.cell? ⟨gb161, 4, none⟩ = some (.int .i64 a0_4) := (blk_cell BK161.out 4).trans rfl; have hfz138_0 := blk_frozen BK161.out 0; have hfz138_1 := blk_frozen BK161.out 1; have hfz138_2 := blk_frozen BK161.out 2; have hfz138_3 := blk_frozen BK161.out 3; have hfz138_4 := blk_frozen BK161.out 4))
                          go_ret
                          exact ⟨by first | rfl | (simp [errW_none, errW_some] <;> rfl) | (simp [*, errW_none, errW_some] <;> rfl), by repeat (first | (with_reducible first | exact HB.out | apply below_alloc | apply pw_below_drewN | apply below_drew1 | refine below_set ?_ GE161.out | refine below_set ?_ GE162.out) | exact HB.out)⟩
                        · rw [if_neg c132] at H
                          have c132b0 : decide (a0_1 < a1_1) = false := decide_eq_false c132
                          clear c132
                          by_cases c139 : a0_0 = 8
                          · rw [if_pos c139] at H
                            have c139b0 : (a0_0 == 8) = true := beq_iff_eq.mpr c139
                            have c139b1 : (a0_0 != 8) = false := bne_eq_false_iff_eq.mpr c139
                            clear c139
                            by_cases c140 : a1_1 < a0_1
                            · rw [if_pos c140] at H
                              have c140b0 : decide (a1_1 < a0_1) = true := decide_eq_true c140
                              clear c140
                              obtain rfl := Option.some.inj H
                              have hnb141 := NB162_161.out
                              have hnc141 := NB161_162.out
                              have hcz142_0 : wc.cell? ⟨gb162, 0, none⟩ = some (.int .i64 a1_0) := (blk_cell BK162.out 0).trans rfl
                              have hcz142_1 : wc.cell? ⟨gb162, 1, none⟩ = some (.int .i64 a1_1) := (blk_cell BK162.out 1).trans rfl
                              have hcz142_2 : wc.cell? ⟨gb162, 2, none⟩ = some (.int .i64 a1_2) := (blk_cell BK162.out 2).trans rfl
                              have hcz142_3 : wc.cell? ⟨gb162, 3, none⟩ = some (.int .i64 a1_3) := (blk_cell BK162.out 3).trans rfl
                              have hcz142_4 : wc.cell? ⟨gb162, 4, none⟩ = some (.slice A1_4 l1_4.length c1_4) := (blk_cell BK162.out 4).trans rfl
                              have hfz142_0 := blk_frozen BK162.out 0
                              have hfz142_1 := blk_frozen BK162.out 1
                              have hfz142_2 := blk_frozen BK162.out 2
                              have hfz142_3 := blk_frozen BK162.out 3
                              have hfz142_4 := blk_frozen BK162.out 4
                              have hcz143_0 : wc.cell? ⟨gb161, 0, none⟩ = some (.int .i64 a0_0) := (blk_cell BK161.out 0).trans rfl
                              have hcz143_1 : wc.cell? ⟨gb161, 1, none⟩ = some (.int .i64 a0_1) := (blk_cell BK161.out 1).trans rfl
                              have hcz143_2 : wc.cell? ⟨gb161, 2, none⟩ = some (.int .i64 a0_2) := (blk_cell BK161.out 2).trans rfl
                              have hcz143_3 : wc.cell? ⟨gb161, 3, none⟩ = some (.int .i64 a0_3) := (blk_cell BK161.out 3).trans rfl
                              have hcz143_4 : wc.cell? ⟨gb161, 4, none⟩ = some (.int .i64 a0_4) := (blk_cell BK161.out 4).trans rfl
                              have hfz143_0 := blk_frozen BK161.out 0
                              have hfz143_1 := blk_frozen BK161.out 1
                              have hfz143_2 := blk_frozen BK161.out 2
                              have hfz143_3 := blk_frozen BK161.out 3
                              have hfz143_4 := blk_frozen BK161.out 4
                              go_wp2_with (first | ((with_reducible refine gate_callee (f := 31) rfl ?_); refine goesL_ (some 43) rfl rfl Try.func31 (by kernel_rfl) rfl #[.agg #[.int .i64 a0_0, .int .i64 a0_1, .int .i64 a0_2, .int .i64 a0_3, .int .i64 a0_4]] rfl (by (try simp only [List.map_toArray, List.map_cons, List.map_nil]); first | done | rfl | (simp only [List.length_drop, List.length_take]; rfl)) ?_; (with_reducible refine (deadwoodref09_May.calls kj2 a0_0 a0_1 a0_2 a0_3 a0_4 true _ A45.out).mono ?_); rintro e w144 ⟨rfl, hb⟩; refine ⟨_, rfl, ?_⟩; have n0_ := Aside0.mk (blk_below (g := gb161) (o := .cells #[.int .i64 a0_0, .int .i64 a0_1, .int .i64 a0_2, .int .i64 a0_3, .int .i64 a0_4] 38 (0, 0)) (by (with_reducible repeat (first | refine blk_drewN ?_ _ | refine blk_drew ?_ | refine blk_alloc ?_ _)); exact BK161.out) hb); have n1_ := Aside0.mk (blk_below (g := gb162) (o := .cells #[.int .i64 a1_0, .int .i64 a1_1, .int .i64 a1_2, .int .i64 a1_3, .slice A1_4 l1_4.length c1_4] 41 (0, 0)) (by (with_reducible repeat (first | refine blk_drewN ?_ _ | refine blk_drew ?_ | refine blk_alloc ?_ _)); exact BK162.out) hb); have n2_ := Aside0.mk (below_step (by repeat (first | (with_reducible first | exact HB.out | apply below_alloc | apply pw_below_drewN | apply below_drew1 | refine below_set ?_ GE161.out | refine below_set ?_ GE162.out) | exact HB.out)) hb); clear BK161; clear BK162; clear HB; have BK161 := n0_; have BK162 := n1_; have HB := n2_; clear n0_ n1_ n2_; (try clear hb); (try clear hb2); (try clear hk); (try clear hi); have hcz145_0 : w144.cell? ⟨gb162, 0, none⟩ = some (.int .i64 a1_0) := (blk_cell BK162.out 0).trans rfl; have hcz145_1 : w144.cell? ⟨gb162, 1, none⟩ = some (.int .i64 a1_1) := (blk_cell BK162.out 1).trans rfl; have hcz145_2 : w144.cell? ⟨gb162, 2, none⟩ = some (.int .i64 a1_2) := (blk_cell BK162.out 2).trans rfl; have hcz145_3 : w144.cell? ⟨gb162, 3, none⟩ = some (.int .i64 a1_3) := (blk_cell BK162.out 3).trans rfl; have hcz145_4 : w144.cell? ⟨gb162, 4, none⟩ = some (.slice A1_4 l1_4.length c1_4) := (blk_cell BK162.out 4).trans rfl; have hfz145_0 := blk_frozen BK162.out 0; have hfz145_1 := blk_frozen BK162.out 1; have hfz145_2 := blk_frozen BK162.out 2; have hfz145_3 := blk_frozen BK162.out 3; have hfz145_4 := blk_frozen BK162.out 4; have hcz146_0 : w144.cell? ⟨gb161, 0, none⟩ = some (.int .i64 a0_0) := (blk_cell BK161.out 0).trans rfl; have hcz146_1 : w144.cell? ⟨gb161, 1, none⟩ = some (.int .i64 a0_1) := (blk_cell BK161.out 1).trans rfl; have hcz146_2 : w144.cell? ⟨gb161, 2, none⟩ = some (.int .i64 a0_2) := (blk_cell BK161.out 2).trans rfl; have hcz146_3 : w144.cell? ⟨gb161, 3, none⟩ = some (.int .i64 a0_3) := (blk_cell BK161.out 3).trans rfl; have hcz146_4 : w144.cell? ⟨gb161, 4, none⟩ = some (.int .i64 a0_4) := (blk_cell BK161.out 4).trans rfl; have hfz146_0 := blk_frozen BK161.out 0; have hfz146_1 := blk_frozen BK161.out 1; have hfz146_2 := blk_frozen BK161.out 2; have hfz146_3 := blk_frozen BK161.out 3; have hfz146_4 := blk_frozen BK161.out 4))
                              go_ret
                              exact ⟨by first | rfl | (simp [errW_none, errW_some] <;> rfl) | (simp [*, errW_none, errW_some] <;> rfl), by repeat (first | (with_reducible first | exact HB.out | apply below_alloc | apply pw_below_drewN | apply below_drew1 | refine below_set ?_ GE161.out | refine below_set ?_ GE162.out) | exact HB.out)⟩
                            · rw [if_neg c140] at H
                              have c140b0 : decide (a1_1 < a0_1) = false := decide_eq_false c140
                              clear c140
                              replace H := Option.bind_eq_some_iff.mp H
                              obtain ⟨t168, A1470, H⟩ := H
                              replace H : (some t168) = some r := H
                              have A147 := Aside0.mk A1470
                              clear A1470
                              obtain rfl := Option.some.inj H
                              have hnb148 := NB162_161.out
                              have hnc148 := NB161_162.out
                              have hcz149_0 : wc.cell? ⟨gb162, 0, none⟩ = some (.int .i64 a1_0) := (blk_cell BK162.out 0).trans rfl
                              have hcz149_1 : wc.cell? ⟨gb162, 1, none⟩ = some (.int .i64 a1_1) := (blk_cell BK162.out 1).trans rfl
                              have hcz149_2 : wc.cell? ⟨gb162, 2, none⟩ = some (.int .i64 a1_2) := (blk_cell BK162.out 2).trans rfl
                              have hcz149_3 : wc.cell? ⟨gb162, 3, none⟩ = some (.int .i64 a1_3) := (blk_cell BK162.out 3).trans rfl
                              have hcz149_4 : wc.cell? ⟨gb162, 4, none⟩ = some (.slice A1_4 l1_4.length c1_4) := (blk_cell BK162.out 4).trans rfl
                              have hfz149_0 := blk_frozen BK162.out 0
                              have hfz149_1 := blk_frozen BK162.out 1
                              have hfz149_2 := blk_frozen BK162.out 2
                              have hfz149_3 := blk_frozen BK162.out 3
                              have hfz149_4 := blk_frozen BK162.out 4
                              have hcz150_0 : wc.cell? ⟨gb161, 0, none⟩ = some (.int .i64 a0_0) := (blk_cell BK161.out 0).trans rfl
                              have hcz150_1 : wc.cell? ⟨gb161, 1, none⟩ = some (.int .i64 a0_1) := (blk_cell BK161.out 1).trans rfl
                              have hcz150_2 : wc.cell? ⟨gb161, 2, none⟩ = some (.int .i64 a0_2) := (blk_cell BK161.out 2).trans rfl
                              have hcz150_3 : wc.cell? ⟨gb161, 3, none⟩ = some (.int .i64 a0_3) := (blk_cell BK161.out 3).trans rfl
                              have hcz150_4 : wc.cell? ⟨gb161, 4, none⟩ = some (.int .i64 a0_4) := (blk_cell BK161.out 4).trans rfl
                              have hfz150_0 := blk_frozen BK161.out 0
                              have hfz150_1 := blk_frozen BK161.out 1
                              have hfz150_2 := blk_frozen BK161.out 2
                              have hfz150_3 := blk_frozen BK161.out 3
                              have hfz150_4 := blk_frozen BK161.out 4
                              go_wp2_with (first | ((with_reducible refine gate_callee (f := 31) rfl ?_); refine goesL_ (some 43) rfl rfl Try.func31 (by kernel_rfl) rfl #[.agg #[.int .i64 a0_0, .int .i64 a0_1, .int .i64 a0_2, .int .i64 a0_3, .int .i64 a0_4]] rfl (by (try simp only [List.map_toArray, List.map_cons, List.map_nil]); first | done | rfl | (simp only [List.length_drop, List.length_take]; rfl)) ?_; (with_reducible refine (deadwoodref09_May.calls kj2 a0_0 a0_1 a0_2 a0_3 a0_4 true _ A45.out).mono ?_); rintro e w151 ⟨rfl, hb⟩; refine ⟨_, rfl, ?_⟩; have n0_ := Aside0.mk (blk_below (g := gb161) (o := .cells #[.int .i64 a0_0, .int .i64 a0_1, .int .i64 a0_2, .int .i64 a0_3, .int .i64 a0_4] 38 (0, 0)) (by (with_reducible repeat (first | refine blk_drewN ?_ _ | refine blk_drew ?_ | refine blk_alloc ?_ _)); exact BK161.out) hb); have n1_ := Aside0.mk (blk_below (g := gb162) (o := .cells #[.int .i64 a1_0, .int .i64 a1_1, .int .i64 a1_2, .int .i64 a1_3, .slice A1_4 l1_4.length c1_4] 41 (0, 0)) (by (with_reducible repeat (first | refine blk_drewN ?_ _ | refine blk_drew ?_ | refine blk_alloc ?_ _)); exact BK162.out) hb); have n2_ := Aside0.mk (below_step (by repeat (first | (with_reducible first | exact HB.out | apply below_alloc | apply pw_below_drewN | apply below_drew1 | refine below_set ?_ GE161.out | refine below_set ?_ GE162.out) | exact HB.out)) hb); clear BK161; clear BK162; clear HB; have BK161 := n0_; have BK162 := n1_; have HB := n2_; clear n0_ n1_ n2_; (try clear hb); (try clear hb2); (try clear hk); (try clear hi); have hcz152_0 : w151.cell? ⟨gb162, 0, none⟩ = some (.int .i64 a1_0) := (blk_cell BK162.out 0).trans rfl; have hcz152_1 : w151.cell? ⟨gb162, 1, none⟩ = some (.int .i64 a1_1) := (blk_cell BK162.out 1).trans rfl; have hcz152_2 : w151.cell? ⟨gb162, 2, none⟩ = some (.int .i64 a1_2) := (blk_cell BK162.out 2).trans rfl; have hcz152_3 : w151.cell? ⟨gb162, 3, none⟩ = some (.int .i64 a1_3) := (blk_cell BK162.out 3).trans rfl; have hcz152_4 : w151.cell? ⟨gb162, 4, none⟩ = some (.slice A1_4 l1_4.length c1_4) := (blk_cell BK162.out 4).trans rfl; have hfz152_0 := blk_frozen BK162.out 0; have hfz152_1 := blk_frozen BK162.out 1; have hfz152_2 := blk_frozen BK162.out 2; have hfz152_3 := blk_frozen BK162.out 3; have hfz152_4 := blk_frozen BK162.out 4; have hcz153_0 : w151.cell? ⟨gb161, 0, none⟩ = some (.int .i64 a0_0) := (blk_cell BK161.out 0).trans rfl; have hcz153_1 : w151.cell? ⟨gb161, 1, none⟩ = some (.int .i64 a0_1) := (blk_cell BK161.out 1).trans rfl; have hcz153_2 : w151.cell? ⟨gb161, 2, none⟩ = some (.int .i64 a0_2) := (blk_cell BK161.out 2).trans rfl; have hcz153_3 : w151.cell? ⟨gb161, 3, none⟩ = some (.int .i64 a0_3) := (blk_cell BK161.out 3).trans rfl; have hcz153_4 : w151.cell? ⟨gb161, 4, none⟩ = some (.int .i64 a0_4) := (blk_cell BK161.out 4).trans rfl; have hfz153_0 := blk_frozen BK161.out 0; have hfz153_1 := blk_frozen BK161.out 1; have hfz153_2 := blk_frozen BK161.out 2; have hfz153_3 := blk_frozen BK161.out 3; have hfz153_4 := blk_frozen BK161.out 4) | ((with_reducible refine gate_callee (f := 69) rfl ?_); refine goesL_ (some 105) rfl rfl Try.func69 (by kernel_rfl) rfl #[.int .i64 a0_0] rfl (by (try simp only [List.map_toArray, List.map_cons, List.map_nil]); first | done | rfl | (simp only [List.length_drop, List.length_take]; rfl)) ?_; (with_reducible refine (deadwoodref09_pair.calls a0_0 t168 _ A147.out).mono ?_); rintro e w' ⟨rfl, ⟨nd, rfl⟩⟩; refine ⟨_, rfl, ?_⟩))
                              go_ret
                              exact ⟨by first | rfl | (simp [errW_none, errW_some] <;> rfl) | (simp [*, errW_none, errW_some] <;> rfl), by repeat (first | (with_reducible first | exact HB.out | apply below_alloc | apply pw_below_drewN | apply below_drew1 | refine below_set ?_ GE161.out | refine below_set ?_ GE162.out) | exact HB.out)⟩
                          · rw [if_neg c139] at H
                            have c139b0 : (a0_0 == 8) = false := beq_eq_false_iff_ne.mpr c139
                            have c139b1 : (a0_0 != 8) = true := bne_iff_ne.mpr c139
                            replace H := Option.bind_eq_some_iff.mp H
                            obtain ⟨t169, A1540, H⟩ := H
                            replace H : (some t169) = some r := H
                            have A154 := Aside0.mk A1540
                            clear A1540
                            obtain rfl := Option.some.inj H
                            have hnb155 := NB162_161.out
                            have hnc155 := NB161_162.out
                            have hcz156_0 : wc.cell? ⟨gb162, 0, none⟩ = some (.int .i64 a1_0) := (blk_cell BK162.out 0).trans rfl
                            have hcz156_1 : wc.cell? ⟨gb162, 1, none⟩ = some (.int .i64 a1_1) := (blk_cell BK162.out 1).trans rfl
                            have hcz156_2 : wc.cell? ⟨gb162, 2, none⟩ = some (.int .i64 a1_2) := (blk_cell BK162.out 2).trans rfl
                            have hcz156_3 : wc.cell? ⟨gb162, 3, none⟩ = some (.int .i64 a1_3) := (blk_cell BK162.out 3).trans rfl
                            have hcz156_4 : wc.cell? ⟨gb162, 4, none⟩ = some (.slice A1_4 l1_4.length c1_4) := (blk_cell BK162.out 4).trans rfl
                            have hfz156_0 := blk_frozen BK162.out 0
                            have hfz156_1 := blk_frozen BK162.out 1
                            have hfz156_2 := blk_frozen BK162.out 2
                            have hfz156_3 := blk_frozen BK162.out 3
                            have hfz156_4 := blk_frozen BK162.out 4
                            have hcz157_0 : wc.cell? ⟨gb161, 0, none⟩ = some (.int .i64 a0_0) := (blk_cell BK161.out 0).trans rfl
                            have hcz157_1 : wc.cell? ⟨gb161, 1, none⟩ = some (.int .i64 a0_1) := (blk_cell BK161.out 1).trans rfl
                            have hcz157_2 : wc.cell? ⟨gb161, 2, none⟩ = some (.int .i64 a0_2) := (blk_cell BK161.out 2).trans rfl
                            have hcz157_3 : wc.cell? ⟨gb161, 3, none⟩ = some (.int .i64 a0_3) := (blk_cell BK161.out 3).trans rfl
                            have hcz157_4 : wc.cell? ⟨gb161, 4, none⟩ = some (.int .i64 a0_4) := (blk_cell BK161.out 4).trans rfl
                            have hfz157_0 := blk_frozen BK161.out 0
                            have hfz157_1 := blk_frozen BK161.out 1
                            have hfz157_2 := blk_frozen BK161.out 2
                            have hfz157_3 := blk_frozen BK161.out 3
                            have hfz157_4 := blk_frozen BK161.out 4
                            go_wp2_with (first | ((with_reducible refine gate_callee (f := 31) rfl ?_); refine goesL_ (some 43) rfl rfl Try.func31 (by kernel_rfl) rfl #[.agg #[.int .i64 a0_0, .int .i64 a0_1, .int .i64 a0_2, .int .i64 a0_3, .int .i64 a0_4]] rfl (by (try simp only [List.map_toArray, List.map_cons, List.map_nil]); first | done | rfl | (simp only [List.length_drop, List.length_take]; rfl)) ?_; (with_reducible refine (deadwoodref09_May.calls kj2 a0_0 a0_1 a0_2 a0_3 a0_4 true _ A45.out).mono ?_); rintro e w158 ⟨rfl, hb⟩; refine ⟨_, rfl, ?_⟩; have n0_ := Aside0.mk (blk_below (g := gb161) (o := .cells #[.int .i64 a0_0, .int .i64 a0_1, .int .i64 a0_2, .int .i64 a0_3, .int .i64 a0_4] 38 (0, 0)) (by (with_reducible repeat (first | refine blk_drewN ?_ _ | refine blk_drew ?_ | refine blk_alloc ?_ _)); exact BK161.out) hb); have n1_ := Aside0.mk (blk_below (g := gb162) (o := .cells #[.int .i64 a1_0, .int .i64 a1_1, .int .i64 a1_2, .int .i64 a1_3, .slice A1_4 l1_4.length c1_4] 41 (0, 0)) (by (with_reducible repeat (first | refine blk_drewN ?_ _ | refine blk_drew ?_ | refine blk_alloc ?_ _)); exact BK162.out) hb); have n2_ := Aside0.mk (below_step (by repeat (first | (with_reducible first | exact HB.out | apply below_alloc | apply pw_below_drewN | apply below_drew1 | refine below_set ?_ GE161.out | refine below_set ?_ GE162.out) | exact HB.out)) hb); clear BK161; clear BK162; clear HB; have BK161 := n0_; have BK162 := n1_; have HB := n2_; clear n0_ n1_ n2_; (try clear hb); (try clear hb2); (try clear hk); (try clear hi); have hcz159_0 : w158.cell? ⟨gb162, 0, none⟩ = some (.int .i64 a1_0) := (blk_cell BK162.out 0).trans rfl; have hcz159_1 : w158.cell? ⟨gb162, 1, none⟩ = some (.int .i64 a1_1) := (blk_cell BK162.out 1).trans rfl; have hcz159_2 : w158.cell? ⟨gb162, 2, none⟩ = some (.int .i64 a1_2) := (blk_cell BK162.out 2).trans rfl; have hcz159_3 : w158.cell? ⟨gb162, 3, none⟩ = some (.int .i64 a1_3) := (blk_cell BK162.out 3).trans rfl; have hcz159_4 : w158.cell? ⟨gb162, 4, none⟩ = some (.slice A1_4 l1_4.length c1_4) := (blk_cell BK162.out 4).trans rfl; have hfz159_0 := blk_frozen BK162.out 0; have hfz159_1 := blk_frozen BK162.out 1; have hfz159_2 := blk_frozen BK162.out 2; have hfz159_3 := blk_frozen BK162.out 3; have hfz159_4 := blk_frozen BK162.out 4; have hcz160_0 : w158.cell? ⟨gb161, 0, none⟩ = some (.int .i64 a0_0) := (blk_cell BK161.out 0).trans rfl; have hcz160_1 : w158.cell? ⟨gb161, 1, none⟩ = some (.int .i64 a0_1) := (blk_cell BK161.out 1).trans rfl; have hcz160_2 : w158.cell? ⟨gb161, 2, none⟩ = some (.int .i64 a0_2) := (blk_cell BK161.out 2).trans rfl; have hcz160_3 : w158.cell? ⟨gb161, 3, none⟩ = some (.int .i64 a0_3) := (blk_cell BK161.out 3).trans rfl; have hcz160_4 : w158.cell? ⟨gb161, 4, none⟩ = some (.int .i64 a0_4) := (blk_cell BK161.out 4).trans rfl; have hfz160_0 := blk_frozen BK161.out 0; have hfz160_1 := blk_frozen BK161.out 1; have hfz160_2 := blk_frozen BK161.out 2; have hfz160_3 := blk_frozen BK161.out 3; have hfz160_4 := blk_frozen BK161.out 4) | ((with_reducible refine gate_callee (f := 69) rfl ?_); refine goesL_ (some 105) rfl rfl Try.func69 (by kernel_rfl) rfl #[.int .i64 a0_0] rfl (by (try simp only [List.map_toArray, List.map_cons, List.map_nil]); first | done | rfl | (simp only [List.length_drop, List.length_take]; rfl)) ?_; (with_reducible refine (deadwoodref09_pair.calls a0_0 t169 _ A154.out).mono ?_); rintro e w' ⟨rfl, ⟨nd, rfl⟩⟩; refine ⟨_, rfl, ?_⟩))
                            go_ret
                            exact ⟨by first | rfl | (simp [errW_none, errW_some] <;> rfl) | (simp [*, errW_none, errW_some] <;> rfl), by repeat (first | (with_reducible first | exact HB.out | apply below_alloc | apply pw_below_drewN | apply below_drew1 | refine below_set ?_ GE161.out | refine below_set ?_ GE162.out) | exact HB.out)⟩
                      · rw [if_neg c131] at H
                        have c131b0 : (a0_0 == 7) = false := beq_eq_false_iff_ne.mpr c131
                        have c131b1 : (a0_0 != 7) = true := bne_iff_ne.mpr c131
                        by_cases c161 : a0_0 = 8
                        · rw [if_pos c161] at H
                          have c161b0 : (a0_0 == 8) = true := beq_iff_eq.mpr c161
                          have c161b1 : (a0_0 != 8) = false := bne_eq_false_iff_eq.mpr c161
                          clear c161
                          by_cases c162 : a1_1 < a0_1
                          · rw [if_pos c162] at H
                            have c162b0 : decide (a1_1 < a0_1) = true := decide_eq_true c162
                            clear c162
                            obtain rfl := Option.some.inj H
                            have hnb163 := NB162_161.out
                            have hnc163 := NB161_162.out
                            have hcz164_0 : wc.cell? ⟨gb162, 0, none⟩ = some (.int .i64 a1_0) := (blk_cell BK162.out 0).trans rfl
                            have hcz164_1 : wc.cell? ⟨gb162, 1, none⟩ = some (.int .i64 a1_1) := (blk_cell BK162.out 1).trans rfl
                            have hcz164_2 : wc.cell? ⟨gb162, 2, none⟩ = some (.int .i64 a1_2) := (blk_cell BK162.out 2).trans rfl
                            have hcz164_3 : wc.cell? ⟨gb162, 3, none⟩ = some (.int .i64 a1_3) := (blk_cell BK162.out 3).trans rfl
                            have hcz164_4 : wc.cell? ⟨gb162, 4, none⟩ = some (.slice A1_4 l1_4.length c1_4) := (blk_cell BK162.out 4).trans rfl
                            have hfz164_0 := blk_frozen BK162.out 0
                            have hfz164_1 := blk_frozen BK162.out 1
                            have hfz164_2 := blk_frozen BK162.out 2
                            have hfz164_3 := blk_frozen BK162.out 3
                            have hfz164_4 := blk_frozen BK162.out 4
                            have hcz165_0 : wc.cell? ⟨gb161, 0, none⟩ = some (.int .i64 a0_0) := (blk_cell BK161.out 0).trans rfl
                            have hcz165_1 : wc.cell? ⟨gb161, 1, none⟩ = some (.int .i64 a0_1) := (blk_cell BK161.out 1).trans rfl
                            have hcz165_2 : wc.cell? ⟨gb161, 2, none⟩ = some (.int .i64 a0_2) := (blk_cell BK161.out 2).trans rfl
                            have hcz165_3 : wc.cell? ⟨gb161, 3, none⟩ = some (.int .i64 a0_3) := (blk_cell BK161.out 3).trans rfl
                            have hcz165_4 : wc.cell? ⟨gb161, 4, none⟩ = some (.int .i64 a0_4) := (blk_cell BK161.out 4).trans rfl
                            have hfz165_0 := blk_frozen BK161.out 0
                            have hfz165_1 := blk_frozen BK161.out 1
                            have hfz165_2 := blk_frozen BK161.out 2
                            have hfz165_3 := blk_frozen BK161.out 3
                            have hfz165_4 := blk_frozen BK161.out 4
                            go_wp2_with (first | ((with_reducible refine gate_callee (f := 31) rfl ?_); refine goesL_ (some 43) rfl rfl Try.func31 (by kernel_rfl) rfl #[.agg #[.int .i64 a0_0, .int .i64 a0_1, .int .i64 a0_2, .int .i64 a0_3, .int .i64 a0_4]] rfl (by (try simp only [List.map_toArray, List.map_cons, List.map_nil]); first | done | rfl | (simp only [List.length_drop, List.length_take]; rfl)) ?_; (with_reducible refine (deadwoodref09_May.calls kj2 a0_0 a0_1 a0_2 a0_3 a0_4 true _ A45.out).mono ?_); rintro e w166 ⟨rfl, hb⟩; refine ⟨_, rfl, ?_⟩; have n0_ := Aside0.mk (blk_below (g := gb161) (o := .cells #[.int .i64 a0_0, .int .i64 a0_1, .int .i64 a0_2, .int .i64 a0_3, .int .i64 a0_4] 38 (0, 0)) (by (with_reducible repeat (first | refine blk_drewN ?_ _ | refine blk_drew ?_ | refine blk_alloc ?_ _)); exact BK161.out) hb); have n1_ := Aside0.mk (blk_below (g := gb162) (o := .cells #[.int .i64 a1_0, .int .i64 a1_1, .int .i64 a1_2, .int .i64 a1_3, .slice A1_4 l1_4.length c1_4] 41 (0, 0)) (by (with_reducible repeat (first | refine blk_drewN ?_ _ | refine blk_drew ?_ | refine blk_alloc ?_ _)); exact BK162.out) hb); have n2_ := Aside0.mk (below_step (by repeat (first | (with_reducible first | exact HB.out | apply below_alloc | apply pw_below_drewN | apply below_drew1 | refine below_set ?_ GE161.out | refine below_set ?_ GE162.out) | exact HB.out)) hb); clear BK161; clear BK162; clear HB; have BK161 := n0_; have BK162 := n1_; have HB := n2_; clear n0_ n1_ n2_; (try clear hb); (try clear hb2); (try clear hk); (try clear hi); have hcz167_0 : w166.cell? ⟨gb162, 0, none⟩ = some (.int .i64 a1_0) := (blk_cell BK162.out 0).trans rfl; have hcz167_1 : w166.cell? ⟨gb162, 1, none⟩ = some (.int .i64 a1_1) := (blk_cell BK162.out 1).trans rfl; have hcz167_2 : w166.cell? ⟨gb162, 2, none⟩ = some (.int .i64 a1_2) := (blk_cell BK162.out 2).trans rfl; have hcz167_3 : w166.cell? ⟨gb162, 3, none⟩ = some (.int .i64 a1_3) := (blk_cell BK162.out 3).trans rfl; have hcz167_4 : w166.cell? ⟨gb162, 4, none⟩ = some (.slice A1_4 l1_4.length c1_4) := (blk_cell BK162.out 4).trans rfl; have hfz167_0 := blk_frozen BK162.out 0; have hfz167_1 := blk_frozen BK162.out 1; have hfz167_2 := blk_frozen BK162.out 2; have hfz167_3 := blk_frozen BK162.out 3; have hfz167_4 := blk_frozen BK162.out 4; have hcz168_0 : w166.cell? ⟨gb161, 0, none⟩ = some (.int .i64 a0_0) := (blk_cell BK161.out 0).trans rfl; have hcz168_1 : w166.cell? ⟨gb161, 1, none⟩ = some (.int .i64 a0_1) := (blk_cell BK161.out 1).trans rfl; have hcz168_2 : w166.cell? ⟨gb161, 2, none⟩ = some (.int .i64 a0_2) := (blk_cell BK161.out 2).trans rfl; have hcz168_3 : w166.cell? ⟨gb161, 3, none⟩ = some (.int .i64 a0_3) := (blk_cell BK161.out 3).trans rfl; have hcz168_4 : w166.cell? ⟨gb161, 4, none⟩ = some (.int .i64 a0_4) := (blk_cell BK161.out 4).trans rfl; have hfz168_0 := blk_frozen BK161.out 0; have hfz168_1 := blk_frozen BK161.out 1; have hfz168_2 := blk_frozen BK161.out 2; have hfz168_3 := blk_frozen BK161.out 3; have hfz168_4 := blk_frozen BK161.out 4))
                            go_ret
                            exact ⟨by first | rfl | (simp [errW_none, errW_some] <;> rfl) | (simp [*, errW_none, errW_some] <;> rfl), by repeat (first | (with_reducible first | exact HB.out | apply below_alloc | apply pw_below_drewN | apply below_drew1 | refine below_set ?_ GE161.out | refine below_set ?_ GE162.out) | exact HB.out)⟩
                          · rw [if_neg c162] at H
                            have c162b0 : decide (a1_1 < a0_1) = false := decide_eq_false c162
                            clear c162
                            replace H := Option.bind_eq_some_iff.mp H
                            obtain ⟨t170, A1690, H⟩ := H
                            replace H : (some t170) = some r := H
                            have A169 := Aside0.mk A1690
                            clear A1690
                            obtain rfl := Option.some.inj H
                            have hnb170 := NB162_161.out
                            have hnc170 := NB161_162.out
                            have hcz171_0 : wc.cell? ⟨gb162, 0, none⟩ = some (.int .i64 a1_0) := (blk_cell BK162.out 0).trans rfl
                            have hcz171_1 : wc.cell? ⟨gb162, 1, none⟩ = some (.int .i64 a1_1) := (blk_cell BK162.out 1).trans rfl
                            have hcz171_2 : wc.cell? ⟨gb162, 2, none⟩ = some (.int .i64 a1_2) := (blk_cell BK162.out 2).trans rfl
                            have hcz171_3 : wc.cell? ⟨gb162, 3, none⟩ = some (.int .i64 a1_3) := (blk_cell BK162.out 3).trans rfl
                            have hcz171_4 : wc.cell? ⟨gb162, 4, none⟩ = some (.slice A1_4 l1_4.length c1_4) := (blk_cell BK162.out 4).trans rfl
                            have hfz171_0 := blk_frozen BK162.out 0
                            have hfz171_1 := blk_frozen BK162.out 1
                            have hfz171_2 := blk_frozen BK162.out 2
                            have hfz171_3 := blk_frozen BK162.out 3
                            have hfz171_4 := blk_frozen BK162.out 4
                            have hcz172_0 : wc.cell? ⟨gb161, 0, none⟩ = some (.int .i64 a0_0) := (blk_cell BK161.out 0).trans rfl
                            have hcz172_1 : wc.cell? ⟨gb161, 1, none⟩ = some (.int .i64 a0_1) := (blk_cell BK161.out 1).trans rfl
                            have hcz172_2 : wc.cell? ⟨gb161, 2, none⟩ = some (.int .i64 a0_2) := (blk_cell BK161.out 2).trans rfl
                            have hcz172_3 : wc.cell? ⟨gb161, 3, none⟩ = some (.int .i64 a0_3) := (blk_cell BK161.out 3).trans rfl
                            have hcz172_4 : wc.cell? ⟨gb161, 4, none⟩ = some (.int .i64 a0_4) := (blk_cell BK161.out 4).trans rfl
                            have hfz172_0 := blk_frozen BK161.out 0
                            have hfz172_1 := blk_frozen BK161.out 1
                            have hfz172_2 := blk_frozen BK161.out 2
                            have hfz172_3 := blk_frozen BK161.out 3
                            have hfz172_4 := blk_frozen BK161.out 4
                            go_wp2_with (first | ((with_reducible refine gate_callee (f := 31) rfl ?_); refine goesL_ (some 43) rfl rfl Try.func31 (by kernel_rfl) rfl #[.agg #[.int .i64 a0_0, .int .i64 a0_1, .int .i64 a0_2, .int .i64 a0_3, .int .i64 a0_4]] rfl (by (try simp only [List.map_toArray, List.map_cons, List.map_nil]); first | done | rfl | (simp only [List.length_drop, List.length_take]; rfl)) ?_; (with_reducible refine (deadwoodref09_May.calls kj2 a0_0 a0_1 a0_2 a0_3 a0_4 true _ A45.out).mono ?_); rintro e w173 ⟨rfl, hb⟩; refine ⟨_, rfl, ?_⟩; have n0_ := Aside0.mk (blk_below (g := gb161) (o := .cells #[.int .i64 a0_0, .int .i64 a0_1, .int .i64 a0_2, .int .i64 a0_3, .int .i64 a0_4] 38 (0, 0)) (by (with_reducible repeat (first | refine blk_drewN ?_ _ | refine blk_drew ?_ | refine blk_alloc ?_ _)); exact BK161.out) hb); have n1_ := Aside0.mk (blk_below (g := gb162) (o := .cells #[.int .i64 a1_0, .int .i64 a1_1, .int .i64 a1_2, .int .i64 a1_3, .slice A1_4 l1_4.length c1_4] 41 (0, 0)) (by (with_reducible repeat (first | refine blk_drewN ?_ _ | refine blk_drew ?_ | refine blk_alloc ?_ _)); exact BK162.out) hb); have n2_ := Aside0.mk (below_step (by repeat (first | (with_reducible first | exact HB.out | apply below_alloc | apply pw_below_drewN | apply below_drew1 | refine below_set ?_ GE161.out | refine below_set ?_ GE162.out) | exact HB.out)) hb); clear BK161; clear BK162; clear HB; have BK161 := n0_; have BK162 := n1_; have HB := n2_; clear n0_ n1_ n2_; (try clear hb); (try clear hb2); (try clear hk); (try clear hi); have hcz174_0 : w173.cell? ⟨gb162, 0, none⟩ = some (.int .i64 a1_0) := (blk_cell BK162.out 0).trans rfl; have hcz174_1 : w173.cell? ⟨gb162, 1, none⟩ = some (.int .i64 a1_1) := (blk_cell BK162.out 1).trans rfl; have hcz174_2 : w173.cell? ⟨gb162, 2, none⟩ = some (.int .i64 a1_2) := (blk_cell BK162.out 2).trans rfl; have hcz174_3 : w173.cell? ⟨gb162, 3, none⟩ = some (.int .i64 a1_3) := (blk_cell BK162.out 3).trans rfl; have hcz174_4 : w173.cell? ⟨gb162, 4, none⟩ = some (.slice A1_4 l1_4.length c1_4) := (blk_cell BK162.out 4).trans rfl; have hfz174_0 := blk_frozen BK162.out 0; have hfz174_1 := blk_frozen BK162.out 1; have hfz174_2 := blk_frozen BK162.out 2; have hfz174_3 := blk_frozen BK162.out 3; have hfz174_4 := blk_frozen BK162.out 4; have hcz175_0 : w173.cell? ⟨gb161, 0, none⟩ = some (.int .i64 a0_0) := (blk_cell BK161.out 0).trans rfl; have hcz175_1 : w173.cell? ⟨gb161, 1, none⟩ = some (.int .i64 a0_1) := (blk_cell BK161.out 1).trans rfl; have hcz175_2 : w173.cell? ⟨gb161, 2, none⟩ = some (.int .i64 a0_2) := (blk_cell BK161.out 2).trans rfl; have hcz175_3 : w173.cell? ⟨gb161, 3, none⟩ = some (.int .i64 a0_3) := (blk_cell BK161.out 3).trans rfl; have hcz175_4 : w173.cell? ⟨gb161, 4, none⟩ = some (.int .i64 a0_4) := (blk_cell BK161.out 4).trans rfl; have hfz175_0 := blk_frozen BK161.out 0; have hfz175_1 := blk_frozen BK161.out 1; have hfz175_2 := blk_frozen BK161.out 2; have hfz175_3 := blk_frozen BK161.out 3; have hfz175_4 := blk_frozen BK161.out 4) | ((with_reducible refine gate_callee (f := 69) rfl ?_); refine goesL_ (some 105) rfl rfl Try.func69 (by kernel_rfl) rfl #[.int .i64 a0_0] rfl (by (try simp only [List.map_toArray, List.map_cons, List.map_nil]); first | done | rfl | (simp only [List.length_drop, List.length_take]; rfl)) ?_; (with_reducible refine (deadwoodref09_pair.calls a0_0 t170 _ A169.out).mono ?_); rintro e w' ⟨rfl, ⟨nd, rfl⟩⟩; refine ⟨_, rfl, ?_⟩))
                            go_ret
                            exact ⟨by first | rfl | (simp [errW_none, errW_some] <;> rfl) | (simp [*, errW_none, errW_some] <;> rfl), by repeat (first | (with_reducible first | exact HB.out | apply below_alloc | apply pw_below_drewN | apply below_drew1 | refine below_set ?_ GE161.out | refine below_set ?_ GE162.out) | exact HB.out)⟩
                        · rw [if_neg c161] at H
                          have c161b0 : (a0_0 == 8) = false := beq_eq_false_iff_ne.mpr c161
                          have c161b1 : (a0_0 != 8) = true := bne_iff_ne.mpr c161
                          replace H := Option.bind_eq_some_iff.mp H
                          obtain ⟨t171, A1760, H⟩ := H
                          replace H : (some t171) = some r := H
                          have A176 := Aside0.mk A1760
                          clear A1760
                          obtain rfl := Option.some.inj H
                          have hnb177 := NB162_161.out
                          have hnc177 := NB161_162.out
                          have hcz178_0 : wc.cell? ⟨gb162, 0, none⟩ = some (.int .i64 a1_0) := (blk_cell BK162.out 0).trans rfl
                          have hcz178_1 : wc.cell? ⟨gb162, 1, none⟩ = some (.int .i64 a1_1) := (blk_cell BK162.out 1).trans rfl
                          have hcz178_2 : wc.cell? ⟨gb162, 2, none⟩ = some (.int .i64 a1_2) := (blk_cell BK162.out 2).trans rfl
                          have hcz178_3 : wc.cell? ⟨gb162, 3, none⟩ = some (.int .i64 a1_3) := (blk_cell BK162.out 3).trans rfl
                          have hcz178_4 : wc.cell? ⟨gb162, 4, none⟩ = some (.slice A1_4 l1_4.length c1_4) := (blk_cell BK162.out 4).trans rfl
                          have hfz178_0 := blk_frozen BK162.out 0
                          have hfz178_1 := blk_frozen BK162.out 1
                          have hfz178_2 := blk_frozen BK162.out 2
                          have hfz178_3 := blk_frozen BK162.out 3
                          have hfz178_4 := blk_frozen BK162.out 4
                          have hcz179_0 : wc.cell? ⟨gb161, 0, none⟩ = some (.int .i64 a0_0) := (blk_cell BK161.out 0).trans rfl
                          have hcz179_1 : wc.cell? ⟨gb161, 1, none⟩ = some (.int .i64 a0_1) := (blk_cell BK161.out 1).trans rfl
                          have hcz179_2 : wc.cell? ⟨gb161, 2, none⟩ = some (.int .i64 a0_2) := (blk_cell BK161.out 2).trans rfl
                          have hcz179_3 : wc.cell? ⟨gb161, 3, none⟩ = some (.int .i64 a0_3) := (blk_cell BK161.out 3).trans rfl
                          have hcz179_4 : wc.cell? ⟨gb161, 4, none⟩ = some (.int .i64 a0_4) := (blk_cell BK161.out 4).trans rfl
                          have hfz179_0 := blk_frozen BK161.out 0
                          have hfz179_1 := blk_frozen BK161.out 1
                          have hfz179_2 := blk_frozen BK161.out 2
                          have hfz179_3 := blk_frozen BK161.out 3
                          have hfz179_4 := blk_frozen BK161.out 4
                          go_wp2_with (first | ((with_reducible refine gate_callee (f := 31) rfl ?_); refine goesL_ (some 43) rfl rfl Try.func31 (by kernel_rfl) rfl #[.agg #[.int .i64 a0_0, .int .i64 a0_1, .int .i64 a0_2, .int .i64 a0_3, .int .i64 a0_4]] rfl (by (try simp only [List.map_toArray, List.map_cons, List.map_nil]); first | done | rfl | (simp only [List.length_drop, List.length_take]; rfl)) ?_; (with_reducible refine (deadwoodref09_May.calls kj2 a0_0 a0_1 a0_2 a0_3 a0_4 true _ A45.out).mono ?_); rintro e w180 ⟨rfl, hb⟩; refine ⟨_, rfl, ?_⟩; have n0_ := Aside0.mk (blk_below (g := gb161) (o := .cells #[.int .i64 a0_0, .int .i64 a0_1, .int .i64 a0_2, .int .i64 a0_3, .int .i64 a0_4] 38 (0, 0)) (by (with_reducible repeat (first | refine blk_drewN ?_ _ | refine blk_drew ?_ | refine blk_alloc ?_ _)); exact BK161.out) hb); have n1_ := Aside0.mk (blk_below (g := gb162) (o := .cells #[.int .i64 a1_0, .int .i64 a1_1, .int .i64 a1_2, .int .i64 a1_3, .slice A1_4 l1_4.length c1_4] 41 (0, 0)) (by (with_reducible repeat (first | refine blk_drewN ?_ _ | refine blk_drew ?_ | refine blk_alloc ?_ _)); exact BK162.out) hb); have n2_ := Aside0.mk (below_step (by repeat (first | (with_reducible first | exact HB.out | apply below_alloc | apply pw_below_drewN | apply below_drew1 | refine below_set ?_ GE161.out | refine below_set ?_ GE162.out) | exact HB.out)) hb); clear BK161; clear BK162; clear HB; have BK161 := n0_; have BK162 := n1_; have HB := n2_; clear n0_ n1_ n2_; (try clear hb); (try clear hb2); (try clear hk); (try clear hi); have hcz181_0 : w180.cell? ⟨gb162, 0, none⟩ = some (.int .i64 a1_0) := (blk_cell BK162.out 0).trans rfl; have hcz181_1 : w180.cell? ⟨gb162, 1, none⟩ = some (.int .i64 a1_1) := (blk_cell BK162.out 1).trans rfl; have hcz181_2 : w180.cell? ⟨gb162, 2, none⟩ = some (.int .i64 a1_2) := (blk_cell BK162.out 2).trans rfl; have hcz181_3 : w180.cell? ⟨gb162, 3, none⟩ = some (.int .i64 a1_3) := (blk_cell BK162.out 3).trans rfl; have hcz181_4 : w180.cell? ⟨gb162, 4, none⟩ = some (.slice A1_4 l1_4.length c1_4) := (blk_cell BK162.out 4).trans rfl; have hfz181_0 := blk_frozen BK162.out 0; have hfz181_1 := blk_frozen BK162.out 1; have hfz181_2 := blk_frozen BK162.out 2; have hfz181_3 := blk_frozen BK162.out 3; have hfz181_4 := blk_frozen BK162.out 4; have hcz182_0 : w180.cell? ⟨gb161, 0, none⟩ = some (.int .i64 a0_0) := (blk_cell BK161.out 0).trans rfl; have hcz182_1 : w180.cell? ⟨gb161, 1, none⟩ = some (.int .i64 a0_1) := (blk_cell BK161.out 1).trans rfl; have hcz182_2 : w180.cell? ⟨gb161, 2, none⟩ = some (.int .i64 a0_2) := (blk_cell BK161.out 2).trans rfl; have hcz182_3 : w180.cell? ⟨gb161, 3, none⟩ = some (.int .i64 a0_3) := (blk_cell BK161.out 3).trans rfl; have hcz182_4 : w180.cell? ⟨gb161, 4, none⟩ = some (.int .i64 a0_4) := (blk_cell BK161.out 4).trans rfl; have hfz182_0 := blk_frozen BK161.out 0; have hfz182_1 := blk_frozen BK161.out 1; have hfz182_2 := blk_frozen BK161.out 2; have hfz182_3 := blk_frozen BK161.out 3; have hfz182_4 := blk_frozen BK161.out 4) | ((with_reducible refine gate_callee (f := 69) rfl ?_); refine goesL_ (some 105) rfl rfl Try.func69 (by kernel_rfl) rfl #[.int .i64 a0_0] rfl (by (try simp only [List.map_toArray, List.map_cons, List.map_nil]); first | done | rfl | (simp only [List.length_drop, List.length_take]; rfl)) ?_; (with_reducible refine (deadwoodref09_pair.calls a0_0 t171 _ A176.out).mono ?_); rintro e w' ⟨rfl, ⟨nd, rfl⟩⟩; refine ⟨_, rfl, ?_⟩))
                          go_ret
                          exact ⟨by first | rfl | (simp [errW_none, errW_some] <;> rfl) | (simp [*, errW_none, errW_some] <;> rfl), by repeat (first | (with_reducible first | exact HB.out | apply below_alloc | apply pw_below_drewN | apply below_drew1 | refine below_set ?_ GE161.out | refine below_set ?_ GE162.out) | exact HB.out)⟩
                    · rw [if_neg c130] at H
                      have c130b0 : (a1_1 == a0_1) = false := beq_eq_false_iff_ne.mpr c130
                      have c130b1 : (a1_1 != a0_1) = true := bne_iff_ne.mpr c130
                      obtain rfl := Option.some.inj H
                      have hnb183 := NB162_161.out
                      have hnc183 := NB161_162.out
                      have hcz184_0 : wc.cell? ⟨gb162, 0, none⟩ = some (.int .i64 a1_0) := (blk_cell BK162.out 0).trans rfl
                      have hcz184_1 : wc.cell? ⟨gb162, 1, none⟩ = some (.int .i64 a1_1) := (blk_cell BK162.out 1).trans rfl
                      have hcz184_2 : wc.cell? ⟨gb162, 2, none⟩ = some (.int .i64 a1_2) := (blk_cell BK162.out 2).trans rfl
                      have hcz184_3 : wc.cell? ⟨gb162, 3, none⟩ = some (.int .i64 a1_3) := (blk_cell BK162.out 3).trans rfl
                      have hcz184_4 : wc.cell? ⟨gb162, 4, none⟩ = some (.slice A1_4 l1_4.length c1_4) := (blk_cell BK162.out 4).trans rfl
                      have hfz184_0 := blk_frozen BK162.out 0
                      have hfz184_1 := blk_frozen BK162.out 1
                      have hfz184_2 := blk_frozen BK162.out 2
                      have hfz184_3 := blk_frozen BK162.out 3
                      have hfz184_4 := blk_frozen BK162.out 4
                      have hcz185_0 : wc.cell? ⟨gb161, 0, none⟩ = some (.int .i64 a0_0) := (blk_cell BK161.out 0).trans rfl
                      have hcz185_1 : wc.cell? ⟨gb161, 1, none⟩ = some (.int .i64 a0_1) := (blk_cell BK161.out 1).trans rfl
                      have hcz185_2 : wc.cell? ⟨gb161, 2, none⟩ = some (.int .i64 a0_2) := (blk_cell BK161.out 2).trans rfl
                      have hcz185_3 : wc.cell? ⟨gb161, 3, none⟩ = some (.int .i64 a0_3) := (blk_cell BK161.out 3).trans rfl
                      have hcz185_4 : wc.cell? ⟨gb161, 4, none⟩ = some (.int .i64 a0_4) := (blk_cell BK161.out 4).trans rfl
                      have hfz185_0 := blk_frozen BK161.out 0
                      have hfz185_1 := blk_frozen BK161.out 1
                      have hfz185_2 := blk_frozen BK161.out 2
                      have hfz185_3 := blk_frozen BK161.out 3
                      have hfz185_4 := blk_frozen BK161.out 4
                      go_wp2_with (first | ((with_reducible refine gate_callee (f := 31) rfl ?_); refine goesL_ (some 43) rfl rfl Try.func31 (by kernel_rfl) rfl #[.agg #[.int .i64 a0_0, .int .i64 a0_1, .int .i64 a0_2, .int .i64 a0_3, .int .i64 a0_4]] rfl (by (try simp only [List.map_toArray, List.map_cons, List.map_nil]); first | done | rfl | (simp only [List.length_drop, List.length_take]; rfl)) ?_; (with_reducible refine (deadwoodref09_May.calls kj2 a0_0 a0_1 a0_2 a0_3 a0_4 true _ A45.out).mono ?_); rintro e w186 ⟨rfl, hb⟩; refine ⟨_, rfl, ?_⟩; have n0_ := Aside0.mk (blk_below (g := gb161) (o := .cells #[.int .i64 a0_0, .int .i64 a0_1, .int .i64 a0_2, .int .i64 a0_3, .int .i64 a0_4] 38 (0, 0)) (by (with_reducible repeat (first | refine blk_drewN ?_ _ | refine blk_drew ?_ | refine blk_alloc ?_ _)); exact BK161.out) hb); have n1_ := Aside0.mk (blk_below (g := gb162) (o := .cells #[.int .i64 a1_0, .int .i64 a1_1, .int .i64 a1_2, .int .i64 a1_3, .slice A1_4 l1_4.length c1_4] 41 (0, 0)) (by (with_reducible repeat (first | refine blk_drewN ?_ _ | refine blk_drew ?_ | refine blk_alloc ?_ _)); exact BK162.out) hb); have n2_ := Aside0.mk (below_step (by repeat (first | (with_reducible first | exact HB.out | apply below_alloc | apply pw_below_drewN | apply below_drew1 | refine below_set ?_ GE161.out | refine below_set ?_ GE162.out) | exact HB.out)) hb); clear BK161; clear BK162; clear HB; have BK161 := n0_; have BK162 := n1_; have HB := n2_; clear n0_ n1_ n2_; (try clear hb); (try clear hb2); (try clear hk); (try clear hi); have hcz187_0 : w186.cell? ⟨gb162, 0, none⟩ = some (.int .i64 a1_0) := (blk_cell BK162.out 0).trans rfl; have hcz187_1 : w186.cell? ⟨gb162, 1, none⟩ = some (.int .i64 a1_1) := (blk_cell BK162.out 1).trans rfl; have hcz187_2 : w186.cell? ⟨gb162, 2, none⟩ = some (.int .i64 a1_2) := (blk_cell BK162.out 2).trans rfl; have hcz187_3 : w186.cell? ⟨gb162, 3, none⟩ = some (.int .i64 a1_3) := (blk_cell BK162.out 3).trans rfl; have hcz187_4 : w186.cell? ⟨gb162, 4, none⟩ = some (.slice A1_4 l1_4.length c1_4) := (blk_cell BK162.out 4).trans rfl; have hfz187_0 := blk_frozen BK162.out 0; have hfz187_1 := blk_frozen BK162.out 1; have hfz187_2 := blk_frozen BK162.out 2; have hfz187_3 := blk_frozen BK162.out 3; have hfz187_4 := blk_frozen BK162.out 4; have hcz188_0 : w186.cell? ⟨gb161, 0, none⟩ = some (.int .i64 a0_0) := (blk_cell BK161.out 0).trans rfl; have hcz188_1 : w186.cell? ⟨gb161, 1, none⟩ = some (.int .i64 a0_1) := (blk_cell BK161.out 1).trans rfl; have hcz188_2 : w186.cell? ⟨gb161, 2, none⟩ = some (.int .i64 a0_2) := (blk_cell BK161.out 2).trans rfl; have hcz188_3 : w186.cell? ⟨gb161, 3, none⟩ = some (.int .i64 a0_3) := (blk_cell BK161.out 3).trans rfl; have hcz188_4 : w186.cell? ⟨gb161, 4, none⟩ = some (.int .i64 a0_4) := (blk_cell BK161.out 4).trans rfl; have hfz188_0 := blk_frozen BK161.out 0; have hfz188_1 := blk_frozen BK161.out 1; have hfz188_2 := blk_frozen BK161.out 2; have hfz188_3 := blk_frozen BK161.out 3; have hfz188_4 := blk_frozen BK161.out 4))
                      go_ret
                      exact ⟨by first | rfl | (simp [errW_none, errW_some] <;> rfl) | (simp [*, errW_none, errW_some] <;> rfl), by repeat (first | (with_reducible first | exact HB.out | apply below_alloc | apply pw_below_drewN | apply below_drew1 | refine below_set ?_ GE161.out | refine below_set ?_ GE162.out) | exact HB.out)⟩
                  · rw [if_neg c129] at H
                    have c129b0 : (a0_0 == 2) = false := beq_eq_false_iff_ne.mpr c129
                    have c129b1 : (a0_0 != 2) = true := bne_iff_ne.mpr c129
                    by_cases c189 : a0_0 = 7
                    · rw [if_pos c189] at H
                      have c189b0 : (a0_0 == 7) = true := beq_iff_eq.mpr c189
                      have c189b1 : (a0_0 != 7) = false := bne_eq_false_iff_eq.mpr c189
                      clear c189
                      by_cases c190 : a1_1 > a0_1
                      · rw [if_pos c190] at H
                        have c190b0 : decide (a0_1 < a1_1) = true := decide_eq_true c190
                        clear c190
                        obtain rfl := Option.some.inj H
                        have hnb191 := NB162_161.out
                        have hnc191 := NB161_162.out
                        have hcz192_0 : wc.cell? ⟨gb162, 0, none⟩ = some (.int .i64 a1_0) := (blk_cell BK162.out 0).trans rfl
                        have hcz192_1 : wc.cell? ⟨gb162, 1, none⟩ = some (.int .i64 a1_1) := (blk_cell BK162.out 1).trans rfl
                        have hcz192_2 : wc.cell? ⟨gb162, 2, none⟩ = some (.int .i64 a1_2) := (blk_cell BK162.out 2).trans rfl
                        have hcz192_3 : wc.cell? ⟨gb162, 3, none⟩ = some (.int .i64 a1_3) := (blk_cell BK162.out 3).trans rfl
                        have hcz192_4 : wc.cell? ⟨gb162, 4, none⟩ = some (.slice A1_4 l1_4.length c1_4) := (blk_cell BK162.out 4).trans rfl
                        have hfz192_0 := blk_frozen BK162.out 0
                        have hfz192_1 := blk_frozen BK162.out 1
                        have hfz192_2 := blk_frozen BK162.out 2
                        have hfz192_3 := blk_frozen BK162.out 3
                        have hfz192_4 := blk_frozen BK162.out 4
                        have hcz193_0 : wc.cell? ⟨gb161, 0, none⟩ = some (.int .i64 a0_0) := (blk_cell BK161.out 0).trans rfl
                        have hcz193_1 : wc.cell? ⟨gb161, 1, none⟩ = some (.int .i64 a0_1) := (blk_cell BK161.out 1).trans rfl
                        have hcz193_2 : wc.cell? ⟨gb161, 2, none⟩ = some (.int .i64 a0_2) := (blk_cell BK161.out 2).trans rfl
                        have hcz193_3 : wc.cell? ⟨gb161, 3, none⟩ = some (.int .i64 a0_3) := (blk_cell BK161.out 3).trans rfl
                        have hcz193_4 : wc.cell? ⟨gb161, 4, none⟩ = some (.int .i64 a0_4) := (blk_cell BK161.out 4).trans rfl
                        have hfz193_0 := blk_frozen BK161.out 0
                        have hfz193_1 := blk_frozen BK161.out 1
                        have hfz193_2 := blk_frozen BK161.out 2
                        have hfz193_3 := blk_frozen BK161.out 3
                        have hfz193_4 := blk_frozen BK161.out 4
                        go_wp2_with (first | ((with_reducible refine gate_callee (f := 31) rfl ?_); refine goesL_ (some 43) rfl rfl Try.func31 (by kernel_rfl) rfl #[.agg #[.int .i64 a0_0, .int .i64 a0_1, .int .i64 a0_2, .int .i64 a0_3, .int .i64 a0_4]] rfl (by (try simp only [List.map_toArray, List.map_cons, List.map_nil]); first | done | rfl | (simp only [List.length_drop, List.length_take]; rfl)) ?_; (with_reducible refine (deadwoodref09_May.calls kj2 a0_0 a0_1 a0_2 a0_3 a0_4 true _ A45.out).mono ?_); rintro e w194 ⟨rfl, hb⟩; refine ⟨_, rfl, ?_⟩; have n0_ := Aside0.mk (blk_below (g := gb161) (o := .cells #[.int .i64 a0_0, .int .i64 a0_1, .int .i64 a0_2, .int .i64 a0_3, .int .i64 a0_4] 38 (0, 0)) (by (with_reducible repeat (first | refine blk_drewN ?_ _ | refine blk_drew ?_ | refine blk_alloc ?_ _)); exact BK161.out) hb); have n1_ := Aside0.mk (blk_below (g := gb162) (o := .cells #[.int .i64 a1_0, .int .i64 a1_1, .int .i64 a1_2, .int .i64 a1_3, .slice A1_4 l1_4.length c1_4] 41 (0, 0)) (by (with_reducible repeat (first | refine blk_drewN ?_ _ | refine blk_drew ?_ | refine blk_alloc ?_ _)); exact BK162.out) hb); have n2_ := Aside0.mk (below_step (by repeat (first | (with_reducible first | exact HB.out | apply below_alloc | apply pw_below_drewN | apply below_drew1 | refine below_set ?_ GE161.out | refine below_set ?_ GE162.out) | exact HB.out)) hb); clear BK161; clear BK162; clear HB; have BK161 := n0_; have BK162 := n1_; have HB := n2_; clear n0_ n1_ n2_; (try clear hb); (try clear hb2); (try clear hk); (try clear hi); have hcz195_0 : w194.cell? ⟨gb162, 0, none⟩ = some (.int .i64 a1_0) := (blk_cell BK162.out 0).trans rfl; have hcz195_1 : w194.cell? ⟨gb162, 1, none⟩ = some (.int .i64 a1_1) := (blk_cell BK162.out 1).trans rfl; have hcz195_2 : w194.cell? ⟨gb162, 2, none⟩ = some (.int .i64 a1_2) := (blk_cell BK162.out 2).trans rfl; have hcz195_3 : w194.cell? ⟨gb162, 3, none⟩ = some (.int .i64 a1_3) := (blk_cell BK162.out 3).trans rfl; have hcz195_4 : w194.cell? ⟨gb162, 4, none⟩ = some (.slice A1_4 l1_4.length c1_4) := (blk_cell BK162.out 4).trans rfl; have hfz195_0 := blk_frozen BK162.out 0; have hfz195_1 := blk_frozen BK162.out 1; have hfz195_2 := blk_frozen BK162.out 2; have hfz195_3 := blk_frozen BK162.out 3; have hfz195_4 := blk_frozen BK162.out 4; have hcz196_0 : w194.cell? ⟨gb161, 0, none⟩ = some (.int .i64 a0_0) := (blk_cell BK161.out 0).trans rfl; have hcz196_1 : w194.cell? ⟨gb161, 1, none⟩ = some (.int .i64 a0_1) := (blk_cell BK161.out 1).trans rfl; have hcz196_2 : w194.cell? ⟨gb161, 2, none⟩ = some (.int .i64 a0_2) := (blk_cell BK161.out 2).trans rfl; have hcz196_3 : w194.cell? ⟨gb161, 3, none⟩ = some (.int .i64 a0_3) := (blk_cell BK161.out 3).trans rfl; have hcz196_4 : w194.cell? ⟨gb161, 4, none⟩ = some (.int .i64 a0_4) := (blk_cell BK161.out 4).trans rfl; have hfz196_0 := blk_frozen BK161.out 0; have hfz196_1 := blk_frozen BK161.out 1; have hfz196_2 := blk_frozen BK161.out 2; have hfz196_3 := blk_frozen BK161.out 3; have hfz196_4 := blk_frozen BK161.out 4))
                        go_ret
                        exact ⟨by first | rfl | (simp [errW_none, errW_some] <;> rfl) | (simp [*, errW_none, errW_some] <;> rfl), by repeat (first | (with_reducible first | exact HB.out | apply below_alloc | apply pw_below_drewN | apply below_drew1 | refine below_set ?_ GE161.out | refine below_set ?_ GE162.out) | exact HB.out)⟩
                      · rw [if_neg c190] at H
                        have c190b0 : decide (a0_1 < a1_1) = false := decide_eq_false c190
                        clear c190
                        by_cases c197 : a0_0 = 8
                        · rw [if_pos c197] at H
                          have c197b0 : (a0_0 == 8) = true := beq_iff_eq.mpr c197
                          have c197b1 : (a0_0 != 8) = false := bne_eq_false_iff_eq.mpr c197
                          clear c197
                          by_cases c198 : a1_1 < a0_1
                          · rw [if_pos c198] at H
                            have c198b0 : decide (a1_1 < a0_1) = true := decide_eq_true c198
                            clear c198
                            obtain rfl := Option.some.inj H
                            have hnb199 := NB162_161.out
                            have hnc199 := NB161_162.out
                            have hcz200_0 : wc.cell? ⟨gb162, 0, none⟩ = some (.int .i64 a1_0) := (blk_cell BK162.out 0).trans rfl
                            have hcz200_1 : wc.cell? ⟨gb162, 1, none⟩ = some (.int .i64 a1_1) := (blk_cell BK162.out 1).trans rfl
                            have hcz200_2 : wc.cell? ⟨gb162, 2, none⟩ = some (.int .i64 a1_2) := (blk_cell BK162.out 2).trans rfl
                            have hcz200_3 : wc.cell? ⟨gb162, 3, none⟩ = some (.int .i64 a1_3) := (blk_cell BK162.out 3).trans rfl
                            have hcz200_4 : wc.cell? ⟨gb162, 4, none⟩ = some (.slice A1_4 l1_4.length c1_4) := (blk_cell BK162.out 4).trans rfl
                            have hfz200_0 := blk_frozen BK162.out 0
                            have hfz200_1 := blk_frozen BK162.out 1
                            have hfz200_2 := blk_frozen BK162.out 2
                            have hfz200_3 := blk_frozen BK162.out 3
                            have hfz200_4 := blk_frozen BK162.out 4
                            have hcz201_0 : wc.cell? ⟨gb161, 0, none⟩ = some (.int .i64 a0_0) := (blk_cell BK161.out 0).trans rfl
                            have hcz201_1 : wc.cell? ⟨gb161, 1, none⟩ = some (.int .i64 a0_1) := (blk_cell BK161.out 1).trans rfl
                            have hcz201_2 : wc.cell? ⟨gb161, 2, none⟩ = some (.int .i64 a0_2) := (blk_cell BK161.out 2).trans rfl
                            have hcz201_3 : wc.cell? ⟨gb161, 3, none⟩ = some (.int .i64 a0_3) := (blk_cell BK161.out 3).trans rfl
                            have hcz201_4 : wc.cell? ⟨gb161, 4, none⟩ = some (.int .i64 a0_4) := (blk_cell BK161.out 4).trans rfl
                            have hfz201_0 := blk_frozen BK161.out 0
                            have hfz201_1 := blk_frozen BK161.out 1
                            have hfz201_2 := blk_frozen BK161.out 2
                            have hfz201_3 := blk_frozen BK161.out 3
                            have hfz201_4 := blk_frozen BK161.out 4
                            go_wp2_with (first | ((with_reducible refine gate_callee (f := 31) rfl ?_); refine goesL_ (some 43) rfl rfl Try.func31 (by kernel_rfl) rfl #[.agg #[.int .i64 a0_0, .int .i64 a0_1, .int .i64 a0_2, .int .i64 a0_3, .int .i64 a0_4]] rfl (by (try simp only [List.map_toArray, List.map_cons, List.map_nil]); first | done | rfl | (simp only [List.length_drop, List.length_take]; rfl)) ?_; (with_reducible refine (deadwoodref09_May.calls kj2 a0_0 a0_1 a0_2 a0_3 a0_4 true _ A45.out).mono ?_); rintro e w202 ⟨rfl, hb⟩; refine ⟨_, rfl, ?_⟩; have n0_ := Aside0.mk (blk_below (g := gb161) (o := .cells #[.int .i64 a0_0, .int .i64 a0_1, .int .i64 a0_2, .int .i64 a0_3, .int .i64 a0_4] 38 (0, 0)) (by (with_reducible repeat (first | refine blk_drewN ?_ _ | refine blk_drew ?_ | refine blk_alloc ?_ _)); exact BK161.out) hb); have n1_ := Aside0.mk (blk_below (g := gb162) (o := .cells #[.int .i64 a1_0, .int .i64 a1_1, .int .i64 a1_2, .int .i64 a1_3, .slice A1_4 l1_4.length c1_4] 41 (0, 0)) (by (with_reducible repeat (first | refine blk_drewN ?_ _ | refine blk_drew ?_ | refine blk_alloc ?_ _)); exact BK162.out) hb); have n2_ := Aside0.mk (below_step (by repeat (first | (with_reducible first | exact HB.out | apply below_alloc | apply pw_below_drewN | apply below_drew1 | refine below_set ?_ GE161.out | refine below_set ?_ GE162.out) | exact HB.out)) hb); clear BK161; clear BK162; clear HB; have BK161 := n0_; have BK162 := n1_; have HB := n2_; clear n0_ n1_ n2_; (try clear hb); (try clear hb2); (try clear hk); (try clear hi); have hcz203_0 : w202.cell? ⟨gb162, 0, none⟩ = some (.int .i64 a1_0) := (blk_cell BK162.out 0).trans rfl; have hcz203_1 : w202.cell? ⟨gb162, 1, none⟩ = some (.int .i64 a1_1) := (blk_cell BK162.out 1).trans rfl; have hcz203_2 : w202.cell? ⟨gb162, 2, none⟩ = some (.int .i64 a1_2) := (blk_cell BK162.out 2).trans rfl; have hcz203_3 : w202.cell? ⟨gb162, 3, none⟩ = some (.int .i64 a1_3) := (blk_cell BK162.out 3).trans rfl; have hcz203_4 : w202.cell? ⟨gb162, 4, none⟩ = some (.slice A1_4 l1_4.length c1_4) := (blk_cell BK162.out 4).trans rfl; have hfz203_0 := blk_frozen BK162.out 0; have hfz203_1 := blk_frozen BK162.out 1; have hfz203_2 := blk_frozen BK162.out 2; have hfz203_3 := blk_frozen BK162.out 3; have hfz203_4 := blk_frozen BK162.out 4; have hcz204_0 : w202.cell? ⟨gb161, 0, none⟩ = some (.int .i64 a0_0) := (blk_cell BK161.out 0).trans rfl; have hcz204_1 : w202.cell? ⟨gb161, 1, none⟩ = some (.int .i64 a0_1) := (blk_cell BK161.out 1).trans rfl; have hcz204_2 : w202.cell? ⟨gb161, 2, none⟩ = some (.int .i64 a0_2) := (blk_cell BK161.out 2).trans rfl; have hcz204_3 : w202.cell? ⟨gb161, 3, none⟩ = some (.int .i64 a0_3) := (blk_cell BK161.out 3).trans rfl; have hcz204_4 : w202.cell? ⟨gb161, 4, none⟩ = some (.int .i64 a0_4) := (blk_cell BK161.out 4).trans rfl; have hfz204_0 := blk_frozen BK161.out 0; have hfz204_1 := blk_frozen BK161.out 1; have hfz204_2 := blk_frozen BK161.out 2; have hfz204_3 := blk_frozen BK161.out 3; have hfz204_4 := blk_frozen BK161.out 4))
                            go_ret
                            exact ⟨by first | rfl | (simp [errW_none, errW_some] <;> rfl) | (simp [*, errW_none, errW_some] <;> rfl), by repeat (first | (with_reducible first | exact HB.out | apply below_alloc | apply pw_below_drewN | apply below_drew1 | refine below_set ?_ GE161.out | refine below_set ?_ GE162.out) | exact HB.out)⟩
                          · rw [if_neg c198] at H
                            have c198b0 : decide (a1_1 < a0_1) = false := decide_eq_false c198
                            clear c198
                            replace H := Option.bind_eq_some_iff.mp H
                            obtain ⟨t172, A2050, H⟩ := H
                            replace H : (some t172) = some r := H
                            have A205 := Aside0.mk A2050
                            clear A2050
                            obtain rfl := Option.some.inj H
                            have hnb206 := NB162_161.out
                            have hnc206 := NB161_162.out
                            have hcz207_0 : wc.cell? ⟨gb162, 0, none⟩ = some (.int .i64 a1_0) := (blk_cell BK162.out 0).trans rfl
                            have hcz207_1 : wc.cell? ⟨gb162, 1, none⟩ = some (.int .i64 a1_1) := (blk_cell BK162.out 1).trans rfl
                            have hcz207_2 : wc.cell? ⟨gb162, 2, none⟩ = some (.int .i64 a1_2) := (blk_cell BK162.out 2).trans rfl
                            have hcz207_3 : wc.cell? ⟨gb162, 3, none⟩ = some (.int .i64 a1_3) := (blk_cell BK162.out 3).trans rfl
                            have hcz207_4 : wc.cell? ⟨gb162, 4, none⟩ = some (.slice A1_4 l1_4.length c1_4) := (blk_cell BK162.out 4).trans rfl
                            have hfz207_0 := blk_frozen BK162.out 0
                            have hfz207_1 := blk_frozen BK162.out 1
                            have hfz207_2 := blk_frozen BK162.out 2
                            have hfz207_3 := blk_frozen BK162.out 3
                            have hfz207_4 := blk_frozen BK162.out 4
                            have hcz208_0 : wc.cell? ⟨gb161, 0, none⟩ = some (.int .i64 a0_0) := (blk_cell BK161.out 0).trans rfl
                            have hcz208_1 : wc.cell? ⟨gb161, 1, none⟩ = some (.int .i64 a0_1) := (blk_cell BK161.out 1).trans rfl
                            have hcz208_2 : wc.cell? ⟨gb161, 2, none⟩ = some (.int .i64 a0_2) := (blk_cell BK161.out 2).trans rfl
                            have hcz208_3 : wc.cell? ⟨gb161, 3, none⟩ = some (.int .i64 a0_3) := (blk_cell BK161.out 3).trans rfl
                            have hcz208_4 : wc.cell? ⟨gb161, 4, none⟩ = some (.int .i64 a0_4) := (blk_cell BK161.out 4).trans rfl
                            have hfz208_0 := blk_frozen BK161.out 0
                            have hfz208_1 := blk_frozen BK161.out 1
                            have hfz208_2 := blk_frozen BK161.out 2
                            have hfz208_3 := blk_frozen BK161.out 3
                            have hfz208_4 := blk_frozen BK161.out 4
                            go_wp2_with (first | ((with_reducible refine gate_callee (f := 31) rfl ?_); refine goesL_ (some 43) rfl rfl Try.func31 (by kernel_rfl) rfl #[.agg #[.int .i64 a0_0, .int .i64 a0_1, .int .i64 a0_2, .int .i64 a0_3, .int .i64 a0_4]] rfl (by (try simp only [List.map_toArray, List.map_cons, List.map_nil]); first | done | rfl | (simp only [List.length_drop, List.length_take]; rfl)) ?_; (with_reducible refine (deadwoodref09_May.calls kj2 a0_0 a0_1 a0_2 a0_3 a0_4 true _ A45.out).mono ?_); rintro e w209 ⟨rfl, hb⟩; refine ⟨_, rfl, ?_⟩; have n0_ := Aside0.mk (blk_below (g := gb161) (o := .cells #[.int .i64 a0_0, .int .i64 a0_1, .int .i64 a0_2, .int .i64 a0_3, .int .i64 a0_4] 38 (0, 0)) (by (with_reducible repeat (first | refine blk_drewN ?_ _ | refine blk_drew ?_ | refine blk_alloc ?_ _)); exact BK161.out) hb); have n1_ := Aside0.mk (blk_below (g := gb162) (o := .cells #[.int .i64 a1_0, .int .i64 a1_1, .int .i64 a1_2, .int .i64 a1_3, .slice A1_4 l1_4.length c1_4] 41 (0, 0)) (by (with_reducible repeat (first | refine blk_drewN ?_ _ | refine blk_drew ?_ | refine blk_alloc ?_ _)); exact BK162.out) hb); have n2_ := Aside0.mk (below_step (by repeat (first | (with_reducible first | exact HB.out | apply below_alloc | apply pw_below_drewN | apply below_drew1 | refine below_set ?_ GE161.out | refine below_set ?_ GE162.out) | exact HB.out)) hb); clear BK161; clear BK162; clear HB; have BK161 := n0_; have BK162 := n1_; have HB := n2_; clear n0_ n1_ n2_; (try clear hb); (try clear hb2); (try clear hk); (try clear hi); have hcz210_0 : w209.cell? ⟨gb162, 0, none⟩ = some (.int .i64 a1_0) := (blk_cell BK162.out 0).trans rfl; have hcz210_1 : w209.cell? ⟨gb162, 1, none⟩ = some (.int .i64 a1_1) := (blk_cell BK162.out 1).trans rfl; have hcz210_2 : w209.cell? ⟨gb162, 2, none⟩ = some (.int .i64 a1_2) := (blk_cell BK162.out 2).trans rfl; have hcz210_3 : w209.cell? ⟨gb162, 3, none⟩ = some (.int .i64 a1_3) := (blk_cell BK162.out 3).trans rfl; have hcz210_4 : w209.cell? ⟨gb162, 4, none⟩ = some (.slice A1_4 l1_4.length c1_4) := (blk_cell BK162.out 4).trans rfl; have hfz210_0 := blk_frozen BK162.out 0; have hfz210_1 := blk_frozen BK162.out 1; have hfz210_2 := blk_frozen BK162.out 2; have hfz210_3 := blk_frozen BK162.out 3; have hfz210_4 := blk_frozen BK162.out 4; have hcz211_0 : w209.cell? ⟨gb161, 0, none⟩ = some (.int .i64 a0_0) := (blk_cell BK161.out 0).trans rfl; have hcz211_1 : w209.cell? ⟨gb161, 1, none⟩ = some (.int .i64 a0_1) := (blk_cell BK161.out 1).trans rfl; have hcz211_2 : w209.cell? ⟨gb161, 2, none⟩ = some (.int .i64 a0_2) := (blk_cell BK161.out 2).trans rfl; have hcz211_3 : w209.cell? ⟨gb161, 3, none⟩ = some (.int .i64 a0_3) := (blk_cell BK161.out 3).trans rfl; have hcz211_4 : w209.cell? ⟨gb161, 4, none⟩ = some (.int .i64 a0_4) := (blk_cell BK161.out 4).trans rfl; have hfz211_0 := blk_frozen BK161.out 0; have hfz211_1 := blk_frozen BK161.out 1; have hfz211_2 := blk_frozen BK161.out 2; have hfz211_3 := blk_frozen BK161.out 3; have hfz211_4 := blk_frozen BK161.out 4) | ((with_reducible refine gate_callee (f := 69) rfl ?_); refine goesL_ (some 105) rfl rfl Try.func69 (by kernel_rfl) rfl #[.int .i64 a0_0] rfl (by (try simp only [List.map_toArray, List.map_cons, List.map_nil]); first | done | rfl | (simp only [List.length_drop, List.length_take]; rfl)) ?_; (with_reducible refine (deadwoodref09_pair.calls a0_0 t172 _ A205.out).mono ?_); rintro e w' ⟨rfl, ⟨nd, rfl⟩⟩; refine ⟨_, rfl, ?_⟩))
                            go_ret
                            exact ⟨by first | rfl | (simp [errW_none, errW_some] <;> rfl) | (simp [*, errW_none, errW_some] <;> rfl), by repeat (first | (with_reducible first | exact HB.out | apply below_alloc | apply pw_below_drewN | apply below_drew1 | refine below_set ?_ GE161.out | refine below_set ?_ GE162.out) | exact HB.out)⟩
                        · rw [if_neg c197] at H
                          have c197b0 : (a0_0 == 8) = false := beq_eq_false_iff_ne.mpr c197
                          have c197b1 : (a0_0 != 8) = true := bne_iff_ne.mpr c197
                          replace H := Option.bind_eq_some_iff.mp H
                          obtain ⟨t173, A2120, H⟩ := H
                          replace H : (some t173) = some r := H
                          have A212 := Aside0.mk A2120
                          clear A2120
                          obtain rfl := Option.some.inj H
                          have hnb213 := NB162_161.out
                          have hnc213 := NB161_162.out
                          have hcz214_0 : wc.cell? ⟨gb162, 0, none⟩ = some (.int .i64 a1_0) := (blk_cell BK162.out 0).trans rfl
                          have hcz214_1 : wc.cell? ⟨gb162, 1, none⟩ = some (.int .i64 a1_1) := (blk_cell BK162.out 1).trans rfl
                          have hcz214_2 : wc.cell? ⟨gb162, 2, none⟩ = some (.int .i64 a1_2) := (blk_cell BK162.out 2).trans rfl
                          have hcz214_3 : wc.cell? ⟨gb162, 3, none⟩ = some (.int .i64 a1_3) := (blk_cell BK162.out 3).trans rfl
                          have hcz214_4 : wc.cell? ⟨gb162, 4, none⟩ = some (.slice A1_4 l1_4.length c1_4) := (blk_cell BK162.out 4).trans rfl
                          have hfz214_0 := blk_frozen BK162.out 0
                          have hfz214_1 := blk_frozen BK162.out 1
                          have hfz214_2 := blk_frozen BK162.out 2
                          have hfz214_3 := blk_frozen BK162.out 3
                          have hfz214_4 := blk_frozen BK162.out 4
                          have hcz215_0 : wc.cell? ⟨gb161, 0, none⟩ = some (.int .i64 a0_0) := (blk_cell BK161.out 0).trans rfl
                          have hcz215_1 : wc.cell? ⟨gb161, 1, none⟩ = some (.int .i64 a0_1) := (blk_cell BK161.out 1).trans rfl
                          have hcz215_2 : wc.cell? ⟨gb161, 2, none⟩ = some (.int .i64 a0_2) := (blk_cell BK161.out 2).trans rfl
                          have hcz215_3 : wc.cell? ⟨gb161, 3, none⟩ = some (.int .i64 a0_3) := (blk_cell BK161.out 3).trans rfl
                          have hcz215_4 : wc.cell? ⟨gb161, 4, none⟩ = some (.int .i64 a0_4) := (blk_cell BK161.out 4).trans rfl
                          have hfz215_0 := blk_frozen BK161.out 0
                          have hfz215_1 := blk_frozen BK161.out 1
                          have hfz215_2 := blk_frozen BK161.out 2
                          have hfz215_3 := blk_frozen BK161.out 3
                          have hfz215_4 := blk_frozen BK161.out 4
                          go_wp2_with (first | ((with_reducible refine gate_callee (f := 31) rfl ?_); refine goesL_ (some 43) rfl rfl Try.func31 (by kernel_rfl) rfl #[.agg #[.int .i64 a0_0, .int .i64 a0_1, .int .i64 a0_2, .int .i64 a0_3, .int .i64 a0_4]] rfl (by (try simp only [List.map_toArray, List.map_cons, List.map_nil]); first | done | rfl | (simp only [List.length_drop, List.length_take]; rfl)) ?_; (with_reducible refine (deadwoodref09_May.calls kj2 a0_0 a0_1 a0_2 a0_3 a0_4 true _ A45.out).mono ?_); rintro e w216 ⟨rfl, hb⟩; refine ⟨_, rfl, ?_⟩; have n0_ := Aside0.mk (blk_below (g := gb161) (o := .cells #[.int .i64 a0_0, .int .i64 a0_1, .int .i64 a0_2, .int .i64 a0_3, .int .i64 a0_4] 38 (0, 0)) (by (with_reducible repeat (first | refine blk_drewN ?_ _ | refine blk_drew ?_ | refine blk_alloc ?_ _)); exact BK161.out) hb); have n1_ := Aside0.mk (blk_below (g := gb162) (o := .cells #[.int .i64 a1_0, .int .i64 a1_1, .int .i64 a1_2, .int .i64 a1_3, .slice A1_4 l1_4.length c1_4] 41 (0, 0)) (by (with_reducible repeat (first | refine blk_drewN ?_ _ | refine blk_drew ?_ | refine blk_alloc ?_ _)); exact BK162.out) hb); have n2_ := Aside0.mk (below_step (by repeat (first | (with_reducible first | exact HB.out | apply below_alloc | apply pw_below_drewN | apply below_drew1 | refine below_set ?_ GE161.out | refine below_set ?_ GE162.out) | exact HB.out)) hb); clear BK161; clear BK162; clear HB; have BK161 := n0_; have BK162 := n1_; have HB := n2_; clear n0_ n1_ n2_; (try clear hb); (try clear hb2); (try clear hk); (try clear hi); have hcz217_0 : w216.cell? ⟨gb162, 0, none⟩ = some (.int .i64 a1_0) := (blk_cell BK162.out 0).trans rfl; have hcz217_1 : w216.cell? ⟨gb162, 1, none⟩ = some (.int .i64 a1_1) := (blk_cell BK162.out 1).trans rfl; have hcz217_2 : w216.cell? ⟨gb162, 2, none⟩ = some (.int .i64 a1_2) := (blk_cell BK162.out 2).trans rfl; have hcz217_3 : w216.cell? ⟨gb162, 3, none⟩ = some (.int .i64 a1_3) := (blk_cell BK162.out 3).trans rfl; have hcz217_4 : w216.cell? ⟨gb162, 4, none⟩ = some (.slice A1_4 l1_4.length c1_4) := (blk_cell BK162.out 4).trans rfl; have hfz217_0 := blk_frozen BK162.out 0; have hfz217_1 := blk_frozen BK162.out 1; have hfz217_2 := blk_frozen BK162.out 2; have hfz217_3 := blk_frozen BK162.out 3; have hfz217_4 := blk_frozen BK162.out 4; have hcz218_0 : w216.cell? ⟨gb161, 0, none⟩ = some (.int .i64 a0_0) := (blk_cell BK161.out 0).trans rfl; have hcz218_1 : w216.cell? ⟨gb161, 1, none⟩ = some (.int .i64 a0_1) := (blk_cell BK161.out 1).trans rfl; have hcz218_2 : w216.cell? ⟨gb161, 2, none⟩ = some (.int .i64 a0_2) := (blk_cell BK161.out 2).trans rfl; have hcz218_3 : w216.cell? ⟨gb161, 3, none⟩ = some (.int .i64 a0_3) := (blk_cell BK161.out 3).trans rfl; have hcz218_4 : w216.cell? ⟨gb161, 4, none⟩ = some (.int .i64 a0_4) := (blk_cell BK161.out 4).trans rfl; have hfz218_0 := blk_frozen BK161.out 0; have hfz218_1 := blk_frozen BK161.out 1; have hfz218_2 := blk_frozen BK161.out 2; have hfz218_3 := blk_frozen BK161.out 3; have hfz218_4 := blk_frozen BK161.out 4) | ((with_reducible refine gate_callee (f := 69) rfl ?_); refine goesL_ (some 105) rfl rfl Try.func69 (by kernel_rfl) rfl #[.int .i64 a0_0] rfl (by (try simp only [List.map_toArray, List.map_cons, List.map_nil]); first | done | rfl | (simp only [List.length_drop, List.length_take]; rfl)) ?_; (with_reducible refine (deadwoodref09_pair.calls a0_0 t173 _ A212.out).mono ?_); rintro e w' ⟨rfl, ⟨nd, rfl⟩⟩; refine ⟨_, rfl, ?_⟩))
                          go_ret
                          exact ⟨by first | rfl | (simp [errW_none, errW_some] <;> rfl) | (simp [*, errW_none, errW_some] <;> rfl), by repeat (first | (with_reducible first | exact HB.out | apply below_alloc | apply pw_below_drewN | apply below_drew1 | refine below_set ?_ GE161.out | refine below_set ?_ GE162.out) | exact HB.out)⟩
                    · rw [if_neg c189] at H
                      have c189b0 : (a0_0 == 7) = false := beq_eq_false_iff_ne.mpr c189
                      have c189b1 : (a0_0 != 7) = true := bne_iff_ne.mpr c189
                      by_cases c219 : a0_0 = 8
                      · rw [if_pos c219] at H
                        have c219b0 : (a0_0 == 8) = true := beq_iff_eq.mpr c219
                        have c219b1 : (a0_0 != 8) = false := bne_eq_false_iff_eq.mpr c219
                        clear c219
                        by_cases c220 : a1_1 < a0_1
                        · rw [if_pos c220] at H
                          have c220b0 : decide (a1_1 < a0_1) = true := decide_eq_true c220
                          clear c220
                          obtain rfl := Option.some.inj H
                          have hnb221 := NB162_161.out
                          have hnc221 := NB161_162.out
                          have hcz222_0 : wc.cell? ⟨gb162, 0, none⟩ = some (.int .i64 a1_0) := (blk_cell BK162.out 0).trans rfl
                          have hcz222_1 : wc.cell? ⟨gb162, 1, none⟩ = some (.int .i64 a1_1) := (blk_cell BK162.out 1).trans rfl
                          have hcz222_2 : wc.cell? ⟨gb162, 2, none⟩ = some (.int .i64 a1_2) := (blk_cell BK162.out 2).trans rfl
                          have hcz222_3 : wc.cell? ⟨gb162, 3, none⟩ = some (.int .i64 a1_3) := (blk_cell BK162.out 3).trans rfl
                          have hcz222_4 : wc.cell? ⟨gb162, 4, none⟩ = some (.slice A1_4 l1_4.length c1_4) := (blk_cell BK162.out 4).trans rfl
                          have hfz222_0 := blk_frozen BK162.out 0
                          have hfz222_1 := blk_frozen BK162.out 1
                          have hfz222_2 := blk_frozen BK162.out 2
                          have hfz222_3 := blk_frozen BK162.out 3
                          have hfz222_4 := blk_frozen BK162.out 4
                          have hcz223_0 : wc.cell? ⟨gb161, 0, none⟩ = some (.int .i64 a0_0) := (blk_cell BK161.out 0).trans rfl
                          have hcz223_1 : wc.cell? ⟨gb161, 1, none⟩ = some (.int .i64 a0_1) := (blk_cell BK161.out 1).trans rfl
                          have hcz223_2 : wc.cell? ⟨gb161, 2, none⟩ = some (.int .i64 a0_2) := (blk_cell BK161.out 2).trans rfl
                          have hcz223_3 : wc.cell? ⟨gb161, 3, none⟩ = some (.int .i64 a0_3) := (blk_cell BK161.out 3).trans rfl
                          have hcz223_4 : wc.cell? ⟨gb161, 4, none⟩ = some (.int .i64 a0_4) := (blk_cell BK161.out 4).trans rfl
                          have hfz223_0 := blk_frozen BK161.out 0
                          have hfz223_1 := blk_frozen BK161.out 1
                          have hfz223_2 := blk_frozen BK161.out 2
                          have hfz223_3 := blk_frozen BK161.out 3
                          have hfz223_4 := blk_frozen BK161.out 4
                          go_wp2_with (first | ((with_reducible refine gate_callee (f := 31) rfl ?_); refine goesL_ (some 43) rfl rfl Try.func31 (by kernel_rfl) rfl #[.agg #[.int .i64 a0_0, .int .i64 a0_1, .int .i64 a0_2, .int .i64 a0_3, .int .i64 a0_4]] rfl (by (try simp only [List.map_toArray, List.map_cons, List.map_nil]); first | done | rfl | (simp only [List.length_drop, List.length_take]; rfl)) ?_; (with_reducible refine (deadwoodref09_May.calls kj2 a0_0 a0_1 a0_2 a0_3 a0_4 true _ A45.out).mono ?_); rintro e w224 ⟨rfl, hb⟩; refine ⟨_, rfl, ?_⟩; have n0_ := Aside0.mk (blk_below (g := gb161) (o := .cells #[.int .i64 a0_0, .int .i64 a0_1, .int .i64 a0_2, .int .i64 a0_3, .int .i64 a0_4] 38 (0, 0)) (by (with_reducible repeat (first | refine blk_drewN ?_ _ | refine blk_drew ?_ | refine blk_alloc ?_ _)); exact BK161.out) hb); have n1_ := Aside0.mk (blk_below (g := gb162) (o := .cells #[.int .i64 a1_0, .int .i64 a1_1, .int .i64 a1_2, .int .i64 a1_3, .slice A1_4 l1_4.length c1_4] 41 (0, 0)) (by (with_reducible repeat (first | refine blk_drewN ?_ _ | refine blk_drew ?_ | refine blk_alloc ?_ _)); exact BK162.out) hb); have n2_ := Aside0.mk (below_step (by repeat (first | (with_reducible first | exact HB.out | apply below_alloc | apply pw_below_drewN | apply below_drew1 | refine below_set ?_ GE161.out | refine below_set ?_ GE162.out) | exact HB.out)) hb); clear BK161; clear BK162; clear HB; have BK161 := n0_; have BK162 := n1_; have HB := n2_; clear n0_ n1_ n2_; (try clear hb); (try clear hb2); (try clear hk); (try clear hi); have hcz225_0 : w224.cell? ⟨gb162, 0, none⟩ = some (.int .i64 a1_0) := (blk_cell BK162.out 0).trans rfl; have hcz225_1 : w224.cell? ⟨gb162, 1, none⟩ = some (.int .i64 a1_1) := (blk_cell BK162.out 1).trans rfl; have hcz225_2 : w224.cell? ⟨gb162, 2, none⟩ = some (.int .i64 a1_2) := (blk_cell BK162.out 2).trans rfl; have hcz225_3 : w224.cell? ⟨gb162, 3, none⟩ = some (.int .i64 a1_3) := (blk_cell BK162.out 3).trans rfl; have hcz225_4 : w224.cell? ⟨gb162, 4, none⟩ = some (.slice A1_4 l1_4.length c1_4) := (blk_cell BK162.out 4).trans rfl; have hfz225_0 := blk_frozen BK162.out 0; have hfz225_1 := blk_frozen BK162.out 1; have hfz225_2 := blk_frozen BK162.out 2; have hfz225_3 := blk_frozen BK162.out 3; have hfz225_4 := blk_frozen BK162.out 4; have hcz226_0 : w224.cell? ⟨gb161, 0, none⟩ = some (.int .i64 a0_0) := (blk_cell BK161.out 0).trans rfl; have hcz226_1 : w224.cell? ⟨gb161, 1, none⟩ = some (.int .i64 a0_1) := (blk_cell BK161.out 1).trans rfl; have hcz226_2 : w224.cell? ⟨gb161, 2, none⟩ = some (.int .i64 a0_2) := (blk_cell BK161.out 2).trans rfl; have hcz226_3 : w224.cell? ⟨gb161, 3, none⟩ = some (.int .i64 a0_3) := (blk_cell BK161.out 3).trans rfl; have hcz226_4 : w224.cell? ⟨gb161, 4, none⟩ = some (.int .i64 a0_4) := (blk_cell BK161.out 4).trans rfl; have hfz226_0 := blk_frozen BK161.out 0; have hfz226_1 := blk_frozen BK161.out 1; have hfz226_2 := blk_frozen BK161.out 2; have hfz226_3 := blk_frozen BK161.out 3; have hfz226_4 := blk_frozen BK161.out 4))
                          go_ret
                          exact ⟨by first | rfl | (simp [errW_none, errW_some] <;> rfl) | (simp [*, errW_none, errW_some] <;> rfl), by repeat (first | (with_reducible first | exact HB.out | apply below_alloc | apply pw_below_drewN | apply below_drew1 | refine below_set ?_ GE161.out | refine below_set ?_ GE162.out) | exact HB.out)⟩
                        · rw [if_neg c220] at H
                          have c220b0 : decide (a1_1 < a0_1) = false := decide_eq_false c220
                          clear c220
                          replace H := Option.bind_eq_some_iff.mp H
                          obtain ⟨t174, A2270, H⟩ := H
                          replace H : (some t174) = some r := H
                          have A227 := Aside0.mk A2270
                          clear A2270
                          obtain rfl := Option.some.inj H
                          have hnb228 := NB162_161.out
                          have hnc228 := NB161_162.out
                          have hcz229_0 : wc.cell? ⟨gb162, 0, none⟩ = some (.int .i64 a1_0) := (blk_cell BK162.out 0).trans rfl
                          have hcz229_1 : wc.cell? ⟨gb162, 1, none⟩ = some (.int .i64 a1_1) := (blk_cell BK162.out 1).trans rfl
                          have hcz229_2 : wc.cell? ⟨gb162, 2, none⟩ = some (.int .i64 a1_2) := (blk_cell BK162.out 2).trans rfl
                          have hcz229_3 : wc.cell? ⟨gb162, 3, none⟩ = some (.int .i64 a1_3) := (blk_cell BK162.out 3).trans rfl
                          have hcz229_4 : wc.cell? ⟨gb162, 4, none⟩ = some (.slice A1_4 l1_4.length c1_4) := (blk_cell BK162.out 4).trans rfl
                          have hfz229_0 := blk_frozen BK162.out 0
                          have hfz229_1 := blk_frozen BK162.out 1
                          have hfz229_2 := blk_frozen BK162.out 2
                          have hfz229_3 := blk_frozen BK162.out 3
                          have hfz229_4 := blk_frozen BK162.out 4
                          have hcz230_0 : wc.cell? ⟨gb161, 0, none⟩ = some (.int .i64 a0_0) := (blk_cell BK161.out 0).trans rfl
                          have hcz230_1 : wc.cell? ⟨gb161, 1, none⟩ = some (.int .i64 a0_1) := (blk_cell BK161.out 1).trans rfl
                          have hcz230_2 : wc.cell? ⟨gb161, 2, none⟩ = some (.int .i64 a0_2) := (blk_cell BK161.out 2).trans rfl
                          have hcz230_3 : wc.cell? ⟨gb161, 3, none⟩ = some (.int .i64 a0_3) := (blk_cell BK161.out 3).trans rfl
                          have hcz230_4 : wc.cell? ⟨gb161, 4, none⟩ = some (.int .i64 a0_4) := (blk_cell BK161.out 4).trans rfl
                          have hfz230_0 := blk_frozen BK161.out 0
                          have hfz230_1 := blk_frozen BK161.out 1
                          have hfz230_2 := blk_frozen BK161.out 2
                          have hfz230_3 := blk_frozen BK161.out 3
                          have hfz230_4 := blk_frozen BK161.out 4
                          go_wp2_with (first | ((with_reducible refine gate_callee (f := 31) rfl ?_); refine goesL_ (some 43) rfl rfl Try.func31 (by kernel_rfl) rfl #[.agg #[.int .i64 a0_0, .int .i64 a0_1, .int .i64 a0_2, .int .i64 a0_3, .int .i64 a0_4]] rfl (by (try simp only [List.map_toArray, List.map_cons, List.map_nil]); first | done | rfl | (simp only [List.length_drop, List.length_take]; rfl)) ?_; (with_reducible refine (deadwoodref09_May.calls kj2 a0_0 a0_1 a0_2 a0_3 a0_4 true _ A45.out).mono ?_); rintro e w231 ⟨rfl, hb⟩; refine ⟨_, rfl, ?_⟩; have n0_ := Aside0.mk (blk_below (g := gb161) (o := .cells #[.int .i64 a0_0, .int .i64 a0_1, .int .i64 a0_2, .int .i64 a0_3, .int .i64 a0_4] 38 (0, 0)) (by (with_reducible repeat (first | refine blk_drewN ?_ _ | refine blk_drew ?_ | refine blk_alloc ?_ _)); exact BK161.out) hb); have n1_ := Aside0.mk (blk_below (g := gb162) (o := .cells #[.int .i64 a1_0, .int .i64 a1_1, .int .i64 a1_2, .int .i64 a1_3, .slice A1_4 l1_4.length c1_4] 41 (0, 0)) (by (with_reducible repeat (first | refine blk_drewN ?_ _ | refine blk_drew ?_ | refine blk_alloc ?_ _)); exact BK162.out) hb); have n2_ := Aside0.mk (below_step (by repeat (first | (with_reducible first | exact HB.out | apply below_alloc | apply pw_below_drewN | apply below_drew1 | refine below_set ?_ GE161.out | refine below_set ?_ GE162.out) | exact HB.out)) hb); clear BK161; clear BK162; clear HB; have BK161 := n0_; have BK162 := n1_; have HB := n2_; clear n0_ n1_ n2_; (try clear hb); (try clear hb2); (try clear hk); (try clear hi); have hcz232_0 : w231.cell? ⟨gb162, 0, none⟩ = some (.int .i64 a1_0) := (blk_cell BK162.out 0).trans rfl; have hcz232_1 : w231.cell? ⟨gb162, 1, none⟩ = some (.int .i64 a1_1) := (blk_cell BK162.out 1).trans rfl; have hcz232_2 : w231.cell? ⟨gb162, 2, none⟩ = some (.int .i64 a1_2) := (blk_cell BK162.out 2).trans rfl; have hcz232_3 : w231.cell? ⟨gb162, 3, none⟩ = some (.int .i64 a1_3) := (blk_cell BK162.out 3).trans rfl; have hcz232_4 : w231.cell? ⟨gb162, 4, none⟩ = some (.slice A1_4 l1_4.length c1_4) := (blk_cell BK162.out 4).trans rfl; have hfz232_0 := blk_frozen BK162.out 0; have hfz232_1 := blk_frozen BK162.out 1; have hfz232_2 := blk_frozen BK162.out 2; have hfz232_3 := blk_frozen BK162.out 3; have hfz232_4 := blk_frozen BK162.out 4; have hcz233_0 : w231.cell? ⟨gb161, 0, none⟩ = some (.int .i64 a0_0) := (blk_cell BK161.out 0).trans rfl; have hcz233_1 : w231.cell? ⟨gb161, 1, none⟩ = some (.int .i64 a0_1) := (blk_cell BK161.out 1).trans rfl; have hcz233_2 : w231.cell? ⟨gb161, 2, none⟩ = some (.int .i64 a0_2) := (blk_cell BK161.out 2).trans rfl; have hcz233_3 : w231.cell? ⟨gb161, 3, none⟩ = some (.int .i64 a0_3) := (blk_cell BK161.out 3).trans rfl; have hcz233_4 : w231.cell? ⟨gb161, 4, none⟩ = some (.int .i64 a0_4) := (blk_cell BK161.out 4).trans rfl; have hfz233_0 := blk_frozen BK161.out 0; have hfz233_1 := blk_frozen BK161.out 1; have hfz233_2 := blk_frozen BK161.out 2; have hfz233_3 := blk_frozen BK161.out 3; have hfz233_4 := blk_frozen BK161.out 4) | ((with_reducible refine gate_callee (f := 69) rfl ?_); refine goesL_ (some 105) rfl rfl Try.func69 (by kernel_rfl) rfl #[.int .i64 a0_0] rfl (by (try simp only [List.map_toArray, List.map_cons, List.map_nil]); first | done | rfl | (simp only [List.length_drop, List.length_take]; rfl)) ?_; (with_reducible refine (deadwoodref09_pair.calls a0_0 t174 _ A227.out).mono ?_); rintro e w' ⟨rfl, ⟨nd, rfl⟩⟩; refine ⟨_, rfl, ?_⟩))
                          go_ret
                          exact ⟨by first | rfl | (simp [errW_none, errW_some] <;> rfl) | (simp [*, errW_none, errW_some] <;> rfl), by repeat (first | (with_reducible first | exact HB.out | apply below_alloc | apply pw_below_drewN | apply below_drew1 | refine below_set ?_ GE161.out | refine below_set ?_ GE162.out) | exact HB.out)⟩
                      · rw [if_neg c219] at H
                        have c219b0 : (a0_0 == 8) = false := beq_eq_false_iff_ne.mpr c219
                        have c219b1 : (a0_0 != 8) = true := bne_iff_ne.mpr c219
                        replace H := Option.bind_eq_some_iff.mp H
                        obtain ⟨t175, A2340, H⟩ := H
                        replace H : (some t175) = some r := H
                        have A234 := Aside0.mk A2340
                        clear A2340
                        obtain rfl := Option.some.inj H
                        have hnb235 := NB162_161.out
                        have hnc235 := NB161_162.out
                        have hcz236_0 : wc.cell? ⟨gb162, 0, none⟩ = some (.int .i64 a1_0) := (blk_cell BK162.out 0).trans rfl
                        have hcz236_1 : wc.cell? ⟨gb162, 1, none⟩ = some (.int .i64 a1_1) := (blk_cell BK162.out 1).trans rfl
                        have hcz236_2 : wc.cell? ⟨gb162, 2, none⟩ = some (.int .i64 a1_2) := (blk_cell BK162.out 2).trans rfl
                        have hcz236_3 : wc.cell? ⟨gb162, 3, none⟩ = some (.int .i64 a1_3) := (blk_cell BK162.out 3).trans rfl
                        have hcz236_4 : wc.cell? ⟨gb162, 4, none⟩ = some (.slice A1_4 l1_4.length c1_4) := (blk_cell BK162.out 4).trans rfl
                        have hfz236_0 := blk_frozen BK162.out 0
                        have hfz236_1 := blk_frozen BK162.out 1
                        have hfz236_2 := blk_frozen BK162.out 2
                        have hfz236_3 := blk_frozen BK162.out 3
                        have hfz236_4 := blk_frozen BK162.out 4
                        have hcz237_0 : wc.cell? ⟨gb161, 0, none⟩ = some (.int .i64 a0_0) := (blk_cell BK161.out 0).trans rfl
                        have hcz237_1 : wc.cell? ⟨gb161, 1, none⟩ = some (.int .i64 a0_1) := (blk_cell BK161.out 1).trans rfl
                        have hcz237_2 : wc.cell? ⟨gb161, 2, none⟩ = some (.int .i64 a0_2) := (blk_cell BK161.out 2).trans rfl
                        have hcz237_3 : wc.cell? ⟨gb161, 3, none⟩ = some (.int .i64 a0_3) := (blk_cell BK161.out 3).trans rfl
                        have hcz237_4 : wc.cell? ⟨gb161, 4, none⟩ = some (.int .i64 a0_4) := (blk_cell BK161.out 4).trans rfl
                        have hfz237_0 := blk_frozen BK161.out 0
                        have hfz237_1 := blk_frozen BK161.out 1
                        have hfz237_2 := blk_frozen BK161.out 2
                        have hfz237_3 := blk_frozen BK161.out 3
                        have hfz237_4 := blk_frozen BK161.out 4
                        go_wp2_with (first | ((with_reducible refine gate_callee (f := 31) rfl ?_); refine goesL_ (some 43) rfl rfl Try.func31 (by kernel_rfl) rfl #[.agg #[.int .i64 a0_0, .int .i64 a0_1, .int .i64 a0_2, .int .i64 a0_3, .int .i64 a0_4]] rfl (by (try simp only [List.map_toArray, List.map_cons, List.map_nil]); first | done | rfl | (simp only [List.length_drop, List.length_take]; rfl)) ?_; (with_reducible refine (deadwoodref09_May.calls kj2 a0_0 a0_1 a0_2 a0_3 a0_4 true _ A45.out).mono ?_); rintro e w238 ⟨rfl, hb⟩; refine ⟨_, rfl, ?_⟩; have n0_ := Aside0.mk (blk_below (g := gb161) (o := .cells #[.int .i64 a0_0, .int .i64 a0_1, .int .i64 a0_2, .int .i64 a0_3, .int .i64 a0_4] 38 (0, 0)) (by (with_reducible repeat (first | refine blk_drewN ?_ _ | refine blk_drew ?_ | refine blk_alloc ?_ _)); exact BK161.out) hb); have n1_ := Aside0.mk (blk_below (g := gb162) (o := .cells #[.int .i64 a1_0, .int .i64 a1_1, .int .i64 a1_2, .int .i64 a1_3, .slice A1_4 l1_4.length c1_4] 41 (0, 0)) (by (with_reducible repeat (first | refine blk_drewN ?_ _ | refine blk_drew ?_ | refine blk_alloc ?_ _)); exact BK162.out) hb); have n2_ := Aside0.mk (below_step (by repeat (first | (with_reducible first | exact HB.out | apply below_alloc | apply pw_below_drewN | apply below_drew1 | refine below_set ?_ GE161.out | refine below_set ?_ GE162.out) | exact HB.out)) hb); clear BK161; clear BK162; clear HB; have BK161 := n0_; have BK162 := n1_; have HB := n2_; clear n0_ n1_ n2_; (try clear hb); (try clear hb2); (try clear hk); (try clear hi); have hcz239_0 : w238.cell? ⟨gb162, 0, none⟩ = some (.int .i64 a1_0) := (blk_cell BK162.out 0).trans rfl; have hcz239_1 : w238.cell? ⟨gb162, 1, none⟩ = some (.int .i64 a1_1) := (blk_cell BK162.out 1).trans rfl; have hcz239_2 : w238.cell? ⟨gb162, 2, none⟩ = some (.int .i64 a1_2) := (blk_cell BK162.out 2).trans rfl; have hcz239_3 : w238.cell? ⟨gb162, 3, none⟩ = some (.int .i64 a1_3) := (blk_cell BK162.out 3).trans rfl; have hcz239_4 : w238.cell? ⟨gb162, 4, none⟩ = some (.slice A1_4 l1_4.length c1_4) := (blk_cell BK162.out 4).trans rfl; have hfz239_0 := blk_frozen BK162.out 0; have hfz239_1 := blk_frozen BK162.out 1; have hfz239_2 := blk_frozen BK162.out 2; have hfz239_3 := blk_frozen BK162.out 3; have hfz239_4 := blk_frozen BK162.out 4; have hcz240_0 : w238.cell? ⟨gb161, 0, none⟩ = some (.int .i64 a0_0) := (blk_cell BK161.out 0).trans rfl; have hcz240_1 : w238.cell? ⟨gb161, 1, none⟩ = some (.int .i64 a0_1) := (blk_cell BK161.out 1).trans rfl; have hcz240_2 : w238.cell? ⟨gb161, 2, none⟩ = some (.int .i64 a0_2) := (blk_cell BK161.out 2).trans rfl; have hcz240_3 : w238.cell? ⟨gb161, 3, none⟩ = some (.int .i64 a0_3) := (blk_cell BK161.out 3).trans rfl; have hcz240_4 : w238.cell? ⟨gb161, 4, none⟩ = some (.int .i64 a0_4) := (blk_cell BK161.out 4).trans rfl; have hfz240_0 := blk_frozen BK161.out 0; have hfz240_1 := blk_frozen BK161.out 1; have hfz240_2 := blk_frozen BK161.out 2; have hfz240_3 := blk_frozen BK161.out 3; have hfz240_4 := blk_frozen BK161.out 4) | ((with_reducible refine gate_callee (f := 69) rfl ?_); refine goesL_ (some 105) rfl rfl Try.func69 (by kernel_rfl) rfl #[.int .i64 a0_0] rfl (by (try simp only [List.map_toArray, List.map_cons, List.map_nil]); first | done | rfl | (simp only [List.length_drop, List.length_take]; rfl)) ?_; (with_reducible refine (deadwoodref09_pair.calls a0_0 t175 _ A234.out).mono ?_); rintro e w' ⟨rfl, ⟨nd, rfl⟩⟩; refine ⟨_, rfl, ?_⟩))
                        go_ret
                        exact ⟨by first | rfl | (simp [errW_none, errW_some] <;> rfl) | (simp [*, errW_none, errW_some] <;> rfl), by repeat (first | (with_reducible first | exact HB.out | apply below_alloc | apply pw_below_drewN | apply below_drew1 | refine below_set ?_ GE161.out | refine below_set ?_ GE162.out) | exact HB.out)⟩
              · rw [if_neg c68] at H
                have c68b0 : (a1_0 == 1) = false := beq_eq_false_iff_ne.mpr c68
                have c68b1 : (a1_0 != 1) = true := bne_iff_ne.mpr c68
                by_cases c241 : a1_0 = 2
                · rw [if_pos c241] at H
                  have c241b0 : (a1_0 == 2) = true := beq_iff_eq.mpr c241
                  have c241b1 : (a1_0 != 2) = false := bne_eq_false_iff_eq.mpr c241
                  clear c241
                  by_cases c242 : a0_0 = 4
                  · rw [if_pos c242] at H
                    have c242b0 : (a0_0 == 4) = true := beq_iff_eq.mpr c242
                    have c242b1 : (a0_0 != 4) = false := bne_eq_false_iff_eq.mpr c242
                    clear c242
                    obtain rfl := Option.some.inj H
                    have hnb243 := NB162_161.out
                    have hnc243 := NB161_162.out
                    have hcz244_0 : wc.cell? ⟨gb162, 0, none⟩ = some (.int .i64 a1_0) := (blk_cell BK162.out 0).trans rfl
                    have hcz244_1 : wc.cell? ⟨gb162, 1, none⟩ = some (.int .i64 a1_1) := (blk_cell BK162.out 1).trans rfl
                    have hcz244_2 : wc.cell? ⟨gb162, 2, none⟩ = some (.int .i64 a1_2) := (blk_cell BK162.out 2).trans rfl
                    have hcz244_3 : wc.cell? ⟨gb162, 3, none⟩ = some (.int .i64 a1_3) := (blk_cell BK162.out 3).trans rfl
                    have hcz244_4 : wc.cell? ⟨gb162, 4, none⟩ = some (.slice A1_4 l1_4.length c1_4) := (blk_cell BK162.out 4).trans rfl
                    have hfz244_0 := blk_frozen BK162.out 0
                    have hfz244_1 := blk_frozen BK162.out 1
                    have hfz244_2 := blk_frozen BK162.out 2
                    have hfz244_3 := blk_frozen BK162.out 3
                    have hfz244_4 := blk_frozen BK162.out 4
                    have hcz245_0 : wc.cell? ⟨gb161, 0, none⟩ = some (.int .i64 a0_0) := (blk_cell BK161.out 0).trans rfl
                    have hcz245_1 : wc.cell? ⟨gb161, 1, none⟩ = some (.int .i64 a0_1) := (blk_cell BK161.out 1).trans rfl
                    have hcz245_2 : wc.cell? ⟨gb161, 2, none⟩ = some (.int .i64 a0_2) := (blk_cell BK161.out 2).trans rfl
                    have hcz245_3 : wc.cell? ⟨gb161, 3, none⟩ = some (.int .i64 a0_3) := (blk_cell BK161.out 3).trans rfl
                    have hcz245_4 : wc.cell? ⟨gb161, 4, none⟩ = some (.int .i64 a0_4) := (blk_cell BK161.out 4).trans rfl
                    have hfz245_0 := blk_frozen BK161.out 0
                    have hfz245_1 := blk_frozen BK161.out 1
                    have hfz245_2 := blk_frozen BK161.out 2
                    have hfz245_3 := blk_frozen BK161.out 3
                    have hfz245_4 := blk_frozen BK161.out 4
                    go_wp2_with (first | ((with_reducible refine gate_callee (f := 31) rfl ?_); refine goesL_ (some 43) rfl rfl Try.func31 (by kernel_rfl) rfl #[.agg #[.int .i64 a0_0, .int .i64 a0_1, .int .i64 a0_2, .int .i64 a0_3, .int .i64 a0_4]] rfl (by (try simp only [List.map_toArray, List.map_cons, List.map_nil]); first | done | rfl | (simp only [List.length_drop, List.length_take]; rfl)) ?_; (with_reducible refine (deadwoodref09_May.calls kj2 a0_0 a0_1 a0_2 a0_3 a0_4 true _ A45.out).mono ?_); rintro e w246 ⟨rfl, hb⟩; refine ⟨_, rfl, ?_⟩; have n0_ := Aside0.mk (blk_below (g := gb161) (o := .cells #[.int .i64 a0_0, .int .i64 a0_1, .int .i64 a0_2, .int .i64 a0_3, .int .i64 a0_4] 38 (0, 0)) (by (with_reducible repeat (first | refine blk_drewN ?_ _ | refine blk_drew ?_ | refine blk_alloc ?_ _)); exact BK161.out) hb); have n1_ := Aside0.mk (blk_below (g := gb162) (o := .cells #[.int .i64 a1_0, .int .i64 a1_1, .int .i64 a1_2, .int .i64 a1_3, .slice A1_4 l1_4.length c1_4] 41 (0, 0)) (by (with_reducible repeat (first | refine blk_drewN ?_ _ | refine blk_drew ?_ | refine blk_alloc ?_ _)); exact BK162.out) hb); have n2_ := Aside0.mk (below_step (by repeat (first | (with_reducible first | exact HB.out | apply below_alloc | apply pw_below_drewN | apply below_drew1 | refine below_set ?_ GE161.out | refine below_set ?_ GE162.out) | exact HB.out)) hb); clear BK161; clear BK162; clear HB; have BK161 := n0_; have BK162 := n1_; have HB := n2_; clear n0_ n1_ n2_; (try clear hb); (try clear hb2); (try clear hk); (try clear hi); have hcz247_0 : w246.cell? ⟨gb162, 0, none⟩ = some (.int .i64 a1_0) := (blk_cell BK162.out 0).trans rfl; have hcz247_1 : w246.cell? ⟨gb162, 1, none⟩ = some (.int .i64 a1_1) := (blk_cell BK162.out 1).trans rfl; have hcz247_2 : w246.cell? ⟨gb162, 2, none⟩ = some (.int .i64 a1_2) := (blk_cell BK162.out 2).trans rfl; have hcz247_3 : w246.cell? ⟨gb162, 3, none⟩ = some (.int .i64 a1_3) := (blk_cell BK162.out 3).trans rfl; have hcz247_4 : w246.cell? ⟨gb162, 4, none⟩ = some (.slice A1_4 l1_4.length c1_4) := (blk_cell BK162.out 4).trans rfl; have hfz247_0 := blk_frozen BK162.out 0; have hfz247_1 := blk_frozen BK162.out 1; have hfz247_2 := blk_frozen BK162.out 2; have hfz247_3 := blk_frozen BK162.out 3; have hfz247_4 := blk_frozen BK162.out 4; have hcz248_0 : w246.cell? ⟨gb161, 0, none⟩ = some (.int .i64 a0_0) := (blk_cell BK161.out 0).trans rfl; have hcz248_1 : w246.cell? ⟨gb161, 1, none⟩ = some (.int .i64 a0_1) := (blk_cell BK161.out 1).trans rfl; have hcz248_2 : w246.cell? ⟨gb161, 2, none⟩ = some (.int .i64 a0_2) := (blk_cell BK161.out 2).trans rfl; have hcz248_3 : w246.cell? ⟨gb161, 3, none⟩ = some (.int .i64 a0_3) := (blk_cell BK161.out 3).trans rfl; have hcz248_4 : w246.cell? ⟨gb161, 4, none⟩ = some (.int .i64 a0_4) := (blk_cell BK161.out 4).trans rfl; have hfz248_0 := blk_frozen BK161.out 0; have hfz248_1 := blk_frozen BK161.out 1; have hfz248_2 := blk_frozen BK161.out 2; have hfz248_3 := blk_frozen BK161.out 3; have hfz248_4 := blk_frozen BK161.out 4))
                    go_ret
                    exact ⟨by first | rfl | (simp [errW_none, errW_some] <;> rfl) | (simp [*, errW_none, errW_some] <;> rfl), by repeat (first | (with_reducible first | exact HB.out | apply below_alloc | apply pw_below_drewN | apply below_drew1 | refine below_set ?_ GE161.out | refine below_set ?_ GE162.out) | exact HB.out)⟩
                  · rw [if_neg c242] at H
                    have c242b0 : (a0_0 == 4) = false := beq_eq_false_iff_ne.mpr c242
                    have c242b1 : (a0_0 != 4) = true := bne_iff_ne.mpr c242
                    obtain rfl := Option.some.inj H
                    have hnb249 := NB162_161.out
                    have hnc249 := NB161_162.out
                    have hcz250_0 : wc.cell? ⟨gb162, 0, none⟩ = some (.int .i64 a1_0) := (blk_cell BK162.out 0).trans rfl
                    have hcz250_1 : wc.cell? ⟨gb162, 1, none⟩ = some (.int .i64 a1_1) := (blk_cell BK162.out 1).trans rfl
                    have hcz250_2 : wc.cell? ⟨gb162, 2, none⟩ = some (.int .i64 a1_2) := (blk_cell BK162.out 2).trans rfl
                    have hcz250_3 : wc.cell? ⟨gb162, 3, none⟩ = some (.int .i64 a1_3) := (blk_cell BK162.out 3).trans rfl
                    have hcz250_4 : wc.cell? ⟨gb162, 4, none⟩ = some (.slice A1_4 l1_4.length c1_4) := (blk_cell BK162.out 4).trans rfl
                    have hfz250_0 := blk_frozen BK162.out 0
                    have hfz250_1 := blk_frozen BK162.out 1
                    have hfz250_2 := blk_frozen BK162.out 2
                    have hfz250_3 := blk_frozen BK162.out 3
                    have hfz250_4 := blk_frozen BK162.out 4
                    have hcz251_0 : wc.cell? ⟨gb161, 0, none⟩ = some (.int .i64 a0_0) := (blk_cell BK161.out 0).trans rfl
                    have hcz251_1 : wc.cell? ⟨gb161, 1, none⟩ = some (.int .i64 a0_1) := (blk_cell BK161.out 1).trans rfl
                    have hcz251_2 : wc.cell? ⟨gb161, 2, none⟩ = some (.int .i64 a0_2) := (blk_cell BK161.out 2).trans rfl
                    have hcz251_3 : wc.cell? ⟨gb161, 3, none⟩ = some (.int .i64 a0_3) := (blk_cell BK161.out 3).trans rfl
                    have hcz251_4 : wc.cell? ⟨gb161, 4, none⟩ = some (.int .i64 a0_4) := (blk_cell BK161.out 4).trans rfl
                    have hfz251_0 := blk_frozen BK161.out 0
                    have hfz251_1 := blk_frozen BK161.out 1
                    have hfz251_2 := blk_frozen BK161.out 2
                    have hfz251_3 := blk_frozen BK161.out 3
                    have hfz251_4 := blk_frozen BK161.out 4
                    go_wp2_with (first | ((with_reducible refine gate_callee (f := 31) rfl ?_); refine goesL_ (some 43) rfl rfl Try.func31 (by kernel_rfl) rfl #[.agg #[.int .i64 a0_0, .int .i64 a0_1, .int .i64 a0_2, .int .i64 a0_3, .int .i64 a0_4]] rfl (by (try simp only [List.map_toArray, List.map_cons, List.map_nil]); first | done | rfl | (simp only [List.length_drop, List.length_take]; rfl)) ?_; (with_reducible refine (deadwoodref09_May.calls kj2 a0_0 a0_1 a0_2 a0_3 a0_4 true _ A45.out).mono ?_); rintro e w252 ⟨rfl, hb⟩; refine ⟨_, rfl, ?_⟩; have n0_ := Aside0.mk (blk_below (g := gb161) (o := .cells #[.int .i64 a0_0, .int .i64 a0_1, .int .i64 a0_2, .int .i64 a0_3, .int .i64 a0_4] 38 (0, 0)) (by (with_reducible repeat (first | refine blk_drewN ?_ _ | refine blk_drew ?_ | refine blk_alloc ?_ _)); exact BK161.out) hb); have n1_ := Aside0.mk (blk_below (g := gb162) (o := .cells #[.int .i64 a1_0, .int .i64 a1_1, .int .i64 a1_2, .int .i64 a1_3, .slice A1_4 l1_4.length c1_4] 41 (0, 0)) (by (with_reducible repeat (first | refine blk_drewN ?_ _ | refine blk_drew ?_ | refine blk_alloc ?_ _)); exact BK162.out) hb); have n2_ := Aside0.mk (below_step (by repeat (first | (with_reducible first | exact HB.out | apply below_alloc | apply pw_below_drewN | apply below_drew1 | refine below_set ?_ GE161.out | refine below_set ?_ GE162.out) | exact HB.out)) hb); clear BK161; clear BK162; clear HB; have BK161 := n0_; have BK162 := n1_; have HB := n2_; clear n0_ n1_ n2_; (try clear hb); (try clear hb2); (try clear hk); (try clear hi); have hcz253_0 : w252.cell? ⟨gb162, 0, none⟩ = some (.int .i64 a1_0) := (blk_cell BK162.out 0).trans rfl; have hcz253_1 : w252.cell? ⟨gb162, 1, none⟩ = some (.int .i64 a1_1) := (blk_cell BK162.out 1).trans rfl; have hcz253_2 : w252.cell? ⟨gb162, 2, none⟩ = some (.int .i64 a1_2) := (blk_cell BK162.out 2).trans rfl; have hcz253_3 : w252.cell? ⟨gb162, 3, none⟩ = some (.int .i64 a1_3) := (blk_cell BK162.out 3).trans rfl; have hcz253_4 : w252.cell? ⟨gb162, 4, none⟩ = some (.slice A1_4 l1_4.length c1_4) := (blk_cell BK162.out 4).trans rfl; have hfz253_0 := blk_frozen BK162.out 0; have hfz253_1 := blk_frozen BK162.out 1; have hfz253_2 := blk_frozen BK162.out 2; have hfz253_3 := blk_frozen BK162.out 3; have hfz253_4 := blk_frozen BK162.out 4; have hcz254_0 : w252.cell? ⟨gb161, 0, none⟩ = some (.int .i64 a0_0) := (blk_cell BK161.out 0).trans rfl; have hcz254_1 : w252.cell? ⟨gb161, 1, none⟩ = some (.int .i64 a0_1) := (blk_cell BK161.out 1).trans rfl; have hcz254_2 : w252.cell? ⟨gb161, 2, none⟩ = some (.int .i64 a0_2) := (blk_cell BK161.out 2).trans rfl; have hcz254_3 : w252.cell? ⟨gb161, 3, none⟩ = some (.int .i64 a0_3) := (blk_cell BK161.out 3).trans rfl; have hcz254_4 : w252.cell? ⟨gb161, 4, none⟩ = some (.int .i64 a0_4) := (blk_cell BK161.out 4).trans rfl; have hfz254_0 := blk_frozen BK161.out 0; have hfz254_1 := blk_frozen BK161.out 1; have hfz254_2 := blk_frozen BK161.out 2; have hfz254_3 := blk_frozen BK161.out 3; have hfz254_4 := blk_frozen BK161.out 4))
                    go_ret
                    exact ⟨by first | rfl | (simp [errW_none, errW_some] <;> rfl) | (simp [*, errW_none, errW_some] <;> rfl), by repeat (first | (with_reducible first | exact HB.out | apply below_alloc | apply pw_below_drewN | apply below_drew1 | refine below_set ?_ GE161.out | refine below_set ?_ GE162.out) | exact HB.out)⟩
                · rw [if_neg c241] at H
                  have c241b0 : (a1_0 == 2) = false := beq_eq_false_iff_ne.mpr c241
                  have c241b1 : (a1_0 != 2) = true := bne_iff_ne.mpr c241
                  by_cases c255 : a1_0 = 3
                  · rw [if_pos c255] at H
                    have c255b0 : (a1_0 == 3) = true := beq_iff_eq.mpr c255
                    have c255b1 : (a1_0 != 3) = false := bne_eq_false_iff_eq.mpr c255
                    clear c255
                    by_cases c256 : a0_0 = 3
                    · rw [if_pos c256] at H
                      have c256b0 : (a0_0 == 3) = true := beq_iff_eq.mpr c256
                      have c256b1 : (a0_0 != 3) = false := bne_eq_false_iff_eq.mpr c256
                      clear c256
                      replace H := Option.bind_eq_some_iff.mp H
                      obtain ⟨t176, A2570, H⟩ := H
                      replace H : (if t176 = true then (some (decide ((l1_4.length : Int) ≤ a0_4))) else (some false)) = some r := H
                      have A257 := Aside0.mk A2570
                      clear A2570
                      by_cases c258 : t176 = true
                      · subst c258
                        have H1 : (some (decide ((l1_4.length : Int) ≤ a0_4))) = some r := by rw [if_pos rfl] at H; exact H
                        clear H
                        have H := H1
                        clear H1
                        obtain rfl := Option.some.inj H
                        have hnb259 := NB162_161.out
                        have hnc259 := NB161_162.out
                        have hcz260_0 : wc.cell? ⟨gb162, 0, none⟩ = some (.int .i64 a1_0) := (blk_cell BK162.out 0).trans rfl
                        have hcz260_1 : wc.cell? ⟨gb162, 1, none⟩ = some (.int .i64 a1_1) := (blk_cell BK162.out 1).trans rfl
                        have hcz260_2 : wc.cell? ⟨gb162, 2, none⟩ = some (.int .i64 a1_2) := (blk_cell BK162.out 2).trans rfl
                        have hcz260_3 : wc.cell? ⟨gb162, 3, none⟩ = some (.int .i64 a1_3) := (blk_cell BK162.out 3).trans rfl
                        have hcz260_4 : wc.cell? ⟨gb162, 4, none⟩ = some (.slice A1_4 l1_4.length c1_4) := (blk_cell BK162.out 4).trans rfl
                        have hfz260_0 := blk_frozen BK162.out 0
                        have hfz260_1 := blk_frozen BK162.out 1
                        have hfz260_2 := blk_frozen BK162.out 2
                        have hfz260_3 := blk_frozen BK162.out 3
                        have hfz260_4 := blk_frozen BK162.out 4
                        have hcz261_0 : wc.cell? ⟨gb161, 0, none⟩ = some (.int .i64 a0_0) := (blk_cell BK161.out 0).trans rfl
                        have hcz261_1 : wc.cell? ⟨gb161, 1, none⟩ = some (.int .i64 a0_1) := (blk_cell BK161.out 1).trans rfl
                        have hcz261_2 : wc.cell? ⟨gb161, 2, none⟩ = some (.int .i64 a0_2) := (blk_cell BK161.out 2).trans rfl
                        have hcz261_3 : wc.cell? ⟨gb161, 3, none⟩ = some (.int .i64 a0_3) := (blk_cell BK161.out 3).trans rfl
                        have hcz261_4 : wc.cell? ⟨gb161, 4, none⟩ = some (.int .i64 a0_4) := (blk_cell BK161.out 4).trans rfl
                        have hfz261_0 := blk_frozen BK161.out 0
                        have hfz261_1 := blk_frozen BK161.out 1
                        have hfz261_2 := blk_frozen BK161.out 2
                        have hfz261_3 := blk_frozen BK161.out 3
                        have hfz261_4 := blk_frozen BK161.out 4
                        go_wp2_with (first | ((with_reducible refine gate_callee (f := 31) rfl ?_); refine goesL_ (some 43) rfl rfl Try.func31 (by kernel_rfl) rfl #[.agg #[.int .i64 a0_0, .int .i64 a0_1, .int .i64 a0_2, .int .i64 a0_3, .int .i64 a0_4]] rfl (by (try simp only [List.map_toArray, List.map_cons, List.map_nil]); first | done | rfl | (simp only [List.length_drop, List.length_take]; rfl)) ?_; (with_reducible refine (deadwoodref09_May.calls kj2 a0_0 a0_1 a0_2 a0_3 a0_4 true _ A45.out).mono ?_); rintro e w262 ⟨rfl, hb⟩; refine ⟨_, rfl, ?_⟩; have n0_ := Aside0.mk (blk_below (g := gb161) (o := .cells #[.int .i64 a0_0, .int .i64 a0_1, .int .i64 a0_2, .int .i64 a0_3, .int .i64 a0_4] 38 (0, 0)) (by (with_reducible repeat (first | refine blk_drewN ?_ _ | refine blk_drew ?_ | refine blk_alloc ?_ _)); exact BK161.out) hb); have n1_ := Aside0.mk (blk_below (g := gb162) (o := .cells #[.int .i64 a1_0, .int .i64 a1_1, .int .i64 a1_2, .int .i64 a1_3, .slice A1_4 l1_4.length c1_4] 41 (0, 0)) (by (with_reducible repeat (first | refine blk_drewN ?_ _ | refine blk_drew ?_ | refine blk_alloc ?_ _)); exact BK162.out) hb); have n2_ := Aside0.mk (below_step (by repeat (first | (with_reducible first | exact HB.out | apply below_alloc | apply pw_below_drewN | apply below_drew1 | refine below_set ?_ GE161.out | refine below_set ?_ GE162.out) | exact HB.out)) hb); clear BK161; clear BK162; clear HB; have BK161 := n0_; have BK162 := n1_; have HB := n2_; clear n0_ n1_ n2_; (try clear hb); (try clear hb2); (try clear hk); (try clear hi); have hcz263_0 : w262.cell? ⟨gb162, 0, none⟩ = some (.int .i64 a1_0) := (blk_cell BK162.out 0).trans rfl; have hcz263_1 : w262.cell? ⟨gb162, 1, none⟩ = some (.int .i64 a1_1) := (blk_cell BK162.out 1).trans rfl; have hcz263_2 : w262.cell? ⟨gb162, 2, none⟩ = some (.int .i64 a1_2) := (blk_cell BK162.out 2).trans rfl; have hcz263_3 : w262.cell? ⟨gb162, 3, none⟩ = some (.int .i64 a1_3) := (blk_cell BK162.out 3).trans rfl; have hcz263_4 : w262.cell? ⟨gb162, 4, none⟩ = some (.slice A1_4 l1_4.length c1_4) := (blk_cell BK162.out 4).trans rfl; have hfz263_0 := blk_frozen BK162.out 0; have hfz263_1 := blk_frozen BK162.out 1; have hfz263_2 := blk_frozen BK162.out 2; have hfz263_3 := blk_frozen BK162.out 3; have hfz263_4 := blk_frozen BK162.out 4; have hcz264_0 : w262.cell? ⟨gb161, 0, none⟩ = some (.int .i64 a0_0) := (blk_cell BK161.out 0).trans rfl; have hcz264_1 : w262.cell? ⟨gb161, 1, none⟩ = some (.int .i64 a0_1) := (blk_cell BK161.out 1).trans rfl; have hcz264_2 : w262.cell? ⟨gb161, 2, none⟩ = some (.int .i64 a0_2) := (blk_cell BK161.out 2).trans rfl; have hcz264_3 : w262.cell? ⟨gb161, 3, none⟩ = some (.int .i64 a0_3) := (blk_cell BK161.out 3).trans rfl; have hcz264_4 : w262.cell? ⟨gb161, 4, none⟩ = some (.int .i64 a0_4) := (blk_cell BK161.out 4).trans rfl; have hfz264_0 := blk_frozen BK161.out 0; have hfz264_1 := blk_frozen BK161.out 1; have hfz264_2 := blk_frozen BK161.out 2; have hfz264_3 := blk_frozen BK161.out 3; have hfz264_4 := blk_frozen BK161.out 4) | (go_at_call 70; (with_reducible refine (deadwoodref09_within.calls kj2 _ _ l1_4 a0_1 a0_3 true _ ?side1 ?side2 A257.out).mono ?_); (case side1 => repeat (first | exact (Kd.C_below HR1_4.out HB.out) | (with_reducible refine Kd.C_alloc ?_ _) | (with_reducible refine Kd.C_drewN ?_ _) | (with_reducible refine Kd.C_drew ?_))); (case side2 => exact HC1_4.out); rintro e w' ⟨rfl, ⟨nd, rfl⟩⟩))
                        go_ret
                        exact ⟨by first | rfl | (simp [errW_none, errW_some] <;> rfl) | (simp [*, errW_none, errW_some] <;> rfl), by repeat (first | (with_reducible first | exact HB.out | apply below_alloc | apply pw_below_drewN | apply below_drew1 | refine below_set ?_ GE161.out | refine below_set ?_ GE162.out) | exact HB.out)⟩
                      · replace c258 := Bool.eq_false_iff.mpr c258
                        subst c258
                        have H1 : (some false) = some r := by rw [if_neg (show ¬ (false = true) by decide)] at H; exact H
                        clear H
                        have H := H1
                        clear H1
                        obtain rfl := Option.some.inj H
                        have hnb265 := NB162_161.out
                        have hnc265 := NB161_162.out
                        have hcz266_0 : wc.cell? ⟨gb162, 0, none⟩ = some (.int .i64 a1_0) := (blk_cell BK162.out 0).trans rfl
                        have hcz266_1 : wc.cell? ⟨gb162, 1, none⟩ = some (.int .i64 a1_1) := (blk_cell BK162.out 1).trans rfl
                        have hcz266_2 : wc.cell? ⟨gb162, 2, none⟩ = some (.int .i64 a1_2) := (blk_cell BK162.out 2).trans rfl
                        have hcz266_3 : wc.cell? ⟨gb162, 3, none⟩ = some (.int .i64 a1_3) := (blk_cell BK162.out 3).trans rfl
                        have hcz266_4 : wc.cell? ⟨gb162, 4, none⟩ = some (.slice A1_4 l1_4.length c1_4) := (blk_cell BK162.out 4).trans rfl
                        have hfz266_0 := blk_frozen BK162.out 0
                        have hfz266_1 := blk_frozen BK162.out 1
                        have hfz266_2 := blk_frozen BK162.out 2
                        have hfz266_3 := blk_frozen BK162.out 3
                        have hfz266_4 := blk_frozen BK162.out 4
                        have hcz267_0 : wc.cell? ⟨gb161, 0, none⟩ = some (.int .i64 a0_0) := (blk_cell BK161.out 0).trans rfl
                        have hcz267_1 : wc.cell? ⟨gb161, 1, none⟩ = some (.int .i64 a0_1) := (blk_cell BK161.out 1).trans rfl
                        have hcz267_2 : wc.cell? ⟨gb161, 2, none⟩ = some (.int .i64 a0_2) := (blk_cell BK161.out 2).trans rfl
                        have hcz267_3 : wc.cell? ⟨gb161, 3, none⟩ = some (.int .i64 a0_3) := (blk_cell BK161.out 3).trans rfl
                        have hcz267_4 : wc.cell? ⟨gb161, 4, none⟩ = some (.int .i64 a0_4) := (blk_cell BK161.out 4).trans rfl
                        have hfz267_0 := blk_frozen BK161.out 0
                        have hfz267_1 := blk_frozen BK161.out 1
                        have hfz267_2 := blk_frozen BK161.out 2
                        have hfz267_3 := blk_frozen BK161.out 3
                        have hfz267_4 := blk_frozen BK161.out 4
                        go_wp2_with (first | ((with_reducible refine gate_callee (f := 31) rfl ?_); refine goesL_ (some 43) rfl rfl Try.func31 (by kernel_rfl) rfl #[.agg #[.int .i64 a0_0, .int .i64 a0_1, .int .i64 a0_2, .int .i64 a0_3, .int .i64 a0_4]] rfl (by (try simp only [List.map_toArray, List.map_cons, List.map_nil]); first | done | rfl | (simp only [List.length_drop, List.length_take]; rfl)) ?_; (with_reducible refine (deadwoodref09_May.calls kj2 a0_0 a0_1 a0_2 a0_3 a0_4 true _ A45.out).mono ?_); rintro e w268 ⟨rfl, hb⟩; refine ⟨_, rfl, ?_⟩; have n0_ := Aside0.mk (blk_below (g := gb161) (o := .cells #[.int .i64 a0_0, .int .i64 a0_1, .int .i64 a0_2, .int .i64 a0_3, .int .i64 a0_4] 38 (0, 0)) (by (with_reducible repeat (first | refine blk_drewN ?_ _ | refine blk_drew ?_ | refine blk_alloc ?_ _)); exact BK161.out) hb); have n1_ := Aside0.mk (blk_below (g := gb162) (o := .cells #[.int .i64 a1_0, .int .i64 a1_1, .int .i64 a1_2, .int .i64 a1_3, .slice A1_4 l1_4.length c1_4] 41 (0, 0)) (by (with_reducible repeat (first | refine blk_drewN ?_ _ | refine blk_drew ?_ | refine blk_alloc ?_ _)); exact BK162.out) hb); have n2_ := Aside0.mk (below_step (by repeat (first | (with_reducible first | exact HB.out | apply below_alloc | apply pw_below_drewN | apply below_drew1 | refine below_set ?_ GE161.out | refine below_set ?_ GE162.out) | exact HB.out)) hb); clear BK161; clear BK162; clear HB; have BK161 := n0_; have BK162 := n1_; have HB := n2_; clear n0_ n1_ n2_; (try clear hb); (try clear hb2); (try clear hk); (try clear hi); have hcz269_0 : w268.cell? ⟨gb162, 0, none⟩ = some (.int .i64 a1_0) := (blk_cell BK162.out 0).trans rfl; have hcz269_1 : w268.cell? ⟨gb162, 1, none⟩ = some (.int .i64 a1_1) := (blk_cell BK162.out 1).trans rfl; have hcz269_2 : w268.cell? ⟨gb162, 2, none⟩ = some (.int .i64 a1_2) := (blk_cell BK162.out 2).trans rfl; have hcz269_3 : w268.cell? ⟨gb162, 3, none⟩ = some (.int .i64 a1_3) := (blk_cell BK162.out 3).trans rfl; have hcz269_4 : w268.cell? ⟨gb162, 4, none⟩ = some (.slice A1_4 l1_4.length c1_4) := (blk_cell BK162.out 4).trans rfl; have hfz269_0 := blk_frozen BK162.out 0; have hfz269_1 := blk_frozen BK162.out 1; have hfz269_2 := blk_frozen BK162.out 2; have hfz269_3 := blk_frozen BK162.out 3; have hfz269_4 := blk_frozen BK162.out 4; have hcz270_0 : w268.cell? ⟨gb161, 0, none⟩ = some (.int .i64 a0_0) := (blk_cell BK161.out 0).trans rfl; have hcz270_1 : w268.cell? ⟨gb161, 1, none⟩ = some (.int .i64 a0_1) := (blk_cell BK161.out 1).trans rfl; have hcz270_2 : w268.cell? ⟨gb161, 2, none⟩ = some (.int .i64 a0_2) := (blk_cell BK161.out 2).trans rfl; have hcz270_3 : w268.cell? ⟨gb161, 3, none⟩ = some (.int .i64 a0_3) := (blk_cell BK161.out 3).trans rfl; have hcz270_4 : w268.cell? ⟨gb161, 4, none⟩ = some (.int .i64 a0_4) := (blk_cell BK161.out 4).trans rfl; have hfz270_0 := blk_frozen BK161.out 0; have hfz270_1 := blk_frozen BK161.out 1; have hfz270_2 := blk_frozen BK161.out 2; have hfz270_3 := blk_frozen BK161.out 3; have hfz270_4 := blk_frozen BK161.out 4) | (go_at_call 70; (with_reducible refine (deadwoodref09_within.calls kj2 _ _ l1_4 a0_1 a0_3 false _ ?side1 ?side2 A257.out).mono ?_); (case side1 => repeat (first | exact (Kd.C_below HR1_4.out HB.out) | (with_reducible refine Kd.C_alloc ?_ _) | (with_reducible refine Kd.C_drewN ?_ _) | (with_reducible refine Kd.C_drew ?_))); (case side2 => exact HC1_4.out); rintro e w' ⟨rfl, ⟨nd, rfl⟩⟩))
                        go_ret
                        exact ⟨by first | rfl | (simp [errW_none, errW_some] <;> rfl) | (simp [*, errW_none, errW_some] <;> rfl), by repeat (first | (with_reducible first | exact HB.out | apply below_alloc | apply pw_below_drewN | apply below_drew1 | refine below_set ?_ GE161.out | refine below_set ?_ GE162.out) | exact HB.out)⟩
                    · rw [if_neg c256] at H
                      have c256b0 : (a0_0 == 3) = false := beq_eq_false_iff_ne.mpr c256
                      have c256b1 : (a0_0 != 3) = true := bne_iff_ne.mpr c256
                      obtain rfl := Option.some.inj H
                      have hnb271 := NB162_161.out
                      have hnc271 := NB161_162.out
                      have hcz272_0 : wc.cell? ⟨gb162, 0, none⟩ = some (.int .i64 a1_0) := (blk_cell BK162.out 0).trans rfl
                      have hcz272_1 : wc.cell? ⟨gb162, 1, none⟩ = some (.int .i64 a1_1) := (blk_cell BK162.out 1).trans rfl
                      have hcz272_2 : wc.cell? ⟨gb162, 2, none⟩ = some (.int .i64 a1_2) := (blk_cell BK162.out 2).trans rfl
                      have hcz272_3 : wc.cell? ⟨gb162, 3, none⟩ = some (.int .i64 a1_3) := (blk_cell BK162.out 3).trans rfl
                      have hcz272_4 : wc.cell? ⟨gb162, 4, none⟩ = some (.slice A1_4 l1_4.length c1_4) := (blk_cell BK162.out 4).trans rfl
                      have hfz272_0 := blk_frozen BK162.out 0
                      have hfz272_1 := blk_frozen BK162.out 1
                      have hfz272_2 := blk_frozen BK162.out 2
                      have hfz272_3 := blk_frozen BK162.out 3
                      have hfz272_4 := blk_frozen BK162.out 4
                      have hcz273_0 : wc.cell? ⟨gb161, 0, none⟩ = some (.int .i64 a0_0) := (blk_cell BK161.out 0).trans rfl
                      have hcz273_1 : wc.cell? ⟨gb161, 1, none⟩ = some (.int .i64 a0_1) := (blk_cell BK161.out 1).trans rfl
                      have hcz273_2 : wc.cell? ⟨gb161, 2, none⟩ = some (.int .i64 a0_2) := (blk_cell BK161.out 2).trans rfl
                      have hcz273_3 : wc.cell? ⟨gb161, 3, none⟩ = some (.int .i64 a0_3) := (blk_cell BK161.out 3).trans rfl
                      have hcz273_4 : wc.cell? ⟨gb161, 4, none⟩ = some (.int .i64 a0_4) := (blk_cell BK161.out 4).trans rfl
                      have hfz273_0 := blk_frozen BK161.out 0
                      have hfz273_1 := blk_frozen BK161.out 1
                      have hfz273_2 := blk_frozen BK161.out 2
                      have hfz273_3 := blk_frozen BK161.out 3
                      have hfz273_4 := blk_frozen BK161.out 4
                      go_wp2_with (first | ((with_reducible refine gate_callee (f := 31) rfl ?_); refine goesL_ (some 43) rfl rfl Try.func31 (by kernel_rfl) rfl #[.agg #[.int .i64 a0_0, .int .i64 a0_1, .int .i64 a0_2, .int .i64 a0_3, .int .i64 a0_4]] rfl (by (try simp only [List.map_toArray, List.map_cons, List.map_nil]); first | done | rfl | (simp only [List.length_drop, List.length_take]; rfl)) ?_; (with_reducible refine (deadwoodref09_May.calls kj2 a0_0 a0_1 a0_2 a0_3 a0_4 true _ A45.out).mono ?_); rintro e w274 ⟨rfl, hb⟩; refine ⟨_, rfl, ?_⟩; have n0_ := Aside0.mk (blk_below (g := gb161) (o := .cells #[.int .i64 a0_0, .int .i64 a0_1, .int .i64 a0_2, .int .i64 a0_3, .int .i64 a0_4] 38 (0, 0)) (by (with_reducible repeat (first | refine blk_drewN ?_ _ | refine blk_drew ?_ | refine blk_alloc ?_ _)); exact BK161.out) hb); have n1_ := Aside0.mk (blk_below (g := gb162) (o := .cells #[.int .i64 a1_0, .int .i64 a1_1, .int .i64 a1_2, .int .i64 a1_3, .slice A1_4 l1_4.length c1_4] 41 (0, 0)) (by (with_reducible repeat (first | refine blk_drewN ?_ _ | refine blk_drew ?_ | refine blk_alloc ?_ _)); exact BK162.out) hb); have n2_ := Aside0.mk (below_step (by repeat (first | (with_reducible first | exact HB.out | apply below_alloc | apply pw_below_drewN | apply below_drew1 | refine below_set ?_ GE161.out | refine below_set ?_ GE162.out) | exact HB.out)) hb); clear BK161; clear BK162; clear HB; have BK161 := n0_; have BK162 := n1_; have HB := n2_; clear n0_ n1_ n2_; (try clear hb); (try clear hb2); (try clear hk); (try clear hi); have hcz275_0 : w274.cell? ⟨gb162, 0, none⟩ = some (.int .i64 a1_0) := (blk_cell BK162.out 0).trans rfl; have hcz275_1 : w274.cell? ⟨gb162, 1, none⟩ = some (.int .i64 a1_1) := (blk_cell BK162.out 1).trans rfl; have hcz275_2 : w274.cell? ⟨gb162, 2, none⟩ = some (.int .i64 a1_2) := (blk_cell BK162.out 2).trans rfl; have hcz275_3 : w274.cell? ⟨gb162, 3, none⟩ = some (.int .i64 a1_3) := (blk_cell BK162.out 3).trans rfl; have hcz275_4 : w274.cell? ⟨gb162, 4, none⟩ = some (.slice A1_4 l1_4.length c1_4) := (blk_cell BK162.out 4).trans rfl; have hfz275_0 := blk_frozen BK162.out 0; have hfz275_1 := blk_frozen BK162.out 1; have hfz275_2 := blk_frozen BK162.out 2; have hfz275_3 := blk_frozen BK162.out 3; have hfz275_4 := blk_frozen BK162.out 4; have hcz276_0 : w274.cell? ⟨gb161, 0, none⟩ = some (.int .i64 a0_0) := (blk_cell BK161.out 0).trans rfl; have hcz276_1 : w274.cell? ⟨gb161, 1, none⟩ = some (.int .i64 a0_1) := (blk_cell BK161.out 1).trans rfl; have hcz276_2 : w274.cell? ⟨gb161, 2, none⟩ = some (.int .i64 a0_2) := (blk_cell BK161.out 2).trans rfl; have hcz276_3 : w274.cell? ⟨gb161, 3, none⟩ = some (.int .i64 a0_3) := (blk_cell BK161.out 3).trans rfl; have hcz276_4 : w274.cell? ⟨gb161, 4, none⟩ = some (.int .i64 a0_4) := (blk_cell BK161.out 4).trans rfl; have hfz276_0 := blk_frozen BK161.out 0; have hfz276_1 := blk_frozen BK161.out 1; have hfz276_2 := blk_frozen BK161.out 2; have hfz276_3 := blk_frozen BK161.out 3; have hfz276_4 := blk_frozen BK161.out 4))
                      go_ret
                      exact ⟨by first | rfl | (simp [errW_none, errW_some] <;> rfl) | (simp [*, errW_none, errW_some] <;> rfl), by repeat (first | (with_reducible first | exact HB.out | apply below_alloc | apply pw_below_drewN | apply below_drew1 | refine below_set ?_ GE161.out | refine below_set ?_ GE162.out) | exact HB.out)⟩
                  · rw [if_neg c255] at H
                    have c255b0 : (a1_0 == 3) = false := beq_eq_false_iff_ne.mpr c255
                    have c255b1 : (a1_0 != 3) = true := bne_iff_ne.mpr c255
                    by_cases c277 : a1_0 = 4
                    · rw [if_pos c277] at H
                      have c277b0 : (a1_0 == 4) = true := beq_iff_eq.mpr c277
                      have c277b1 : (a1_0 != 4) = false := bne_eq_false_iff_eq.mpr c277
                      clear c277
                      replace H := Option.bind_eq_some_iff.mp H
                      obtain ⟨t177, A2780, H⟩ := H
                      replace H : (some t177) = some r := H
                      have A278 := Aside0.mk A2780
                      clear A2780
                      obtain rfl := Option.some.inj H
                      have hnb279 := NB162_161.out
                      have hnc279 := NB161_162.out
                      have hcz280_0 : wc.cell? ⟨gb162, 0, none⟩ = some (.int .i64 a1_0) := (blk_cell BK162.out 0).trans rfl
                      have hcz280_1 : wc.cell? ⟨gb162, 1, none⟩ = some (.int .i64 a1_1) := (blk_cell BK162.out 1).trans rfl
                      have hcz280_2 : wc.cell? ⟨gb162, 2, none⟩ = some (.int .i64 a1_2) := (blk_cell BK162.out 2).trans rfl
                      have hcz280_3 : wc.cell? ⟨gb162, 3, none⟩ = some (.int .i64 a1_3) := (blk_cell BK162.out 3).trans rfl
                      have hcz280_4 : wc.cell? ⟨gb162, 4, none⟩ = some (.slice A1_4 l1_4.length c1_4) := (blk_cell BK162.out 4).trans rfl
                      have hfz280_0 := blk_frozen BK162.out 0
                      have hfz280_1 := blk_frozen BK162.out 1
                      have hfz280_2 := blk_frozen BK162.out 2
                      have hfz280_3 := blk_frozen BK162.out 3
                      have hfz280_4 := blk_frozen BK162.out 4
                      have hcz281_0 : wc.cell? ⟨gb161, 0, none⟩ = some (.int .i64 a0_0) := (blk_cell BK161.out 0).trans rfl
                      have hcz281_1 : wc.cell? ⟨gb161, 1, none⟩ = some (.int .i64 a0_1) := (blk_cell BK161.out 1).trans rfl
                      have hcz281_2 : wc.cell? ⟨gb161, 2, none⟩ = some (.int .i64 a0_2) := (blk_cell BK161.out 2).trans rfl
                      have hcz281_3 : wc.cell? ⟨gb161, 3, none⟩ = some (.int .i64 a0_3) := (blk_cell BK161.out 3).trans rfl
                      have hcz281_4 : wc.cell? ⟨gb161, 4, none⟩ = some (.int .i64 a0_4) := (blk_cell BK161.out 4).trans rfl
                      have hfz281_0 := blk_frozen BK161.out 0
                      have hfz281_1 := blk_frozen BK161.out 1
                      have hfz281_2 := blk_frozen BK161.out 2
                      have hfz281_3 := blk_frozen BK161.out 3
                      have hfz281_4 := blk_frozen BK161.out 4
                      go_wp2_with (first | ((with_reducible refine gate_callee (f := 31) rfl ?_); refine goesL_ (some 43) rfl rfl Try.func31 (by kernel_rfl) rfl #[.agg #[.int .i64 a0_0, .int .i64 a0_1, .int .i64 a0_2, .int .i64 a0_3, .int .i64 a0_4]] rfl (by (try simp only [List.map_toArray, List.map_cons, List.map_nil]); first | done | rfl | (simp only [List.length_drop, List.length_take]; rfl)) ?_; (with_reducible refine (deadwoodref09_May.calls kj2 a0_0 a0_1 a0_2 a0_3 a0_4 true _ A45.out).mono ?_); rintro e w282 ⟨rfl, hb⟩; refine ⟨_, rfl, ?_⟩; have n0_ := Aside0.mk (blk_below (g := gb161) (o := .cells #[.int .i64 a0_0, .int .i64 a0_1, .int .i64 a0_2, .int .i64 a0_3, .int .i64 a0_4] 38 (0, 0)) (by (with_reducible repeat (first | refine blk_drewN ?_ _ | refine blk_drew ?_ | refine blk_alloc ?_ _)); exact BK161.out) hb); have n1_ := Aside0.mk (blk_below (g := gb162) (o := .cells #[.int .i64 a1_0, .int .i64 a1_1, .int .i64 a1_2, .int .i64 a1_3, .slice A1_4 l1_4.length c1_4] 41 (0, 0)) (by (with_reducible repeat (first | refine blk_drewN ?_ _ | refine blk_drew ?_ | refine blk_alloc ?_ _)); exact BK162.out) hb); have n2_ := Aside0.mk (below_step (by repeat (first | (with_reducible first | exact HB.out | apply below_alloc | apply pw_below_drewN | apply below_drew1 | refine below_set ?_ GE161.out | refine below_set ?_ GE162.out) | exact HB.out)) hb); clear BK161; clear BK162; clear HB; have BK161 := n0_; have BK162 := n1_; have HB := n2_; clear n0_ n1_ n2_; (try clear hb); (try clear hb2); (try clear hk); (try clear hi); have hcz283_0 : w282.cell? ⟨gb162, 0, none⟩ = some (.int .i64 a1_0) := (blk_cell BK162.out 0).trans rfl; have hcz283_1 : w282.cell? ⟨gb162, 1, none⟩ = some (.int .i64 a1_1) := (blk_cell BK162.out 1).trans rfl; have hcz283_2 : w282.cell? ⟨gb162, 2, none⟩ = some (.int .i64 a1_2) := (blk_cell BK162.out 2).trans rfl; have hcz283_3 : w282.cell? ⟨gb162, 3, none⟩ = some (.int .i64 a1_3) := (blk_cell BK162.out 3).trans rfl; have hcz283_4 : w282.cell? ⟨gb162, 4, none⟩ = some (.slice A1_4 l1_4.length c1_4) := (blk_cell BK162.out 4).trans rfl; have hfz283_0 := blk_frozen BK162.out 0; have hfz283_1 := blk_frozen BK162.out 1; have hfz283_2 := blk_frozen BK162.out 2; have hfz283_3 := blk_frozen BK162.out 3; have hfz283_4 := blk_frozen BK162.out 4; have hcz284_0 : w282.cell? ⟨gb161, 0, none⟩ = some (.int .i64 a0_0) := (blk_cell BK161.out 0).trans rfl; have hcz284_1 : w282.cell? ⟨gb161, 1, none⟩ = some (.int .i64 a0_1) := (blk_cell BK161.out 1).trans rfl; have hcz284_2 : w282.cell? ⟨gb161, 2, none⟩ = some (.int .i64 a0_2) := (blk_cell BK161.out 2).trans rfl; have hcz284_3 : w282.cell? ⟨gb161, 3, none⟩ = some (.int .i64 a0_3) := (blk_cell BK161.out 3).trans rfl; have hcz284_4 : w282.cell? ⟨gb161, 4, none⟩ = some (.int .i64 a0_4) := (blk_cell BK161.out 4).trans rfl; have hfz284_0 := blk_frozen BK161.out 0; have hfz284_1 := blk_frozen BK161.out 1; have hfz284_2 := blk_frozen BK161.out 2; have hfz284_3 := blk_frozen BK161.out 3; have hfz284_4 := blk_frozen BK161.out 4) | ((with_reducible refine gate_callee (f := 69) rfl ?_); refine goesL_ (some 142) rfl rfl Try.func69 (by kernel_rfl) rfl #[.int .i64 a0_0] rfl (by (try simp only [List.map_toArray, List.map_cons, List.map_nil]); first | done | rfl | (simp only [List.length_drop, List.length_take]; rfl)) ?_; (with_reducible refine (deadwoodref09_pair.calls a0_0 t177 _ A278.out).mono ?_); rintro e w' ⟨rfl, ⟨nd, rfl⟩⟩; refine ⟨_, rfl, ?_⟩))
                      go_ret
                      exact ⟨by first | rfl | (simp [errW_none, errW_some] <;> rfl) | (simp [*, errW_none, errW_some] <;> rfl), by repeat (first | (with_reducible first | exact HB.out | apply below_alloc | apply pw_below_drewN | apply below_drew1 | refine below_set ?_ GE161.out | refine below_set ?_ GE162.out) | exact HB.out)⟩
                    · rw [if_neg c277] at H
                      have c277b0 : (a1_0 == 4) = false := beq_eq_false_iff_ne.mpr c277
                      have c277b1 : (a1_0 != 4) = true := bne_iff_ne.mpr c277
                      have HC285 := Aside0.mk H
                      clear H
                      have hnb286 := NB162_161.out
                      have hnc286 := NB161_162.out
                      have hcz287_0 : wc.cell? ⟨gb162, 0, none⟩ = some (.int .i64 a1_0) := (blk_cell BK162.out 0).trans rfl
                      have hcz287_1 : wc.cell? ⟨gb162, 1, none⟩ = some (.int .i64 a1_1) := (blk_cell BK162.out 1).trans rfl
                      have hcz287_2 : wc.cell? ⟨gb162, 2, none⟩ = some (.int .i64 a1_2) := (blk_cell BK162.out 2).trans rfl
                      have hcz287_3 : wc.cell? ⟨gb162, 3, none⟩ = some (.int .i64 a1_3) := (blk_cell BK162.out 3).trans rfl
                      have hcz287_4 : wc.cell? ⟨gb162, 4, none⟩ = some (.slice A1_4 l1_4.length c1_4) := (blk_cell BK162.out 4).trans rfl
                      have hfz287_0 := blk_frozen BK162.out 0
                      have hfz287_1 := blk_frozen BK162.out 1
                      have hfz287_2 := blk_frozen BK162.out 2
                      have hfz287_3 := blk_frozen BK162.out 3
                      have hfz287_4 := blk_frozen BK162.out 4
                      have hcz288_0 : wc.cell? ⟨gb161, 0, none⟩ = some (.int .i64 a0_0) := (blk_cell BK161.out 0).trans rfl
                      have hcz288_1 : wc.cell? ⟨gb161, 1, none⟩ = some (.int .i64 a0_1) := (blk_cell BK161.out 1).trans rfl
                      have hcz288_2 : wc.cell? ⟨gb161, 2, none⟩ = some (.int .i64 a0_2) := (blk_cell BK161.out 2).trans rfl
                      have hcz288_3 : wc.cell? ⟨gb161, 3, none⟩ = some (.int .i64 a0_3) := (blk_cell BK161.out 3).trans rfl
                      have hcz288_4 : wc.cell? ⟨gb161, 4, none⟩ = some (.int .i64 a0_4) := (blk_cell BK161.out 4).trans rfl
                      have hfz288_0 := blk_frozen BK161.out 0
                      have hfz288_1 := blk_frozen BK161.out 1
                      have hfz288_2 := blk_frozen BK161.out 2
                      have hfz288_3 := blk_frozen BK161.out 3
                      have hfz288_4 := blk_frozen BK161.out 4
                      go_upto_if 143 with (first | ((with_reducible refine gate_callee (f := 31) rfl ?_); refine goesL_ (some 43) rfl rfl Try.func31 (by kernel_rfl) rfl #[.agg #[.int .i64 a0_0, .int .i64 a0_1, .int .i64 a0_2, .int .i64 a0_3, .int .i64 a0_4]] rfl (by (try simp only [List.map_toArray, List.map_cons, List.map_nil]); first | done | rfl | (simp only [List.length_drop, List.length_take]; rfl)) ?_; (with_reducible refine (deadwoodref09_May.calls kj2 a0_0 a0_1 a0_2 a0_3 a0_4 true _ A45.out).mono ?_); rintro e w289 ⟨rfl, hb⟩; refine ⟨_, rfl, ?_⟩; have n0_ := Aside0.mk (blk_below (g := gb161) (o := .cells #[.int .i64 a0_0, .int .i64 a0_1, .int .i64 a0_2, .int .i64 a0_3, .int .i64 a0_4] 38 (0, 0)) (by (with_reducible repeat (first | refine blk_drewN ?_ _ | refine blk_drew ?_ | refine blk_alloc ?_ _)); exact BK161.out) hb); have n1_ := Aside0.mk (blk_below (g := gb162) (o := .cells #[.int .i64 a1_0, .int .i64 a1_1, .int .i64 a1_2, .int .i64 a1_3, .slice A1_4 l1_4.length c1_4] 41 (0, 0)) (by (with_reducible repeat (first | refine blk_drewN ?_ _ | refine blk_drew ?_ | refine blk_alloc ?_ _)); exact BK162.out) hb); have n2_ := Aside0.mk (below_step (by repeat (first | (with_reducible first | exact HB.out | apply below_alloc | apply pw_below_drewN | apply below_drew1 | refine below_set ?_ GE161.out | refine below_set ?_ GE162.out) | exact HB.out)) hb); clear BK161; clear BK162; clear HB; have BK161 := n0_; have BK162 := n1_; have HB := n2_; clear n0_ n1_ n2_; (try clear hb); (try clear hb2); (try clear hk); (try clear hi); have hcz290_0 : w289.cell? ⟨gb162, 0, none⟩ = some (.int .i64 a1_0) := (blk_cell BK162.out 0).trans rfl; have hcz290_1 : w289.cell? ⟨gb162, 1, none⟩ = some (.int .i64 a1_1) := (blk_cell BK162.out 1).trans rfl; have hcz290_2 : w289.cell? ⟨gb162, 2, none⟩ = some (.int .i64 a1_2) := (blk_cell BK162.out 2).trans rfl; have hcz290_3 : w289.cell? ⟨gb162, 3, none⟩ = some (.int .i64 a1_3) := (blk_cell BK162.out 3).trans rfl; have hcz290_4 : w289.cell? ⟨gb162, 4, none⟩ = some (.slice A1_4 l1_4.length c1_4) := (blk_cell BK162.out 4).trans rfl; have hfz290_0 := blk_frozen BK162.out 0; have hfz290_1 := blk_frozen BK162.out 1; have hfz290_2 := blk_frozen BK162.out 2; have hfz290_3 := blk_frozen BK162.out 3; have hfz290_4 := blk_frozen BK162.out 4))
                      (try simp only [Act.put, List.setIfInBounds_toArray, List.set_cons_zero, List.set_cons_succ])
                      go_cut [143] (fun v143 wc => ∃ (kq : Nat) (x143_284 : Bool), v143 = .bool x143_284 ∧ Aside0 (deadwoodref09_Fits.j1 kq a1_0 x143_284 a0_0 a0_1 a0_2 a0_3 a0_4 = some r) ∧ Aside0 (kq ≤ kj2) ∧ Aside0 (wc.heap[gb161]? = some (.cells #[.int .i64 a0_0, .int .i64 a0_1, .int .i64 a0_2, .int .i64 a0_3, .int .i64 a0_4] 38 (0, 0))) ∧ Aside0 (wc.heap[gb162]? = some (.cells #[.int .i64 a1_0, .int .i64 a1_1, .int .i64 a1_2, .int .i64 a1_3, (.slice A1_4 l1_4.length c1_4)] 41 (0, 0))) ∧ Aside0 (Below w.heap.size w wc))
                      case first =>
                        have H := HC285.out
                        clear HC285
                        by_cases c291 : a1_0 = 5
                        · rw [if_pos c291] at H
                          have c291b0 : (a1_0 == 5) = true := beq_iff_eq.mpr c291
                          have c291b1 : (a1_0 != 5) = false := bne_eq_false_iff_eq.mpr c291
                          clear c291
                          (first | rw [c291b0] | (simp only [i64_w, i32_w]; rw [c291b0]) | skip)
                          have H' := Aside0.mk H
                          clear H
                          go_wp2
                          go_meet
                          case rel => exact ⟨_, ((a1_0 == 5)), (by first | rfl | (simp; done) | (simp [*]; done)), H', ⟨by have := HJ2.out; first | omega | exact Nat.le_refl _⟩, ⟨by (with_reducible repeat (first | refine blk_drewN ?_ _ | refine blk_drew ?_ | refine blk_alloc ?_ _)); exact BK161.out⟩, ⟨by (with_reducible repeat (first | refine blk_drewN ?_ _ | refine blk_drew ?_ | refine blk_alloc ?_ _)); exact BK162.out⟩, ⟨by repeat (first | (with_reducible first | exact HB.out | apply below_alloc | apply pw_below_drewN | apply below_drew1 | refine below_set ?_ GE161.out | refine below_set ?_ GE162.out) | exact HB.out)⟩⟩
                        · rw [if_neg c291] at H
                          have c291b0 : (a1_0 == 5) = false := beq_eq_false_iff_ne.mpr c291
                          have c291b1 : (a1_0 != 5) = true := bne_iff_ne.mpr c291
                          (first | rw [c291b0] | (simp only [i64_w, i32_w]; rw [c291b0]) | skip)
                          have H' := Aside0.mk H
                          clear H
                          go_wp2
                          go_meet
                          case rel => exact ⟨_, ((a1_0 == 6)), (by first | rfl | (simp; done) | (simp [*]; done)), H', ⟨by have := HJ2.out; first | omega | exact Nat.le_refl _⟩, ⟨by (with_reducible repeat (first | refine blk_drewN ?_ _ | refine blk_drew ?_ | refine blk_alloc ?_ _)); exact BK161.out⟩, ⟨by (with_reducible repeat (first | refine blk_drewN ?_ _ | refine blk_drew ?_ | refine blk_alloc ?_ _)); exact BK162.out⟩, ⟨by repeat (first | (with_reducible first | exact HB.out | apply below_alloc | apply pw_below_drewN | apply below_drew1 | refine below_set ?_ GE161.out | refine below_set ?_ GE162.out) | exact HB.out)⟩⟩
                      case rest =>
                        clear HC285
                        (try clear c1); (try clear c2); (try clear p2); (try clear c3); (try clear c6); (try clear c12); (try clear c13); (try clear c16); (try clear c17); (try clear c18); (try clear c19); (try clear c20); (try clear c21); (try clear c22); (try clear c23); (try clear c24); (try clear c25); (try clear c26); (try clear c27); (try clear c28); (try clear c29); (try clear c31); (try clear c68); (try clear c68b0); (try clear c68b1); (try clear c69); (try clear c129); (try clear c129b0); (try clear c129b1); (try clear c130); (try clear c130b0); (try clear c130b1); (try clear c161); (try clear c161b0); (try clear c161b1); (try clear c177); (try clear c183); (try clear c189); (try clear c189b0); (try clear c189b1); (try clear c190); (try clear c190b0); (try clear c191); (try clear c197); (try clear c197b0); (try clear c197b1); (try clear c198); (try clear c198b0); (try clear c199); (try clear c206); (try clear c213); (try clear c219); (try clear c219b0); (try clear c219b1); (try clear c220); (try clear c220b0); (try clear c221); (try clear c228); (try clear c235); (try clear c241); (try clear c241b0); (try clear c241b1); (try clear c242); (try clear c242b0); (try clear c242b1); (try clear c243); (try clear c249); (try clear c255); (try clear c255b0); (try clear c255b1); (try clear c256); (try clear c256b0); (try clear c256b1); (try clear c258); (try clear c259); (try clear c265); (try clear c271); (try clear c277); (try clear c277b0); (try clear c277b1); (try clear c279); (try clear c286); (try clear c291); (try clear c291b0); (try clear c291b1); (try clear hcz172_0); (try clear hcz172_1); (try clear hcz172_2); (try clear hcz172_3); (try clear hcz172_4); (try clear hcz174_0); (try clear hcz174_1); (try clear hcz174_2); (try clear hcz174_3); (try clear hcz174_4); (try clear hcz175_0); (try clear hcz175_1); (try clear hcz175_2); (try clear hcz175_3); (try clear hcz175_4); (try clear hcz178_0); (try clear hcz178_1); (try clear hcz178_2); (try clear hcz178_3); (try clear hcz178_4); (try clear hcz179_0); (try clear hcz179_1); (try clear hcz179_2); (try clear hcz179_3); (try clear hcz179_4); (try clear hcz181_0); (try clear hcz181_1); (try clear hcz181_2); (try clear hcz181_3); (try clear hcz181_4); (try clear hcz182_0); (try clear hcz182_1); (try clear hcz182_2); (try clear hcz182_3); (try clear hcz182_4); (try clear hcz184_0); (try clear hcz184_1); (try clear hcz184_2); (try clear hcz184_3); (try clear hcz184_4); (try clear hcz185_0); (try clear hcz185_1); (try clear hcz185_2); (try clear hcz185_3); (try clear hcz185_4); (try clear hcz187_0); (try clear hcz187_1); (try clear hcz187_2); (try clear hcz187_3); (try clear hcz187_4); (try clear hcz188_0); (try clear hcz188_1); (try clear hcz188_2); (try clear hcz188_3); (try clear hcz188_4); (try clear hcz192_0); (try clear hcz192_1); (try clear hcz192_2); (try clear hcz192_3); (try clear hcz192_4); (try clear hcz193_0); (try clear hcz193_1); (try clear hcz193_2); (try clear hcz193_3); (try clear hcz193_4); (try clear hcz195_0); (try clear hcz195_1); (try clear hcz195_2); (try clear hcz195_3); (try clear hcz195_4); (try clear hcz196_0); (try clear hcz196_1); (try clear hcz196_2); (try clear hcz196_3); (try clear hcz196_4); (try clear hcz200_0); (try clear hcz200_1); (try clear hcz200_2); (try clear hcz200_3); (try clear hcz200_4); (try clear hcz201_0); (try clear hcz201_1); (try clear hcz201_2); (try clear hcz201_3); (try clear hcz201_4); (try clear hcz203_0); (try clear hcz203_1); (try clear hcz203_2); (try clear hcz203_3); (try clear hcz203_4); (try clear hcz204_0); (try clear hcz204_1); (try clear hcz204_2); (try clear hcz204_3); (try clear hcz204_4); (try clear hcz207_0); (try clear hcz207_1); (try clear hcz207_2); (try clear hcz207_3); (try clear hcz207_4); (try clear hcz208_0); (try clear hcz208_1); (try clear hcz208_2); (try clear hcz208_3); (try clear hcz208_4); (try clear hcz210_0); (try clear hcz210_1); (try clear hcz210_2); (try clear hcz210_3); (try clear hcz210_4); (try clear hcz211_0); (try clear hcz211_1); (try clear hcz211_2); (try clear hcz211_3); (try clear hcz211_4); (try clear hcz214_0); (try clear hcz214_1); (try clear hcz214_2); (try clear hcz214_3); (try clear hcz214_4); (try clear hcz215_0); (try clear hcz215_1); (try clear hcz215_2); (try clear hcz215_3); (try clear hcz215_4); (try clear hcz217_0); (try clear hcz217_1); (try clear hcz217_2); (try clear hcz217_3); (try clear hcz217_4); (try clear hcz218_0); (try clear hcz218_1); (try clear hcz218_2); (try clear hcz218_3); (try clear hcz218_4); (try clear hcz222_0); (try clear hcz222_1); (try clear hcz222_2); (try clear hcz222_3); (try clear hcz222_4); (try clear hcz223_0); (try clear hcz223_1); (try clear hcz223_2); (try clear hcz223_3); (try clear hcz223_4); (try clear hcz225_0); (try clear hcz225_1); (try clear hcz225_2); (try clear hcz225_3); (try clear hcz225_4); (try clear hcz226_0); (try clear hcz226_1); (try clear hcz226_2); (try clear hcz226_3); (try clear hcz226_4); (try clear hcz229_0); (try clear hcz229_1); (try clear hcz229_2); (try clear hcz229_3); (try clear hcz229_4); (try clear hcz230_0); (try clear hcz230_1); (try clear hcz230_2); (try clear hcz230_3); (try clear hcz230_4); (try clear hcz232_0); (try clear hcz232_1); (try clear hcz232_2); (try clear hcz232_3); (try clear hcz232_4); (try clear hcz233_0); (try clear hcz233_1); (try clear hcz233_2); (try clear hcz233_3); (try clear hcz233_4); (try clear hcz236_0); (try clear hcz236_1); (try clear hcz236_2); (try clear hcz236_3); (try clear hcz236_4); (try clear hcz237_0); (try clear hcz237_1); (try clear hcz237_2); (try clear hcz237_3); (try clear hcz237_4); (try clear hcz239_0); (try clear hcz239_1); (try clear hcz239_2); (try clear hcz239_3); (try clear hcz239_4); (try clear hcz240_0); (try clear hcz240_1); (try clear hcz240_2); (try clear hcz240_3); (try clear hcz240_4); (try clear hcz244_0); (try clear hcz244_1); (try clear hcz244_2); (try clear hcz244_3); (try clear hcz244_4); (try clear hcz245_0); (try clear hcz245_1); (try clear hcz245_2); (try clear hcz245_3); (try clear hcz245_4); (try clear hcz247_0); (try clear hcz247_1); (try clear hcz247_2); (try clear hcz247_3); (try clear hcz247_4); (try clear hcz248_0); (try clear hcz248_1); (try clear hcz248_2); (try clear hcz248_3); (try clear hcz248_4); (try clear hcz250_0); (try clear hcz250_1); (try clear hcz250_2); (try clear hcz250_3); (try clear hcz250_4); (try clear hcz251_0); (try clear hcz251_1); (try clear hcz251_2); (try clear hcz251_3); (try clear hcz251_4); (try clear hcz253_0); (try clear hcz253_1); (try clear hcz253_2); (try clear hcz253_3); (try clear hcz253_4); (try clear hcz254_0); (try clear hcz254_1); (try clear hcz254_2); (try clear hcz254_3); (try clear hcz254_4); (try clear hcz260_0); (try clear hcz260_1); (try clear hcz260_2); (try clear hcz260_3); (try clear hcz260_4); (try clear hcz261_0); (try clear hcz261_1); (try clear hcz261_2); (try clear hcz261_3); (try clear hcz261_4); (try clear hcz263_0); (try clear hcz263_1); (try clear hcz263_2); (try clear hcz263_3); (try clear hcz263_4); (try clear hcz264_0); (try clear hcz264_1); (try clear hcz264_2); (try clear hcz264_3); (try clear hcz264_4); (try clear hcz266_0); (try clear hcz266_1); (try clear hcz266_2); (try clear hcz266_3); (try clear hcz266_4); (try clear hcz267_0); (try clear hcz267_1); (try clear hcz267_2); (try clear hcz267_3); (try clear hcz267_4); (try clear hcz269_0); (try clear hcz269_1); (try clear hcz269_2); (try clear hcz269_3); (try clear hcz269_4); (try clear hcz270_0); (try clear hcz270_1); (try clear hcz270_2); (try clear hcz270_3); (try clear hcz270_4); (try clear hcz272_0); (try clear hcz272_1); (try clear hcz272_2); (try clear hcz272_3); (try clear hcz272_4); (try clear hcz273_0); (try clear hcz273_1); (try clear hcz273_2); (try clear hcz273_3); (try clear hcz273_4); (try clear hcz275_0); (try clear hcz275_1); (try clear hcz275_2); (try clear hcz275_3); (try clear hcz275_4); (try clear hcz276_0); (try clear hcz276_1); (try clear hcz276_2); (try clear hcz276_3); (try clear hcz276_4); (try clear hcz280_0); (try clear hcz280_1); (try clear hcz280_2); (try clear hcz280_3); (try clear hcz280_4); (try clear hcz281_0); (try clear hcz281_1); (try clear hcz281_2); (try clear hcz281_3); (try clear hcz281_4); (try clear hcz283_0); (try clear hcz283_1); (try clear hcz283_2); (try clear hcz283_3); (try clear hcz283_4); (try clear hcz284_0); (try clear hcz284_1); (try clear hcz284_2); (try clear hcz284_3); (try clear hcz284_4); (try clear hcz287_0); (try clear hcz287_1); (try clear hcz287_2); (try clear hcz287_3); (try clear hcz287_4); (try clear hcz288_0); (try clear hcz288_1); (try clear hcz288_2); (try clear hcz288_3); (try clear hcz288_4); (try clear hcz290_0); (try clear hcz290_1); (try clear hcz290_2); (try clear hcz290_3); (try clear hcz290_4); (try clear hfz171_4); (try clear hfz172_0); (try clear hfz172_1); (try clear hfz172_2); (try clear hfz172_3); (try clear hfz172_4); (try clear hfz174_0); (try clear hfz174_1); (try clear hfz174_2); (try clear hfz174_3); (try clear hfz174_4); (try clear hfz175_0); (try clear hfz175_1); (try clear hfz175_2); (try clear hfz175_3); (try clear hfz175_4); (try clear hfz178_0); (try clear hfz178_1); (try clear hfz178_2); (try clear hfz178_3); (try clear hfz178_4); (try clear hfz179_0); (try clear hfz179_1); (try clear hfz179_2); (try clear hfz179_3); (try clear hfz179_4); (try clear hfz181_0); (try clear hfz181_1); (try clear hfz181_2); (try clear hfz181_3); (try clear hfz181_4); (try clear hfz182_0); (try clear hfz182_1); (try clear hfz182_2); (try clear hfz182_3); (try clear hfz182_4); (try clear hfz184_0); (try clear hfz184_1); (try clear hfz184_2); (try clear hfz184_3); (try clear hfz184_4); (try clear hfz185_0); (try clear hfz185_1); (try clear hfz185_2); (try clear hfz185_3); (try clear hfz185_4); (try clear hfz187_0); (try clear hfz187_1); (try clear hfz187_2); (try clear hfz187_3); (try clear hfz187_4); (try clear hfz188_0); (try clear hfz188_1); (try clear hfz188_2); (try clear hfz188_3); (try clear hfz188_4); (try clear hfz192_0); (try clear hfz192_1); (try clear hfz192_2); (try clear hfz192_3); (try clear hfz192_4); (try clear hfz193_0); (try clear hfz193_1); (try clear hfz193_2); (try clear hfz193_3); (try clear hfz193_4); (try clear hfz195_0); (try clear hfz195_1); (try clear hfz195_2); (try clear hfz195_3); (try clear hfz195_4); (try clear hfz196_0); (try clear hfz196_1); (try clear hfz196_2); (try clear hfz196_3); (try clear hfz196_4); (try clear hfz200_0); (try clear hfz200_1); (try clear hfz200_2); (try clear hfz200_3); (try clear hfz200_4); (try clear hfz201_0); (try clear hfz201_1); (try clear hfz201_2); (try clear hfz201_3); (try clear hfz201_4); (try clear hfz203_0); (try clear hfz203_1); (try clear hfz203_2); (try clear hfz203_3); (try clear hfz203_4); (try clear hfz204_0); (try clear hfz204_1); (try clear hfz204_2); (try clear hfz204_3); (try clear hfz204_4); (try clear hfz207_0); (try clear hfz207_1); (try clear hfz207_2); (try clear hfz207_3); (try clear hfz207_4); (try clear hfz208_0); (try clear hfz208_1); (try clear hfz208_2); (try clear hfz208_3); (try clear hfz208_4); (try clear hfz210_0); (try clear hfz210_1); (try clear hfz210_2); (try clear hfz210_3); (try clear hfz210_4); (try clear hfz211_0); (try clear hfz211_1); (try clear hfz211_2); (try clear hfz211_3); (try clear hfz211_4); (try clear hfz214_0); (try clear hfz214_1); (try clear hfz214_2); (try clear hfz214_3); (try clear hfz214_4); (try clear hfz215_0); (try clear hfz215_1); (try clear hfz215_2); (try clear hfz215_3); (try clear hfz215_4); (try clear hfz217_0); (try clear hfz217_1); (try clear hfz217_2); (try clear hfz217_3); (try clear hfz217_4); (try clear hfz218_0); (try clear hfz218_1); (try clear hfz218_2); (try clear hfz218_3); (try clear hfz218_4); (try clear hfz222_0); (try clear hfz222_1); (try clear hfz222_2); (try clear hfz222_3); (try clear hfz222_4); (try clear hfz223_0); (try clear hfz223_1); (try clear hfz223_2); (try clear hfz223_3); (try clear hfz223_4); (try clear hfz225_0); (try clear hfz225_1); (try clear hfz225_2); (try clear hfz225_3); (try clear hfz225_4); (try clear hfz226_0); (try clear hfz226_1); (try clear hfz226_2); (try clear hfz226_3); (try clear hfz226_4); (try clear hfz229_0); (try clear hfz229_1); (try clear hfz229_2); (try clear hfz229_3); (try clear hfz229_4); (try clear hfz230_0); (try clear hfz230_1); (try clear hfz230_2); (try clear hfz230_3); (try clear hfz230_4); (try clear hfz232_0); (try clear hfz232_1); (try clear hfz232_2); (try clear hfz232_3); (try clear hfz232_4); (try clear hfz233_0); (try clear hfz233_1); (try clear hfz233_2); (try clear hfz233_3); (try clear hfz233_4); (try clear hfz236_0); (try clear hfz236_1); (try clear hfz236_2); (try clear hfz236_3); (try clear hfz236_4); (try clear hfz237_0); (try clear hfz237_1); (try clear hfz237_2); (try clear hfz237_3); (try clear hfz237_4); (try clear hfz239_0); (try clear hfz239_1); (try clear hfz239_2); (try clear hfz239_3); (try clear hfz239_4); (try clear hfz240_0); (try clear hfz240_1); (try clear hfz240_2); (try clear hfz240_3); (try clear hfz240_4); (try clear hfz244_0); (try clear hfz244_1); (try clear hfz244_2); (try clear hfz244_3); (try clear hfz244_4); (try clear hfz245_0); (try clear hfz245_1); (try clear hfz245_2); (try clear hfz245_3); (try clear hfz245_4); (try clear hfz247_0); (try clear hfz247_1); (try clear hfz247_2); (try clear hfz247_3); (try clear hfz247_4); (try clear hfz248_0); (try clear hfz248_1); (try clear hfz248_2); (try clear hfz248_3); (try clear hfz248_4); (try clear hfz250_0); (try clear hfz250_1); (try clear hfz250_2); (try clear hfz250_3); (try clear hfz250_4); (try clear hfz251_0); (try clear hfz251_1); (try clear hfz251_2); (try clear hfz251_3); (try clear hfz251_4); (try clear hfz253_0); (try clear hfz253_1); (try clear hfz253_2); (try clear hfz253_3); (try clear hfz253_4); (try clear hfz254_0); (try clear hfz254_1); (try clear hfz254_2); (try clear hfz254_3); (try clear hfz254_4); (try clear hfz260_0); (try clear hfz260_1); (try clear hfz260_2); (try clear hfz260_3); (try clear hfz260_4); (try clear hfz261_0); (try clear hfz261_1); (try clear hfz261_2); (try clear hfz261_3); (try clear hfz261_4); (try clear hfz263_0); (try clear hfz263_1); (try clear hfz263_2); (try clear hfz263_3); (try clear hfz263_4); (try clear hfz264_0); (try clear hfz264_1); (try clear hfz264_2); (try clear hfz264_3); (try clear hfz264_4); (try clear hfz266_0); (try clear hfz266_1); (try clear hfz266_2); (try clear hfz266_3); (try clear hfz266_4); (try clear hfz267_0); (try clear hfz267_1); (try clear hfz267_2); (try clear hfz267_3); (try clear hfz267_4); (try clear hfz269_0); (try clear hfz269_1); (try clear hfz269_2); (try clear hfz269_3); (try clear hfz269_4); (try clear hfz270_0); (try clear hfz270_1); (try clear hfz270_2); (try clear hfz270_3); (try clear hfz270_4); (try clear hfz272_0); (try clear hfz272_1); (try clear hfz272_2); (try clear hfz272_3); (try clear hfz272_4); (try clear hfz273_0); (try clear hfz273_1); (try clear hfz273_2); (try clear hfz273_3); (try clear hfz273_4); (try clear hfz275_0); (try clear hfz275_1); (try clear hfz275_2); (try clear hfz275_3); (try clear hfz275_4); (try clear hfz276_0); (try clear hfz276_1); (try clear hfz276_2); (try clear hfz276_3); (try clear hfz276_4); (try clear hfz280_0); (try clear hfz280_1); (try clear hfz280_2); (try clear hfz280_3); (try clear hfz280_4); (try clear hfz281_0); (try clear hfz281_1); (try clear hfz281_2); (try clear hfz281_3); (try clear hfz281_4); (try clear hfz283_0); (try clear hfz283_1); (try clear hfz283_2); (try clear hfz283_3); (try clear hfz283_4); (try clear hfz284_0); (try clear hfz284_1); (try clear hfz284_2); (try clear hfz284_3); (try clear hfz284_4); (try clear hfz287_0); (try clear hfz287_1); (try clear hfz287_2); (try clear hfz287_3); (try clear hfz287_4); (try clear hfz288_0); (try clear hfz288_1); (try clear hfz288_2); (try clear hfz288_3); (try clear hfz288_4); (try clear hfz290_0); (try clear hfz290_1); (try clear hfz290_2); (try clear hfz290_3); (try clear hfz290_4)
                        obtain ⟨kq, x143_284, rfl, HA, HJ284, BK161, BK162, HB⟩ := hcut
                        cases kq with
                        | zero => exact absurd HA.out (by simp [deadwoodref09_Fits.j1])
                        | succ kj284 =>
                          have H := HA.out
                          clear HA
                          simp only [deadwoodref09_Fits.j1] at H
                          by_cases c292 : x143_284 = true
                          · subst c292
                            have H1 : (some (a0_0 == 0)) = some r := by rw [if_pos rfl] at H; exact H
                            clear H
                            have H := H1
                            clear H1
                            obtain rfl := Option.some.inj H
                            have hnb293 := NB161_162.out
                            have hnc293 := NB162_161.out
                            have hcz294_0 : wc.cell? ⟨gb161, 0, none⟩ = some (.int .i64 a0_0) := (blk_cell BK161.out 0).trans rfl
                            have hcz294_1 : wc.cell? ⟨gb161, 1, none⟩ = some (.int .i64 a0_1) := (blk_cell BK161.out 1).trans rfl
                            have hcz294_2 : wc.cell? ⟨gb161, 2, none⟩ = some (.int .i64 a0_2) := (blk_cell BK161.out 2).trans rfl
                            have hcz294_3 : wc.cell? ⟨gb161, 3, none⟩ = some (.int .i64 a0_3) := (blk_cell BK161.out 3).trans rfl
                            have hcz294_4 : wc.cell? ⟨gb161, 4, none⟩ = some (.int .i64 a0_4) := (blk_cell BK161.out 4).trans rfl
                            have hfz294_0 := blk_frozen BK161.out 0
                            have hfz294_1 := blk_frozen BK161.out 1
                            have hfz294_2 := blk_frozen BK161.out 2
                            have hfz294_3 := blk_frozen BK161.out 3
                            have hfz294_4 := blk_frozen BK161.out 4
                            go_wp2
                            go_ret
                            exact ⟨by first | rfl | (simp [errW_none, errW_some] <;> rfl) | (simp [*, errW_none, errW_some] <;> rfl), by repeat (first | (with_reducible first | exact HB.out | apply below_alloc | apply pw_below_drewN | apply below_drew1 | refine below_set ?_ GE161.out | refine below_set ?_ GE162.out) | exact HB.out)⟩
                          · replace c292 := Bool.eq_false_iff.mpr c292
                            subst c292
                            have H1 : (if a1_0 = 7 then ((deadwoodref09_Reads.f a0_0).bind fun t178 => (some t178)) else (some false)) = some r := by rw [if_neg (show ¬ (false = true) by decide)] at H; exact H
                            clear H
                            have H := H1
                            clear H1
                            by_cases c295 : a1_0 = 7
                            · rw [if_pos c295] at H
                              have c295b0 : (a1_0 == 7) = true := beq_iff_eq.mpr c295
                              have c295b1 : (a1_0 != 7) = false := bne_eq_false_iff_eq.mpr c295
                              clear c295
                              replace H := Option.bind_eq_some_iff.mp H
                              obtain ⟨t178, A2960, H⟩ := H
                              replace H : (some t178) = some r := H
                              have A296 := Aside0.mk A2960
                              clear A2960
                              obtain rfl := Option.some.inj H
                              have hnb297 := NB161_162.out
                              have hnc297 := NB162_161.out
                              have hcz298_0 : wc.cell? ⟨gb161, 0, none⟩ = some (.int .i64 a0_0) := (blk_cell BK161.out 0).trans rfl
                              have hcz298_1 : wc.cell? ⟨gb161, 1, none⟩ = some (.int .i64 a0_1) := (blk_cell BK161.out 1).trans rfl
                              have hcz298_2 : wc.cell? ⟨gb161, 2, none⟩ = some (.int .i64 a0_2) := (blk_cell BK161.out 2).trans rfl
                              have hcz298_3 : wc.cell? ⟨gb161, 3, none⟩ = some (.int .i64 a0_3) := (blk_cell BK161.out 3).trans rfl
                              have hcz298_4 : wc.cell? ⟨gb161, 4, none⟩ = some (.int .i64 a0_4) := (blk_cell BK161.out 4).trans rfl
                              have hfz298_0 := blk_frozen BK161.out 0
                              have hfz298_1 := blk_frozen BK161.out 1
                              have hfz298_2 := blk_frozen BK161.out 2
                              have hfz298_3 := blk_frozen BK161.out 3
                              have hfz298_4 := blk_frozen BK161.out 4
                              go_wp2_with (first | ((with_reducible refine gate_callee (f := 33) rfl ?_); refine goesL_ (some 153) rfl rfl Try.func33 (by kernel_rfl) rfl #[.int .i64 a0_0] rfl (by (try simp only [List.map_toArray, List.map_cons, List.map_nil]); first | done | rfl | (simp only [List.length_drop, List.length_take]; rfl)) ?_; (with_reducible refine (deadwoodref09_Reads.calls a0_0 t178 _ A296.out).mono ?_); rintro e w' ⟨rfl, ⟨nd, rfl⟩⟩; refine ⟨_, rfl, ?_⟩))
                              go_ret
                              exact ⟨by first | rfl | (simp [errW_none, errW_some] <;> rfl) | (simp [*, errW_none, errW_some] <;> rfl), by repeat (first | (with_reducible first | exact HB.out | apply below_alloc | apply pw_below_drewN | apply below_drew1 | refine below_set ?_ GE161.out | refine below_set ?_ GE162.out) | exact HB.out)⟩
                            · rw [if_neg c295] at H
                              have c295b0 : (a1_0 == 7) = false := beq_eq_false_iff_ne.mpr c295
                              have c295b1 : (a1_0 != 7) = true := bne_iff_ne.mpr c295
                              obtain rfl := Option.some.inj H
                              go_wp2
                              go_ret
                              exact ⟨by first | rfl | (simp [errW_none, errW_some] <;> rfl) | (simp [*, errW_none, errW_some] <;> rfl), by repeat (first | (with_reducible first | exact HB.out | apply below_alloc | apply pw_below_drewN | apply below_drew1 | refine below_set ?_ GE161.out | refine below_set ?_ GE162.out) | exact HB.out)⟩
          · replace c46 := Bool.eq_false_iff.mpr c46
            subst c46
            have H1 : (some false) = some r := by rw [if_neg (show ¬ (false = true) by decide)] at H; exact H
            clear H
            have H := H1
            clear H1
            obtain rfl := Option.some.inj H
            have hnb299 := NB162_161.out
            have hnc299 := NB161_162.out
            have hcz300_0 : wc.cell? ⟨gb162, 0, none⟩ = some (.int .i64 a1_0) := (blk_cell BK162.out 0).trans rfl
            have hcz300_1 : wc.cell? ⟨gb162, 1, none⟩ = some (.int .i64 a1_1) := (blk_cell BK162.out 1).trans rfl
            have hcz300_2 : wc.cell? ⟨gb162, 2, none⟩ = some (.int .i64 a1_2) := (blk_cell BK162.out 2).trans rfl
            have hcz300_3 : wc.cell? ⟨gb162, 3, none⟩ = some (.int .i64 a1_3) := (blk_cell BK162.out 3).trans rfl
            have hcz300_4 : wc.cell? ⟨gb162, 4, none⟩ = some (.slice A1_4 l1_4.length c1_4) := (blk_cell BK162.out 4).trans rfl
            have hfz300_0 := blk_frozen BK162.out 0
            have hfz300_1 := blk_frozen BK162.out 1
            have hfz300_2 := blk_frozen BK162.out 2
            have hfz300_3 := blk_frozen BK162.out 3
            have hfz300_4 := blk_frozen BK162.out 4
            have hcz301_0 : wc.cell? ⟨gb161, 0, none⟩ = some (.int .i64 a0_0) := (blk_cell BK161.out 0).trans rfl
            have hcz301_1 : wc.cell? ⟨gb161, 1, none⟩ = some (.int .i64 a0_1) := (blk_cell BK161.out 1).trans rfl
            have hcz301_2 : wc.cell? ⟨gb161, 2, none⟩ = some (.int .i64 a0_2) := (blk_cell BK161.out 2).trans rfl
            have hcz301_3 : wc.cell? ⟨gb161, 3, none⟩ = some (.int .i64 a0_3) := (blk_cell BK161.out 3).trans rfl
            have hcz301_4 : wc.cell? ⟨gb161, 4, none⟩ = some (.int .i64 a0_4) := (blk_cell BK161.out 4).trans rfl
            have hfz301_0 := blk_frozen BK161.out 0
            have hfz301_1 := blk_frozen BK161.out 1
            have hfz301_2 := blk_frozen BK161.out 2
            have hfz301_3 := blk_frozen BK161.out 3
            have hfz301_4 := blk_frozen BK161.out 4
            go_wp2_with (first | ((with_reducible refine gate_callee (f := 31) rfl ?_); refine goesL_ (some 43) rfl rfl Try.func31 (by kernel_rfl) rfl #[.agg #[.int .i64 a0_0, .int .i64 a0_1, .int .i64 a0_2, .int .i64 a0_3, .int .i64 a0_4]] rfl (by (try simp only [List.map_toArray, List.map_cons, List.map_nil]); first | done | rfl | (simp only [List.length_drop, List.length_take]; rfl)) ?_; (with_reducible refine (deadwoodref09_May.calls kj2 a0_0 a0_1 a0_2 a0_3 a0_4 false _ A45.out).mono ?_); rintro e w302 ⟨rfl, hb⟩; refine ⟨_, rfl, ?_⟩; have n0_ := Aside0.mk (blk_below (g := gb161) (o := .cells #[.int .i64 a0_0, .int .i64 a0_1, .int .i64 a0_2, .int .i64 a0_3, .int .i64 a0_4] 38 (0, 0)) (by (with_reducible repeat (first | refine blk_drewN ?_ _ | refine blk_drew ?_ | refine blk_alloc ?_ _)); exact BK161.out) hb); have n1_ := Aside0.mk (blk_below (g := gb162) (o := .cells #[.int .i64 a1_0, .int .i64 a1_1, .int .i64 a1_2, .int .i64 a1_3, .slice A1_4 l1_4.length c1_4] 41 (0, 0)) (by (with_reducible repeat (first | refine blk_drewN ?_ _ | refine blk_drew ?_ | refine blk_alloc ?_ _)); exact BK162.out) hb); have n2_ := Aside0.mk (below_step (by repeat (first | (with_reducible first | exact HB.out | apply below_alloc | apply pw_below_drewN | apply below_drew1 | refine below_set ?_ GE161.out | refine below_set ?_ GE162.out) | exact HB.out)) hb); clear BK161; clear BK162; clear HB; have BK161 := n0_; have BK162 := n1_; have HB := n2_; clear n0_ n1_ n2_; (try clear hb); (try clear hb2); (try clear hk); (try clear hi)))
            go_ret
            exact ⟨by first | rfl | (simp [errW_none, errW_some] <;> rfl) | (simp [*, errW_none, errW_some] <;> rfl), by repeat (first | (with_reducible first | exact HB.out | apply below_alloc | apply pw_below_drewN | apply below_drew1 | refine below_set ?_ GE161.out | refine below_set ?_ GE162.out) | exact HB.out)⟩

end Go.Proofs.Ytckbndckfeicmaa.PCallFits
