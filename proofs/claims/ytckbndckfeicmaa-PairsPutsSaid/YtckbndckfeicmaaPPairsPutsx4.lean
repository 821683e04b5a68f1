-- Printed by a program of this session (mkprint.py) out of the translation; Lean checks it.
import Derived.Test.YtckbndckfeicmaaPPairsPutsx0
import Derived.Test.YtckbndckfeicmaaPPairsPutsx2
import Derived.Test.YtckbndckfeicmaaPPairsPutsx3
namespace Go.Proofs.Ytckbndckfeicmaa.PPairsPuts
open Go.RowKit Go.Proofs.YtckbndckfeicmaaW.PrintWords Go.Proofs.YtckbndckfeicmaaW.PrintLast Go.Proofs.YtckbndckfeicmaaW.PrintMore
attribute [local go_sem] max2_int min2_int max_two min_two max_three min_three max_four min_four   -- for this text's walks alone
set_option linter.unusedVariables false
set_option linter.unusedSimpArgs false

/-! ### deadwoodlaw08_PairsPuts: function 12 -/
def deadwoodlaw08_PairsPuts.j0 : Nat → List (S61) → Bool → Int → Int → Option (Bool)
  | 0, _, _, _, _ => none
  | k + 1, x0, x28, x185000, x185001 => if x28 = true then (some false) else ((deadwoodref08_Rises.f k x0).bind fun t189 => (if t189 = true then ((some (([] : List (S61)) : List (S61))).bind fun y191 => (if y191.length + x0.length < 8796093022208 then ((some (y191 ++ x0 : List (S61))).bind fun y194 => ((pairs_Put.f k x0 x185000 x185001).bind fun bt197 => ((deadwoodref08_Put.f k y194 x185000 x185001).bind fun bt201 => ((pairs_Drop.f k x0 x185000).bind fun bt205 => ((deadwoodref08_Drop.f k y194 x185000).bind fun bt209 => (if (bt197.2 == bt201.2) = true then (if (bt205.2 == bt209.2) = true then ((deadwoodref08_Same.f k bt197.1 bt201.1).bind fun t213 => (if t213 = true then ((deadwoodref08_Same.f k bt205.1 bt209.1).bind fun t214 => (if t214 = true then ((deadwoodref08_Same.f k x0 y194).bind fun t215 => (if t215 = true then ((pairs_Same.f k bt197.1 bt205.1).bind fun t216 => ((deadwoodref08_Same.f k bt201.1 bt209.1).bind fun t217 => (if (t216 == t217) = true then ((deadwoodlaw08_lives.f k).bind fun t218 => (some t218)) else (some false)))) else (some false))) else (some false))) else (some false))) else (some false)) else (some false))))))) else (none))) else ((deadwoodlaw08_lives.f k).bind fun t190 => (some t190))))
def deadwoodlaw08_PairsPuts.f (k : Nat) (l0 : List (S61)) (a1_0 : Int) (a1_1 : Int) : Option (Bool) := if (l0.length : Int) > 300 then ((deadwoodlaw08_lives.f k).bind fun t185 => (some t185)) else ((pairs_Rises.f k l0).bind fun t186 => ((deadwoodref08_Rises.f k l0).bind fun t187 => (if (t186 != t187) = true then (deadwoodlaw08_PairsPuts.j0 k l0 true a1_0 a1_1) else ((pairs_Same.f k l0 l0).bind fun t188 => (deadwoodlaw08_PairsPuts.j0 k l0 (!t188) a1_0 a1_1)))))
theorem deadwoodlaw08_PairsPuts.mono_l : ∀ k, (∀ y0 y1 y2 y3, LeO (deadwoodlaw08_PairsPuts.j0 k y0 y1 y2 y3) (deadwoodlaw08_PairsPuts.j0 (k + 1) y0 y1 y2 y3))
  | 0 => fun _ _ _ _ r h => by simp [deadwoodlaw08_PairsPuts.j0] at h
  | k + 1 => by
    have ih0 := deadwoodlaw08_PairsPuts.mono_l k
    · intro y0 y1 y2 y3
      unfold deadwoodlaw08_PairsPuts.j0
      repeat' first
      | (with_reducible exact ih0 _ _ _ _)
      | (with_reducible exact deadwoodlaw08_lives.mono _)
      | (with_reducible exact deadwoodref08_Drop.mono _ _ _)
      | (with_reducible exact deadwoodref08_Put.mono _ _ _ _)
      | (with_reducible exact deadwoodref08_Rises.mono _ _)
      | (with_reducible exact deadwoodref08_Same.mono _ _ _)
      | (with_reducible exact pairs_Drop.mono _ _ _)
      | (with_reducible exact pairs_Put.mono _ _ _ _)
      | (with_reducible exact pairs_Rises.mono _ _)
      | (with_reducible exact pairs_Same.mono _ _ _)
      | (with_reducible exact LeO.refl _)
      | (with_reducible exact LeO.none _)
      | (with_reducible refine LeO.ite ?_ ?_)
      | (with_reducible refine LeO.bind ?_ (fun _ => ?_))
      | exact ih0 _ _ _ _
      | exact deadwoodlaw08_lives.mono _
      | exact deadwoodref08_Drop.mono _ _ _
      | exact deadwoodref08_Put.mono _ _ _ _
      | exact deadwoodref08_Rises.mono _ _
      | exact deadwoodref08_Same.mono _ _ _
      | exact pairs_Drop.mono _ _ _
      | exact pairs_Put.mono _ _ _ _
      | exact pairs_Rises.mono _ _
      | exact pairs_Same.mono _ _ _
      | exact LeO.none _
      | refine LeO.ite ?_ ?_
      | refine LeO.bind ?_ (fun _ => ?_)
theorem deadwoodlaw08_PairsPuts.mono : ∀ a0 a1 a2 k, LeO (deadwoodlaw08_PairsPuts.f k a0 a1 a2) (deadwoodlaw08_PairsPuts.f (k + 1) a0 a1 a2) := by
  intro a0 a1 a2 k
  have ih0 := deadwoodlaw08_PairsPuts.mono_l k
  unfold deadwoodlaw08_PairsPuts.f
  repeat' first
      | (with_reducible exact ih0 _ _ _ _)
      | (with_reducible exact deadwoodlaw08_lives.mono _)
      | (with_reducible exact deadwoodref08_Drop.mono _ _ _)
      | (with_reducible exact deadwoodref08_Put.mono _ _ _ _)
      | (with_reducible exact deadwoodref08_Rises.mono _ _)
      | (with_reducible exact deadwoodref08_Same.mono _ _ _)
      | (with_reducible exact pairs_Drop.mono _ _ _)
      | (with_reducible exact pairs_Put.mono _ _ _ _)
      | (with_reducible exact pairs_Rises.mono _ _)
      | (with_reducible exact pairs_Same.mono _ _ _)
      | (with_reducible exact LeO.refl _)
      | (with_reducible exact LeO.none _)
      | (with_reducible refine LeO.ite ?_ ?_)
      | (with_reducible refine LeO.bind ?_ (fun _ => ?_))
      | exact ih0 _ _ _ _
      | exact deadwoodlaw08_lives.mono _
      | exact deadwoodref08_Drop.mono _ _ _
      | exact deadwoodref08_Put.mono _ _ _ _
      | exact deadwoodref08_Rises.mono _ _
      | exact deadwoodref08_Same.mono _ _ _
      | exact pairs_Drop.mono _ _ _
      | exact pairs_Put.mono _ _ _ _
      | exact pairs_Rises.mono _ _
      | exact pairs_Same.mono _ _ _
      | exact LeO.none _
      | refine LeO.ite ?_ ?_
      | refine LeO.bind ?_ (fun _ => ?_)
set_option maxHeartbeats 8000000 in
set_option maxRecDepth 100000 in
theorem deadwoodlaw08_PairsPuts.calls (k : Nat) (A0 : Option Addr) (c0 : Nat) (l0 : List (S61)) (a1_0 : Int) (a1_1 : Int) (r : Bool) (w : World) (hr0 : Kd.C k61 w A0 l0.length l0) (hc0 : l0.length ≤ c0) (hr_ : r = true) (h : deadwoodlaw08_PairsPuts.f k l0 a1_0 a1_1 = some r) :
    Calls Try.prog 12 #[.slice A0 l0.length c0, .agg #[.int .i64 a1_0, .int .i64 a1_1]] w fun e w' => e = .returned (.bool r) ∧ Below w.heap.size w w' := by
  have HRT := Aside0.mk hr_
  clear hr_
  have hu61 := Try.underlying61
  have HR0 := Aside0.mk hr0
  have HC0 := Aside0.mk hc0
  clear hr0 hc0
  have HB := Aside0.mk (Below.refl w.heap.size w)
  have H : (if (l0.length : Int) > 300 then ((deadwoodlaw08_lives.f k).bind fun t185 => (some t185)) else ((pairs_Rises.f k l0).bind fun t186 => ((deadwoodref08_Rises.f k l0).bind fun t187 => (if (t186 != t187) = true then (deadwoodlaw08_PairsPuts.j0 k l0 true a1_0 a1_1) else ((pairs_Same.f k l0 l0).bind fun t188 => (deadwoodlaw08_PairsPuts.j0 k l0 (!t188) a1_0 a1_1)))))) = some r := h
  clear h
  by_cases c3 : (l0.length : Int) > 300
  · rw [if_pos c3] at H
    have c3b0 : decide (300 < (l0.length : Int)) = true := decide_eq_true c3
    have c3b1 : decide (300 < l0.length) = true := decide_eq_true (by omega)
    clear c3
    replace H := Option.bind_eq_some_iff.mp H
    obtain ⟨t185, A40, H⟩ := H
    replace H : (some t185) = some r := H
    have A4 := Aside0.mk A40
    clear A40
    obtain rfl := Option.some.inj H
    go_enter Try.func12, Try.ntmps12
    go_wp2_with (first | ((with_reducible refine gate_dst (N := 3) rfl ?_); refine box_event ?hg (N := 3) ?hd (cs := #[.int .i64 a1_0, .int .i64 a1_1]) (t := 61) ?hr ?_; (case hd => rfl); (case hg => rfl); (case hr => first | (go_simp; done) | (go_simp; rfl)); intro gb184 hg w5 hbox hb; have n0_ := Aside0.mk (below_step (by repeat (first | (with_reducible first | exact HB.out | apply below_alloc | apply pw_below_drewN | apply below_drew1) | exact HB.out)) hb); have n1_ := Aside0.mk (hbox); have n2_ := Aside0.mk ((by rw [hg]; exact (below_size (by repeat (first | (with_reducible first | exact HB.out | apply below_alloc | apply pw_below_drewN | apply below_drew1) | exact HB.out))) : w.heap.size ≤ gb184)); have n3_ := Aside0.mk ((by rw [hg]; exact (below_size (by repeat (first | (with_reducible first | exact HB.out | apply below_alloc | apply pw_below_drewN | apply below_drew1) | exact HB.out))) : w.heap.size ≤ gb184)); clear HB; have HB := n0_; have BK184 := n1_; have GW184 := n2_; have GE184 := n3_; clear n0_ n1_ n2_ n3_; clear hb hbox hg) | ((with_reducible refine gate_callee (f := 40) rfl ?_); refine goesL_ (some 17) rfl rfl Try.func40 (by kernel_rfl) rfl #[] rfl (by (try simp only [List.map_toArray, List.map_cons, List.map_nil]); first | done | rfl | (simp only [List.length_drop, List.length_take]; rfl)) ?_; (with_reducible refine (deadwoodlaw08_lives.calls k  t185 _ A4.out).mono ?_); rintro e w6 ⟨rfl, hb⟩; refine ⟨_, rfl, ?_⟩; have n0_ := Aside0.mk (blk_below (g := gb184) (o := .cells #[.int .i64 a1_0, .int .i64 a1_1] 61 (0, 0)) (by (with_reducible repeat (first | refine blk_drewN ?_ _ | refine blk_drew ?_ | refine blk_alloc ?_ _)); exact BK184.out) hb); have n1_ := Aside0.mk (below_step (by repeat (first | (with_reducible first | exact HB.out | apply below_alloc | apply pw_below_drewN | apply below_drew1 | refine below_set ?_ GE184.out) | exact HB.out)) hb); clear BK184; clear HB; have BK184 := n0_; have HB := n1_; clear n0_ n1_; (try clear hb); (try clear hb2); (try clear hk); (try clear hi)))
    go_ret
    exact ⟨by first | rfl | (simp [errW_none, errW_some] <;> rfl) | (simp [*, errW_none, errW_some] <;> rfl), by repeat (first | (with_reducible first | exact HB.out | apply below_alloc | apply pw_below_drewN | apply below_drew1 | refine below_set ?_ GE184.out) | exact HB.out)⟩
  · rw [if_neg c3] at H
    have c3b0 : decide (300 < (l0.length : Int)) = false := decide_eq_false c3
    have c3b1 : decide (300 < l0.length) = false := decide_eq_false (by omega)
    clear c3
    have HC7 := Aside0.mk H
    clear H
    go_enter Try.func12, Try.ntmps12
    go_upto_region 3 with (first | ((with_reducible refine gate_dst (N := 3) rfl ?_); refine box_event ?hg (N := 3) ?hd (cs := #[.int .i64 a1_0, .int .i64 a1_1]) (t := 61) ?hr ?_; (case hd => rfl); (case hg => rfl); (case hr => first | (go_simp; done) | (go_simp; rfl)); intro gb184 hg w8 hbox hb; have n0_ := Aside0.mk (below_step (by repeat (first | (with_reducible first | exact HB.out | apply below_alloc | apply pw_below_drewN | apply below_drew1) | exact HB.out)) hb); have n1_ := Aside0.mk (hbox); have n2_ := Aside0.mk ((by rw [hg]; exact (below_size (by repeat (first | (with_reducible first | exact HB.out | apply below_alloc | apply pw_below_drewN | apply below_drew1) | exact HB.out))) : w.heap.size ≤ gb184)); have n3_ := Aside0.mk ((by rw [hg]; exact (below_size (by repeat (first | (with_reducible first | exact HB.out | apply below_alloc | apply pw_below_drewN | apply below_drew1) | exact HB.out))) : w.heap.size ≤ gb184)); clear HB; have HB := n0_; have BK184 := n1_; have GW184 := n2_; have GE184 := n3_; clear n0_ n1_ n2_ n3_; clear hb hbox hg))
    (try simp only [Act.put, List.setIfInBounds_toArray, List.set_cons_zero, List.set_cons_succ])
    go_cut [28] (fun v28 wc => ∃ (kq : Nat) (x28_6 : Bool), v28 = .bool x28_6 ∧ Aside0 (deadwoodlaw08_PairsPuts.j0 kq l0 x28_6 a1_0 a1_1 = some r) ∧ Aside0 (kq ≤ k) ∧ Aside0 (wc.heap[gb184]? = some (.cells #[.int .i64 a1_0, .int .i64 a1_1] 61 (0, 0))) ∧ Aside0 (Below w.heap.size w wc))
    case first =>
      have H := HC7.out
      clear HC7
      replace H := Option.bind_eq_some_iff.mp H
      obtain ⟨t186, A90, H⟩ := H
      replace H : ((deadwoodref08_Rises.f k l0).bind fun t187 => (if (t186 != t187) = true then (deadwoodlaw08_PairsPuts.j0 k l0 true a1_0 a1_1) else ((pairs_Same.f k l0 l0).bind fun t188 => (deadwoodlaw08_PairsPuts.j0 k l0 (!t188) a1_0 a1_1)))) = some r := H
      have A9 := Aside0.mk A90
      clear A90
      replace H := Option.bind_eq_some_iff.mp H
      obtain ⟨t187, A100, H⟩ := H
      replace H : (if (t186 != t187) = true then (deadwoodlaw08_PairsPuts.j0 k l0 true a1_0 a1_1) else ((pairs_Same.f k l0 l0).bind fun t188 => (deadwoodlaw08_PairsPuts.j0 k l0 (!t188) a1_0 a1_1))) = some r := H
      have A10 := Aside0.mk A100
      clear A100
      by_cases c11 : (t186 != t187) = true
      · rw [if_pos c11] at H
        have c11b0 : (t186 != t187) = true := c11
        (try (have c11b1 : decide (t186 = t187) = false := by simpa using c11))
        (try (have c11b2 : (t186 == t187) = false := by simpa using c11))
        (try (have c11b3 : ¬ (t186 = t187) := by simpa using c11))
        clear c11
        (first | rw [c11b0] | (simp only [i64_w, i32_w]; rw [c11b0]) | skip)
        have H' := Aside0.mk H
        clear H
        go_wp2_with (first | ((with_reducible refine gate_callee (f := 50) rfl ?_); refine goesL_ (some 19) rfl rfl Try.func50 (by kernel_rfl) rfl #[.slice A0 l0.length c0] rfl (by (try simp only [List.map_toArray, List.map_cons, List.map_nil]); first | done | rfl | (simp only [List.length_drop, List.length_take]; rfl)) ?_; (with_reducible refine (pairs_Rises.calls k _ _ l0 t186 _ ?side1 ?side2 A9.out).mono ?_); (case side1 => repeat (first | exact (Kd.C_below HR0.out HB.out) | (with_reducible refine Kd.C_alloc ?_ _) | (with_reducible refine Kd.C_drewN ?_ _) | (with_reducible refine Kd.C_drew ?_))); (case side2 => exact HC0.out); rintro e w' ⟨rfl, ⟨nd, rfl⟩⟩; refine ⟨_, rfl, ?_⟩) | ((with_reducible refine gate_callee (f := 39) rfl ?_); refine goesL_ (some 21) rfl rfl Try.func39 (by kernel_rfl) rfl #[.slice A0 l0.length c0] rfl (by (try simp only [List.map_toArray, List.map_cons, List.map_nil]); first | done | rfl | (simp only [List.length_drop, List.length_take]; rfl)) ?_; (with_reducible refine (deadwoodref08_Rises.calls k _ _ l0 t187 _ ?side1 ?side2 A10.out).mono ?_); (case side1 => repeat (first | exact (Kd.C_below HR0.out (by repeat (first | (with_reducible first | exact HB.out | apply below_alloc | apply pw_below_drewN | apply below_drew1 | refine below_set ?_ GE184.out) | exact HB.out))) | (with_reducible refine Kd.C_alloc ?_ _) | (with_reducible refine Kd.C_drewN ?_ _) | (with_reducible refine Kd.C_drew ?_))); (case side2 => exact HC0.out); rintro e w' ⟨rfl, ⟨nd, rfl⟩⟩; refine ⟨_, rfl, ?_⟩))
        go_meet
        case rel => exact ⟨_, (true), (by first | rfl | (simp; done) | (simp [*]; done)), H', ⟨by first | omega | exact Nat.le_refl _⟩, ⟨by (with_reducible repeat (first | refine blk_drewN ?_ _ | refine blk_drew ?_ | refine blk_alloc ?_ _)); exact BK184.out⟩, ⟨by repeat (first | (with_reducible first | exact HB.out | apply below_alloc | apply pw_below_drewN | apply below_drew1 | refine below_set ?_ GE184.out) | exact HB.out)⟩⟩
      · rw [if_neg c11] at H
        have c11b0 : (t186 != t187) = false := by simpa using c11
        (try (have c11b1 : decide (t186 = t187) = true := by simpa using c11))
        (try (have c11b2 : (t186 == t187) = true := by simpa using c11))
        clear c11
        (first | rw [c11b0] | (simp only [i64_w, i32_w]; rw [c11b0]) | skip)
        replace H := Option.bind_eq_some_iff.mp H
        obtain ⟨t188, A120, H⟩ := H
        replace H : (deadwoodlaw08_PairsPuts.j0 k l0 (!t188) a1_0 a1_1) = some r := H
        have A12 := Aside0.mk A120
        clear A120
        have H' := Aside0.mk H
        clear H
        go_wp2_with (first | ((with_reducible refine gate_callee (f := 50) rfl ?_); refine goesL_ (some 19) rfl rfl Try.func50 (by kernel_rfl) rfl #[.slice A0 l0.length c0] rfl (by (try simp only [List.map_toArray, List.map_cons, List.map_nil]); first | done | rfl | (simp only [List.length_drop, List.length_take]; rfl)) ?_; (with_reducible refine (pairs_Rises.calls k _ _ l0 t186 _ ?side1 ?side2 A9.out).mono ?_); (case side1 => repeat (first | exact (Kd.C_below HR0.out HB.out) | (with_reducible refine Kd.C_alloc ?_ _) | (with_reducible refine Kd.C_drewN ?_ _) | (with_reducible refine Kd.C_drew ?_))); (case side2 => exact HC0.out); rintro e w' ⟨rfl, ⟨nd, rfl⟩⟩; refine ⟨_, rfl, ?_⟩) | ((with_reducible refine gate_callee (f := 39) rfl ?_); refine goesL_ (some 21) rfl rfl Try.func39 (by kernel_rfl) rfl #[.slice A0 l0.length c0] rfl (by (try simp only [List.map_toArray, List.map_cons, List.map_nil]); first | done | rfl | (simp only [List.length_drop, List.length_take]; rfl)) ?_; (with_reducible refine (deadwoodref08_Rises.calls k _ _ l0 t187 _ ?side1 ?side2 A10.out).mono ?_); (case side1 => repeat (first | exact (Kd.C_below HR0.out (by repeat (first | (with_reducible first | exact HB.out | apply below_alloc | apply pw_below_drewN | apply below_drew1 | refine below_set ?_ GE184.out) | exact HB.out))) | (with_reducible refine Kd.C_alloc ?_ _) | (with_reducible refine Kd.C_drewN ?_ _) | (with_reducible refine Kd.C_drew ?_))); (case side2 => exact HC0.out); rintro e w' ⟨rfl, ⟨nd, rfl⟩⟩; refine ⟨_, rfl, ?_⟩) | (go_at_call 51; (with_reducible refine (pairs_Same.calls k _ _ l0 _ _ l0 t188 _ ?side1 ?side2 ?side3 ?side4 A12.out).mono ?_); (case side1 => repeat (first | exact (Kd.C_below HR0.out (by repeat (first | (with_reducible first | exact HB.out | apply below_alloc | apply pw_below_drewN | apply below_drew1 | refine below_set ?_ GE184.out) | exact HB.out))) | (with_reducible refine Kd.C_alloc ?_ _) | (with_reducible refine Kd.C_drewN ?_ _) | (with_reducible refine Kd.C_drew ?_))); (case side2 => exact HC0.out); (case side3 => repeat (first | exact (Kd.C_below HR0.out (by repeat (first | (with_reducible first | exact HB.out | apply below_alloc | apply pw_below_drewN | apply below_drew1 | refine below_set ?_ GE184.out) | exact HB.out))) | (with_reducible refine Kd.C_alloc ?_ _) | (with_reducible refine Kd.C_drewN ?_ _) | (with_reducible refine Kd.C_drew ?_))); (case side4 => exact HC0.out); rintro e w' ⟨rfl, ⟨nd, rfl⟩⟩))
        go_meet
        case rel => exact ⟨_, (!t188), (by first | rfl | (simp; done) | (simp [*]; done)), H', ⟨by first | omega | exact Nat.le_refl _⟩, ⟨by (with_reducible repeat (first | refine blk_drewN ?_ _ | refine blk_drew ?_ | refine blk_alloc ?_ _)); exact BK184.out⟩, ⟨by repeat (first | (with_reducible first | exact HB.out | apply below_alloc | apply pw_below_drewN | apply below_drew1 | refine below_set ?_ GE184.out) | exact HB.out)⟩⟩
    case rest =>
      clear HC7
      try clear c1
      try clear p2
      try clear c3
      try clear c3b0
      try clear c3b1
      try clear c4
      try clear c5
      try clear c11
      try clear c11b0
      try clear c11b1
      try clear c11b2
      try clear c12
      obtain ⟨kq, x28_6, rfl, HA, HJ6, BK184, HB⟩ := hcut
      cases kq with
      | zero => exact absurd HA.out (by simp [deadwoodlaw08_PairsPuts.j0])
      | succ kj6 =>
        have H := HA.out
        clear HA
        simp only [deadwoodlaw08_PairsPuts.j0] at H
        by_cases c13 : x28_6 = true
        · subst c13
          have H1 : (some false) = some r := by rw [if_pos rfl] at H; exact H
          clear H
          have H := H1
          clear H1
          exact absurd (Option.some.inj H) (by rw [HRT.out]; decide)
        · replace c13 := Bool.eq_false_iff.mpr c13
          subst c13
          have H1 : ((deadwoodref08_Rises.f kj6 l0).bind fun t189 => (if t189 = true then ((some (([] : List (S61)) : List (S61))).bind fun y191 => (if y191.length + l0.length < 8796093022208 then ((some (y191 ++ l0 : List (S61))).bind fun y194 => ((pairs_Put.f kj6 l0 a1_0 a1_1).bind fun bt197 => ((deadwoodref08_Put.f kj6 y194 a1_0 a1_1).bind fun bt201 => ((pairs_Drop.f kj6 l0 a1_0).bind fun bt205 => ((deadwoodref08_Drop.f kj6 y194 a1_0).bind fun bt209 => (if (bt197.2 == bt201.2) = true then (if (bt205.2 == bt209.2) = true then ((deadwoodref08_Same.f kj6 bt197.1 bt201.1).bind fun t213 => (if t213 = true then ((deadwoodref08_Same.f kj6 bt205.1 bt209.1).bind fun t214 => (if t214 = true then ((deadwoodref08_Same.f kj6 l0 y194).bind fun t215 => (if t215 = true then ((pairs_Same.f kj6 bt197.1 bt205.1).bind fun t216 => ((deadwoodref08_Same.f kj6 bt201.1 bt209.1).bind fun t217 => (if (t216 == t217) = true then ((deadwoodlaw08_lives.f kj6).bind fun t218 => (some t218)) else (some false)))) else (some false))) else (some false))) else (some false))) else (some false)) else (some false))))))) else (none))) else ((deadwoodlaw08_lives.f kj6).bind fun t190 => (some t190)))) = some r := by rw [if_neg (show ¬ (false = true) by decide)] at H; exact H
          clear H
          have H := H1
          clear H1
          replace H := Option.bind_eq_some_iff.mp H
          obtain ⟨t189, A140, H⟩ := H
          replace H : (if t189 = true then ((some (([] : List (S61)) : List (S61))).bind fun y191 => (if y191.length + l0.length < 8796093022208 then ((some (y191 ++ l0 : List (S61))).bind fun y194 => ((pairs_Put.f kj6 l0 a1_0 a1_1).bind fun bt197 => ((deadwoodref08_Put.f kj6 y194 a1_0 a1_1).bind fun bt201 => ((pairs_Drop.f kj6 l0 a1_0).bind fun bt205 => ((deadwoodref08_Drop.f kj6 y194 a1_0).bind fun bt209 => (if (bt197.2 == bt201.2) = true then (if (bt205.2 == bt209.2) = true then ((deadwoodref08_Same.f kj6 bt197.1 bt201.1).bind fun t213 => (if t213 = true then ((deadwoodref08_Same.f kj6 bt205.1 bt209.1).bind fun t214 => (if t214 = true then ((deadwoodref08_Same.f kj6 l0 y194).bind fun t215 => (if t215 = true then ((pairs_Same.f kj6 bt197.1 bt205.1).bind fun t216 => ((deadwoodref08_Same.f kj6 bt201.1 bt209.1).bind fun t217 => (if (t216 == t217) = true then ((deadwoodlaw08_lives.f kj6).bind fun t218 => (some t218)) else (some false)))) else (some false))) else (some false))) else (some false))) else (some false)) else (some false))))))) else (none))) else ((deadwoodlaw08_lives.f kj6).bind fun t190 => (some t190))) = some r := H
          have A14 := Aside0.mk A140
          clear A140
          by_cases c15 : t189 = true
          · subst c15
            have H1 : ((some (([] : List (S61)) : List (S61))).bind fun y191 => (if y191.length + l0.length < 8796093022208 then ((some (y191 ++ l0 : List (S61))).bind fun y194 => ((pairs_Put.f kj6 l0 a1_0 a1_1).bind fun bt197 => ((deadwoodref08_Put.f kj6 y194 a1_0 a1_1).bind fun bt201 => ((pairs_Drop.f kj6 l0 a1_0).bind fun bt205 => ((deadwoodref08_Drop.f kj6 y194 a1_0).bind fun bt209 => (if (bt197.2 == bt201.2) = true then (if (bt205.2 == bt209.2) = true then ((deadwoodref08_Same.f kj6 bt197.1 bt201.1).bind fun t213 => (if t213 = true then ((deadwoodref08_Same.f kj6 bt205.1 bt209.1).bind fun t214 => (if t214 = true then ((deadwoodref08_Same.f kj6 l0 y194).bind fun t215 => (if t215 = true then ((pairs_Same.f kj6 bt197.1 bt205.1).bind fun t216 => ((deadwoodref08_Same.f kj6 bt201.1 bt209.1).bind fun t217 => (if (t216 == t217) = true then ((deadwoodlaw08_lives.f kj6).bind fun t218 => (some t218)) else (some false)))) else (some false))) else (some false))) else (some false))) else (some false)) else (some false))))))) else (none))) = some r := by rw [if_pos rfl] at H; exact H
            clear H
            have H := H1
            clear H1
            obtain ⟨y191, hy191⟩ : ∃ y_ : List (S61), y_ = (([] : List (S61))) := ⟨_, rfl⟩
            replace H : (if y191.length + l0.length < 8796093022208 then ((some (y191 ++ l0 : List (S61))).bind fun y194 => ((pairs_Put.f kj6 l0 a1_0 a1_1).bind fun bt197 => ((deadwoodref08_Put.f kj6 y194 a1_0 a1_1).bind fun bt201 => ((pairs_Drop.f kj6 l0 a1_0).bind fun bt205 => ((deadwoodref08_Drop.f kj6 y194 a1_0).bind fun bt209 => (if (bt197.2 == bt201.2) = true then (if (bt205.2 == bt209.2) = true then ((deadwoodref08_Same.f kj6 bt197.1 bt201.1).bind fun t213 => (if t213 = true then ((deadwoodref08_Same.f kj6 bt205.1 bt209.1).bind fun t214 => (if t214 = true then ((deadwoodref08_Same.f kj6 l0 y194).bind fun t215 => (if t215 = true then ((pairs_Same.f kj6 bt197.1 bt205.1).bind fun t216 => ((deadwoodref08_Same.f kj6 bt201.1 bt209.1).bind fun t217 => (if (t216 == t217) = true then ((deadwoodlaw08_lives.f kj6).bind fun t218 => (some t218)) else (some false)))) else (some false))) else (some false))) else (some false))) else (some false)) else (some false))))))) else (none)) = some r := by first | (rw [hy191]; with_reducible exact H) | (have H2_ := (Option.bind_some _ _).symm.trans H; rw [hy191]; with_reducible exact H2_) | (have H2_ := (Option.bind_some _ _).symm.trans H; with_reducible exact H2_) | with_reducible exact H | (rw [hy191]; exact H) | exact H
            have Ny191 := Aside0.mk hy191
            clear hy191
            by_cases c16 : y191.length + l0.length < 8796093022208
            · rw [if_pos c16] at H
              have LMc16 := Aside0.mk c16
              clear c16
              obtain ⟨y194, hy194⟩ : ∃ y_ : List (S61), y_ = (y191 ++ l0) := ⟨_, rfl⟩
              replace H : ((pairs_Put.f kj6 l0 a1_0 a1_1).bind fun bt197 => ((deadwoodref08_Put.f kj6 y194 a1_0 a1_1).bind fun bt201 => ((pairs_Drop.f kj6 l0 a1_0).bind fun bt205 => ((deadwoodref08_Drop.f kj6 y194 a1_0).bind fun bt209 => (if (bt197.2 == bt201.2) = true then (if (bt205.2 == bt209.2) = true then ((deadwoodref08_Same.f kj6 bt197.1 bt201.1).bind fun t213 => (if t213 = true then ((deadwoodref08_Same.f kj6 bt205.1 bt209.1).bind fun t214 => (if t214 = true then ((deadwoodref08_Same.f kj6 l0 y194).bind fun t215 => (if t215 = true then ((pairs_Same.f kj6 bt197.1 bt205.1).bind fun t216 => ((deadwoodref08_Same.f kj6 bt201.1 bt209.1).bind fun t217 => (if (t216 == t217) = true then ((deadwoodlaw08_lives.f kj6).bind fun t218 => (some t218)) else (some false)))) else (some false))) else (some false))) else (some false))) else (some false)) else (some false)))))) = some r := by first | (rw [hy194]; with_reducible exact H) | (have H2_ := (Option.bind_some _ _).symm.trans H; rw [hy194]; with_reducible exact H2_) | (have H2_ := (Option.bind_some _ _).symm.trans H; with_reducible exact H2_) | with_reducible exact H | (rw [hy194]; exact H) | exact H
              have Ny194 := Aside0.mk hy194
              clear hy194
              replace H := Option.bind_eq_some_iff.mp H
              obtain ⟨⟨t197, t200⟩, A170, H⟩ := H
              replace H : ((deadwoodref08_Put.f kj6 y194 a1_0 a1_1).bind fun bt201 => ((pairs_Drop.f kj6 l0 a1_0).bind fun bt205 => ((deadwoodref08_Drop.f kj6 y194 a1_0).bind fun bt209 => (if (t200 == bt201.2) = true then (if (bt205.2 == bt209.2) = true then ((deadwoodref08_Same.f kj6 t197 bt201.1).bind fun t213 => (if t213 = true then ((deadwoodref08_Same.f kj6 bt205.1 bt209.1).bind fun t214 => (if t214 = true then ((deadwoodref08_Same.f kj6 l0 y194).bind fun t215 => (if t215 = true then ((pairs_Same.f kj6 t197 bt205.1).bind fun t216 => ((deadwoodref08_Same.f kj6 bt201.1 bt209.1).bind fun t217 => (if (t216 == t217) = true then ((deadwoodlaw08_lives.f kj6).bind fun t218 => (some t218)) else (some false)))) else (some false))) else (some false))) else (some false))) else (some false)) else (some false))))) = some r := H
              have A17 := Aside0.mk A170
              clear A170
              replace H := Option.bind_eq_some_iff.mp H
              obtain ⟨⟨t201, t204⟩, A180, H⟩ := H
              replace H : ((pairs_Drop.f kj6 l0 a1_0).bind fun bt205 => ((deadwoodref08_Drop.f kj6 y194 a1_0).bind fun bt209 => (if (t200 == t204) = true then (if (bt205.2 == bt209.2) = true then ((deadwoodref08_Same.f kj6 t197 t201).bind fun t213 => (if t213 = true then ((deadwoodref08_Same.f kj6 bt205.1 bt209.1).bind fun t214 => (if t214 = true then ((deadwoodref08_Same.f kj6 l0 y194).bind fun t215 => (if t215 = true then ((pairs_Same.f kj6 t197 bt205.1).bind fun t216 => ((deadwoodref08_Same.f kj6 t201 bt209.1).bind fun t217 => (if (t216 == t217) = true then ((deadwoodlaw08_lives.f kj6).bind fun t218 => (some t218)) else (some false)))) else (some false))) else (some false))) else (some false))) else (some false)) else (some false)))) = some r := H
              have A18 := Aside0.mk A180
              clear A180
              replace H := Option.bind_eq_some_iff.mp H
              obtain ⟨⟨t205, t208⟩, A190, H⟩ := H
              replace H : ((deadwoodref08_Drop.f kj6 y194 a1_0).bind fun bt209 => (if (t200 == t204) = true then (if (t208 == bt209.2) = true then ((deadwoodref08_Same.f kj6 t197 t201).bind fun t213 => (if t213 = true then ((deadwoodref08_Same.f kj6 t205 bt209.1).bind fun t214 => (if t214 = true then ((deadwoodref08_Same.f kj6 l0 y194).bind fun t215 => (if t215 = true then ((pairs_Same.f kj6 t197 t205).bind fun t216 => ((deadwoodref08_Same.f kj6 t201 bt209.1).bind fun t217 => (if (t216 == t217) = true then ((deadwoodlaw08_lives.f kj6).bind fun t218 => (some t218)) else (some false)))) else (some false))) else (some false))) else (some false))) else (some false)) else (some false))) = some r := H
              have A19 := Aside0.mk A190
              clear A190
              replace H := Option.bind_eq_some_iff.mp H
              obtain ⟨⟨t209, t212⟩, A200, H⟩ := H
              replace H : (if (t200 == t204) = true then (if (t208 == t212) = true then ((deadwoodref08_Same.f kj6 t197 t201).bind fun t213 => (if t213 = true then ((deadwoodref08_Same.f kj6 t205 t209).bind fun t214 => (if t214 = true then ((deadwoodref08_Same.f kj6 l0 y194).bind fun t215 => (if t215 = true then ((pairs_Same.f kj6 t197 t205).bind fun t216 => ((deadwoodref08_Same.f kj6 t201 t209).bind fun t217 => (if (t216 == t217) = true then ((deadwoodlaw08_lives.f kj6).bind fun t218 => (some t218)) else (some false)))) else (some false))) else (some false))) else (some false))) else (some false)) else (some false)) = some r := H
              have A20 := Aside0.mk A200
              clear A200
              by_cases c21 : (t200 == t204) = true
              · rw [if_pos c21] at H
                have c21b0 : (t200 == t204) = true := c21
                (try (have c21b1 : decide (t200 = t204) = true := by simpa using c21))
                (try (have c21b2 : (t200 == t204) = true := by simpa using c21))
                clear c21
                by_cases c22 : (t208 == t212) = true
                · rw [if_pos c22] at H
                  have c22b0 : (t208 == t212) = true := c22
                  (try (have c22b1 : decide (t208 = t212) = true := by simpa using c22))
                  (try (have c22b2 : (t208 == t212) = true := by simpa using c22))
                  clear c22
                  replace H := Option.bind_eq_some_iff.mp H
                  obtain ⟨t213, A230, H⟩ := H
                  replace H : (if t213 = true then ((deadwoodref08_Same.f kj6 t205 t209).bind fun t214 => (if t214 = true then ((deadwoodref08_Same.f kj6 l0 y194).bind fun t215 => (if t215 = true then ((pairs_Same.f kj6 t197 t205).bind fun t216 => ((deadwoodref08_Same.f kj6 t201 t209).bind fun t217 => (if (t216 == t217) = true then ((deadwoodlaw08_lives.f kj6).bind fun t218 => (some t218)) else (some false)))) else (some false))) else (some false))) else (some false)) = some r := H
                  have A23 := Aside0.mk A230
                  clear A230
                  by_cases c24 : t213 = true
                  · subst c24
                    have H1 : ((deadwoodref08_Same.f kj6 t205 t209).bind fun t214 => (if t214 = true then ((deadwoodref08_Same.f kj6 l0 y194).bind fun t215 => (if t215 = true then ((pairs_Same.f kj6 t197 t205).bind fun t216 => ((deadwoodref08_Same.f kj6 t201 t209).bind fun t217 => (if (t216 == t217) = true then ((deadwoodlaw08_lives.f kj6).bind fun t218 => (some t218)) else (some false)))) else (some false))) else (some false))) = some r := by rw [if_pos rfl] at H; exact H
                    clear H
                    have H := H1
                    clear H1
                    replace H := Option.bind_eq_some_iff.mp H
                    obtain ⟨t214, A250, H⟩ := H
                    replace H : (if t214 = true then ((deadwoodref08_Same.f kj6 l0 y194).bind fun t215 => (if t215 = true then ((pairs_Same.f kj6 t197 t205).bind fun t216 => ((deadwoodref08_Same.f kj6 t201 t209).bind fun t217 => (if (t216 == t217) = true then ((deadwoodlaw08_lives.f kj6).bind fun t218 => (some t218)) else (some false)))) else (some false))) else (some false)) = some r := H
                    have A25 := Aside0.mk A250
                    clear A250
                    by_cases c26 : t214 = true
                    · subst c26
                      have H1 : ((deadwoodref08_Same.f kj6 l0 y194).bind fun t215 => (if t215 = true then ((pairs_Same.f kj6 t197 t205).bind fun t216 => ((deadwoodref08_Same.f kj6 t201 t209).bind fun t217 => (if (t216 == t217) = true then ((deadwoodlaw08_lives.f kj6).bind fun t218 => (some t218)) else (some false)))) else (some false))) = some r := by rw [if_pos rfl] at H; exact H
                      clear H
                      have H := H1
                      clear H1
                      replace H := Option.bind_eq_some_iff.mp H
                      obtain ⟨t215, A270, H⟩ := H
                      replace H : (if t215 = true then ((pairs_Same.f kj6 t197 t205).bind fun t216 => ((deadwoodref08_Same.f kj6 t201 t209).bind fun t217 => (if (t216 == t217) = true then ((deadwoodlaw08_lives.f kj6).bind fun t218 => (some t218)) else (some false)))) else (some false)) = some r := H
                      have A27 := Aside0.mk A270
                      clear A270
                      by_cases c28 : t215 = true
                      · subst c28
                        have H1 : ((pairs_Same.f kj6 t197 t205).bind fun t216 => ((deadwoodref08_Same.f kj6 t201 t209).bind fun t217 => (if (t216 == t217) = true then ((deadwoodlaw08_lives.f kj6).bind fun t218 => (some t218)) else (some false)))) = some r := by rw [if_pos rfl] at H; exact H
                        clear H
                        have H := H1
                        clear H1
                        replace H := Option.bind_eq_some_iff.mp H
                        obtain ⟨t216, A290, H⟩ := H
                        replace H : ((deadwoodref08_Same.f kj6 t201 t209).bind fun t217 => (if (t216 == t217) = true then ((deadwoodlaw08_lives.f kj6).bind fun t218 => (some t218)) else (some false))) = some r := H
                        have A29 := Aside0.mk A290
                        clear A290
                        replace H := Option.bind_eq_some_iff.mp H
                        obtain ⟨t217, A300, H⟩ := H
                        replace H : (if (t216 == t217) = true then ((deadwoodlaw08_lives.f kj6).bind fun t218 => (some t218)) else (some false)) = some r := H
                        have A30 := Aside0.mk A300
                        clear A300
                        by_cases c31 : (t216 == t217) = true
                        · rw [if_pos c31] at H
                          have c31b0 : (t216 == t217) = true := c31
                          (try (have c31b1 : decide (t216 = t217) = true := by simpa using c31))
                          (try (have c31b2 : (t216 == t217) = true := by simpa using c31))
                          clear c31
                          replace H := Option.bind_eq_some_iff.mp H
                          obtain ⟨t218, A320, H⟩ := H
                          replace H : (some t218) = some r := H
                          have A32 := Aside0.mk A320
                          clear A320
                          obtain rfl := Option.some.inj H
                          go_wp2_with (first | ((with_reducible refine gate_callee (f := 39) rfl ?_); refine goesL_ (some 30) rfl rfl Try.func39 (by kernel_rfl) rfl #[.slice A0 l0.length c0] rfl (by (try simp only [List.map_toArray, List.map_cons, List.map_nil]); first | done | rfl | (simp only [List.length_drop, List.length_take]; rfl)) ?_; (with_reducible refine (deadwoodref08_Rises.calls kj6 _ _ l0 true _ ?side1 ?side2 A14.out).mono ?_); (case side1 => repeat (first | exact (Kd.C_below HR0.out HB.out) | (with_reducible refine Kd.C_alloc ?_ _) | (with_reducible refine Kd.C_drewN ?_ _) | (with_reducible refine Kd.C_drew ?_))); (case side2 => exact HC0.out); rintro e w' ⟨rfl, ⟨nd, rfl⟩⟩; refine ⟨_, rfl, ?_⟩) | ((with_reducible refine gate_dst (N := 33) rfl ?_); refine Kd.R_lit k61 _ 61 ?hg (N := 33) ?hd (xs := ([] : List (S61))) (inner := []) (ok := fun _ => True) (okp := fun _ => True) ?hr ?hp (fun _ hk => hk) trivial (Below.refl _ _) (Nat.le_refl _) (by simp) ?_; (case hd => rfl); (case hg => rfl); (case hr => first | (go_simp; done) | (go_simp; rfl)); (case hp => exact (Reps.none _ _)); intro v192 w33 ho34 hb hg_ hnew_; clear hg_ hnew_; (first | rw [← Ny191.out] at ho34 | (simp only [Int.reduceToNat] at ho34; rw [← Ny191.out] at ho34)); have n0_ := Aside0.mk (Kd.R_lower (Kd.R_newB ho34 (g := gb184) (o := .cells #[.int .i64 a1_0, .int .i64 a1_1] 61 (0, 0)) (by (with_reducible repeat (first | refine blk_drewN ?_ _ | refine blk_drew ?_ | refine blk_alloc ?_ _)); exact BK184.out)) (below_size (by repeat (first | (with_reducible first | exact HB.out | apply below_alloc | apply pw_below_drewN | apply below_drew1 | refine below_set ?_ GE184.out) | exact HB.out)))); have n1_ := Aside0.mk (blk_below (g := gb184) (o := .cells #[.int .i64 a1_0, .int .i64 a1_1] 61 (0, 0)) (by (with_reducible repeat (first | refine blk_drewN ?_ _ | refine blk_drew ?_ | refine blk_alloc ?_ _)); exact BK184.out) hb); have n2_ := Aside0.mk (below_step (by repeat (first | (with_reducible first | exact HB.out | apply below_alloc | apply pw_below_drewN | apply below_drew1 | refine below_set ?_ GE184.out) | exact HB.out)) hb); clear BK184; clear HB; have HO193 := n0_; have BK184 := n1_; have HB := n2_; clear n0_ n1_ n2_; clear hb ho34) | ((with_reducible refine gate_builtin (b := .append) (xs := #[.tmp 33, .tmp 34]) rfl ?_); at_builtin; refine Kd.R_append_rows k61 (w0 := w) w.heap.size rfl (.tmp 33) (.tmp 34) 39 61 (.agg #[(.int .i64 0), (.int .i64 0)]) 16 rfl Try.underlying39 info61 rfl (by decide) (by omega) v192 y191 l0 _ _ _ (fun k_ => k_ ≠ gb184) (fun _ => False) rfl rfl ?aO ?aR (fun _ _ h => h) (fun _ h => h.elim) ?aF ?aB ?aS ?aL ?_; (case aR => repeat (first | exact (Kd.C_below HR0.out HB.out) | (with_reducible refine Kd.C_alloc ?_ _) | (with_reducible refine Kd.C_drewN ?_ _) | (with_reducible refine Kd.C_drew ?_))); (case aB => exact (by repeat (first | (with_reducible first | exact HB.out | apply below_alloc | apply pw_below_drewN | apply below_drew1 | refine below_set ?_ GE184.out) | exact HB.out))); (case aF => exact (fun k_ hk => Kd.freshB (g := gb184) (o := .cells #[.int .i64 a1_0, .int .i64 a1_1] 61 (0, 0)) (by (with_reducible repeat (first | refine blk_drewN ?_ _ | refine blk_drew ?_ | refine blk_alloc ?_ _)); exact BK184.out) k_ hk)); (case aO => exact (by (with_reducible repeat (first | apply Kd.R_alloc | apply Kd.R_drewN | apply Kd.R_drew)); exact Kd.R_mono HO193.out (fun _ hk => hk.2))); (case aS => exact (below_size (by repeat (first | (with_reducible first | exact HB.out | apply below_alloc | apply pw_below_drewN | apply below_drew1 | refine below_set ?_ GE184.out) | exact HB.out)))); (case aL => have := LMc16.out; omega); intro v195 w35 ho hb hg hat; rw [← Ny194.out] at ho; have n0_ := Aside0.mk (blk_grown (g := gb184) (o := .cells #[.int .i64 a1_0, .int .i64 a1_1] 61 (0, 0)) (by (with_reducible repeat (first | refine blk_drewN ?_ _ | refine blk_drew ?_ | refine blk_alloc ?_ _)); exact BK184.out) hg (Kd.R_away HO193.out (fun _ hk => hk.2))); have n1_ := Aside0.mk (hb); have n2_ := Aside0.mk (ho); clear BK184; clear HB; clear HO193; have BK184 := n0_; have HB := n1_; have HO196 := n2_; clear n0_ n1_ n2_; clear ho hb hg hat; have hcz36_0 : w35.cell? ⟨gb184, 0, none⟩ = some (.int .i64 a1_0) := (blk_cell BK184.out 0).trans rfl; have hcz36_1 : w35.cell? ⟨gb184, 1, none⟩ = some (.int .i64 a1_1) := (blk_cell BK184.out 1).trans rfl; have hfz36_0 := blk_frozen BK184.out 0; have hfz36_1 := blk_frozen BK184.out 1) | ((with_reducible refine gate_callee (f := 52) rfl ?_); refine goesL_ (some 39) rfl rfl Try.func52 (by kernel_rfl) rfl #[.slice A0 l0.length c0, .agg #[.int .i64 a1_0, .int .i64 a1_1]] rfl (by (try simp only [List.map_toArray, List.map_cons, List.map_nil]); first | done | rfl | (simp only [List.length_drop, List.length_take]; rfl)) ?_; (with_reducible refine (pairs_Put.calls kj6 (fun k_ => k_ < w.heap.size) _ _ l0 a1_0 a1_1 t197 t200 _ ?side1 A17.out).mono ?_); (case side1 => exact Kd.V_mk HC0.out (Kd.F_below (Kd.C_F k61_heap HR0.out) (by repeat (first | (with_reducible first | exact HB.out | apply below_alloc | apply pw_below_drewN | apply below_drew1 | refine below_set ?_ GE184.out) | exact HB.out)))); rintro e w37 ⟨v198, rfl, ho0, hb⟩; refine ⟨_, rfl, ?_⟩; have n0_ := Aside0.mk (Kd.R_below (by (with_reducible repeat (first | apply Kd.R_alloc | apply Kd.R_drewN | apply Kd.R_drew)); exact HO196.out) hb); have n1_ := Aside0.mk (Kd.V_lower (Kd.V_mono (ok' := fun k_ => some k_ ≠ (v195 : Value).ownBlock ∧ k_ ≠ gb184) ho0 (fun k_ hk_ => ⟨Or.elim hk_ (fun hs_ => fun e_ => Nat.not_le.2 hs_ (Kd.R_base HO196.out k_ e_.symm)) (fun hn_ => (Kd.fresh' (Kd.R_lt (by (with_reducible repeat (first | apply Kd.R_alloc | apply Kd.R_drewN | apply Kd.R_drew)); exact HO196.out)) k_ hn_)), Or.elim hk_ (fun hs_ => fun e_ => Nat.not_le.2 hs_ (by rw [e_]; exact GW184.out)) (fun hn_ => (Kd.freshB (g := gb184) (o := .cells #[.int .i64 a1_0, .int .i64 a1_1] 61 (0, 0)) (by (with_reducible repeat (first | refine blk_drewN ?_ _ | refine blk_drew ?_ | refine blk_alloc ?_ _)); exact BK184.out) k_ hn_))⟩)) (below_size (by repeat (first | (with_reducible first | exact HB.out | apply below_alloc | apply pw_below_drewN | apply below_drew1 | refine below_set ?_ GE184.out) | exact HB.out)))); have n2_ := Aside0.mk (blk_below (g := gb184) (o := .cells #[.int .i64 a1_0, .int .i64 a1_1] 61 (0, 0)) (by (with_reducible repeat (first | refine blk_drewN ?_ _ | refine blk_drew ?_ | refine blk_alloc ?_ _)); exact BK184.out) hb); have n3_ := Aside0.mk (below_step (by repeat (first | (with_reducible first | exact HB.out | apply below_alloc | apply pw_below_drewN | apply below_drew1 | refine below_set ?_ GE184.out) | exact HB.out)) hb); clear HO196; clear BK184; clear HB; have HO196 := n0_; have HO199 := n1_; have BK184 := n2_; have HB := n3_; clear n0_ n1_ n2_ n3_; (try clear hb); (try clear hb2); (try clear hk); (try clear hi); (try clear ho0); have hcz38_0 : w37.cell? ⟨gb184, 0, none⟩ = some (.int .i64 a1_0) := (blk_cell BK184.out 0).trans rfl; have hcz38_1 : w37.cell? ⟨gb184, 1, none⟩ = some (.int .i64 a1_1) := (blk_cell BK184.out 1).trans rfl; have hfz38_0 := blk_frozen BK184.out 0; have hfz38_1 := blk_frozen BK184.out 1; obtain ⟨Ao39, co39, eo39⟩ := Kd.R_slice HO196.out; subst eo39) | ((with_reducible refine gate_callee (f := 53) rfl ?_); refine goesL_ (some 45) rfl rfl Try.func53 (by kernel_rfl) rfl #[.slice Ao39 y194.length co39, .agg #[.int .i64 a1_0, .int .i64 a1_1]] rfl (by (try simp only [List.map_toArray, List.map_cons, List.map_nil]); first | done | rfl | (simp only [List.length_drop, List.length_take]; rfl)) ?_; (with_reducible refine (deadwoodref08_Put.calls kj6 (fun k_ => some k_ = (.slice Ao39 y194.length co39 : Value).ownBlock) _ _ y194 a1_0 a1_1 t201 t204 _ ?side1 A18.out).mono ?_); (case side1 => exact Kd.R_V (Kd.R_tight rfl (HO196.out))); rintro e w40 ⟨v202, rfl, ho0, hb⟩; refine ⟨_, rfl, ?_⟩; have n0_ := Aside0.mk (Kd.R_below (by (with_reducible repeat (first | apply Kd.R_alloc | apply Kd.R_drewN | apply Kd.R_drew)); exact HO196.out) hb); have n1_ := Aside0.mk (Kd.V_below (by (with_reducible repeat (first | apply Kd.V_alloc | apply Kd.V_drewN | apply Kd.V_drew)); exact HO199.out) hb); have n2_ := Aside0.mk (Kd.V_lower (Kd.V_mono (ok' := fun k_ => k_ ≠ gb184) ho0 (fun k_ hk_ => Or.elim hk_ (fun hs_ => ((HO196.out).1 k_ hs_.symm)) (fun hn_ => (Kd.freshB (g := gb184) (o := .cells #[.int .i64 a1_0, .int .i64 a1_1] 61 (0, 0)) (by (with_reducible repeat (first | refine blk_drewN ?_ _ | refine blk_drew ?_ | refine blk_alloc ?_ _)); exact BK184.out) k_ hn_)))) (below_size (by repeat (first | (with_reducible first | exact HB.out | apply below_alloc | apply pw_below_drewN | apply below_drew1 | refine below_set ?_ GE184.out) | exact HB.out)))); have n3_ := Aside0.mk (blk_below (g := gb184) (o := .cells #[.int .i64 a1_0, .int .i64 a1_1] 61 (0, 0)) (by (with_reducible repeat (first | refine blk_drewN ?_ _ | refine blk_drew ?_ | refine blk_alloc ?_ _)); exact BK184.out) hb); have n4_ := Aside0.mk (below_step (by repeat (first | (with_reducible first | exact HB.out | apply below_alloc | apply pw_below_drewN | apply below_drew1 | refine below_set ?_ GE184.out) | exact HB.out)) hb); clear HO196; clear HO199; clear BK184; clear HB; have HO196 := n0_; have HO199 := n1_; have HO203 := n2_; have BK184 := n3_; have HB := n4_; clear n0_ n1_ n2_ n3_ n4_; (try clear hb); (try clear hb2); (try clear hk); (try clear hi); (try clear ho0); have hcz41_0 : w40.cell? ⟨gb184, 0, none⟩ = some (.int .i64 a1_0) := (blk_cell BK184.out 0).trans rfl; have hcz41_1 : w40.cell? ⟨gb184, 1, none⟩ = some (.int .i64 a1_1) := (blk_cell BK184.out 1).trans rfl; have hfz41_0 := blk_frozen BK184.out 0; have hfz41_1 := blk_frozen BK184.out 1) | ((with_reducible refine gate_callee (f := 54) rfl ?_); refine goesL_ (some 52) rfl rfl Try.func54 (by kernel_rfl) rfl #[.slice A0 l0.length c0, .int .i64 a1_0] rfl (by (try simp only [List.map_toArray, List.map_cons, List.map_nil]); first | done | rfl | (simp only [List.length_drop, List.length_take]; rfl)) ?_; (with_reducible refine (pairs_Drop.calls kj6 (fun k_ => k_ < w.heap.size) _ _ l0 a1_0 t205 t208 _ ?side1 A19.out).mono ?_); (case side1 => exact Kd.V_mk HC0.out (Kd.F_below (Kd.C_F k61_heap HR0.out) (by repeat (first | (with_reducible first | exact HB.out | apply below_alloc | apply pw_below_drewN | apply below_drew1 | refine below_set ?_ GE184.out) | exact HB.out)))); rintro e w42 ⟨v206, rfl, ho0, hb⟩; refine ⟨_, rfl, ?_⟩; have n0_ := Aside0.mk (Kd.R_below (by (with_reducible repeat (first | apply Kd.R_alloc | apply Kd.R_drewN | apply Kd.R_drew)); exact HO196.out) hb); have n1_ := Aside0.mk (Kd.V_below (by (with_reducible repeat (first | apply Kd.V_alloc | apply Kd.V_drewN | apply Kd.V_drew)); exact HO199.out) hb); have n2_ := Aside0.mk (Kd.V_below (by (with_reducible repeat (first | apply Kd.V_alloc | apply Kd.V_drewN | apply Kd.V_drew)); exact HO203.out) hb); have n3_ := Aside0.mk (Kd.V_lower (Kd.V_mono (ok' := fun k_ => some k_ ≠ (.slice Ao39 y194.length co39 : Value).ownBlock ∧ k_ ≠ gb184) ho0 (fun k_ hk_ => ⟨Or.elim hk_ (fun hs_ => fun e_ => Nat.not_le.2 hs_ (Kd.R_base HO196.out k_ e_.symm)) (fun hn_ => (Kd.fresh' (Kd.R_lt (by (with_reducible repeat (first | apply Kd.R_alloc | apply Kd.R_drewN | apply Kd.R_drew)); exact HO196.out)) k_ hn_)), Or.elim hk_ (fun hs_ => fun e_ => Nat.not_le.2 hs_ (by rw [e_]; exact GW184.out)) (fun hn_ => (Kd.freshB (g := gb184) (o := .cells #[.int .i64 a1_0, .int .i64 a1_1] 61 (0, 0)) (by (with_reducible repeat (first | refine blk_drewN ?_ _ | refine blk_drew ?_ | refine blk_alloc ?_ _)); exact BK184.out) k_ hn_))⟩)) (below_size (by repeat (first | (with_reducible first | exact HB.out | apply below_alloc | apply pw_below_drewN | apply below_drew1 | refine below_set ?_ GE184.out) | exact HB.out)))); have n4_ := Aside0.mk (blk_below (g := gb184) (o := .cells #[.int .i64 a1_0, .int .i64 a1_1] 61 (0, 0)) (by (with_reducible repeat (first | refine blk_drewN ?_ _ | refine blk_drew ?_ | refine blk_alloc ?_ _)); exact BK184.out) hb); have n5_ := Aside0.mk (below_step (by repeat (first | (with_reducible first | exact HB.out | apply below_alloc | apply pw_below_drewN | apply below_drew1 | refine below_set ?_ GE184.out) | exact HB.out)) hb); clear HO196; clear HO199; clear HO203; clear BK184; clear HB; have HO196 := n0_; have HO199 := n1_; have HO203 := n2_; have HO207 := n3_; have BK184 := n4_; have HB := n5_; clear n0_ n1_ n2_ n3_ n4_ n5_; (try clear hb); (try clear hb2); (try clear hk); (try clear hi); (try clear ho0); have hcz43_0 : w42.cell? ⟨gb184, 0, none⟩ = some (.int .i64 a1_0) := (blk_cell BK184.out 0).trans rfl; have hcz43_1 : w42.cell? ⟨gb184, 1, none⟩ = some (.int .i64 a1_1) := (blk_cell BK184.out 1).trans rfl; have hfz43_0 := blk_frozen BK184.out 0; have hfz43_1 := blk_frozen BK184.out 1) | ((with_reducible refine gate_callee (f := 55) rfl ?_); refine goesL_ (some 59) rfl rfl Try.func55 (by kernel_rfl) rfl #[.slice Ao39 y194.length co39, .int .i64 a1_0] rfl (by (try simp only [List.map_toArray, List.map_cons, List.map_nil]); first | done | rfl | (simp only [List.length_drop, List.length_take]; rfl)) ?_; (with_reducible refine (deadwoodref08_Drop.calls kj6 (fun k_ => some k_ = (.slice Ao39 y194.length co39 : Value).ownBlock) _ _ y194 a1_0 t209 t212 _ ?side1 A20.out).mono ?_); (case side1 => exact Kd.R_V (Kd.R_tight rfl (HO196.out))); rintro e w44 ⟨v210, rfl, ho0, hb⟩; refine ⟨_, rfl, ?_⟩; have n0_ := Aside0.mk (Kd.R_below (by (with_reducible repeat (first | apply Kd.R_alloc | apply Kd.R_drewN | apply Kd.R_drew)); exact HO196.out) hb); have n1_ := Aside0.mk (Kd.V_below (by (with_reducible repeat (first | apply Kd.V_alloc | apply Kd.V_drewN | apply Kd.V_drew)); exact HO199.out) hb); have n2_ := Aside0.mk (Kd.V_below (by (with_reducible repeat (first | apply Kd.V_alloc | apply Kd.V_drewN | apply Kd.V_drew)); exact HO203.out) hb); have n3_ := Aside0.mk (Kd.V_below (by (with_reducible repeat (first | apply Kd.V_alloc | apply Kd.V_drewN | apply Kd.V_drew)); exact HO207.out) hb); have n4_ := Aside0.mk (Kd.V_lower (Kd.V_mono (ok' := fun k_ => k_ ≠ gb184) ho0 (fun k_ hk_ => Or.elim hk_ (fun hs_ => ((HO196.out).1 k_ hs_.symm)) (fun hn_ => (Kd.freshB (g := gb184) (o := .cells #[.int .i64 a1_0, .int .i64 a1_1] 61 (0, 0)) (by (with_reducible repeat (first | refine blk_drewN ?_ _ | refine blk_drew ?_ | refine blk_alloc ?_ _)); exact BK184.out) k_ hn_)))) (below_size (by repeat (first | (with_reducible first | exact HB.out | apply below_alloc | apply pw_below_drewN | apply below_drew1 | refine below_set ?_ GE184.out) | exact HB.out)))); have n5_ := Aside0.mk (blk_below (g := gb184) (o := .cells #[.int .i64 a1_0, .int .i64 a1_1] 61 (0, 0)) (by (with_reducible repeat (first | refine blk_drewN ?_ _ | refine blk_drew ?_ | refine blk_alloc ?_ _)); exact BK184.out) hb); have n6_ := Aside0.mk (below_step (by repeat (first | (with_reducible first | exact HB.out | apply below_alloc | apply pw_below_drewN | apply below_drew1 | refine below_set ?_ GE184.out) | exact HB.out)) hb); clear HO196; clear HO199; clear HO203; clear HO207; clear BK184; clear HB; have HO196 := n0_; have HO199 := n1_; have HO203 := n2_; have HO207 := n3_; have HO211 := n4_; have BK184 := n5_; have HB := n6_; clear n0_ n1_ n2_ n3_ n4_ n5_ n6_; (try clear hb); (try clear hb2); (try clear hk); (try clear hi); (try clear ho0); obtain ⟨Ao45, co45, eo45⟩ := Kd.V_slice HO199.out; subst eo45; obtain ⟨Ao46, co46, eo46⟩ := Kd.V_slice HO203.out; subst eo46) | (go_at_call 47; (with_reducible refine (deadwoodref08_Same.calls kj6 _ _ t197 _ _ t201 true _ ?side1 ?side2 ?side3 ?side4 A23.out).mono ?_); (case side1 => repeat (first | exact (Kd.V_reads' HO199.out).2.2 | (with_reducible refine Kd.C_alloc ?_ _) | (with_reducible refine Kd.C_drewN ?_ _) | (with_reducible refine Kd.C_drew ?_))); (case side2 => exact (Kd.V_reads' HO199.out).2.1); (case side3 => repeat (first | exact (Kd.V_reads' HO203.out).2.2 | (with_reducible refine Kd.C_alloc ?_ _) | (with_reducible refine Kd.C_drewN ?_ _) | (with_reducible refine Kd.C_drew ?_))); (case side4 => exact (Kd.V_reads' HO203.out).2.1); rintro e w' ⟨rfl, ⟨nd, rfl⟩⟩; obtain ⟨Ao47, co47, eo47⟩ := Kd.V_slice HO207.out; subst eo47; obtain ⟨Ao48, co48, eo48⟩ := Kd.V_slice HO211.out; subst eo48) | (go_at_call 47; (with_reducible refine (deadwoodref08_Same.calls kj6 _ _ t205 _ _ t209 true _ ?side1 ?side2 ?side3 ?side4 A25.out).mono ?_); (case side1 => repeat (first | exact (Kd.V_reads' HO207.out).2.2 | (with_reducible refine Kd.C_alloc ?_ _) | (with_reducible refine Kd.C_drewN ?_ _) | (with_reducible refine Kd.C_drew ?_))); (case side2 => exact (Kd.V_reads' HO207.out).2.1); (case side3 => repeat (first | exact (Kd.V_reads' HO211.out).2.2 | (with_reducible refine Kd.C_alloc ?_ _) | (with_reducible refine Kd.C_drewN ?_ _) | (with_reducible refine Kd.C_drew ?_))); (case side4 => exact (Kd.V_reads' HO211.out).2.1); rintro e w' ⟨rfl, ⟨nd, rfl⟩⟩) | (go_at_call 47; (with_reducible refine (deadwoodref08_Same.calls kj6 _ _ l0 _ _ y194 true _ ?side1 ?side2 ?side3 ?side4 A27.out).mono ?_); (case side1 => repeat (first | exact (Kd.C_below HR0.out (by repeat (first | (with_reducible first | exact HB.out | apply below_alloc | apply pw_below_drewN | apply below_drew1 | refine below_set ?_ GE184.out) | exact HB.out))) | (with_reducible refine Kd.C_alloc ?_ _) | (with_reducible refine Kd.C_drewN ?_ _) | (with_reducible refine Kd.C_drew ?_))); (case side2 => exact HC0.out); (case side3 => repeat (first | exact (Kd.R_reads' HO196.out).2.2 | (with_reducible refine Kd.C_alloc ?_ _) | (with_reducible refine Kd.C_drewN ?_ _) | (with_reducible refine Kd.C_drew ?_))); (case side4 => exact (Kd.R_reads' HO196.out).2.1); rintro e w' ⟨rfl, ⟨nd, rfl⟩⟩) | (go_at_call 51; (with_reducible refine (pairs_Same.calls kj6 _ _ t197 _ _ t205 t216 _ ?side1 ?side2 ?side3 ?side4 A29.out).mono ?_); (case side1 => repeat (first | exact (Kd.V_reads' HO199.out).2.2 | (with_reducible refine Kd.C_alloc ?_ _) | (with_reducible refine Kd.C_drewN ?_ _) | (with_reducible refine Kd.C_drew ?_))); (case side2 => exact (Kd.V_reads' HO199.out).2.1); (case side3 => repeat (first | exact (Kd.V_reads' HO207.out).2.2 | (with_reducible refine Kd.C_alloc ?_ _) | (with_reducible refine Kd.C_drewN ?_ _) | (with_reducible refine Kd.C_drew ?_))); (case side4 => exact (Kd.V_reads' HO207.out).2.1); rintro e w' ⟨rfl, ⟨nd, rfl⟩⟩) | (go_at_call 47; (with_reducible refine (deadwoodref08_Same.calls kj6 _ _ t201 _ _ t209 t217 _ ?side1 ?side2 ?side3 ?side4 A30.out).mono ?_); (case side1 => repeat (first | exact (Kd.V_reads' HO203.out).2.2 | (with_reducible refine Kd.C_alloc ?_ _) | (with_reducible refine Kd.C_drewN ?_ _) | (with_reducible refine Kd.C_drew ?_))); (case side2 => exact (Kd.V_reads' HO203.out).2.1); (case side3 => repeat (first | exact (Kd.V_reads' HO211.out).2.2 | (with_reducible refine Kd.C_alloc ?_ _) | (with_reducible refine Kd.C_drewN ?_ _) | (with_reducible refine Kd.C_drew ?_))); (case side4 => exact (Kd.V_reads' HO211.out).2.1); rintro e w' ⟨rfl, ⟨nd, rfl⟩⟩) | (go_at_call 40; (with_reducible refine (deadwoodlaw08_lives.calls kj6  t218 _ A32.out).mono ?_); rintro e w49 ⟨rfl, hb⟩; have n0_ := Aside0.mk (Kd.R_below (by (with_reducible repeat (first | apply Kd.R_alloc | apply Kd.R_drewN | apply Kd.R_drew)); exact HO196.out) hb); have n1_ := Aside0.mk (Kd.V_below (by (with_reducible repeat (first | apply Kd.V_alloc | apply Kd.V_drewN | apply Kd.V_drew)); exact HO199.out) hb); have n2_ := Aside0.mk (Kd.V_below (by (with_reducible repeat (first | apply Kd.V_alloc | apply Kd.V_drewN | apply Kd.V_drew)); exact HO203.out) hb); have n3_ := Aside0.mk (Kd.V_below (by (with_reducible repeat (first | apply Kd.V_alloc | apply Kd.V_drewN | apply Kd.V_drew)); exact HO207.out) hb); have n4_ := Aside0.mk (Kd.V_below (by (with_reducible repeat (first | apply Kd.V_alloc | apply Kd.V_drewN | apply Kd.V_drew)); exact HO211.out) hb); have n5_ := Aside0.mk (blk_below (g := gb184) (o := .cells #[.int .i64 a1_0, .int .i64 a1_1] 61 (0, 0)) (by (with_reducible repeat (first | refine blk_drewN ?_ _ | refine blk_drew ?_ | refine blk_alloc ?_ _)); exact BK184.out) hb); have n6_ := Aside0.mk (below_step (by repeat (first | (with_reducible first | exact HB.out | apply below_alloc | apply pw_below_drewN | apply below_drew1 | refine below_set ?_ GE184.out) | exact HB.out)) hb); clear HO196; clear HO199; clear HO203; clear HO207; clear HO211; clear BK184; clear HB; have HO196 := n0_; have HO199 := n1_; have HO203 := n2_; have HO207 := n3_; have HO211 := n4_; have BK184 := n5_; have HB := n6_; clear n0_ n1_ n2_ n3_ n4_ n5_ n6_; (try clear hb); (try clear hb2); (try clear hk); (try clear hi)))
                          go_ret
                          exact ⟨by first | rfl | (simp [errW_none, errW_some] <;> rfl) | (simp [*, errW_none, errW_some] <;> rfl), by repeat (first | (with_reducible first | exact HB.out | apply below_alloc | apply pw_below_drewN | apply below_drew1 | refine below_set ?_ GE184.out) | exact HB.out)⟩
                        · rw [if_neg c31] at H
                          have c31b0 : (t216 == t217) = false := by simpa using c31
                          (try (have c31b1 : decide (t216 = t217) = false := by simpa using c31))
                          (try (have c31b2 : (t216 == t217) = false := by simpa using c31))
                          (try (have c31b3 : ¬ (t216 = t217) := by simpa using c31))
                          clear c31
                          exact absurd (Option.some.inj H) (by rw [HRT.out]; decide)
                      · replace c28 := Bool.eq_false_iff.mpr c28
                        subst c28
                        have H1 : (some false) = some r := by rw [if_neg (show ¬ (false = true) by decide)] at H; exact H
                        clear H
                        have H := H1
                        clear H1
                        exact absurd (Option.some.inj H) (by rw [HRT.out]; decide)
                    · replace c26 := Bool.eq_false_iff.mpr c26
                      subst c26
                      have H1 : (some false) = some r := by rw [if_neg (show ¬ (false = true) by decide)] at H; exact H
                      clear H
                      have H := H1
                      clear H1
                      exact absurd (Option.some.inj H) (by rw [HRT.out]; decide)
                  · replace c24 := Bool.eq_false_iff.mpr c24
                    subst c24
                    have H1 : (some false) = some r := by rw [if_neg (show ¬ (false = true) by decide)] at H; exact H
                    clear H
                    have H := H1
                    clear H1
                    exact absurd (Option.some.inj H) (by rw [HRT.out]; decide)
                · rw [if_neg c22] at H
                  have c22b0 : (t208 == t212) = false := by simpa using c22
                  (try (have c22b1 : decide (t208 = t212) = false := by simpa using c22))
                  (try (have c22b2 : (t208 == t212) = false := by simpa using c22))
                  (try (have c22b3 : ¬ (t208 = t212) := by simpa using c22))
                  clear c22
                  exact absurd (Option.some.inj H) (by rw [HRT.out]; decide)
              · rw [if_neg c21] at H
                have c21b0 : (t200 == t204) = false := by simpa using c21
                (try (have c21b1 : decide (t200 = t204) = false := by simpa using c21))
                (try (have c21b2 : (t200 == t204) = false := by simpa using c21))
                (try (have c21b3 : ¬ (t200 = t204) := by simpa using c21))
                clear c21
                exact absurd (Option.some.inj H) (by rw [HRT.out]; decide)
            · rw [if_neg c16] at H
              exact absurd H (by simp)
          · replace c15 := Bool.eq_false_iff.mpr c15
            subst c15
            have H1 : ((deadwoodlaw08_lives.f kj6).bind fun t190 => (some t190)) = some r := by rw [if_neg (show ¬ (false = true) by decide)] at H; exact H
            clear H
            have H := H1
            clear H1
            replace H := Option.bind_eq_some_iff.mp H
            obtain ⟨t190, A500, H⟩ := H
            replace H : (some t190) = some r := H
            have A50 := Aside0.mk A500
            clear A500
            obtain rfl := Option.some.inj H
            go_wp2_with (first | ((with_reducible refine gate_callee (f := 39) rfl ?_); refine goesL_ (some 30) rfl rfl Try.func39 (by kernel_rfl) rfl #[.slice A0 l0.length c0] rfl (by (try simp only [List.map_toArray, List.map_cons, List.map_nil]); first | done | rfl | (simp only [List.length_drop, List.length_take]; rfl)) ?_; (with_reducible refine (deadwoodref08_Rises.calls kj6 _ _ l0 false _ ?side1 ?side2 A14.out).mono ?_); (case side1 => repeat (first | exact (Kd.C_below HR0.out HB.out) | (with_reducible refine Kd.C_alloc ?_ _) | (with_reducible refine Kd.C_drewN ?_ _) | (with_reducible refine Kd.C_drew ?_))); (case side2 => exact HC0.out); rintro e w' ⟨rfl, ⟨nd, rfl⟩⟩; refine ⟨_, rfl, ?_⟩) | ((with_reducible refine gate_callee (f := 40) rfl ?_); refine goesL_ (some 32) rfl rfl Try.func40 (by kernel_rfl) rfl #[] rfl (by (try simp only [List.map_toArray, List.map_cons, List.map_nil]); first | done | rfl | (simp only [List.length_drop, List.length_take]; rfl)) ?_; (with_reducible refine (deadwoodlaw08_lives.calls kj6  t190 _ A50.out).mono ?_); rintro e w51 ⟨rfl, hb⟩; refine ⟨_, rfl, ?_⟩; have n0_ := Aside0.mk (blk_below (g := gb184) (o := .cells #[.int .i64 a1_0, .int .i64 a1_1] 61 (0, 0)) (by (with_reducible repeat (first | refine blk_drewN ?_ _ | refine blk_drew ?_ | refine blk_alloc ?_ _)); exact BK184.out) hb); have n1_ := Aside0.mk (below_step (by repeat (first | (with_reducible first | exact HB.out | apply below_alloc | apply pw_below_drewN | apply below_drew1 | refine below_set ?_ GE184.out) | exact HB.out)) hb); clear BK184; clear HB; have BK184 := n0_; have HB := n1_; clear n0_ n1_; (try clear hb); (try clear hb2); (try clear hk); (try clear hi)))
            go_ret
            exact ⟨by first | rfl | (simp [errW_none, errW_some] <;> rfl) | (simp [*, errW_none, errW_some] <;> rfl), by repeat (first | (with_reducible first | exact HB.out | apply below_alloc | apply pw_below_drewN | apply below_drew1 | refine below_set ?_ GE184.out) | exact HB.out)⟩

/-- What is known of a value of type 61 that came in. -/
def ok61 (x : S61) : Prop := ((Lit.int .i64 x.f0).wf = true) ∧ ((Lit.int .i64 x.f1).wf = true)
/-- The one pure statement of deadwoodlaw08_PairsPuts. -/
def deadwoodlaw08_PairsPuts.Pure : Prop := ∀ (l0 : List (S61)) (x1 : S61), (l0.length * 16 ≤ 140737488351232 ∧ ∀ a ∈ l0, ok61 a) → (ok61 x1) → ∃ k, deadwoodlaw08_PairsPuts.f k l0 x1.f0 x1.f1 = some true
theorem deadwoodlaw08_PairsPuts.walk (P : deadwoodlaw08_PairsPuts.Pure) (l0 : List (S61)) (A0 : Option Addr) (c0 : Nat) (x1 : S61) (w : World) (w0 : l0.length * 16 ≤ 140737488351232 ∧ ∀ a ∈ l0, ok61 a) (w1 : ok61 x1) (hr0 : Kd.C k61 w A0 l0.length l0) (hc0 : l0.length ≤ c0) :
    Calls Try.prog 12 #[.slice A0 l0.length c0, .agg #[.int .i64 x1.f0, .int .i64 x1.f1]] w fun e w' => e = .returned (.bool true) ∧ Below w.heap.size w w' := by
  obtain ⟨k, h⟩ := P l0 x1 w0 w1
  refine (deadwoodlaw08_PairsPuts.calls k _ _ l0 x1.f0 x1.f1 true w hr0 hc0 rfl h).mono ?_
  rintro e w' ⟨rfl, hd⟩
  exact ⟨rfl, hd⟩

end Go.Proofs.Ytckbndckfeicmaa.PPairsPuts
