-- Printed by a program of this session (mkprint.py) out of the translation; Lean checks it.
import Derived.Test.YtkkneaefjahihaaZPModelToldx8
import Derived.Test.YtkkneaefjahihaaZPModelToldx6
import Derived.Test.YtkkneaefjahihaaZPModelToldx4
import Derived.Test.YtkkneaefjahihaaZPModelToldx3
import Derived.Test.YtkkneaefjahihaaZPModelToldx1
import Derived.Test.YtkkneaefjahihaaZBxs
import Derived.Test.YtkkneaefjahihaaZPModelToldx0
import Derived.Test.YtkkneaefjahihaaZPModelToldx2
import Derived.Test.YtkkneaefjahihaaZPModelToldx5
import Derived.Test.YtkkneaefjahihaaZPModelToldx7
import Derived.Test.YtkkneaefjahihaaZPModelToldx9
namespace Go.Proofs.Ytkkneaefjahihaa.PModelTold
open Go.RowKit Go.Proofs.YtkkneaefjahihaaW.PrintWords Go.Proofs.YtkkneaefjahihaaW.PrintLast Go.Proofs.YtkkneaefjahihaaW.PrintMore
attribute [local go_sem] max2_int min2_int max_two min_two max_three min_three max_four min_four   -- for this text's walks alone
set_option linter.unusedVariables false
set_option linter.unusedSimpArgs false

/-! ### deadwoodref10_found: function 31 -/
def deadwoodref10_found.f (l0 : List (S49)) (a1 : Int) : Option (Int × Int × Int × Int × (List (S49))) := if a1 < 0 then (some (4, 0, 0, 0, ([] : List (S49)))) else (if a1 ≥ (l0.length : Int) then (some (4, 0, 0, 0, ([] : List (S49)))) else (if 0 ≤ a1 then (if a1 < (l0.length : Int) then (some (1, (rd_T49 l0 a1).f0, (rd_T49 l0 a1).f1, 0, ([] : List (S49)))) else (none)) else (none)))
def deadwoodref10_found.T3 : Bool × List (List Nat × List Nat) := (true, [([], []), ([], []), ([0, 1], [0, 1]), ([2], [2]), ([3], [3]), ([], []), ([], []), ([5, 6], [5, 6]), ([7], [7]), ([8], [8]), ([4, 9], [4, 9]), ([10, 0, 1, 2, 3, 4, 5, 6, 7, 8, 9, 10], [10])])
def deadwoodref10_found.B3 : List Nat := [0, 0, 3, 7, 15, 0, 0, 96, 224, 480, 1023, 2047]
theorem deadwoodref10_found.tab3 : rtab .any (opsOf Try.f31 3) = deadwoodref10_found.T3 := by kernel_rfl
theorem deadwoodref10_found.bits3 : waitsOk deadwoodref10_found.T3.2 deadwoodref10_found.B3 = true := by kernel_rfl
set_option maxHeartbeats 8000000 in
set_option maxRecDepth 100000 in
theorem deadwoodref10_found.calls (A0 : Option Addr) (c0 : Nat) (l0 : List (S49)) (a1 : Int) (r1 : Int) (r2 : Int) (r3 : Int) (r4 : Int) (r5 : List (S49)) (w : World) (hr0 : Kd.C k49 w A0 l0.length l0) (hc0 : l0.length ≤ c0) (h : deadwoodref10_found.f l0 a1 = some (r1, r2, r3, r4, r5)) :
    Calls Try.prog 31 #[.slice A0 l0.length c0, .int .i64 a1] w fun e w' => ∃ v4_ : Value, e = .returned (.agg #[.int .i64 r1, .int .i64 r2, .int .i64 r3, .int .i64 r4, v4_]) ∧ Kd.R k49 49 w' w.heap.size (fun _ => True) v4_ r5 ∧ Below w.heap.size w w' := by
  have hu34 := Try.underlying34
  have HR0 := Aside0.mk hr0
  have HC0 := Aside0.mk hc0
  clear hr0 hc0
  have HB := Aside0.mk (Below.refl w.heap.size w)
  have H : (if a1 < 0 then (some (4, 0, 0, 0, ([] : List (S49)))) else (if a1 ≥ (l0.length : Int) then (some (4, 0, 0, 0, ([] : List (S49)))) else (if 0 ≤ a1 then (if a1 < (l0.length : Int) then (some (1, (rd_T49 l0 a1).f0, (rd_T49 l0 a1).f1, 0, ([] : List (S49)))) else (none)) else (none)))) = some (r1, r2, r3, r4, r5) := h
  clear h
  by_cases c3 : a1 < 0
  · rw [if_pos c3] at H
    have c3b0 : decide (a1 < 0) = true := decide_eq_true c3
    clear c3
    simp only [Option.some.injEq, Prod.mk.injEq] at H
    obtain ⟨rfl, rfl, rfl, rfl, rfl⟩ := H
    go_enter Try.func31, Try.ntmps31
    go_wp2_with (first | ((with_reducible refine gate_dst (N := 4) rfl ?_); (try (refine gate_guard (by rfl) ?_; dsimp only)); refine box_event ?hg (N := 4) ?hd (cs := #[.int .i64 0, .int .i64 0, .int .i64 0, .int .i64 0, .slice none 0 0]) (t := 34) ?hr ?_; (case hd => rfl); (case hg => rfl); (case hr => first | (go_simp; done) | (go_simp; rfl)); intro gb399 hg w4 hbox hb; have n0_ := Aside0.mk (below_step (by repeat (first | (with_reducible first | exact HB.out | apply below_alloc | apply pw_below_drewN | apply below_drew1) | exact HB.out)) hb); have n1_ := Aside0.mk (hbox); have n2_ := Aside0.mk ((by rw [hg]; exact (below_size (by repeat (first | (with_reducible first | exact HB.out | apply below_alloc | apply pw_below_drewN | apply below_drew1) | exact HB.out))) : w.heap.size ≤ gb399)); have n3_ := Aside0.mk ((by rw [hg]; exact (below_size (by repeat (first | (with_reducible first | exact HB.out | apply below_alloc | apply pw_below_drewN | apply below_drew1) | exact HB.out))) : w.heap.size ≤ gb399)); clear HB; have HB := n0_; have BK399 := n1_; have GW399 := n2_; have GE399 := n3_; clear n0_ n1_ n2_ n3_; clear hb hbox hg; have hcz5_0 : w4.cell? ⟨gb399, 0, none⟩ = some (.int .i64 0) := (blk_cell BK399.out 0).trans rfl; have hcz5_1 : w4.cell? ⟨gb399, 1, none⟩ = some (.int .i64 0) := (blk_cell BK399.out 1).trans rfl; have hcz5_2 : w4.cell? ⟨gb399, 2, none⟩ = some (.int .i64 0) := (blk_cell BK399.out 2).trans rfl; have hcz5_3 : w4.cell? ⟨gb399, 3, none⟩ = some (.int .i64 0) := (blk_cell BK399.out 3).trans rfl; have hcz5_4 : w4.cell? ⟨gb399, 4, none⟩ = some (.slice none 0 0) := (blk_cell BK399.out 4).trans rfl; have hfz5_0 := blk_frozen BK399.out 0; have hfz5_1 := blk_frozen BK399.out 1; have hfz5_2 := blk_frozen BK399.out 2; have hfz5_3 := blk_frozen BK399.out 3; have hfz5_4 := blk_frozen BK399.out 4))
    refine bodyPost_ret (results_cell_row rfl _ _ gb399 34 #[.int .i64 4, .int .i64 0, .int .i64 0, .int .i64 0, .slice none 0 0] (0, 0) _ rfl (by (with_reducible repeat (first | refine blk_drewN ?_ _ | refine blk_drew ?_ | refine blk_alloc ?_ _)); refine blk_put (cs := #[.int .i64 4, .int .i64 0, .int .i64 0, .int .i64 0, .slice none 0 0]) ?_ 4 _ rfl; (with_reducible repeat (first | refine blk_drewN ?_ _ | refine blk_drew ?_ | refine blk_alloc ?_ _)); refine blk_put (cs := #[.int .i64 4, .int .i64 0, .int .i64 0, .int .i64 0, .slice none 0 0]) ?_ 3 _ rfl; (with_reducible repeat (first | refine blk_drewN ?_ _ | refine blk_drew ?_ | refine blk_alloc ?_ _)); refine blk_put (cs := #[.int .i64 4, .int .i64 0, .int .i64 0, .int .i64 0, .slice none 0 0]) ?_ 2 _ rfl; (with_reducible repeat (first | refine blk_drewN ?_ _ | refine blk_drew ?_ | refine blk_alloc ?_ _)); refine blk_put (cs := #[.int .i64 4, .int .i64 0, .int .i64 0, .int .i64 0, .slice none 0 0]) ?_ 1 _ rfl; (with_reducible repeat (first | refine blk_drewN ?_ _ | refine blk_drew ?_ | refine blk_alloc ?_ _)); refine blk_put (cs := #[.int .i64 0, .int .i64 0, .int .i64 0, .int .i64 0, .slice none 0 0]) ?_ 0 _ rfl; (with_reducible repeat (first | refine blk_drewN ?_ _ | refine blk_drew ?_ | refine blk_alloc ?_ _)); exact BK399.out) Try.underlying34 rfl (by kernel_rfl)) rfl ?_
    exact ⟨_, by first | rfl | (simp [errW_none, errW_some] <;> rfl) | (simp [*, errW_none, errW_some] <;> rfl), by first | exact Kd.R_nil _ _ _ _ _ | exact Kd.N_nil _ _ _ _ _ | exact Kd.V_nil _ _ _ _ _ | exact Kd.Q_nil _ _ _ _ _ | exact Kd.S_nil _ _ _ _ _, by repeat (first | (with_reducible first | exact HB.out | apply below_alloc | apply pw_below_drewN | apply below_drew1 | refine below_set ?_ GE399.out) | exact HB.out)⟩
  · rw [if_neg c3] at H
    have c3b0 : decide (a1 < 0) = false := decide_eq_false c3
    clear c3
    by_cases c6 : a1 ≥ (l0.length : Int)
    · rw [if_pos c6] at H
      have c6b0 : decide ((l0.length : Int) ≤ a1) = true := decide_eq_true c6
      clear c6
      simp only [Option.some.injEq, Prod.mk.injEq] at H
      obtain ⟨rfl, rfl, rfl, rfl, rfl⟩ := H
      go_enter Try.func31, Try.ntmps31
      go_wp2_with (first | ((with_reducible refine gate_dst (N := 4) rfl ?_); (try (refine gate_guard (by rfl) ?_; dsimp only)); refine box_event ?hg (N := 4) ?hd (cs := #[.int .i64 0, .int .i64 0, .int .i64 0, .int .i64 0, .slice none 0 0]) (t := 34) ?hr ?_; (case hd => rfl); (case hg => rfl); (case hr => first | (go_simp; done) | (go_simp; rfl)); intro gb399 hg w7 hbox hb; have n0_ := Aside0.mk (below_step (by repeat (first | (with_reducible first | exact HB.out | apply below_alloc | apply pw_below_drewN | apply below_drew1) | exact HB.out)) hb); have n1_ := Aside0.mk (hbox); have n2_ := Aside0.mk ((by rw [hg]; exact (below_size (by repeat (first | (with_reducible first | exact HB.out | apply below_alloc | apply pw_below_drewN | apply below_drew1) | exact HB.out))) : w.heap.size ≤ gb399)); have n3_ := Aside0.mk ((by rw [hg]; exact (below_size (by repeat (first | (with_reducible first | exact HB.out | apply below_alloc | apply pw_below_drewN | apply below_drew1) | exact HB.out))) : w.heap.size ≤ gb399)); clear HB; have HB := n0_; have BK399 := n1_; have GW399 := n2_; have GE399 := n3_; clear n0_ n1_ n2_ n3_; clear hb hbox hg; have hcz8_0 : w7.cell? ⟨gb399, 0, none⟩ = some (.int .i64 0) := (blk_cell BK399.out 0).trans rfl; have hcz8_1 : w7.cell? ⟨gb399, 1, none⟩ = some (.int .i64 0) := (blk_cell BK399.out 1).trans rfl; have hcz8_2 : w7.cell? ⟨gb399, 2, none⟩ = some (.int .i64 0) := (blk_cell BK399.out 2).trans rfl; have hcz8_3 : w7.cell? ⟨gb399, 3, none⟩ = some (.int .i64 0) := (blk_cell BK399.out 3).trans rfl; have hcz8_4 : w7.cell? ⟨gb399, 4, none⟩ = some (.slice none 0 0) := (blk_cell BK399.out 4).trans rfl; have hfz8_0 := blk_frozen BK399.out 0; have hfz8_1 := blk_frozen BK399.out 1; have hfz8_2 := blk_frozen BK399.out 2; have hfz8_3 := blk_frozen BK399.out 3; have hfz8_4 := blk_frozen BK399.out 4))
      refine bodyPost_ret (results_cell_row rfl _ _ gb399 34 #[.int .i64 4, .int .i64 0, .int .i64 0, .int .i64 0, .slice none 0 0] (0, 0) _ rfl (by (with_reducible repeat (first | refine blk_drewN ?_ _ | refine blk_drew ?_ | refine blk_alloc ?_ _)); refine blk_put (cs := #[.int .i64 4, .int .i64 0, .int .i64 0, .int .i64 0, .slice none 0 0]) ?_ 4 _ rfl; (with_reducible repeat (first | refine blk_drewN ?_ _ | refine blk_drew ?_ | refine blk_alloc ?_ _)); refine blk_put (cs := #[.int .i64 4, .int .i64 0, .int .i64 0, .int .i64 0, .slice none 0 0]) ?_ 3 _ rfl; (with_reducible repeat (first | refine blk_drewN ?_ _ | refine blk_drew ?_ | refine blk_alloc ?_ _)); refine blk_put (cs := #[.int .i64 4, .int .i64 0, .int .i64 0, .int .i64 0, .slice none 0 0]) ?_ 2 _ rfl; (with_reducible repeat (first | refine blk_drewN ?_ _ | refine blk_drew ?_ | refine blk_alloc ?_ _)); refine blk_put (cs := #[.int .i64 4, .int .i64 0, .int .i64 0, .int .i64 0, .slice none 0 0]) ?_ 1 _ rfl; (with_reducible repeat (first | refine blk_drewN ?_ _ | refine blk_drew ?_ | refine blk_alloc ?_ _)); refine blk_put (cs := #[.int .i64 0, .int .i64 0, .int .i64 0, .int .i64 0, .slice none 0 0]) ?_ 0 _ rfl; (with_reducible repeat (first | refine blk_drewN ?_ _ | refine blk_drew ?_ | refine blk_alloc ?_ _)); exact BK399.out) Try.underlying34 rfl (by kernel_rfl)) rfl ?_
      exact ⟨_, by first | rfl | (simp [errW_none, errW_some] <;> rfl) | (simp [*, errW_none, errW_some] <;> rfl), by first | exact Kd.R_nil _ _ _ _ _ | exact Kd.N_nil _ _ _ _ _ | exact Kd.V_nil _ _ _ _ _ | exact Kd.Q_nil _ _ _ _ _ | exact Kd.S_nil _ _ _ _ _, by repeat (first | (with_reducible first | exact HB.out | apply below_alloc | apply pw_below_drewN | apply below_drew1 | refine below_set ?_ GE399.out) | exact HB.out)⟩
    · rw [if_neg c6] at H
      have c6b0 : decide ((l0.length : Int) ≤ a1) = false := decide_eq_false c6
      clear c6
      by_cases c9 : 0 ≤ a1
      · rw [if_pos c9] at H
        have c9b0 : decide (0 ≤ a1) = true := decide_eq_true c9
        clear c9
        by_cases c10 : a1 < (l0.length : Int)
        · rw [if_pos c10] at H
          have c10b0 : decide (a1 < (l0.length : Int)) = true := decide_eq_true c10
          clear c10
          simp only [Option.some.injEq, Prod.mk.injEq] at H
          obtain ⟨rfl, rfl, rfl, rfl, rfl⟩ := H
          go_enter Try.func31, Try.ntmps31
          try go_wp2_with (first | ((with_reducible refine gate_dst (N := 4) rfl ?_); (try (refine gate_guard (by rfl) ?_; dsimp only)); refine box_event ?hg (N := 4) ?hd (cs := #[.int .i64 0, .int .i64 0, .int .i64 0, .int .i64 0, .slice none 0 0]) (t := 34) ?hr ?_; (case hd => rfl); (case hg => rfl); (case hr => first | (go_simp; done) | (go_simp; rfl)); intro gb399 hg w11 hbox hb; have n0_ := Aside0.mk (below_step (by repeat (first | (with_reducible first | exact HB.out | apply below_alloc | apply pw_below_drewN | apply below_drew1) | exact HB.out)) hb); have n1_ := Aside0.mk (hbox); have n2_ := Aside0.mk ((by rw [hg]; exact (below_size (by repeat (first | (with_reducible first | exact HB.out | apply below_alloc | apply pw_below_drewN | apply below_drew1) | exact HB.out))) : w.heap.size ≤ gb399)); have n3_ := Aside0.mk ((by rw [hg]; exact (below_size (by repeat (first | (with_reducible first | exact HB.out | apply below_alloc | apply pw_below_drewN | apply below_drew1) | exact HB.out))) : w.heap.size ≤ gb399)); clear HB; have HB := n0_; have BK399 := n1_; have GW399 := n2_; have GE399 := n3_; clear n0_ n1_ n2_ n3_; clear hb hbox hg))
          have n0_ := Aside0.mk (blk_drew BK399.out)
          have n1_ := Aside0.mk (below_drew1 HB.out)
          clear BK399
          clear HB
          have BK399 := n0_
          have HB := n1_
          clear n0_ n1_
          have p400 : 0 ≤ (a1 : Int) := of_decide_eq_true (by first | (with_reducible assumption) | assumption)
          have q400 : a1 < (l0.length : Int) := of_decide_eq_true (by first | (with_reducible assumption) | assumption)
          obtain ⟨ad400, e400, hx400_0, hx400_1⟩ := at_T49 HR0.out a1 p400 q400
          have hw400_1 := hx400_1
          have hw400_0 := hx400_0
          cases e400
          replace hx400_0 := (HB.out.cell (World.block_lt_of_cell? w _ hx400_0)).trans hx400_0
          replace hx400_1 := (HB.out.cell (World.block_lt_of_cell? w _ hx400_1)).trans hx400_1
          replace p400 := eq_true p400
          replace q400 := eq_true q400
          have p401 : 0 ≤ (a1 : Int) := of_decide_eq_true (by first | (with_reducible assumption) | assumption)
          have q401 : a1 < (l0.length : Int) := of_decide_eq_true (by first | (with_reducible assumption) | assumption)
          obtain ⟨ad401, e401, hx401_0, hx401_1⟩ := at_T49 HR0.out a1 p401 q401
          have hw401_1 := hx401_1
          have hw401_0 := hx401_0
          obtain rfl : ad400 = ad401 := (by injection e401)
          replace hx401_0 := (HB.out.cell (World.block_lt_of_cell? w _ hx401_0)).trans hx401_0
          replace hx401_1 := (HB.out.cell (World.block_lt_of_cell? w _ hx401_1)).trans hx401_1
          replace p401 := eq_true p401
          replace q401 := eq_true q401
          refine start_ (n := 12) (S := fun w' => w'.cell? (ad400.add ((a1).toNat * 2)) = some (.int .i64 ((rd_T49 l0 a1).f0)) ∧ w'.cell? ⟨(ad400.add ((a1).toNat * 2)).block, (ad400.add ((a1).toNat * 2)).off + 1, none⟩ = some (.int .i64 ((rd_T49 l0 a1).f1)) ∧ w'.cell? (ad400.add ((a1).toNat * 2)) = some (.int .i64 ((rd_T49 l0 a1).f0)) ∧ w'.cell? ⟨(ad400.add ((a1).toNat * 2)).block, (ad400.add ((a1).toNat * 2)).off + 1, none⟩ = some (.int .i64 ((rd_T49 l0 a1).f1))) (ds := []) #[false, false, false, false, false, false, false, false, false, false, false, false] (by kernel_rfl) rfl rfl ⟨((HB.out.cell (World.block_lt_of_cell? w _ hw400_0)).trans hw400_0), ((HB.out.cell (World.block_lt_of_cell? w _ hw400_1)).trans hw400_1), ((HB.out.cell (World.block_lt_of_cell? w _ hw401_0)).trans hw401_0), ((HB.out.cell (World.block_lt_of_cell? w _ hw401_1)).trans hw401_1)⟩ (fun hHeld => ?_); refine with_tabW deadwoodref10_found.tab3 deadwoodref10_found.bits3 (fun HT_ HW_ => ?_)
          generalize w11.drew = w12 at BK399 HB hx400_0 hx400_1 hx401_0 hx401_1 hHeld ⊢
          refine pure_ (i := 0) (N := some 14) (v := ?_) (a' := ?_) #[true, false, false, false, false, false, false, false, false, false, false, false] rfl rfl (any_of HT_.out (by kernel_rfl)) (fun _ _ _ h => h) (Or.inl ⟨by rfl, ?_⟩) ?_ ?_
          rotate_left
          · intro w'
            go_simp
            with_reducible rfl
          rotate_left
          · simp only [Act.put, List.setIfInBounds_toArray, List.set_cons_zero, List.set_cons_succ, i64_w, i32_w]
            rfl
          refine pure_ (i := 1) (N := some 15) (v := ?_) (a' := ?_) #[true, true, false, false, false, false, false, false, false, false, false, false] rfl rfl (any_of HT_.out (by kernel_rfl)) (fun _ _ _ h => h) (Or.inl ⟨by rfl, ?_⟩) ?_ ?_
          rotate_left
          · intro w'
            go_simp
            with_reducible rfl
          rotate_left
          · simp only [Act.put, List.setIfInBounds_toArray, List.set_cons_zero, List.set_cons_succ, i64_w, i32_w]
            rfl
          refine pure_ (i := 2) (N := some 16) (v := ?_) (a' := ?_) #[true, true, true, false, false, false, false, false, false, false, false, false] rfl rfl (any_of HT_.out (by kernel_rfl)) (fun _ _ _ h => h) (Or.inl ⟨by rfl, ?_⟩) ?_ ?_
          rotate_left
          · intro w'
            go_simp
            with_reducible rfl
          rotate_left
          · simp only [Act.put, List.setIfInBounds_toArray, List.set_cons_zero, List.set_cons_succ, i64_w, i32_w]
            rfl
          refine pure_ (i := 3) (N := some 17) (v := ?_) (a' := ?_) #[true, true, true, true, false, false, false, false, false, false, false, false] rfl rfl (any_of HT_.out (by kernel_rfl)) (fun _ _ _ h => h) (Or.inl ⟨by rfl, ?_⟩) ?_ ?_
          rotate_left
          · intro w'
            go_simp
            with_reducible rfl
          rotate_left
          · simp only [Act.put, List.setIfInBounds_toArray, List.set_cons_zero, List.set_cons_succ, i64_w, i32_w]
            rfl
          refine pure_ (i := 5) (N := some 19) (v := ?_) (a' := ?_) #[true, true, true, true, false, true, false, false, false, false, false, false] rfl rfl (any_of HT_.out (by kernel_rfl)) (fun _ _ _ h => h) (Or.inl ⟨by rfl, ?_⟩) ?_ ?_
          rotate_left
          · intro w'
            go_simp
            with_reducible rfl
          rotate_left
          · simp only [Act.put, List.setIfInBounds_toArray, List.set_cons_zero, List.set_cons_succ, i64_w, i32_w]
            rfl
          refine pure_ (i := 6) (N := some 20) (v := ?_) (a' := ?_) #[true, true, true, true, false, true, true, false, false, false, false, false] rfl rfl (any_of HT_.out (by kernel_rfl)) (fun _ _ _ h => h) (Or.inl ⟨by rfl, ?_⟩) ?_ ?_
          rotate_left
          · intro w'
            go_simp
            with_reducible rfl
          rotate_left
          · simp only [Act.put, List.setIfInBounds_toArray, List.set_cons_zero, List.set_cons_succ, i64_w, i32_w]
            rfl
          refine pure_ (i := 7) (N := some 21) (v := ?_) (a' := ?_) #[true, true, true, true, false, true, true, true, false, false, false, false] rfl rfl (any_of HT_.out (by kernel_rfl)) (fun _ _ _ h => h) (Or.inl ⟨by rfl, ?_⟩) ?_ ?_
          rotate_left
          · intro w'
            go_simp
            with_reducible rfl
          rotate_left
          · simp only [Act.put, List.setIfInBounds_toArray, List.set_cons_zero, List.set_cons_succ, i64_w, i32_w]
            rfl
          refine pure_ (i := 8) (N := some 22) (v := ?_) (a' := ?_) #[true, true, true, true, false, true, true, true, true, false, false, false] rfl rfl (any_of HT_.out (by kernel_rfl)) (fun _ _ _ h => h) (Or.inl ⟨by rfl, ?_⟩) ?_ ?_
          rotate_left
          · intro w'
            go_simp
            with_reducible rfl
          rotate_left
          · simp only [Act.put, List.setIfInBounds_toArray, List.set_cons_zero, List.set_cons_succ, i64_w, i32_w]
            rfl
          refine take_ (i := 4) (N := some 18) (v := ?_) (a' := ?_) #[true, true, true, true, true, true, true, true, true, false, false, false] rfl rfl (take_ofW HT_.out HW_.out (by kernel_rfl)) (fun _ _ _ h => h) (Or.inl ⟨by rfl, ?_⟩) hHeld ?_ ?_
          rotate_left
          · rintro w' ⟨s0, s1, s2, s3⟩
            go_simp
            with_reducible rfl
          rotate_left
          · simp only [Act.put, List.setIfInBounds_toArray, List.set_cons_zero, List.set_cons_succ, i64_w, i32_w]
            rfl
          refine take_ (i := 9) (N := some 23) (v := ?_) (a' := ?_) #[true, true, true, true, true, true, true, true, true, true, false, false] rfl rfl (take_ofW HT_.out HW_.out (by kernel_rfl)) (fun _ _ _ h => h) (Or.inl ⟨by rfl, ?_⟩) hHeld ?_ ?_
          rotate_left
          · rintro w' ⟨s0, s1, s2, s3⟩
            go_simp
            with_reducible rfl
          rotate_left
          · simp only [Act.put, List.setIfInBounds_toArray, List.set_cons_zero, List.set_cons_succ, i64_w, i32_w]
            rfl
          refine pure_ (i := 10) (N := some 24) (v := ?_) (a' := ?_) #[true, true, true, true, true, true, true, true, true, true, true, false] rfl rfl (any_of HT_.out (by kernel_rfl)) (fun _ _ _ h => h) (Or.inl ⟨by rfl, ?_⟩) ?_ ?_
          rotate_left
          · intro w'
            go_simp
            with_reducible rfl
          rotate_left
          · simp only [Act.put, List.setIfInBounds_toArray, List.set_cons_zero, List.set_cons_succ, i64_w, i32_w]
            rfl
          refine one_ (i := 11) (N := none) #[true, true, true, true, true, true, true, true, true, true, true, true] rfl rfl (one_of HT_.out (by kernel_rfl)) (by decide) (fun K hK => ?_)
          have hs13 : w12.cell? ⟨gb399, 0, none⟩ = some (.int .i64 0) := (blk_cell BK399.out 0).trans rfl
          have hfs13 := blk_frozen BK399.out 0
          have hs14 : w12.cell? ⟨gb399, 1, none⟩ = some (.int .i64 0) := (blk_cell BK399.out 1).trans rfl
          have hfs14 := blk_frozen BK399.out 1
          have hs15 : w12.cell? ⟨gb399, 2, none⟩ = some (.int .i64 0) := (blk_cell BK399.out 2).trans rfl
          have hfs15 := blk_frozen BK399.out 2
          have hs16 : w12.cell? ⟨gb399, 3, none⟩ = some (.int .i64 0) := (blk_cell BK399.out 3).trans rfl
          have hfs16 := blk_frozen BK399.out 3
          have hs17 : w12.cell? ⟨gb399, 4, none⟩ = some (.slice none 0 0) := (blk_cell BK399.out 4).trans rfl
          have hfs17 := blk_frozen BK399.out 4
          refine skip_ (w1 := ?_) (by rfl) rfl ?_ ?_
          rotate_left
          · go_simp
            rfl
          refine hK.out _ _ ⟨((cell_far (p := ⟨gb399, _, none⟩) (by first | exact Nat.ne_of_lt (Nat.lt_of_lt_of_le (by have := World.block_lt_of_cell? _ _ hw400_0; first | rwa [add_block] at this | exact this) GW399.out) | (rw [add_block]; exact Nat.ne_of_lt (Nat.lt_of_lt_of_le (by have := World.block_lt_of_cell? _ _ hw400_0; first | rwa [add_block] at this | exact this) GW399.out)) | (show (Addr.add _ _).block ≠ _; rw [add_block]; exact Nat.ne_of_lt (Nat.lt_of_lt_of_le (by have := World.block_lt_of_cell? _ _ hw400_0; first | rwa [add_block] at this | exact this) GW399.out)) | (dsimp only; exact Nat.ne_of_lt (Nat.lt_of_lt_of_le (by have := World.block_lt_of_cell? _ _ hw400_0; first | rwa [add_block] at this | exact this) GW399.out))) _).trans (((cell_far (p := ⟨gb399, _, none⟩) (by first | exact Nat.ne_of_lt (Nat.lt_of_lt_of_le (by have := World.block_lt_of_cell? _ _ hw400_0; first | rwa [add_block] at this | exact this) GW399.out) | (rw [add_block]; exact Nat.ne_of_lt (Nat.lt_of_lt_of_le (by have := World.block_lt_of_cell? _ _ hw400_0; first | rwa [add_block] at this | exact this) GW399.out)) | (show (Addr.add _ _).block ≠ _; rw [add_block]; exact Nat.ne_of_lt (Nat.lt_of_lt_of_le (by have := World.block_lt_of_cell? _ _ hw400_0; first | rwa [add_block] at this | exact this) GW399.out)) | (dsimp only; exact Nat.ne_of_lt (Nat.lt_of_lt_of_le (by have := World.block_lt_of_cell? _ _ hw400_0; first | rwa [add_block] at this | exact this) GW399.out))) _).trans (((cell_far (p := ⟨gb399, _, none⟩) (by first | exact Nat.ne_of_lt (Nat.lt_of_lt_of_le (by have := World.block_lt_of_cell? _ _ hw400_0; first | rwa [add_block] at this | exact this) GW399.out) | (rw [add_block]; exact Nat.ne_of_lt (Nat.lt_of_lt_of_le (by have := World.block_lt_of_cell? _ _ hw400_0; first | rwa [add_block] at this | exact this) GW399.out)) | (show (Addr.add _ _).block ≠ _; rw [add_block]; exact Nat.ne_of_lt (Nat.lt_of_lt_of_le (by have := World.block_lt_of_cell? _ _ hw400_0; first | rwa [add_block] at this | exact this) GW399.out)) | (dsimp only; exact Nat.ne_of_lt (Nat.lt_of_lt_of_le (by have := World.block_lt_of_cell? _ _ hw400_0; first | rwa [add_block] at this | exact this) GW399.out))) _).trans (((cell_far (p := ⟨gb399, _, none⟩) (by first | exact Nat.ne_of_lt (Nat.lt_of_lt_of_le (by have := World.block_lt_of_cell? _ _ hw400_0; first | rwa [add_block] at this | exact this) GW399.out) | (rw [add_block]; exact Nat.ne_of_lt (Nat.lt_of_lt_of_le (by have := World.block_lt_of_cell? _ _ hw400_0; first | rwa [add_block] at this | exact this) GW399.out)) | (show (Addr.add _ _).block ≠ _; rw [add_block]; exact Nat.ne_of_lt (Nat.lt_of_lt_of_le (by have := World.block_lt_of_cell? _ _ hw400_0; first | rwa [add_block] at this | exact this) GW399.out)) | (dsimp only; exact Nat.ne_of_lt (Nat.lt_of_lt_of_le (by have := World.block_lt_of_cell? _ _ hw400_0; first | rwa [add_block] at this | exact this) GW399.out))) _).trans (((cell_far (p := ⟨gb399, _, none⟩) (by first | exact Nat.ne_of_lt (Nat.lt_of_lt_of_le (by have := World.block_lt_of_cell? _ _ hw400_0; first | rwa [add_block] at this | exact this) GW399.out) | (rw [add_block]; exact Nat.ne_of_lt (Nat.lt_of_lt_of_le (by have := World.block_lt_of_cell? _ _ hw400_0; first | rwa [add_block] at this | exact this) GW399.out)) | (show (Addr.add _ _).block ≠ _; rw [add_block]; exact Nat.ne_of_lt (Nat.lt_of_lt_of_le (by have := World.block_lt_of_cell? _ _ hw400_0; first | rwa [add_block] at this | exact this) GW399.out)) | (dsimp only; exact Nat.ne_of_lt (Nat.lt_of_lt_of_le (by have := World.block_lt_of_cell? _ _ hw400_0; first | rwa [add_block] at this | exact this) GW399.out))) _).trans (hHeld.1)))))))))), ((cell_far (p := ⟨gb399, _, none⟩) (by first | exact Nat.ne_of_lt (Nat.lt_of_lt_of_le (by have := World.block_lt_of_cell? _ _ hw400_1; first | rwa [add_block] at this | exact this) GW399.out) | (rw [add_block]; exact Nat.ne_of_lt (Nat.lt_of_lt_of_le (by have := World.block_lt_of_cell? _ _ hw400_1; first | rwa [add_block] at this | exact this) GW399.out)) | (show (Addr.add _ _).block ≠ _; rw [add_block]; exact Nat.ne_of_lt (Nat.lt_of_lt_of_le (by have := World.block_lt_of_cell? _ _ hw400_1; first | rwa [add_block] at this | exact this) GW399.out)) | (dsimp only; exact Nat.ne_of_lt (Nat.lt_of_lt_of_le (by have := World.block_lt_of_cell? _ _ hw400_1; first | rwa [add_block] at this | exact this) GW399.out))) _).trans (((cell_far (p := ⟨gb399, _, none⟩) (by first | exact Nat.ne_of_lt (Nat.lt_of_lt_of_le (by have := World.block_lt_of_cell? _ _ hw400_1; first | rwa [add_block] at this | exact this) GW399.out) | (rw [add_block]; exact Nat.ne_of_lt (Nat.lt_of_lt_of_le (by have := World.block_lt_of_cell? _ _ hw400_1; first | rwa [add_block] at this | exact this) GW399.out)) | (show (Addr.add _ _).block ≠ _; rw [add_block]; exact Nat.ne_of_lt (Nat.lt_of_lt_of_le (by have := World.block_lt_of_cell? _ _ hw400_1; first | rwa [add_block] at this | exact this) GW399.out)) | (dsimp only; exact Nat.ne_of_lt (Nat.lt_of_lt_of_le (by have := World.block_lt_of_cell? _ _ hw400_1; first | rwa [add_block] at this | exact this) GW399.out))) _).trans (((cell_far (p := ⟨gb399, _, none⟩) (by first | exact Nat.ne_of_lt (Nat.lt_of_lt_of_le (by have := World.block_lt_of_cell? _ _ hw400_1; first | rwa [add_block] at this | exact this) GW399.out) | (rw [add_block]; exact Nat.ne_of_lt (Nat.lt_of_lt_of_le (by have := World.block_lt_of_cell? _ _ hw400_1; first | rwa [add_block] at this | exact this) GW399.out)) | (show (Addr.add _ _).block ≠ _; rw [add_block]; exact Nat.ne_of_lt (Nat.lt_of_lt_of_le (by have := World.block_lt_of_cell? _ _ hw400_1; first | rwa [add_block] at this | exact this) GW399.out)) | (dsimp only; exact Nat.ne_of_lt (Nat.lt_of_lt_of_le (by have := World.block_lt_of_cell? _ _ hw400_1; first | rwa [add_block] at this | exact this) GW399.out))) _).trans (((cell_far (p := ⟨gb399, _, none⟩) (by first | exact Nat.ne_of_lt (Nat.lt_of_lt_of_le (by have := World.block_lt_of_cell? _ _ hw400_1; first | rwa [add_block] at this | exact this) GW399.out) | (rw [add_block]; exact Nat.ne_of_lt (Nat.lt_of_lt_of_le (by have := World.block_lt_of_cell? _ _ hw400_1; first | rwa [add_block] at this | exact this) GW399.out)) | (show (Addr.add _ _).block ≠ _; rw [add_block]; exact Nat.ne_of_lt (Nat.lt_of_lt_of_le (by have := World.block_lt_of_cell? _ _ hw400_1; first | rwa [add_block] at this | exact this) GW399.out)) | (dsimp only; exact Nat.ne_of_lt (Nat.lt_of_lt_of_le (by have := World.block_lt_of_cell? _ _ hw400_1; first | rwa [add_block] at this | exact this) GW399.out))) _).trans (((cell_far (p := ⟨gb399, _, none⟩) (by first | exact Nat.ne_of_lt (Nat.lt_of_lt_of_le (by have := World.block_lt_of_cell? _ _ hw400_1; first | rwa [add_block] at this | exact this) GW399.out) | (rw [add_block]; exact Nat.ne_of_lt (Nat.lt_of_lt_of_le (by have := World.block_lt_of_cell? _ _ hw400_1; first | rwa [add_block] at this | exact this) GW399.out)) | (show (Addr.add _ _).block ≠ _; rw [add_block]; exact Nat.ne_of_lt (Nat.lt_of_lt_of_le (by have := World.block_lt_of_cell? _ _ hw400_1; first | rwa [add_block] at this | exact this) GW399.out)) | (dsimp only; exact Nat.ne_of_lt (Nat.lt_of_lt_of_le (by have := World.block_lt_of_cell? _ _ hw400_1; first | rwa [add_block] at this | exact this) GW399.out))) _).trans (hHeld.2.1)))))))))), ((cell_far (p := ⟨gb399, _, none⟩) (by first | exact Nat.ne_of_lt (Nat.lt_of_lt_of_le (by have := World.block_lt_of_cell? _ _ hw401_0; first | rwa [add_block] at this | exact this) GW399.out) | (rw [add_block]; exact Nat.ne_of_lt (Nat.lt_of_lt_of_le (by have := World.block_lt_of_cell? _ _ hw401_0; first | rwa [add_block] at this | exact this) GW399.out)) | (show (Addr.add _ _).block ≠ _; rw [add_block]; exact Nat.ne_of_lt (Nat.lt_of_lt_of_le (by have := World.block_lt_of_cell? _ _ hw401_0; first | rwa [add_block] at this | exact this) GW399.out)) | (dsimp only; exact Nat.ne_of_lt (Nat.lt_of_lt_of_le (by have := World.block_lt_of_cell? _ _ hw401_0; first | rwa [add_block] at this | exact this) GW399.out))) _).trans (((cell_far (p := ⟨gb399, _, none⟩) (by first | exact Nat.ne_of_lt (Nat.lt_of_lt_of_le (by have := World.block_lt_of_cell? _ _ hw401_0; first | rwa [add_block] at this | exact this) GW399.out) | (rw [add_block]; exact Nat.ne_of_lt (Nat.lt_of_lt_of_le (by have := World.block_lt_of_cell? _ _ hw401_0; first | rwa [add_block] at this | exact this) GW399.out)) | (show (Addr.add _ _).block ≠ _; rw [add_block]; exact Nat.ne_of_lt (Nat.lt_of_lt_of_le (by have := World.block_lt_of_cell? _ _ hw401_0; first | rwa [add_block] at this | exact this) GW399.out)) | (dsimp only; exact Nat.ne_of_lt (Nat.lt_of_lt_of_le (by have := World.block_lt_of_cell? _ _ hw401_0; first | rwa [add_block] at this | exact this) GW399.out))) _).trans (((cell_far (p := ⟨gb399, _, none⟩) (by first | exact Nat.ne_of_lt (Nat.lt_of_lt_of_le (by have := World.block_lt_of_cell? _ _ hw401_0; first | rwa [add_block] at this | exact this) GW399.out) | (rw [add_block]; exact Nat.ne_of_lt (Nat.lt_of_lt_of_le (by have := World.block_lt_of_cell? _ _ hw401_0; first | rwa [add_block] at this | exact this) GW399.out)) | (show (Addr.add _ _).block ≠ _; rw [add_block]; exact Nat.ne_of_lt (Nat.lt_of_lt_of_le (by have := World.block_lt_of_cell? _ _ hw401_0; first | rwa [add_block] at this | exact this) GW399.out)) | (dsimp only; exact Nat.ne_of_lt (Nat.lt_of_lt_of_le (by have := World.block_lt_of_cell? _ _ hw401_0; first | rwa [add_block] at this | exact this) GW399.out))) _).trans (((cell_far (p := ⟨gb399, _, none⟩) (by first | exact Nat.ne_of_lt (Nat.lt_of_lt_of_le (by have := World.block_lt_of_cell? _ _ hw401_0; first | rwa [add_block] at this | exact this) GW399.out) | (rw [add_block]; exact Nat.ne_of_lt (Nat.lt_of_lt_of_le (by have := World.block_lt_of_cell? _ _ hw401_0; first | rwa [add_block] at this | exact this) GW399.out)) | (show (Addr.add _ _).block ≠ _; rw [add_block]; exact Nat.ne_of_lt (Nat.lt_of_lt_of_le (by have := World.block_lt_of_cell? _ _ hw401_0; first | rwa [add_block] at this | exact this) GW399.out)) | (dsimp only; exact Nat.ne_of_lt (Nat.lt_of_lt_of_le (by have := World.block_lt_of_cell? _ _ hw401_0; first | rwa [add_block] at this | exact this) GW399.out))) _).trans (((cell_far (p := ⟨gb399, _, none⟩) (by first | exact Nat.ne_of_lt (Nat.lt_of_lt_of_le (by have := World.block_lt_of_cell? _ _ hw401_0; first | rwa [add_block] at this | exact this) GW399.out) | (rw [add_block]; exact Nat.ne_of_lt (Nat.lt_of_lt_of_le (by have := World.block_lt_of_cell? _ _ hw401_0; first | rwa [add_block] at this | exact this) GW399.out)) | (show (Addr.add _ _).block ≠ _; rw [add_block]; exact Nat.ne_of_lt (Nat.lt_of_lt_of_le (by have := World.block_lt_of_cell? _ _ hw401_0; first | rwa [add_block] at this | exact this) GW399.out)) | (dsimp only; exact Nat.ne_of_lt (Nat.lt_of_lt_of_le (by have := World.block_lt_of_cell? _ _ hw401_0; first | rwa [add_block] at this | exact this) GW399.out))) _).trans (hHeld.2.2.1)))))))))), ((cell_far (p := ⟨gb399, _, none⟩) (by first | exact Nat.ne_of_lt (Nat.lt_of_lt_of_le (by have := World.block_lt_of_cell? _ _ hw401_1; first | rwa [add_block] at this | exact this) GW399.out) | (rw [add_block]; exact Nat.ne_of_lt (Nat.lt_of_lt_of_le (by have := World.block_lt_of_cell? _ _ hw401_1; first | rwa [add_block] at this | exact this) GW399.out)) | (show (Addr.add _ _).block ≠ _; rw [add_block]; exact Nat.ne_of_lt (Nat.lt_of_lt_of_le (by have := World.block_lt_of_cell? _ _ hw401_1; first | rwa [add_block] at this | exact this) GW399.out)) | (dsimp only; exact Nat.ne_of_lt (Nat.lt_of_lt_of_le (by have := World.block_lt_of_cell? _ _ hw401_1; first | rwa [add_block] at this | exact this) GW399.out))) _).trans (((cell_far (p := ⟨gb399, _, none⟩) (by first | exact Nat.ne_of_lt (Nat.lt_of_lt_of_le (by have := World.block_lt_of_cell? _ _ hw401_1; first | rwa [add_block] at this | exact this) GW399.out) | (rw [add_block]; exact Nat.ne_of_lt (Nat.lt_of_lt_of_le (by have := World.block_lt_of_cell? _ _ hw401_1; first | rwa [add_block] at this | exact this) GW399.out)) | (show (Addr.add _ _).block ≠ _; rw [add_block]; exact Nat.ne_of_lt (Nat.lt_of_lt_of_le (by have := World.block_lt_of_cell? _ _ hw401_1; first | rwa [add_block] at this | exact this) GW399.out)) | (dsimp only; exact Nat.ne_of_lt (Nat.lt_of_lt_of_le (by have := World.block_lt_of_cell? _ _ hw401_1; first | rwa [add_block] at this | exact this) GW399.out))) _).trans (((cell_far (p := ⟨gb399, _, none⟩) (by first | exact Nat.ne_of_lt (Nat.lt_of_lt_of_le (by have := World.block_lt_of_cell? _ _ hw401_1; first | rwa [add_block] at this | exact this) GW399.out) | (rw [add_block]; exact Nat.ne_of_lt (Nat.lt_of_lt_of_le (by have := World.block_lt_of_cell? _ _ hw401_1; first | rwa [add_block] at this | exact this) GW399.out)) | (show (Addr.add _ _).block ≠ _; rw [add_block]; exact Nat.ne_of_lt (Nat.lt_of_lt_of_le (by have := World.block_lt_of_cell? _ _ hw401_1; first | rwa [add_block] at this | exact this) GW399.out)) | (dsimp only; exact Nat.ne_of_lt (Nat.lt_of_lt_of_le (by have := World.block_lt_of_cell? _ _ hw401_1; first | rwa [add_block] at this | exact this) GW399.out))) _).trans (((cell_far (p := ⟨gb399, _, none⟩) (by first | exact Nat.ne_of_lt (Nat.lt_of_lt_of_le (by have := World.block_lt_of_cell? _ _ hw401_1; first | rwa [add_block] at this | exact this) GW399.out) | (rw [add_block]; exact Nat.ne_of_lt (Nat.lt_of_lt_of_le (by have := World.block_lt_of_cell? _ _ hw401_1; first | rwa [add_block] at this | exact this) GW399.out)) | (show (Addr.add _ _).block ≠ _; rw [add_block]; exact Nat.ne_of_lt (Nat.lt_of_lt_of_le (by have := World.block_lt_of_cell? _ _ hw401_1; first | rwa [add_block] at this | exact this) GW399.out)) | (dsimp only; exact Nat.ne_of_lt (Nat.lt_of_lt_of_le (by have := World.block_lt_of_cell? _ _ hw401_1; first | rwa [add_block] at this | exact this) GW399.out))) _).trans (((cell_far (p := ⟨gb399, _, none⟩) (by first | exact Nat.ne_of_lt (Nat.lt_of_lt_of_le (by have := World.block_lt_of_cell? _ _ hw401_1; first | rwa [add_block] at this | exact this) GW399.out) | (rw [add_block]; exact Nat.ne_of_lt (Nat.lt_of_lt_of_le (by have := World.block_lt_of_cell? _ _ hw401_1; first | rwa [add_block] at this | exact this) GW399.out)) | (show (Addr.add _ _).block ≠ _; rw [add_block]; exact Nat.ne_of_lt (Nat.lt_of_lt_of_le (by have := World.block_lt_of_cell? _ _ hw401_1; first | rwa [add_block] at this | exact this) GW399.out)) | (dsimp only; exact Nat.ne_of_lt (Nat.lt_of_lt_of_le (by have := World.block_lt_of_cell? _ _ hw401_1; first | rwa [add_block] at this | exact this) GW399.out))) _).trans (hHeld.2.2.2))))))))))⟩ (fun hHeld => ?_)
          clear hK K
          refine done_ (done_of HT_.out (by kernel_rfl)) ?_
          try go_wp2
          refine bodyPost_ret (results_cell_row rfl _ _ gb399 34 #[.int .i64 1, .int .i64 ((rd_T49 l0 a1).f0), .int .i64 ((rd_T49 l0 a1).f1), .int .i64 0, .slice none 0 0] (0, 0) _ rfl (by (with_reducible repeat (first | refine blk_drewN ?_ _ | refine blk_drew ?_ | refine blk_alloc ?_ _)); refine blk_put (cs := #[.int .i64 1, .int .i64 ((rd_T49 l0 a1).f0), .int .i64 ((rd_T49 l0 a1).f1), .int .i64 0, .slice none 0 0]) ?_ 4 _ rfl; (with_reducible repeat (first | refine blk_drewN ?_ _ | refine blk_drew ?_ | refine blk_alloc ?_ _)); refine blk_put (cs := #[.int .i64 1, .int .i64 ((rd_T49 l0 a1).f0), .int .i64 ((rd_T49 l0 a1).f1), .int .i64 0, .slice none 0 0]) ?_ 3 _ rfl; (with_reducible repeat (first | refine blk_drewN ?_ _ | refine blk_drew ?_ | refine blk_alloc ?_ _)); refine blk_put (cs := #[.int .i64 1, .int .i64 ((rd_T49 l0 a1).f0), .int .i64 0, .int .i64 0, .slice none 0 0]) ?_ 2 _ rfl; (with_reducible repeat (first | refine blk_drewN ?_ _ | refine blk_drew ?_ | refine blk_alloc ?_ _)); refine blk_put (cs := #[.int .i64 1, .int .i64 0, .int .i64 0, .int .i64 0, .slice none 0 0]) ?_ 1 _ rfl; (with_reducible repeat (first | refine blk_drewN ?_ _ | refine blk_drew ?_ | refine blk_alloc ?_ _)); refine blk_put (cs := #[.int .i64 0, .int .i64 0, .int .i64 0, .int .i64 0, .slice none 0 0]) ?_ 0 _ rfl; (with_reducible repeat (first | refine blk_drewN ?_ _ | refine blk_drew ?_ | refine blk_alloc ?_ _)); exact BK399.out) Try.underlying34 rfl (by kernel_rfl)) rfl ?_
          exact ⟨_, by first | rfl | (simp [errW_none, errW_some] <;> rfl) | (simp [*, errW_none, errW_some] <;> rfl), by first | exact Kd.R_nil _ _ _ _ _ | exact Kd.N_nil _ _ _ _ _ | exact Kd.V_nil _ _ _ _ _ | exact Kd.Q_nil _ _ _ _ _ | exact Kd.S_nil _ _ _ _ _, by repeat (first | (with_reducible first | exact HB.out | apply below_alloc | apply pw_below_drewN | apply below_drew1 | refine below_set ?_ GE399.out) | exact HB.out)⟩
        · rw [if_neg c10] at H
          exact absurd H (by simp)
      · rw [if_neg c9] at H
        exact absurd H (by simp)

/-! ### deadwoodref10_plain: function 29 : a hand text -/
def deadwoodref10_plain.f (k : Nat) (l0 : List (S49)) (a1_0 : Int) (a1_1 : Int) (a1_2 : Int) (a1_3 : Int) (a1_4 : Int) : Option ((List (S49)) × Int × Int × Int × Int × (List (S49))) := (deadwoodref08_At.f k l0 a1_1).bind fun bt404 => (if a1_0 = 0 then (if bt404.2 = true then (some (l0, 5, 0, 0, 0, ([] : List (S49)))) else ((deadwoodref08_Put.f k l0 a1_1 a1_2).bind fun bt406 => (some (bt406.1, 0, 0, 0, 0, ([] : List (S49)))))) else (if a1_0 = 1 then (if bt404.2 = true then ((deadwoodref08_Drop.f k l0 a1_1).bind fun bt410 => ((deadwoodref10_found.f l0 bt404.1).bind fun bt414 => (some (bt410.1, bt414.1, bt414.2.1, bt414.2.2.1, bt414.2.2.2.1, bt414.2.2.2.2)))) else (some (l0, 4, 0, 0, 0, ([] : List (S49))))) else (if a1_0 = 2 then (if bt404.2 = true then ((deadwoodref10_found.f l0 bt404.1).bind fun bt421 => (some (l0, bt421.1, bt421.2.1, bt421.2.2.1, bt421.2.2.2.1, bt421.2.2.2.2))) else (some (l0, 4, 0, 0, 0, ([] : List (S49))))) else (if a1_0 = 3 then ((deadwoodref08_Cut.f k l0 a1_1 a1_3 a1_4).bind fun t428 => (some (l0, 3, 0, 0, 0, t428))) else (if a1_0 = 4 then ((deadwoodref08_Cut.f k l0 a1_1 a1_3 (l0.length : Int)).bind fun t431 => (some (l0, 2, 0, 0, (t431.length : Int), ([] : List (S49))))) else (if a1_0 = 5 then ((deadwoodref10_found.f l0 0).bind fun bt434 => (some (l0, bt434.1, bt434.2.1, bt434.2.2.1, bt434.2.2.2.1, bt434.2.2.2.2))) else (if a1_0 = 6 then ((deadwoodref10_found.f l0 (wrap64 ((l0.length : Int) - 1))).bind fun bt441 => (some (l0, bt441.1, bt441.2.1, bt441.2.2.1, bt441.2.2.2.1, bt441.2.2.2.2))) else (if a1_0 = 7 then (if bt404.2 = true then ((deadwoodref10_found.f l0 bt404.1).bind fun bt448 => (some (l0, bt448.1, bt448.2.1, bt448.2.2.1, bt448.2.2.2.1, bt448.2.2.2.2))) else ((deadwoodref10_found.f l0 (wrap64 (bt404.1 - 1))).bind fun bt455 => (some (l0, bt455.1, bt455.2.1, bt455.2.2.1, bt455.2.2.2.1, bt455.2.2.2.2)))) else ((deadwoodref10_found.f l0 bt404.1).bind fun bt462 => (some (l0, bt462.1, bt462.2.1, bt462.2.2.1, bt462.2.2.2.1, bt462.2.2.2.2)))))))))))
theorem deadwoodref10_plain.mono : ∀ a0 a1 a2 a3 a4 a5 k, LeO (deadwoodref10_plain.f k a0 a1 a2 a3 a4 a5) (deadwoodref10_plain.f (k + 1) a0 a1 a2 a3 a4 a5) := by
  intro a0 a1 a2 a3 a4 a5 k
  unfold deadwoodref10_plain.f
  repeat' first
      | (with_reducible exact deadwoodref08_At.mono _ _ _)
      | (with_reducible exact deadwoodref08_Cut.mono _ _ _ _ _)
      | (with_reducible exact deadwoodref08_Drop.mono _ _ _)
      | (with_reducible exact deadwoodref08_Put.mono _ _ _ _)
      | (with_reducible exact LeO.refl _)
      | (with_reducible exact LeO.none _)
      | (with_reducible refine LeO.ite ?_ ?_)
      | (with_reducible refine LeO.bind ?_ (fun _ => ?_))
      | exact deadwoodref08_At.mono _ _ _
      | exact deadwoodref08_Cut.mono _ _ _ _ _
      | exact deadwoodref08_Drop.mono _ _ _
      | exact deadwoodref08_Put.mono _ _ _ _
      | exact LeO.none _
      | refine LeO.ite ?_ ?_
      | refine LeO.bind ?_ (fun _ => ?_)
set_option maxHeartbeats 8000000 in
set_option maxRecDepth 100000 in
theorem deadwoodref10_plain.calls (k : Nat) (P0_ : Nat → Prop) (A0 : Option Addr) (c0 : Nat) (l0 : List (S49)) (a1_0 : Int) (a1_1 : Int) (a1_2 : Int) (a1_3 : Int) (a1_4 : Int) (r1 : List (S49)) (r2 : Int) (r3 : Int) (r4 : Int) (r5 : Int) (r6 : List (S49)) (w : World) (hs0 : Kd.V k49 49 w w.heap.size (fun k_ => P0_ k_) (.slice A0 l0.length c0) l0) (h : deadwoodref10_plain.f k l0 a1_0 a1_1 a1_2 a1_3 a1_4 = some (r1, r2, r3, r4, r5, r6)) :
    Calls Try.prog 29 #[.slice A0 l0.length c0, .agg #[.int .i64 a1_0, .int .i64 a1_1, .int .i64 a1_2, .int .i64 a1_3, .int .i64 a1_4]] w fun e w' => ∃ v0_ v5_ : Value, e = .returned (.tuple #[v0_, .agg #[.int .i64 r2, .int .i64 r3, .int .i64 r4, .int .i64 r5, v5_]]) ∧ Kd.V k49 49 w' w.heap.size (fun k_ => (P0_ k_ ∨ w.heap.size ≤ k_) ∧ some k_ ≠ (v5_ : Value).ownBlock) v0_ r1 ∧ Kd.R k49 49 w' w.heap.size (fun k_ => (w.heap.size ≤ k_)) v5_ r6 ∧ Below w.heap.size w w' := by
  have hu38 := Try.underlying38
  have hu34 := Try.underlying34
  have hu49 := Try.underlying49
  have HQ := Aside0.mk h
  have H0 := Aside0.mk (Kd.V_bound hs0)
  have HL := Aside0.mk (Kd.F_max (Kd.V_F hs0))
  clear h hs0
  go_enter Try.func29, Try.ntmps29
  go_upto_region 1 with (fail)
  refine Bxs.bx_gens (Bxs.two w _ _ 38 34) ?_
  intro wr M SZ
  simp only [World.size_alloc] at SZ
  have B0 := Aside0.mk M
  have SZ0 := Aside0.mk SZ
  have V0 := Aside0.mk (Kd.V_below H0.out M.b)
  clear SZ
  have y0 := (M.cell 0 0 rfl).trans rfl
  have yf0 := M.frz 0 0 rfl
  have y1 := (M.cell 0 1 rfl).trans rfl
  have yf1 := M.frz 0 1 rfl
  have y2 := (M.cell 0 2 rfl).trans rfl
  have yf2 := M.frz 0 2 rfl
  have y3 := (M.cell 0 3 rfl).trans rfl
  have yf3 := M.frz 0 3 rfl
  have y4 := (M.cell 0 4 rfl).trans rfl
  have yf4 := M.frz 0 4 rfl
  have q_0 := (M.cell 1 0 rfl).trans rfl
  have q_1 := (M.cell 1 1 rfl).trans rfl
  have q_2 := (M.cell 1 2 rfl).trans rfl
  have q_3 := (M.cell 1 3 rfl).trans rfl
  have q_4 := (M.cell 1 4 rfl).trans rfl
  clear M
  have H := HQ.out
  unfold deadwoodref10_plain.f at H
  replace H := Option.bind_eq_some_iff.mp H
  obtain ⟨⟨n, nb⟩, hat, H⟩ := H
  simp only at H
  have HA := Aside0.mk hat
  have HH := Aside0.mk H
  clear hat H HQ
  go_wp2_with fail
  refine (deadwoodref08_At.calls k A0 c0 l0 a1_1 n nb wr (Kd.V_reads' V0.out).2.2 (Kd.V_reads' V0.out).2.1 HA.out).mono ?_
  rintro e w1 ⟨rfl, n1, rfl⟩
  have B1 := Aside0.mk (B0.out.below (pw_below_drewN (Below.refl _ _) n1))
  have V1 := Aside0.mk (Kd.V_drewN V0.out n1)
  have hs := Aside0.mk (show w.heap.size + 2 ≤ (wr.drewN n1).heap.size from Nat.le_of_eq SZ0.out.symm)
  have H := HH.out
  clear HH V0 B0 SZ0
  by_cases h0 : a1_0 = 0
  · have e0 : (a1_0 == 0) = true := beq_iff_eq.2 h0
    rw [if_pos h0] at H
    clear h0
    cases nb with
    | true =>
      rw [if_pos rfl] at H
      simp only [Option.some.injEq, Prod.mk.injEq] at H
      obtain ⟨rfl, rfl, rfl, rfl, rfl, rfl⟩ := H
      go_wp2
      refine Bxs.fin5 (hi := w.heap.size + 2) B1.out (by omega) ?_
      intro Wf MF OF
      have MF2 := Aside0.mk MF
      have OF2 := Aside0.mk OF
      clear MF OF
      go_wp2
      refine bodyPost_ret (results_tc rfl _ _ (w.heap.size + 1) 34 _ (0, 0) _ rfl (MF2.out.get 0 rfl) Try.underlying34 rfl (by kernel_rfl)) rfl ?_
      exact ⟨_, _, rfl, Kd.V_mono (OF2.out.V V1.out (fun k hk => .inl hk.2)) (fun k hk => ⟨.inl hk.1, fun h => by cases h⟩), Kd.R_nil _ _ _ _ _, MF2.out.b⟩
    | false =>
      rw [if_neg (by decide)] at H
      replace H := Option.bind_eq_some_iff.mp H
      obtain ⟨⟨o1, o2⟩, hf, H⟩ := H
      simp only [Option.some.injEq, Prod.mk.injEq] at H
      obtain ⟨rfl, rfl, rfl, rfl, rfl, rfl⟩ := H
      have HF := Aside0.mk hf
      clear hf
      go_wp2_with fail
      refine (deadwoodref08_Put.calls k (fun k_ => P0_ k_ ∧ k_ < w.heap.size) A0 c0 l0 a1_1 a1_2 o1 o2 _ V1.out HF.out).mono ?_
      rintro e w2 ⟨v4, rfl, Y0, hb2⟩
      obtain ⟨A6, c6, rfl⟩ := Kd.V_slice Y0
      have V2 := Aside0.mk Y0
      have M2 := B1.out.below hb2
      have B2 := Aside0.mk M2
      clear y0 yf0 q_0 y1 yf1 q_1 y2 yf2 q_2 y3 yf3 q_3 y4 yf4 q_4
      have y0 := (M2.cell 0 0 rfl).trans rfl
      have yf0 := M2.frz 0 0 rfl
      have y1 := (M2.cell 0 1 rfl).trans rfl
      have yf1 := M2.frz 0 1 rfl
      have y2 := (M2.cell 0 2 rfl).trans rfl
      have yf2 := M2.frz 0 2 rfl
      have y3 := (M2.cell 0 3 rfl).trans rfl
      have yf3 := M2.frz 0 3 rfl
      have y4 := (M2.cell 0 4 rfl).trans rfl
      have yf4 := M2.frz 0 4 rfl
      clear M2 hb2 Y0
      go_wp2
      refine Bxs.fin5 (hi := w.heap.size + 2) B2.out (by omega) ?_
      intro Wf MF OF
      have MF2 := Aside0.mk MF
      have OF2 := Aside0.mk OF
      clear MF OF
      go_wp2
      refine bodyPost_ret (results_tc rfl _ _ (w.heap.size + 1) 34 _ (0, 0) _ rfl (MF2.out.get 0 rfl) Try.underlying34 rfl (by kernel_rfl)) rfl ?_
      exact ⟨_, _, rfl, Kd.V_mono (OF2.out.V V2.out (fun k hk => by rcases hk with h | h; exact .inl h.2; exact .inr (by have h1 := hs.out; omega))) (fun k hk => ⟨by rcases hk with h | h; exact .inl h.1; exact .inr (by have h1 := hs.out; omega), fun h => by cases h⟩), Kd.R_nil _ _ _ _ _, MF2.out.b⟩
  have e0 : (a1_0 == 0) = false := beq_eq_false_iff_ne.2 h0
  rw [if_neg h0] at H
  by_cases h1 : a1_0 = 1
  · have e1 : (a1_0 == 1) = true := beq_iff_eq.2 h1
    rw [if_pos h1] at H
    clear h1
    cases nb with
    | true =>
      rw [if_pos rfl] at H
      replace H := Option.bind_eq_some_iff.mp H
      obtain ⟨⟨o1, o2⟩, hf, H⟩ := H
      replace H := Option.bind_eq_some_iff.mp H
      obtain ⟨⟨z1, z2, z3, z4, z5⟩, hg, H⟩ := H
      simp only [Option.some.injEq, Prod.mk.injEq] at H
      obtain ⟨rfl, rfl, rfl, rfl, rfl, rfl⟩ := H
      have HF := Aside0.mk hf
      have HG := Aside0.mk hg
      clear hf hg
      go_wp2_with fail
      refine (deadwoodref08_Drop.calls k (fun k_ => P0_ k_ ∧ k_ < w.heap.size) A0 c0 l0 a1_1 o1 o2 _ V1.out HF.out).mono ?_
      rintro e w2 ⟨v4, rfl, Y0, hb2⟩
      obtain ⟨A6, c6, rfl⟩ := Kd.V_slice Y0
      have V2 := Aside0.mk (Kd.V_bound Y0)
      have L2 := Aside0.mk (Kd.V_below V1.out hb2)
      have hs2 := Aside0.mk hb2.size
      have B2 := Aside0.mk (B1.out.below hb2)
      clear y0 yf0 q_0 y1 yf1 q_1 y2 yf2 q_2 y3 yf3 q_3 y4 yf4 q_4
      clear hb2 Y0
      go_wp2_with fail
      refine (deadwoodref10_found.calls A0 c0 l0 n z1 z2 z3 z4 z5 _ (Kd.V_reads' L2.out).2.2 (Kd.V_reads' L2.out).2.1 HG.out).mono ?_
      rintro e w3 ⟨v4, rfl, YR, hb3⟩
      obtain ⟨A7, c7, rfl⟩ := Kd.R_slice YR
      have RB := Aside0.mk (Kd.R_mono (Kd.R_lower (base' := w.heap.size) (Kd.R_bound YR) (by have := hs.out; have := hs2.out; omega)) (ok' := fun k => w2.heap.size ≤ k) (fun k hk => hk.2.1))
      have V3 := Aside0.mk (Kd.V_below V2.out hb3)
      have M2 := B2.out.below hb3
      have B3 := Aside0.mk M2
      have y0 := (M2.cell 0 0 rfl).trans rfl
      have yf0 := M2.frz 0 0 rfl
      have y1 := (M2.cell 0 1 rfl).trans rfl
      have yf1 := M2.frz 0 1 rfl
      have y2 := (M2.cell 0 2 rfl).trans rfl
      have yf2 := M2.frz 0 2 rfl
      have y3 := (M2.cell 0 3 rfl).trans rfl
      have yf3 := M2.frz 0 3 rfl
      have y4 := (M2.cell 0 4 rfl).trans rfl
      have yf4 := M2.frz 0 4 rfl
      clear M2 hb3 YR
      go_wp2
      refine Bxs.fin5 (hi := w.heap.size + 2) B3.out (by omega) ?_
      intro Wf MF OF
      have MF2 := Aside0.mk MF
      have OF2 := Aside0.mk OF
      clear MF OF
      go_wp2
      refine bodyPost_ret (results_tc rfl _ _ (w.heap.size + 1) 34 _ (0, 0) _ rfl (MF2.out.get 0 rfl) Try.underlying34 rfl (by kernel_rfl)) rfl ?_
      exact ⟨_, _, rfl, Kd.V_mono (OF2.out.V V3.out (fun k hk => by rcases hk.1 with h | h; exact .inl h.2; exact .inr (by have h1 := hs.out; omega))) (fun k hk => ⟨by rcases hk.1 with h | h; exact .inl h.1; exact .inr (by have h1 := hs.out; omega), fun h => by have h1 : w2.heap.size ≤ k := RB.out.1 k h.symm; have h2 : k < w2.heap.size := hk.2; omega⟩), Kd.R_mono (Kd.R_step RB.out (fun k hk hl => OF2.out k (.inr (Nat.le_trans hs.out (Nat.le_trans hs2.out hk))) hl)) (fun k hk => Nat.le_trans (Nat.le_trans (Nat.le_add_right _ 2) hs.out) (Nat.le_trans hs2.out hk)), MF2.out.b⟩
    | false =>
      rw [if_neg (by decide)] at H
      simp only [Option.some.injEq, Prod.mk.injEq] at H
      obtain ⟨rfl, rfl, rfl, rfl, rfl, rfl⟩ := H
      go_wp2
      refine Bxs.fin5 (hi := w.heap.size + 2) B1.out (by omega) ?_
      intro Wf MF OF
      have MF2 := Aside0.mk MF
      have OF2 := Aside0.mk OF
      clear MF OF
      go_wp2
      refine bodyPost_ret (results_tc rfl _ _ (w.heap.size + 1) 34 _ (0, 0) _ rfl (MF2.out.get 0 rfl) Try.underlying34 rfl (by kernel_rfl)) rfl ?_
      exact ⟨_, _, rfl, Kd.V_mono (OF2.out.V V1.out (fun k hk => .inl hk.2)) (fun k hk => ⟨.inl hk.1, fun h => by cases h⟩), Kd.R_nil _ _ _ _ _, MF2.out.b⟩
  have e1 : (a1_0 == 1) = false := beq_eq_false_iff_ne.2 h1
  rw [if_neg h1] at H
  by_cases h2 : a1_0 = 2
  · have e2 : (a1_0 == 2) = true := beq_iff_eq.2 h2
    rw [if_pos h2] at H
    clear h2
    cases nb with
    | true =>
      rw [if_pos rfl] at H
      replace H := Option.bind_eq_some_iff.mp H
      obtain ⟨⟨o1, o2, o3, o4, o5⟩, hf, H⟩ := H
      simp only [Option.some.injEq, Prod.mk.injEq] at H
      obtain ⟨rfl, rfl, rfl, rfl, rfl, rfl⟩ := H
      have HF := Aside0.mk hf
      clear hf
      go_wp2_with fail
      refine (deadwoodref10_found.calls A0 c0 l0 n o1 o2 o3 o4 o5 _ (Kd.V_reads' V1.out).2.2 (Kd.V_reads' V1.out).2.1 HF.out).mono ?_
      rintro e w2 ⟨v4, rfl, YR, hb2⟩
      obtain ⟨A6, c6, rfl⟩ := Kd.R_slice YR
      have RB := Aside0.mk (Kd.R_mono (Kd.R_lower (base' := w.heap.size) (Kd.R_bound YR) (by have := hs.out; omega)) (ok' := fun k => w.heap.size + 2 ≤ k) (fun k hk => Nat.le_trans hs.out hk.2.1))
      have V2 := Aside0.mk (Kd.V_below V1.out hb2)
      have M2 := B1.out.below hb2
      have B2 := Aside0.mk M2
      clear y0 yf0 q_0 y1 yf1 q_1 y2 yf2 q_2 y3 yf3 q_3 y4 yf4 q_4
      have y0 := (M2.cell 0 0 rfl).trans rfl
      have yf0 := M2.frz 0 0 rfl
      have y1 := (M2.cell 0 1 rfl).trans rfl
      have yf1 := M2.frz 0 1 rfl
      have y2 := (M2.cell 0 2 rfl).trans rfl
      have yf2 := M2.frz 0 2 rfl
      have y3 := (M2.cell 0 3 rfl).trans rfl
      have yf3 := M2.frz 0 3 rfl
      have y4 := (M2.cell 0 4 rfl).trans rfl
      have yf4 := M2.frz 0 4 rfl
      clear M2 hb2 YR
      go_wp2
      refine Bxs.fin5 (hi := w.heap.size + 2) B2.out (by omega) ?_
      intro Wf MF OF
      have MF2 := Aside0.mk MF
      have OF2 := Aside0.mk OF
      clear MF OF
      go_wp2
      refine bodyPost_ret (results_tc rfl _ _ (w.heap.size + 1) 34 _ (0, 0) _ rfl (MF2.out.get 0 rfl) Try.underlying34 rfl (by kernel_rfl)) rfl ?_
      exact ⟨_, _, rfl, Kd.V_mono (OF2.out.V V2.out (fun k hk => .inl hk.2)) (fun k hk => ⟨.inl hk.1, (fun h => by have h1 : w.heap.size + 2 ≤ k := RB.out.1 k h.symm; have h2 : k < w.heap.size := hk.2; omega)⟩), Kd.R_mono (Kd.R_step RB.out (fun k hk hl => OF2.out k (.inr hk) hl)) (fun k hk => Nat.le_trans (Nat.le_add_right _ 2) hk), MF2.out.b⟩
    | false =>
      rw [if_neg (by decide)] at H
      simp only [Option.some.injEq, Prod.mk.injEq] at H
      obtain ⟨rfl, rfl, rfl, rfl, rfl, rfl⟩ := H
      go_wp2
      refine Bxs.fin5 (hi := w.heap.size + 2) B1.out (by omega) ?_
      intro Wf MF OF
      have MF2 := Aside0.mk MF
      have OF2 := Aside0.mk OF
      clear MF OF
      go_wp2
      refine bodyPost_ret (results_tc rfl _ _ (w.heap.size + 1) 34 _ (0, 0) _ rfl (MF2.out.get 0 rfl) Try.underlying34 rfl (by kernel_rfl)) rfl ?_
      exact ⟨_, _, rfl, Kd.V_mono (OF2.out.V V1.out (fun k hk => .inl hk.2)) (fun k hk => ⟨.inl hk.1, fun h => by cases h⟩), Kd.R_nil _ _ _ _ _, MF2.out.b⟩
  have e2 : (a1_0 == 2) = false := beq_eq_false_iff_ne.2 h2
  rw [if_neg h2] at H
  by_cases h3 : a1_0 = 3
  · have e3 : (a1_0 == 3) = true := beq_iff_eq.2 h3
    rw [if_pos h3] at H
    clear h3
    replace H := Option.bind_eq_some_iff.mp H
    obtain ⟨t, hf, H⟩ := H
    simp only [Option.some.injEq, Prod.mk.injEq] at H
    obtain ⟨rfl, rfl, rfl, rfl, rfl, rfl⟩ := H
    have HF := Aside0.mk hf
    clear hf
    go_wp2_with fail
    refine (deadwoodref08_Cut.calls k A0 c0 l0 a1_1 a1_3 a1_4 t _ (Kd.V_reads' V1.out).2.2 (Kd.V_reads' V1.out).2.1 HF.out).mono ?_
    rintro e w2 ⟨v4, rfl, YR, hb2⟩
    obtain ⟨A6, c6, rfl⟩ := Kd.R_slice YR
    have RB := Aside0.mk (Kd.R_mono (Kd.R_lower (base' := w.heap.size) (Kd.R_bound YR) (by have := hs.out; omega)) (ok' := fun k => w.heap.size + 2 ≤ k) (fun k hk => Nat.le_trans hs.out hk.2.1))
    have V2 := Aside0.mk (Kd.V_below V1.out hb2)
    have M2 := B1.out.below hb2
    have B2 := Aside0.mk M2
    clear y0 yf0 q_0 y1 yf1 q_1 y2 yf2 q_2 y3 yf3 q_3 y4 yf4 q_4
    have y0 := (M2.cell 0 0 rfl).trans rfl
    have yf0 := M2.frz 0 0 rfl
    have y1 := (M2.cell 0 1 rfl).trans rfl
    have yf1 := M2.frz 0 1 rfl
    have y2 := (M2.cell 0 2 rfl).trans rfl
    have yf2 := M2.frz 0 2 rfl
    have y3 := (M2.cell 0 3 rfl).trans rfl
    have yf3 := M2.frz 0 3 rfl
    have y4 := (M2.cell 0 4 rfl).trans rfl
    have yf4 := M2.frz 0 4 rfl
    clear M2 hb2 YR
    go_wp2
    refine Bxs.fin5 (hi := w.heap.size + 2) B2.out (by omega) ?_
    intro Wf MF OF
    have MF2 := Aside0.mk MF
    have OF2 := Aside0.mk OF
    clear MF OF
    go_wp2
    refine bodyPost_ret (results_tc rfl _ _ (w.heap.size + 1) 34 _ (0, 0) _ rfl (MF2.out.get 0 rfl) Try.underlying34 rfl (by kernel_rfl)) rfl ?_
    exact ⟨_, _, rfl, Kd.V_mono (OF2.out.V V2.out (fun k hk => .inl hk.2)) (fun k hk => ⟨.inl hk.1, (fun h => by have h1 : w.heap.size + 2 ≤ k := RB.out.1 k h.symm; have h2 : k < w.heap.size := hk.2; omega)⟩), Kd.R_mono (Kd.R_step RB.out (fun k hk hl => OF2.out k (.inr hk) hl)) (fun k hk => Nat.le_trans (Nat.le_add_right _ 2) hk), MF2.out.b⟩
  have e3 : (a1_0 == 3) = false := beq_eq_false_iff_ne.2 h3
  rw [if_neg h3] at H
  by_cases h4 : a1_0 = 4
  · have e4 : (a1_0 == 4) = true := beq_iff_eq.2 h4
    rw [if_pos h4] at H
    clear h4
    replace H := Option.bind_eq_some_iff.mp H
    obtain ⟨t, hf, H⟩ := H
    simp only [Option.some.injEq, Prod.mk.injEq] at H
    obtain ⟨rfl, rfl, rfl, rfl, rfl, rfl⟩ := H
    have HF := Aside0.mk hf
    clear hf
    go_wp2_with fail
    refine (deadwoodref08_Cut.calls k A0 c0 l0 a1_1 a1_3 (l0.length : Int) t _ (Kd.V_reads' V1.out).2.2 (Kd.V_reads' V1.out).2.1 HF.out).mono ?_
    rintro e w2 ⟨v4, rfl, YR, hb2⟩
    obtain ⟨A6, c6, rfl⟩ := Kd.R_slice YR
    have RB := Aside0.mk (Kd.R_mono (Kd.R_lower (base' := w.heap.size) (Kd.R_bound YR) (by have := hs.out; omega)) (ok' := fun k => w.heap.size + 2 ≤ k) (fun k hk => Nat.le_trans hs.out hk.2.1))
    have V2 := Aside0.mk (Kd.V_below V1.out hb2)
    have M2 := B1.out.below hb2
    have B2 := Aside0.mk M2
    clear y0 yf0 q_0 y1 yf1 q_1 y2 yf2 q_2 y3 yf3 q_3 y4 yf4 q_4
    have y0 := (M2.cell 0 0 rfl).trans rfl
    have yf0 := M2.frz 0 0 rfl
    have y1 := (M2.cell 0 1 rfl).trans rfl
    have yf1 := M2.frz 0 1 rfl
    have y2 := (M2.cell 0 2 rfl).trans rfl
    have yf2 := M2.frz 0 2 rfl
    have y3 := (M2.cell 0 3 rfl).trans rfl
    have yf3 := M2.frz 0 3 rfl
    have y4 := (M2.cell 0 4 rfl).trans rfl
    have yf4 := M2.frz 0 4 rfl
    clear M2 hb2 YR
    go_wp2
    refine Bxs.fin5 (hi := w.heap.size + 2) B2.out (by omega) ?_
    intro Wf MF OF
    have MF2 := Aside0.mk MF
    have OF2 := Aside0.mk OF
    clear MF OF
    go_wp2
    refine bodyPost_ret (results_tc rfl _ _ (w.heap.size + 1) 34 _ (0, 0) _ rfl (MF2.out.get 0 rfl) Try.underlying34 rfl (by kernel_rfl)) rfl ?_
    exact ⟨_, _, rfl, Kd.V_mono (OF2.out.V V2.out (fun k hk => .inl hk.2)) (fun k hk => ⟨.inl hk.1, fun h => by cases h⟩), Kd.R_nil _ _ _ _ _, MF2.out.b⟩
  have e4 : (a1_0 == 4) = false := beq_eq_false_iff_ne.2 h4
  rw [if_neg h4] at H
  by_cases h5 : a1_0 = 5
  · have e5 : (a1_0 == 5) = true := beq_iff_eq.2 h5
    rw [if_pos h5] at H
    clear h5
    replace H := Option.bind_eq_some_iff.mp H
    obtain ⟨⟨o1, o2, o3, o4, o5⟩, hf, H⟩ := H
    simp only [Option.some.injEq, Prod.mk.injEq] at H
    obtain ⟨rfl, rfl, rfl, rfl, rfl, rfl⟩ := H
    have HF := Aside0.mk hf
    clear hf
    go_wp2_with fail
    refine (deadwoodref10_found.calls A0 c0 l0 0 o1 o2 o3 o4 o5 _ (Kd.V_reads' V1.out).2.2 (Kd.V_reads' V1.out).2.1 HF.out).mono ?_
    rintro e w2 ⟨v4, rfl, YR, hb2⟩
    obtain ⟨A6, c6, rfl⟩ := Kd.R_slice YR
    have RB := Aside0.mk (Kd.R_mono (Kd.R_lower (base' := w.heap.size) (Kd.R_bound YR) (by have := hs.out; omega)) (ok' := fun k => w.heap.size + 2 ≤ k) (fun k hk => Nat.le_trans hs.out hk.2.1))
    have V2 := Aside0.mk (Kd.V_below V1.out hb2)
    have M2 := B1.out.below hb2
    have B2 := Aside0.mk M2
    clear y0 yf0 q_0 y1 yf1 q_1 y2 yf2 q_2 y3 yf3 q_3 y4 yf4 q_4
    have y0 := (M2.cell 0 0 rfl).trans rfl
    have yf0 := M2.frz 0 0 rfl
    have y1 := (M2.cell 0 1 rfl).trans rfl
    have yf1 := M2.frz 0 1 rfl
    have y2 := (M2.cell 0 2 rfl).trans rfl
    have yf2 := M2.frz 0 2 rfl
    have y3 := (M2.cell 0 3 rfl).trans rfl
    have yf3 := M2.frz 0 3 rfl
    have y4 := (M2.cell 0 4 rfl).trans rfl
    have yf4 := M2.frz 0 4 rfl
    clear M2 hb2 YR
    go_wp2
    refine Bxs.fin5 (hi := w.heap.size + 2) B2.out (by omega) ?_
    intro Wf MF OF
    have MF2 := Aside0.mk MF
    have OF2 := Aside0.mk OF
    clear MF OF
    go_wp2
    refine bodyPost_ret (results_tc rfl _ _ (w.heap.size + 1) 34 _ (0, 0) _ rfl (MF2.out.get 0 rfl) Try.underlying34 rfl (by kernel_rfl)) rfl ?_
    exact ⟨_, _, rfl, Kd.V_mono (OF2.out.V V2.out (fun k hk => .inl hk.2)) (fun k hk => ⟨.inl hk.1, (fun h => by have h1 : w.heap.size + 2 ≤ k := RB.out.1 k h.symm; have h2 : k < w.heap.size := hk.2; omega)⟩), Kd.R_mono (Kd.R_step RB.out (fun k hk hl => OF2.out k (.inr hk) hl)) (fun k hk => Nat.le_trans (Nat.le_add_right _ 2) hk), MF2.out.b⟩
  have e5 : (a1_0 == 5) = false := beq_eq_false_iff_ne.2 h5
  rw [if_neg h5] at H
  by_cases h6 : a1_0 = 6
  · have e6 : (a1_0 == 6) = true := beq_iff_eq.2 h6
    rw [if_pos h6] at H
    clear h6
    replace H := Option.bind_eq_some_iff.mp H
    obtain ⟨⟨o1, o2, o3, o4, o5⟩, hf, H⟩ := H
    simp only [Option.some.injEq, Prod.mk.injEq] at H
    obtain ⟨rfl, rfl, rfl, rfl, rfl, rfl⟩ := H
    have HF := Aside0.mk hf
    clear hf
    go_wp2_with fail
    refine (deadwoodref10_found.calls A0 c0 l0 (wrap64 ((l0.length : Int) - 1)) o1 o2 o3 o4 o5 _ (Kd.V_reads' V1.out).2.2 (Kd.V_reads' V1.out).2.1 HF.out).mono ?_
    rintro e w2 ⟨v4, rfl, YR, hb2⟩
    obtain ⟨A6, c6, rfl⟩ := Kd.R_slice YR
    have RB := Aside0.mk (Kd.R_mono (Kd.R_lower (base' := w.heap.size) (Kd.R_bound YR) (by have := hs.out; omega)) (ok' := fun k => w.heap.size + 2 ≤ k) (fun k hk => Nat.le_trans hs.out hk.2.1))
    have V2 := Aside0.mk (Kd.V_below V1.out hb2)
    have M2 := B1.out.below hb2
    have B2 := Aside0.mk M2
    clear y0 yf0 q_0 y1 yf1 q_1 y2 yf2 q_2 y3 yf3 q_3 y4 yf4 q_4
    have y0 := (M2.cell 0 0 rfl).trans rfl
    have yf0 := M2.frz 0 0 rfl
    have y1 := (M2.cell 0 1 rfl).trans rfl
    have yf1 := M2.frz 0 1 rfl
    have y2 := (M2.cell 0 2 rfl).trans rfl
    have yf2 := M2.frz 0 2 rfl
    have y3 := (M2.cell 0 3 rfl).trans rfl
    have yf3 := M2.frz 0 3 rfl
    have y4 := (M2.cell 0 4 rfl).trans rfl
    have yf4 := M2.frz 0 4 rfl
    clear M2 hb2 YR
    go_wp2
    refine Bxs.fin5 (hi := w.heap.size + 2) B2.out (by omega) ?_
    intro Wf MF OF
    have MF2 := Aside0.mk MF
    have OF2 := Aside0.mk OF
    clear MF OF
    go_wp2
    refine bodyPost_ret (results_tc rfl _ _ (w.heap.size + 1) 34 _ (0, 0) _ rfl (MF2.out.get 0 rfl) Try.underlying34 rfl (by kernel_rfl)) rfl ?_
    exact ⟨_, _, rfl, Kd.V_mono (OF2.out.V V2.out (fun k hk => .inl hk.2)) (fun k hk => ⟨.inl hk.1, (fun h => by have h1 : w.heap.size + 2 ≤ k := RB.out.1 k h.symm; have h2 : k < w.heap.size := hk.2; omega)⟩), Kd.R_mono (Kd.R_step RB.out (fun k hk hl => OF2.out k (.inr hk) hl)) (fun k hk => Nat.le_trans (Nat.le_add_right _ 2) hk), MF2.out.b⟩
  have e6 : (a1_0 == 6) = false := beq_eq_false_iff_ne.2 h6
  rw [if_neg h6] at H
  by_cases h7 : a1_0 = 7
  · have e7 : (a1_0 == 7) = true := beq_iff_eq.2 h7
    rw [if_pos h7] at H
    clear h7
    cases nb with
    | true =>
      rw [if_pos rfl] at H
      replace H := Option.bind_eq_some_iff.mp H
      obtain ⟨⟨o1, o2, o3, o4, o5⟩, hf, H⟩ := H
      simp only [Option.some.injEq, Prod.mk.injEq] at H
      obtain ⟨rfl, rfl, rfl, rfl, rfl, rfl⟩ := H
      have HF := Aside0.mk hf
      clear hf
      go_wp2_with fail
      refine (deadwoodref10_found.calls A0 c0 l0 n o1 o2 o3 o4 o5 _ (Kd.V_reads' V1.out).2.2 (Kd.V_reads' V1.out).2.1 HF.out).mono ?_
      rintro e w2 ⟨v4, rfl, YR, hb2⟩
      obtain ⟨A6, c6, rfl⟩ := Kd.R_slice YR
      have RB := Aside0.mk (Kd.R_mono (Kd.R_lower (base' := w.heap.size) (Kd.R_bound YR) (by have := hs.out; omega)) (ok' := fun k => w.heap.size + 2 ≤ k) (fun k hk => Nat.le_trans hs.out hk.2.1))
      have V2 := Aside0.mk (Kd.V_below V1.out hb2)
      have M2 := B1.out.below hb2
      have B2 := Aside0.mk M2
      clear y0 yf0 q_0 y1 yf1 q_1 y2 yf2 q_2 y3 yf3 q_3 y4 yf4 q_4
      have y0 := (M2.cell 0 0 rfl).trans rfl
      have yf0 := M2.frz 0 0 rfl
      have y1 := (M2.cell 0 1 rfl).trans rfl
      have yf1 := M2.frz 0 1 rfl
      have y2 := (M2.cell 0 2 rfl).trans rfl
      have yf2 := M2.frz 0 2 rfl
      have y3 := (M2.cell 0 3 rfl).trans rfl
      have yf3 := M2.frz 0 3 rfl
      have y4 := (M2.cell 0 4 rfl).trans rfl
      have yf4 := M2.frz 0 4 rfl
      clear M2 hb2 YR
      go_wp2
      refine Bxs.fin5 (hi := w.heap.size + 2) B2.out (by omega) ?_
      intro Wf MF OF
      have MF2 := Aside0.mk MF
      have OF2 := Aside0.mk OF
      clear MF OF
      go_wp2
      refine bodyPost_ret (results_tc rfl _ _ (w.heap.size + 1) 34 _ (0, 0) _ rfl (MF2.out.get 0 rfl) Try.underlying34 rfl (by kernel_rfl)) rfl ?_
      exact ⟨_, _, rfl, Kd.V_mono (OF2.out.V V2.out (fun k hk => .inl hk.2)) (fun k hk => ⟨.inl hk.1, (fun h => by have h1 : w.heap.size + 2 ≤ k := RB.out.1 k h.symm; have h2 : k < w.heap.size := hk.2; omega)⟩), Kd.R_mono (Kd.R_step RB.out (fun k hk hl => OF2.out k (.inr hk) hl)) (fun k hk => Nat.le_trans (Nat.le_add_right _ 2) hk), MF2.out.b⟩
    | false =>
      rw [if_neg (by decide)] at H
      replace H := Option.bind_eq_some_iff.mp H
      obtain ⟨⟨o1, o2, o3, o4, o5⟩, hf, H⟩ := H
      simp only [Option.some.injEq, Prod.mk.injEq] at H
      obtain ⟨rfl, rfl, rfl, rfl, rfl, rfl⟩ := H
      have HF := Aside0.mk hf
      clear hf
      go_wp2_with fail
      refine (deadwoodref10_found.calls A0 c0 l0 (wrap64 (n - 1)) o1 o2 o3 o4 o5 _ (Kd.V_reads' V1.out).2.2 (Kd.V_reads' V1.out).2.1 HF.out).mono ?_
      rintro e w2 ⟨v4, rfl, YR, hb2⟩
      obtain ⟨A6, c6, rfl⟩ := Kd.R_slice YR
      have RB := Aside0.mk (Kd.R_mono (Kd.R_lower (base' := w.heap.size) (Kd.R_bound YR) (by have := hs.out; omega)) (ok' := fun k => w.heap.size + 2 ≤ k) (fun k hk => Nat.le_trans hs.out hk.2.1))
      have V2 := Aside0.mk (Kd.V_below V1.out hb2)
      have M2 := B1.out.below hb2
      have B2 := Aside0.mk M2
      clear y0 yf0 q_0 y1 yf1 q_1 y2 yf2 q_2 y3 yf3 q_3 y4 yf4 q_4
      have y0 := (M2.cell 0 0 rfl).trans rfl
      have yf0 := M2.frz 0 0 rfl
      have y1 := (M2.cell 0 1 rfl).trans rfl
      have yf1 := M2.frz 0 1 rfl
      have y2 := (M2.cell 0 2 rfl).trans rfl
      have yf2 := M2.frz 0 2 rfl
      have y3 := (M2.cell 0 3 rfl).trans rfl
      have yf3 := M2.frz 0 3 rfl
      have y4 := (M2.cell 0 4 rfl).trans rfl
      have yf4 := M2.frz 0 4 rfl
      clear M2 hb2 YR
      go_wp2
      refine Bxs.fin5 (hi := w.heap.size + 2) B2.out (by omega) ?_
      intro Wf MF OF
      have MF2 := Aside0.mk MF
      have OF2 := Aside0.mk OF
      clear MF OF
      go_wp2
      refine bodyPost_ret (results_tc rfl _ _ (w.heap.size + 1) 34 _ (0, 0) _ rfl (MF2.out.get 0 rfl) Try.underlying34 rfl (by kernel_rfl)) rfl ?_
      exact ⟨_, _, rfl, Kd.V_mono (OF2.out.V V2.out (fun k hk => .inl hk.2)) (fun k hk => ⟨.inl hk.1, (fun h => by have h1 : w.heap.size + 2 ≤ k := RB.out.1 k h.symm; have h2 : k < w.heap.size := hk.2; omega)⟩), Kd.R_mono (Kd.R_step RB.out (fun k hk hl => OF2.out k (.inr hk) hl)) (fun k hk => Nat.le_trans (Nat.le_add_right _ 2) hk), MF2.out.b⟩
  have e7 : (a1_0 == 7) = false := beq_eq_false_iff_ne.2 h7
  rw [if_neg h7] at H
  replace H := Option.bind_eq_some_iff.mp H
  obtain ⟨⟨o1, o2, o3, o4, o5⟩, hf, H⟩ := H
  simp only [Option.some.injEq, Prod.mk.injEq] at H
  obtain ⟨rfl, rfl, rfl, rfl, rfl, rfl⟩ := H
  have HF := Aside0.mk hf
  clear hf
  go_wp2_with fail
  refine (deadwoodref10_found.calls A0 c0 l0 n o1 o2 o3 o4 o5 _ (Kd.V_reads' V1.out).2.2 (Kd.V_reads' V1.out).2.1 HF.out).mono ?_
  rintro e w2 ⟨v4, rfl, YR, hb2⟩
  obtain ⟨A6, c6, rfl⟩ := Kd.R_slice YR
  have RB := Aside0.mk (Kd.R_mono (Kd.R_lower (base' := w.heap.size) (Kd.R_bound YR) (by have := hs.out; omega)) (ok' := fun k => w.heap.size + 2 ≤ k) (fun k hk => Nat.le_trans hs.out hk.2.1))
  have V2 := Aside0.mk (Kd.V_below V1.out hb2)
  have M2 := B1.out.below hb2
  have B2 := Aside0.mk M2
  clear y0 yf0 q_0 y1 yf1 q_1 y2 yf2 q_2 y3 yf3 q_3 y4 yf4 q_4
  have y0 := (M2.cell 0 0 rfl).trans rfl
  have yf0 := M2.frz 0 0 rfl
  have y1 := (M2.cell 0 1 rfl).trans rfl
  have yf1 := M2.frz 0 1 rfl
  have y2 := (M2.cell 0 2 rfl).trans rfl
  have yf2 := M2.frz 0 2 rfl
  have y3 := (M2.cell 0 3 rfl).trans rfl
  have yf3 := M2.frz 0 3 rfl
  have y4 := (M2.cell 0 4 rfl).trans rfl
  have yf4 := M2.frz 0 4 rfl
  clear M2 hb2 YR
  go_wp2
  refine Bxs.fin5 (hi := w.heap.size + 2) B2.out (by omega) ?_
  intro Wf MF OF
  have MF2 := Aside0.mk MF
  have OF2 := Aside0.mk OF
  clear MF OF
  go_wp2
  refine bodyPost_ret (results_tc rfl _ _ (w.heap.size + 1) 34 _ (0, 0) _ rfl (MF2.out.get 0 rfl) Try.underlying34 rfl (by kernel_rfl)) rfl ?_
  exact ⟨_, _, rfl, Kd.V_mono (OF2.out.V V2.out (fun k hk => .inl hk.2)) (fun k hk => ⟨.inl hk.1, (fun h => by have h1 : w.heap.size + 2 ≤ k := RB.out.1 k h.symm; have h2 : k < w.heap.size := hk.2; omega)⟩), Kd.R_mono (Kd.R_step RB.out (fun k hk hl => OF2.out k (.inr hk) hl)) (fun k hk => Nat.le_trans (Nat.le_add_right _ 2) hk), MF2.out.b⟩

/-! ### deadwoodref10_Do : by hand, elsewhere -/

/-! ### deadwoodref09_Same: function 12 -/
def deadwoodref09_Same.f (k : Nat) (a0_0 : Int) (a0_1 : Int) (a0_2 : Int) (a0_3 : Int) (l0_4 : List (S49)) (a1_0 : Int) (a1_1 : Int) (a1_2 : Int) (a1_3 : Int) (l1_4 : List (S49)) : Option (Bool) := if a0_0 = a1_0 then (if a0_1 = a1_1 then (if a0_2 = a1_2 then (if a0_3 = a1_3 then ((deadwoodref08_Same.f k l0_4 l1_4).bind fun t475 => (some t475)) else (some false)) else (some false)) else (some false)) else (some false)
theorem deadwoodref09_Same.mono : ∀ a0 a1 a2 a3 a4 a5 a6 a7 a8 a9 k, LeO (deadwoodref09_Same.f k a0 a1 a2 a3 a4 a5 a6 a7 a8 a9) (deadwoodref09_Same.f (k + 1) a0 a1 a2 a3 a4 a5 a6 a7 a8 a9) := by
  intro a0 a1 a2 a3 a4 a5 a6 a7 a8 a9 k
  unfold deadwoodref09_Same.f
  repeat' first
      | (with_reducible exact deadwoodref08_Same.mono _ _ _)
      | (with_reducible exact LeO.refl _)
      | (with_reducible exact LeO.none _)
      | (with_reducible refine LeO.ite ?_ ?_)
      | (with_reducible refine LeO.bind ?_ (fun _ => ?_))
      | exact deadwoodref08_Same.mono _ _ _
      | exact LeO.none _
      | refine LeO.ite ?_ ?_
      | refine LeO.bind ?_ (fun _ => ?_)
set_option maxHeartbeats 8000000 in
set_option maxRecDepth 100000 in
theorem deadwoodref09_Same.calls (k : Nat) (a0_0 : Int) (a0_1 : Int) (a0_2 : Int) (a0_3 : Int) (A0_4 : Option Addr) (c0_4 : Nat) (l0_4 : List (S49)) (a1_0 : Int) (a1_1 : Int) (a1_2 : Int) (a1_3 : Int) (A1_4 : Option Addr) (c1_4 : Nat) (l1_4 : List (S49)) (r : Bool) (w : World) (hr0_4 : Kd.C k49 w A0_4 l0_4.length l0_4) (hc0_4 : l0_4.length ≤ c0_4) (hr1_4 : Kd.C k49 w A1_4 l1_4.length l1_4) (hc1_4 : l1_4.length ≤ c1_4) (h : deadwoodref09_Same.f k a0_0 a0_1 a0_2 a0_3 l0_4 a1_0 a1_1 a1_2 a1_3 l1_4 = some r) :
    Calls Try.prog 12 #[.agg #[.int .i64 a0_0, .int .i64 a0_1, .int .i64 a0_2, .int .i64 a0_3, .slice A0_4 l0_4.length c0_4], .agg #[.int .i64 a1_0, .int .i64 a1_1, .int .i64 a1_2, .int .i64 a1_3, .slice A1_4 l1_4.length c1_4]] w fun e w' => e = .returned (.bool r) ∧ Below w.heap.size w w' := by
  have hu34 := Try.underlying34
  have HR0_4 := Aside0.mk hr0_4
  have HC0_4 := Aside0.mk hc0_4
  clear hr0_4 hc0_4
  have HR1_4 := Aside0.mk hr1_4
  have HC1_4 := Aside0.mk hc1_4
  clear hr1_4 hc1_4
  have HB := Aside0.mk (Below.refl w.heap.size w)
  have H : (if a0_0 = a1_0 then (if a0_1 = a1_1 then (if a0_2 = a1_2 then (if a0_3 = a1_3 then ((deadwoodref08_Same.f k l0_4 l1_4).bind fun t475 => (some t475)) else (some false)) else (some false)) else (some false)) else (some false)) = some r := h
  clear h
  by_cases c3 : a0_0 = a1_0
  · rw [if_pos c3] at H
    have c3b0 : (a0_0 == a1_0) = true := beq_iff_eq.mpr c3
    have c3b1 : (a0_0 != a1_0) = false := bne_eq_false_iff_eq.mpr c3
    clear c3
    by_cases c4 : a0_1 = a1_1
    · rw [if_pos c4] at H
      have c4b0 : (a0_1 == a1_1) = true := beq_iff_eq.mpr c4
      have c4b1 : (a0_1 != a1_1) = false := bne_eq_false_iff_eq.mpr c4
      clear c4
      by_cases c5 : a0_2 = a1_2
      · rw [if_pos c5] at H
        have c5b0 : (a0_2 == a1_2) = true := beq_iff_eq.mpr c5
        have c5b1 : (a0_2 != a1_2) = false := bne_eq_false_iff_eq.mpr c5
        clear c5
        by_cases c6 : a0_3 = a1_3
        · rw [if_pos c6] at H
          have c6b0 : (a0_3 == a1_3) = true := beq_iff_eq.mpr c6
          have c6b1 : (a0_3 != a1_3) = false := bne_eq_false_iff_eq.mpr c6
          clear c6
          replace H := Option.bind_eq_some_iff.mp H
          obtain ⟨t475, A70, H⟩ := H
          replace H : (some t475) = some r := H
          have A7 := Aside0.mk A70
          clear A70
          obtain rfl := Option.some.inj H
          go_enter Try.func12, Try.ntmps12
          go_wp2_with (first | ((with_reducible refine gate_dst (N := 2) rfl ?_); refine box_event ?hg (N := 2) ?hd (cs := #[.int .i64 a0_0, .int .i64 a0_1, .int .i64 a0_2, .int .i64 a0_3, .slice A0_4 l0_4.length c0_4]) (t := 34) ?hr ?_; (case hd => rfl); (case hg => rfl); (case hr => first | (go_simp; done) | (go_simp; rfl)); intro gb473 hg w8 hbox hb; have n0_ := Aside0.mk (below_step (by repeat (first | (with_reducible first | exact HB.out | apply below_alloc | apply pw_below_drewN | apply below_drew1) | exact HB.out)) hb); have n1_ := Aside0.mk (hbox); have n2_ := Aside0.mk ((by rw [hg]; exact (below_size (by repeat (first | (with_reducible first | exact HB.out | apply below_alloc | apply pw_below_drewN | apply below_drew1) | exact HB.out))) : w.heap.size ≤ gb473)); have n3_ := Aside0.mk ((by rw [hg]; exact (below_size (by repeat (first | (with_reducible first | exact HB.out | apply below_alloc | apply pw_below_drewN | apply below_drew1) | exact HB.out))) : w.heap.size ≤ gb473)); clear HB; have HB := n0_; have BK473 := n1_; have GW473 := n2_; have GE473 := n3_; clear n0_ n1_ n2_ n3_; clear hb hbox hg) | ((with_reducible refine gate_dst (N := 3) rfl ?_); refine box_event ?hg (N := 3) ?hd (cs := #[.int .i64 a1_0, .int .i64 a1_1, .int .i64 a1_2, .int .i64 a1_3, .slice A1_4 l1_4.length c1_4]) (t := 34) ?hr ?_; (case hd => rfl); (case hg => rfl); (case hr => first | (go_simp; done) | (go_simp; rfl)); intro gb474 hg w9 hbox hb; have n0_ := Aside0.mk (blk_below (g := gb473) (o := .cells #[.int .i64 a0_0, .int .i64 a0_1, .int .i64 a0_2, .int .i64 a0_3, .slice A0_4 l0_4.length c0_4] 34 (0, 0)) (by (with_reducible repeat (first | refine blk_drewN ?_ _ | refine blk_drew ?_ | refine blk_alloc ?_ _)); exact BK473.out) hb); have n1_ := Aside0.mk (below_step (by repeat (first | (with_reducible first | exact HB.out | apply below_alloc | apply pw_below_drewN | apply below_drew1 | refine below_set ?_ GE473.out) | exact HB.out)) hb); have n2_ := Aside0.mk (hbox); have n3_ := Aside0.mk ((by rw [hg]; exact (below_size (by repeat (first | (with_reducible first | exact HB.out | apply below_alloc | apply pw_below_drewN | apply below_drew1 | refine below_set ?_ GE473.out) | exact HB.out))) : w.heap.size ≤ gb474)); have n4_ := Aside0.mk ((by rw [hg]; exact (below_size (by repeat (first | (with_reducible first | exact HB.out | apply below_alloc | apply pw_below_drewN | apply below_drew1 | refine below_set ?_ GE473.out) | exact HB.out))) : w.heap.size ≤ gb474)); have n5_ := Aside0.mk ((by rw [hg]; exact Nat.ne_of_lt (blk_lt (g := gb473) (o := .cells #[.int .i64 a0_0, .int .i64 a0_1, .int .i64 a0_2, .int .i64 a0_3, .slice A0_4 l0_4.length c0_4] 34 (0, 0)) (by (with_reducible repeat (first | refine blk_drewN ?_ _ | refine blk_drew ?_ | refine blk_alloc ?_ _)); exact BK473.out)) : gb473 ≠ gb474)); have n6_ := Aside0.mk ((by rw [hg]; exact Nat.ne_of_gt (blk_lt (g := gb473) (o := .cells #[.int .i64 a0_0, .int .i64 a0_1, .int .i64 a0_2, .int .i64 a0_3, .slice A0_4 l0_4.length c0_4] 34 (0, 0)) (by (with_reducible repeat (first | refine blk_drewN ?_ _ | refine blk_drew ?_ | refine blk_alloc ?_ _)); exact BK473.out)) : gb474 ≠ gb473)); clear BK473; clear HB; have BK473 := n0_; have HB := n1_; have BK474 := n2_; have GW474 := n3_; have GE474 := n4_; have NB473_474 := n5_; have NB474_473 := n6_; clear n0_ n1_ n2_ n3_ n4_ n5_ n6_; clear hb hbox hg; have hnb10 := NB473_474.out; have hnc10 := NB474_473.out; have hcz11_0 : w9.cell? ⟨gb473, 0, none⟩ = some (.int .i64 a0_0) := (blk_cell BK473.out 0).trans rfl; have hcz11_1 : w9.cell? ⟨gb473, 1, none⟩ = some (.int .i64 a0_1) := (blk_cell BK473.out 1).trans rfl; have hcz11_2 : w9.cell? ⟨gb473, 2, none⟩ = some (.int .i64 a0_2) := (blk_cell BK473.out 2).trans rfl; have hcz11_3 : w9.cell? ⟨gb473, 3, none⟩ = some (.int .i64 a0_3) := (blk_cell BK473.out 3).trans rfl; have hcz11_4 : w9.cell? ⟨gb473, 4, none⟩ = some (.slice A0_4 l0_4.length c0_4) := (blk_cell BK473.out 4).trans rfl; have hfz11_0 := blk_frozen BK473.out 0; have hfz11_1 := blk_frozen BK473.out 1; have hfz11_2 := blk_frozen BK473.out 2; have hfz11_3 := blk_frozen BK473.out 3; have hfz11_4 := blk_frozen BK473.out 4; have hcz12_0 : w9.cell? ⟨gb474, 0, none⟩ = some (.int .i64 a1_0) := (blk_cell BK474.out 0).trans rfl; have hcz12_1 : w9.cell? ⟨gb474, 1, none⟩ = some (.int .i64 a1_1) := (blk_cell BK474.out 1).trans rfl; have hcz12_2 : w9.cell? ⟨gb474, 2, none⟩ = some (.int .i64 a1_2) := (blk_cell BK474.out 2).trans rfl; have hcz12_3 : w9.cell? ⟨gb474, 3, none⟩ = some (.int .i64 a1_3) := (blk_cell BK474.out 3).trans rfl; have hcz12_4 : w9.cell? ⟨gb474, 4, none⟩ = some (.slice A1_4 l1_4.length c1_4) := (blk_cell BK474.out 4).trans rfl; have hfz12_0 := blk_frozen BK474.out 0; have hfz12_1 := blk_frozen BK474.out 1; have hfz12_2 := blk_frozen BK474.out 2; have hfz12_3 := blk_frozen BK474.out 3; have hfz12_4 := blk_frozen BK474.out 4) | (go_at_call 33; (with_reducible refine (deadwoodref08_Same.calls k _ _ l0_4 _ _ l1_4 t475 _ ?side1 ?side2 ?side3 ?side4 A7.out).mono ?_); (case side1 => repeat (first | exact (Kd.C_below HR0_4.out HB.out) | (with_reducible refine Kd.C_alloc ?_ _) | (with_reducible refine Kd.C_drewN ?_ _) | (with_reducible refine Kd.C_drew ?_))); (case side2 => exact HC0_4.out); (case side3 => repeat (first | exact (Kd.C_below HR1_4.out HB.out) | (with_reducible refine Kd.C_alloc ?_ _) | (with_reducible refine Kd.C_drewN ?_ _) | (with_reducible refine Kd.C_drew ?_))); (case side4 => exact HC1_4.out); rintro e w' ⟨rfl, ⟨nd, rfl⟩⟩))
          go_ret
          exact ⟨by first | rfl | (simp [errW_none, errW_some] <;> rfl) | (simp [*, errW_none, errW_some] <;> rfl), by repeat (first | (with_reducible first | exact HB.out | apply below_alloc | apply pw_below_drewN | apply below_drew1 | refine below_set ?_ GE473.out | refine below_set ?_ GE474.out) | exact HB.out)⟩
        · rw [if_neg c6] at H
          have c6b0 : (a0_3 == a1_3) = false := beq_eq_false_iff_ne.mpr c6
          have c6b1 : (a0_3 != a1_3) = true := bne_iff_ne.mpr c6
          obtain rfl := Option.some.inj H
          go_enter Try.func12, Try.ntmps12
          go_wp2_with (first | ((with_reducible refine gate_dst (N := 2) rfl ?_); refine box_event ?hg (N := 2) ?hd (cs := #[.int .i64 a0_0, .int .i64 a0_1, .int .i64 a0_2, .int .i64 a0_3, .slice A0_4 l0_4.length c0_4]) (t := 34) ?hr ?_; (case hd => rfl); (case hg => rfl); (case hr => first | (go_simp; done) | (go_simp; rfl)); intro gb473 hg w13 hbox hb; have n0_ := Aside0.mk (below_step (by repeat (first | (with_reducible first | exact HB.out | apply below_alloc | apply pw_below_drewN | apply below_drew1) | exact HB.out)) hb); have n1_ := Aside0.mk (hbox); have n2_ := Aside0.mk ((by rw [hg]; exact (below_size (by repeat (first | (with_reducible first | exact HB.out | apply below_alloc | apply pw_below_drewN | apply below_drew1) | exact HB.out))) : w.heap.size ≤ gb473)); have n3_ := Aside0.mk ((by rw [hg]; exact (below_size (by repeat (first | (with_reducible first | exact HB.out | apply below_alloc | apply pw_below_drewN | apply below_drew1) | exact HB.out))) : w.heap.size ≤ gb473)); clear HB; have HB := n0_; have BK473 := n1_; have GW473 := n2_; have GE473 := n3_; clear n0_ n1_ n2_ n3_; clear hb hbox hg) | ((with_reducible refine gate_dst (N := 3) rfl ?_); refine box_event ?hg (N := 3) ?hd (cs := #[.int .i64 a1_0, .int .i64 a1_1, .int .i64 a1_2, .int .i64 a1_3, .slice A1_4 l1_4.length c1_4]) (t := 34) ?hr ?_; (case hd => rfl); (case hg => rfl); (case hr => first | (go_simp; done) | (go_simp; rfl)); intro gb474 hg w14 hbox hb; have n0_ := Aside0.mk (blk_below (g := gb473) (o := .cells #[.int .i64 a0_0, .int .i64 a0_1, .int .i64 a0_2, .int .i64 a0_3, .slice A0_4 l0_4.length c0_4] 34 (0, 0)) (by (with_reducible repeat (first | refine blk_drewN ?_ _ | refine blk_drew ?_ | refine blk_alloc ?_ _)); exact BK473.out) hb); have n1_ := Aside0.mk (below_step (by repeat (first | (with_reducible first | exact HB.out | apply below_alloc | apply pw_below_drewN | apply below_drew1 | refine below_set ?_ GE473.out) | exact HB.out)) hb); have n2_ := Aside0.mk (hbox); have n3_ := Aside0.mk ((by rw [hg]; exact (below_size (by repeat (first | (with_reducible first | exact HB.out | apply below_alloc | apply pw_below_drewN | apply below_drew1 | refine below_set ?_ GE473.out) | exact HB.out))) : w.heap.size ≤ gb474)); have n4_ := Aside0.mk ((by rw [hg]; exact (below_size (by repeat (first | (with_reducible first | exact HB.out | apply below_alloc | apply pw_below_drewN | apply below_drew1 | refine below_set ?_ GE473.out) | exact HB.out))) : w.heap.size ≤ gb474)); have n5_ := Aside0.mk ((by rw [hg]; exact Nat.ne_of_lt (blk_lt (g := gb473) (o := .cells #[.int .i64 a0_0, .int .i64 a0_1, .int .i64 a0_2, .int .i64 a0_3, .slice A0_4 l0_4.length c0_4] 34 (0, 0)) (by (with_reducible repeat (first | refine blk_drewN ?_ _ | refine blk_drew ?_ | refine blk_alloc ?_ _)); exact BK473.out)) : gb473 ≠ gb474)); have n6_ := Aside0.mk ((by rw [hg]; exact Nat.ne_of_gt (blk_lt (g := gb473) (o := .cells #[.int .i64 a0_0, .int .i64 a0_1, .int .i64 a0_2, .int .i64 a0_3, .slice A0_4 l0_4.length c0_4] 34 (0, 0)) (by (with_reducible repeat (first | refine blk_drewN ?_ _ | refine blk_drew ?_ | refine blk_alloc ?_ _)); exact BK473.out)) : gb474 ≠ gb473)); clear BK473; clear HB; have BK473 := n0_; have HB := n1_; have BK474 := n2_; have GW474 := n3_; have GE474 := n4_; have NB473_474 := n5_; have NB474_473 := n6_; clear n0_ n1_ n2_ n3_ n4_ n5_ n6_; clear hb hbox hg; have hnb15 := NB473_474.out; have hnc15 := NB474_473.out; have hcz16_0 : w14.cell? ⟨gb473, 0, none⟩ = some (.int .i64 a0_0) := (blk_cell BK473.out 0).trans rfl; have hcz16_1 : w14.cell? ⟨gb473, 1, none⟩ = some (.int .i64 a0_1) := (blk_cell BK473.out 1).trans rfl; have hcz16_2 : w14.cell? ⟨gb473, 2, none⟩ = some (.int .i64 a0_2) := (blk_cell BK473.out 2).trans rfl; have hcz16_3 : w14.cell? ⟨gb473, 3, none⟩ = some (.int .i64 a0_3) := (blk_cell BK473.out 3).trans rfl; have hcz16_4 : w14.cell? ⟨gb473, 4, none⟩ = some (.slice A0_4 l0_4.length c0_4) := (blk_cell BK473.out 4).trans rfl; have hfz16_0 := blk_frozen BK473.out 0; have hfz16_1 := blk_frozen BK473.out 1; have hfz16_2 := blk_frozen BK473.out 2; have hfz16_3 := blk_frozen BK473.out 3; have hfz16_4 := blk_frozen BK473.out 4; have hcz17_0 : w14.cell? ⟨gb474, 0, none⟩ = some (.int .i64 a1_0) := (blk_cell BK474.out 0).trans rfl; have hcz17_1 : w14.cell? ⟨gb474, 1, none⟩ = some (.int .i64 a1_1) := (blk_cell BK474.out 1).trans rfl; have hcz17_2 : w14.cell? ⟨gb474, 2, none⟩ = some (.int .i64 a1_2) := (blk_cell BK474.out 2).trans rfl; have hcz17_3 : w14.cell? ⟨gb474, 3, none⟩ = some (.int .i64 a1_3) := (blk_cell BK474.out 3).trans rfl; have hcz17_4 : w14.cell? ⟨gb474, 4, none⟩ = some (.slice A1_4 l1_4.length c1_4) := (blk_cell BK474.out 4).trans rfl; have hfz17_0 := blk_frozen BK474.out 0; have hfz17_1 := blk_frozen BK474.out 1; have hfz17_2 := blk_frozen BK474.out 2; have hfz17_3 := blk_frozen BK474.out 3; have hfz17_4 := blk_frozen BK474.out 4))
          go_ret
          exact ⟨by first | rfl | (simp [errW_none, errW_some] <;> rfl) | (simp [*, errW_none, errW_some] <;> rfl), by repeat (first | (with_reducible first | exact HB.out | apply below_alloc | apply pw_below_drewN | apply below_drew1 | refine below_set ?_ GE473.out | refine below_set ?_ GE474.out) | exact HB.out)⟩
      · rw [if_neg c5] at H
        have c5b0 : (a0_2 == a1_2) = false := beq_eq_false_iff_ne.mpr c5
        have c5b1 : (a0_2 != a1_2) = true := bne_iff_ne.mpr c5
        obtain rfl := Option.some.inj H
        go_enter Try.func12, Try.ntmps12
        go_wp2_with (first | ((with_reducible refine gate_dst (N := 2) rfl ?_); refine box_event ?hg (N := 2) ?hd (cs := #[.int .i64 a0_0, .int .i64 a0_1, .int .i64 a0_2, .int .i64 a0_3, .slice A0_4 l0_4.length c0_4]) (t := 34) ?hr ?_; (case hd => rfl); (case hg => rfl); (case hr => first | (go_simp; done) | (go_simp; rfl)); intro gb473 hg w18 hbox hb; have n0_ := Aside0.mk (below_step (by repeat (first | (with_reducible first | exact HB.out | apply below_alloc | apply pw_below_drewN | apply below_drew1) | exact HB.out)) hb); have n1_ := Aside0.mk (hbox); have n2_ := Aside0.mk ((by rw [hg]; exact (below_size (by repeat (first | (with_reducible first | exact HB.out | apply below_alloc | apply pw_below_drewN | apply below_drew1) | exact HB.out))) : w.heap.size ≤ gb473)); have n3_ := Aside0.mk ((by rw [hg]; exact (below_size (by repeat (first | (with_reducible first | exact HB.out | apply below_alloc | apply pw_below_drewN | apply below_drew1) | exact HB.out))) : w.heap.size ≤ gb473)); clear HB; have HB := n0_; have BK473 := n1_; have GW473 := n2_; have GE473 := n3_; clear n0_ n1_ n2_ n3_; clear hb hbox hg) | ((with_reducible refine gate_dst (N := 3) rfl ?_); refine box_event ?hg (N := 3) ?hd (cs := #[.int .i64 a1_0, .int .i64 a1_1, .int .i64 a1_2, .int .i64 a1_3, .slice A1_4 l1_4.length c1_4]) (t := 34) ?hr ?_; (case hd => rfl); (case hg => rfl); (case hr => first | (go_simp; done) | (go_simp; rfl)); intro gb474 hg w19 hbox hb; have n0_ := Aside0.mk (blk_below (g := gb473) (o := .cells #[.int .i64 a0_0, .int .i64 a0_1, .int .i64 a0_2, .int .i64 a0_3, .slice A0_4 l0_4.length c0_4] 34 (0, 0)) (by (with_reducible repeat (first | refine blk_drewN ?_ _ | refine blk_drew ?_ | refine blk_alloc ?_ _)); exact BK473.out) hb); have n1_ := Aside0.mk (below_step (by repeat (first | (with_reducible first | exact HB.out | apply below_alloc | apply pw_below_drewN | apply below_drew1 | refine below_set ?_ GE473.out) | exact HB.out)) hb); have n2_ := Aside0.mk (hbox); have n3_ := Aside0.mk ((by rw [hg]; exact (below_size (by repeat (first | (with_reducible first | exact HB.out | apply below_alloc | apply pw_below_drewN | apply below_drew1 | refine below_set ?_ GE473.out) | exact HB.out))) : w.heap.size ≤ gb474)); have n4_ := Aside0.mk ((by rw [hg]; exact (below_size (by repeat (first | (with_reducible first | exact HB.out | apply below_alloc | apply pw_below_drewN | apply below_drew1 | refine below_set ?_ GE473.out) | exact HB.out))) : w.heap.size ≤ gb474)); have n5_ := Aside0.mk ((by rw [hg]; exact Nat.ne_of_lt (blk_lt (g := gb473) (o := .cells #[.int .i64 a0_0, .int .i64 a0_1, .int .i64 a0_2, .int .i64 a0_3, .slice A0_4 l0_4.length c0_4] 34 (0, 0)) (by (with_reducible repeat (first | refine blk_drewN ?_ _ | refine blk_drew ?_ | refine blk_alloc ?_ _)); exact BK473.out)) : gb473 ≠ gb474)); have n6_ := Aside0.mk ((by rw [hg]; exact Nat.ne_of_gt (blk_lt (g := gb473) (o := .cells #[.int .i64 a0_0, .int .i64 a0_1, .int .i64 a0_2, .int .i64 a0_3, .slice A0_4 l0_4.length c0_4] 34 (0, 0)) (by (with_reducible repeat (first | refine blk_drewN ?_ _ | refine blk_drew ?_ | refine blk_alloc ?_ _)); exact BK473.out)) : gb474 ≠ gb473)); clear BK473; clear HB; have BK473 := n0_; have HB := n1_; have BK474 := n2_; have GW474 := n3_; have GE474 := n4_; have NB473_474 := n5_; have NB474_473 := n6_; clear n0_ n1_ n2_ n3_ n4_ n5_ n6_; clear hb hbox hg; have hnb20 := NB473_474.out; have hnc20 := NB474_473.out; have hcz21_0 : w19.cell? ⟨gb473, 0, none⟩ = some (.int .i64 a0_0) := (blk_cell BK473.out 0).trans rfl; have hcz21_1 : w19.cell? ⟨gb473, 1, none⟩ = some (.int .i64 a0_1) := (blk_cell BK473.out 1).trans rfl; have hcz21_2 : w19.cell? ⟨gb473, 2, none⟩ = some (.int .i64 a0_2) := (blk_cell BK473.out 2).trans rfl; have hcz21_3 : w19.cell? ⟨gb473, 3, none⟩ = some (.int .i64 a0_3) := (blk_cell BK473.out 3).trans rfl; have hcz21_4 : w19.cell? ⟨gb473, 4, none⟩ = some (.slice A0_4 l0_4.length c0_4) := (blk_cell BK473.out 4).trans rfl; have hfz21_0 := blk_frozen BK473.out 0; have hfz21_1 := blk_frozen BK473.out 1; have hfz21_2 := blk_frozen BK473.out 2; have hfz21_3 := blk_frozen BK473.out 3; have hfz21_4 := blk_frozen BK473.out 4; have hcz22_0 : w19.cell? ⟨gb474, 0, none⟩ = some (.int .i64 a1_0) := (blk_cell BK474.out 0).trans rfl; have hcz22_1 : w19.cell? ⟨gb474, 1, none⟩ = some (.int .i64 a1_1) := (blk_cell BK474.out 1).trans rfl; have hcz22_2 : w19.cell? ⟨gb474, 2, none⟩ = some (.int .i64 a1_2) := (blk_cell BK474.out 2).trans rfl; have hcz22_3 : w19.cell? ⟨gb474, 3, none⟩ = some (.int .i64 a1_3) := (blk_cell BK474.out 3).trans rfl; have hcz22_4 : w19.cell? ⟨gb474, 4, none⟩ = some (.slice A1_4 l1_4.length c1_4) := (blk_cell BK474.out 4).trans rfl; have hfz22_0 := blk_frozen BK474.out 0; have hfz22_1 := blk_frozen BK474.out 1; have hfz22_2 := blk_frozen BK474.out 2; have hfz22_3 := blk_frozen BK474.out 3; have hfz22_4 := blk_frozen BK474.out 4))
        go_ret
        exact ⟨by first | rfl | (simp [errW_none, errW_some] <;> rfl) | (simp [*, errW_none, errW_some] <;> rfl), by repeat (first | (with_reducible first | exact HB.out | apply below_alloc | apply pw_below_drewN | apply below_drew1 | refine below_set ?_ GE473.out | refine below_set ?_ GE474.out) | exact HB.out)⟩
    · rw [if_neg c4] at H
      have c4b0 : (a0_1 == a1_1) = false := beq_eq_false_iff_ne.mpr c4
      have c4b1 : (a0_1 != a1_1) = true := bne_iff_ne.mpr c4
      obtain rfl := Option.some.inj H
      go_enter Try.func12, Try.ntmps12
      go_wp2_with (first | ((with_reducible refine gate_dst (N := 2) rfl ?_); refine box_event ?hg (N := 2) ?hd (cs := #[.int .i64 a0_0, .int .i64 a0_1, .int .i64 a0_2, .int .i64 a0_3, .slice A0_4 l0_4.length c0_4]) (t := 34) ?hr ?_; (case hd => rfl); (case hg => rfl); (case hr => first | (go_simp; done) | (go_simp; rfl)); intro gb473 hg w23 hbox hb; have n0_ := Aside0.mk (below_step (by repeat (first | (with_reducible first | exact HB.out | apply below_alloc | apply pw_below_drewN | apply below_drew1) | exact HB.out)) hb); have n1_ := Aside0.mk (hbox); have n2_ := Aside0.mk ((by rw [hg]; exact (below_size (by repeat (first | (with_reducible first | exact HB.out | apply below_alloc | apply pw_below_drewN | apply below_drew1) | exact HB.out))) : w.heap.size ≤ gb473)); have n3_ := Aside0.mk ((by rw [hg]; exact (below_size (by repeat (first | (with_reducible first | exact HB.out | apply below_alloc | apply pw_below_drewN | apply below_drew1) | exact HB.out))) : w.heap.size ≤ gb473)); clear HB; have HB := n0_; have BK473 := n1_; have GW473 := n2_; have GE473 := n3_; clear n0_ n1_ n2_ n3_; clear hb hbox hg) | ((with_reducible refine gate_dst (N := 3) rfl ?_); refine box_event ?hg (N := 3) ?hd (cs := #[.int .i64 a1_0, .int .i64 a1_1, .int .i64 a1_2, .int .i64 a1_3, .slice A1_4 l1_4.length c1_4]) (t := 34) ?hr ?_; (case hd => rfl); (case hg => rfl); (case hr => first | (go_simp; done) | (go_simp; rfl)); intro gb474 hg w24 hbox hb; have n0_ := Aside0.mk (blk_below (g := gb473) (o := .cells #[.int .i64 a0_0, .int .i64 a0_1, .int .i64 a0_2, .int .i64 a0_3, .slice A0_4 l0_4.length c0_4] 34 (0, 0)) (by (with_reducible repeat (first | refine blk_drewN ?_ _ | refine blk_drew ?_ | refine blk_alloc ?_ _)); exact BK473.out) hb); have n1_ := Aside0.mk (below_step (by repeat (first | (with_reducible first | exact HB.out | apply below_alloc | apply pw_below_drewN | apply below_drew1 | refine below_set ?_ GE473.out) | exact HB.out)) hb); have n2_ := Aside0.mk (hbox); have n3_ := Aside0.mk ((by rw [hg]; exact (below_size (by repeat (first | (with_reducible first | exact HB.out | apply below_alloc | apply pw_below_drewN | apply below_drew1 | refine below_set ?_ GE473.out) | exact HB.out))) : w.heap.size ≤ gb474)); have n4_ := Aside0.mk ((by rw [hg]; exact (below_size (by repeat (first | (with_reducible first | exact HB.out | apply below_alloc | apply pw_below_drewN | apply below_drew1 | refine below_set ?_ GE473.out) | exact HB.out))) : w.heap.size ≤ gb474)); have n5_ := Aside0.mk ((by rw [hg]; exact Nat.ne_of_lt (blk_lt (g := gb473) (o := .cells #[.int .i64 a0_0, .int .i64 a0_1, .int .i64 a0_2, .int .i64 a0_3, .slice A0_4 l0_4.length c0_4] 34 (0, 0)) (by (with_reducible repeat (first | refine blk_drewN ?_ _ | refine blk_drew ?_ | refine blk_alloc ?_ _)); exact BK473.out)) : gb473 ≠ gb474)); have n6_ := Aside0.mk ((by rw [hg]; exact Nat.ne_of_gt (blk_lt (g := gb473) (o := .cells #[.int .i64 a0_0, .int .i64 a0_1, .int .i64 a0_2, .int .i64 a0_3, .slice A0_4 l0_4.length c0_4] 34 (0, 0)) (by (with_reducible repeat (first | refine blk_drewN ?_ _ | refine blk_drew ?_ | refine blk_alloc ?_ _)); exact BK473.out)) : gb474 ≠ gb473)); clear BK473; clear HB; have BK473 := n0_; have HB := n1_; have BK474 := n2_; have GW474 := n3_; have GE474 := n4_; have NB473_474 := n5_; have NB474_473 := n6_; clear n0_ n1_ n2_ n3_ n4_ n5_ n6_; clear hb hbox hg; have hnb25 := NB473_474.out; have hnc25 := NB474_473.out; have hcz26_0 : w24.cell? ⟨gb473, 0, none⟩ = some (.int .i64 a0_0) := (blk_cell BK473.out 0).trans rfl; have hcz26_1 : w24.cell? ⟨gb473, 1, none⟩ = some (.int .i64 a0_1) := (blk_cell BK473.out 1).trans rfl; have hcz26_2 : w24.cell? ⟨gb473, 2, none⟩ = some (.int .i64 a0_2) := (blk_cell BK473.out 2).trans rfl; have hcz26_3 : w24.cell? ⟨gb473, 3, none⟩ = some (.int .i64 a0_3) := (blk_cell BK473.out 3).trans rfl; have hcz26_4 : w24.cell? ⟨gb473, 4, none⟩ = some (.slice A0_4 l0_4.length c0_4) := (blk_cell BK473.out 4).trans rfl; have hfz26_0 := blk_frozen BK473.out 0; have hfz26_1 := blk_frozen BK473.out 1; have hfz26_2 := blk_frozen BK473.out 2; have hfz26_3 := blk_frozen BK473.out 3; have hfz26_4 := blk_frozen BK473.out 4; have hcz27_0 : w24.cell? ⟨gb474, 0, none⟩ = some (.int .i64 a1_0) := (blk_cell BK474.out 0).trans rfl; have hcz27_1 : w24.cell? ⟨gb474, 1, none⟩ = some (.int .i64 a1_1) := (blk_cell BK474.out 1).trans rfl; have hcz27_2 : w24.cell? ⟨gb474, 2, none⟩ = some (.int .i64 a1_2) := (blk_cell BK474.out 2).trans rfl; have hcz27_3 : w24.cell? ⟨gb474, 3, none⟩ = some (.int .i64 a1_3) := (blk_cell BK474.out 3).trans rfl; have hcz27_4 : w24.cell? ⟨gb474, 4, none⟩ = some (.slice A1_4 l1_4.length c1_4) := (blk_cell BK474.out 4).trans rfl; have hfz27_0 := blk_frozen BK474.out 0; have hfz27_1 := blk_frozen BK474.out 1; have hfz27_2 := blk_frozen BK474.out 2; have hfz27_3 := blk_frozen BK474.out 3; have hfz27_4 := blk_frozen BK474.out 4))
      go_ret
      exact ⟨by first | rfl | (simp [errW_none, errW_some] <;> rfl) | (simp [*, errW_none, errW_some] <;> rfl), by repeat (first | (with_reducible first | exact HB.out | apply below_alloc | apply pw_below_drewN | apply below_drew1 | refine below_set ?_ GE473.out | refine below_set ?_ GE474.out) | exact HB.out)⟩
  · rw [if_neg c3] at H
    have c3b0 : (a0_0 == a1_0) = false := beq_eq_false_iff_ne.mpr c3
    have c3b1 : (a0_0 != a1_0) = true := bne_iff_ne.mpr c3
    obtain rfl := Option.some.inj H
    go_enter Try.func12, Try.ntmps12
    go_wp2_with (first | ((with_reducible refine gate_dst (N := 2) rfl ?_); refine box_event ?hg (N := 2) ?hd (cs := #[.int .i64 a0_0, .int .i64 a0_1, .int .i64 a0_2, .int .i64 a0_3, .slice A0_4 l0_4.length c0_4]) (t := 34) ?hr ?_; (case hd => rfl); (case hg => rfl); (case hr => first | (go_simp; done) | (go_simp; rfl)); intro gb473 hg w28 hbox hb; have n0_ := Aside0.mk (below_step (by repeat (first | (with_reducible first | exact HB.out | apply below_alloc | apply pw_below_drewN | apply below_drew1) | exact HB.out)) hb); have n1_ := Aside0.mk (hbox); have n2_ := Aside0.mk ((by rw [hg]; exact (below_size (by repeat (first | (with_reducible first | exact HB.out | apply below_alloc | apply pw_below_drewN | apply below_drew1) | exact HB.out))) : w.heap.size ≤ gb473)); have n3_ := Aside0.mk ((by rw [hg]; exact (below_size (by repeat (first | (with_reducible first | exact HB.out | apply below_alloc | apply pw_below_drewN | apply below_drew1) | exact HB.out))) : w.heap.size ≤ gb473)); clear HB; have HB := n0_; have BK473 := n1_; have GW473 := n2_; have GE473 := n3_; clear n0_ n1_ n2_ n3_; clear hb hbox hg) | ((with_reducible refine gate_dst (N := 3) rfl ?_); refine box_event ?hg (N := 3) ?hd (cs := #[.int .i64 a1_0, .int .i64 a1_1, .int .i64 a1_2, .int .i64 a1_3, .slice A1_4 l1_4.length c1_4]) (t := 34) ?hr ?_; (case hd => rfl); (case hg => rfl); (case hr => first | (go_simp; done) | (go_simp; rfl)); intro gb474 hg w29 hbox hb; have n0_ := Aside0.mk (blk_below (g := gb473) (o := .cells #[.int .i64 a0_0, .int .i64 a0_1, .int .i64 a0_2, .int .i64 a0_3, .slice A0_4 l0_4.length c0_4] 34 (0, 0)) (by (with_reducible repeat (first | refine blk_drewN ?_ _ | refine blk_drew ?_ | refine blk_alloc ?_ _)); exact BK473.out) hb); have n1_ := Aside0.mk (below_step (by repeat (first | (with_reducible first | exact HB.out | apply below_alloc | apply pw_below_drewN | apply below_drew1 | refine below_set ?_ GE473.out) | exact HB.out)) hb); have n2_ := Aside0.mk (hbox); have n3_ := Aside0.mk ((by rw [hg]; exact (below_size (by repeat (first | (with_reducible first | exact HB.out | apply below_alloc | apply pw_below_drewN | apply below_drew1 | refine below_set ?_ GE473.out) | exact HB.out))) : w.heap.size ≤ gb474)); have n4_ := Aside0.mk ((by rw [hg]; exact (below_size (by repeat (first | (with_reducible first | exact HB.out | apply below_alloc | apply pw_below_drewN | apply below_drew1 | refine below_set ?_ GE473.out) | exact HB.out))) : w.heap.size ≤ gb474)); have n5_ := Aside0.mk ((by rw [hg]; exact Nat.ne_of_lt (blk_lt (g := gb473) (o := .cells #[.int .i64 a0_0, .int .i64 a0_1, .int .i64 a0_2, .int .i64 a0_3, .slice A0_4 l0_4.length c0_4] 34 (0, 0)) (by (with_reducible repeat (first | refine blk_drewN ?_ _ | refine blk_drew ?_ | refine blk_alloc ?_ _)); exact BK473.out)) : gb473 ≠ gb474)); have n6_ := Aside0.mk ((by rw [hg]; exact Nat.ne_of_gt (blk_lt (g := gb473) (o := .cells #[.int .i64 a0_0, .int .i64 a0_1, .int .i64 a0_2, .int .i64 a0_3, .slice A0_4 l0_4.length c0_4] 34 (0, 0)) (by (with_reducible repeat (first | refine blk_drewN ?_ _ | refine blk_drew ?_ | refine blk_alloc ?_ _)); exact BK473.out)) : gb474 ≠ gb473)); clear BK473; clear HB; have BK473 := n0_; have HB := n1_; have BK474 := n2_; have GW474 := n3_; have GE474 := n4_; have NB473_474 := n5_; have NB474_473 := n6_; clear n0_ n1_ n2_ n3_ n4_ n5_ n6_; clear hb hbox hg; have hnb30 := NB473_474.out; have hnc30 := NB474_473.out; have hcz31_0 : w29.cell? ⟨gb473, 0, none⟩ = some (.int .i64 a0_0) := (blk_cell BK473.out 0).trans rfl; have hcz31_1 : w29.cell? ⟨gb473, 1, none⟩ = some (.int .i64 a0_1) := (blk_cell BK473.out 1).trans rfl; have hcz31_2 : w29.cell? ⟨gb473, 2, none⟩ = some (.int .i64 a0_2) := (blk_cell BK473.out 2).trans rfl; have hcz31_3 : w29.cell? ⟨gb473, 3, none⟩ = some (.int .i64 a0_3) := (blk_cell BK473.out 3).trans rfl; have hcz31_4 : w29.cell? ⟨gb473, 4, none⟩ = some (.slice A0_4 l0_4.length c0_4) := (blk_cell BK473.out 4).trans rfl; have hfz31_0 := blk_frozen BK473.out 0; have hfz31_1 := blk_frozen BK473.out 1; have hfz31_2 := blk_frozen BK473.out 2; have hfz31_3 := blk_frozen BK473.out 3; have hfz31_4 := blk_frozen BK473.out 4; have hcz32_0 : w29.cell? ⟨gb474, 0, none⟩ = some (.int .i64 a1_0) := (blk_cell BK474.out 0).trans rfl; have hcz32_1 : w29.cell? ⟨gb474, 1, none⟩ = some (.int .i64 a1_1) := (blk_cell BK474.out 1).trans rfl; have hcz32_2 : w29.cell? ⟨gb474, 2, none⟩ = some (.int .i64 a1_2) := (blk_cell BK474.out 2).trans rfl; have hcz32_3 : w29.cell? ⟨gb474, 3, none⟩ = some (.int .i64 a1_3) := (blk_cell BK474.out 3).trans rfl; have hcz32_4 : w29.cell? ⟨gb474, 4, none⟩ = some (.slice A1_4 l1_4.length c1_4) := (blk_cell BK474.out 4).trans rfl; have hfz32_0 := blk_frozen BK474.out 0; have hfz32_1 := blk_frozen BK474.out 1; have hfz32_2 := blk_frozen BK474.out 2; have hfz32_3 := blk_frozen BK474.out 3; have hfz32_4 := blk_frozen BK474.out 4))
    go_ret
    exact ⟨by first | rfl | (simp [errW_none, errW_some] <;> rfl) | (simp [*, errW_none, errW_some] <;> rfl), by repeat (first | (with_reducible first | exact HB.out | apply below_alloc | apply pw_below_drewN | apply below_drew1 | refine below_set ?_ GE473.out | refine below_set ?_ GE474.out) | exact HB.out)⟩

/-! ### deadwoodref09_Reads: function 35 -/
def deadwoodref09_Reads.f (a0 : Int) : Option (Bool) := if a0 > 2 then (some (decide (a0 < 10))) else (some false)
set_option maxHeartbeats 8000000 in
set_option maxRecDepth 100000 in
theorem deadwoodref09_Reads.calls (a0 : Int) (r : Bool) (w : World) (h : deadwoodref09_Reads.f a0 = some r) :
    Calls Try.prog 35 #[.int .i64 a0] w fun e w' => e = .returned (.bool r) ∧ Drawn0 w w' := by
  have H : (if a0 > 2 then (some (decide (a0 < 10))) else (some false)) = some r := h
  clear h
  by_cases c2 : a0 > 2
  · rw [if_pos c2] at H
    have c2b0 : decide (2 < a0) = true := decide_eq_true c2
    clear c2
    obtain rfl := Option.some.inj H
    go_enter Try.func35, Try.ntmps35
    go_wp2
    go_ret
    exact ⟨by first | rfl | (simp; done) | (simp [*]; done), by repeat (first | exact Drawn0.refl _ | apply Drawn0.step)⟩
  · rw [if_neg c2] at H
    have c2b0 : decide (2 < a0) = false := decide_eq_false c2
    clear c2
    obtain rfl := Option.some.inj H
    go_enter Try.func35, Try.ntmps35
    go_wp2
    go_ret
    exact ⟨by first | rfl | (simp; done) | (simp [*]; done), by repeat (first | exact Drawn0.refl _ | apply Drawn0.step)⟩

/-! ### deadwoodref10_Told : by hand, elsewhere -/

end Go.Proofs.Ytkkneaefjahihaa.PModelTold
