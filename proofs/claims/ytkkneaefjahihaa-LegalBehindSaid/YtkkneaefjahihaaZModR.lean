/- The document's state: what makes it. -/
import Derived.Test.YtkkneaefjahihaaZModW
import Derived.Test.YtkkneaefjahihaaZBxs
import Derived.Test.YtkkneaefjahihaaZPModelToldx10
set_option linter.unusedVariables false
set_option linter.unusedSimpArgs false
namespace Go.Proofs.Ytkkneaefjahihaa.ModR
open Go Go.RowKit Go.Proofs.YtkkneaefjahihaaW.PrintWords Go.Proofs.YtkkneaefjahihaaW.PrintLast Go.Proofs.YtkkneaefjahihaaW.PrintMore Go.Proofs.Ytkkneaefjahihaa.PModelTold Go.Proofs.Ytkkneaefjahihaa.GRow Go.Proofs.Ytkkneaefjahihaa.ModRec Go.Proofs.Ytkkneaefjahihaa.Num Go.Proofs.Ytkkneaefjahihaa.Bxs Go.Proofs.Ytkkneaefjahihaa.ModW
attribute [local go_sem] max2_int min2_int max_two min_two max_three min_three max_four min_four
set_option maxHeartbeats 1000000 in
set_option maxRecDepth 100000 in
theorem rnew_any (n : Int) (N : Nat) (w : World) (hN : N ≤ 6) (hn : (n < 0 ∧ N = 0) ∨ (0 ≤ n ∧ n ≤ 6 ∧ n = N) ∨ (6 < n ∧ N = 6)) :
    Calls Try.prog 9 #[.int .i64 n] w fun e w' => ∃ v0_ v1_ : Value, e = .returned (.agg #[v0_, v1_]) ∧ Kd.V k49 49 w' w.heap.size (fun k_ => (w.heap.size ≤ k_)) v0_ [] ∧ Kd.V k61 61 w' w.heap.size (fun k_ => (w.heap.size ≤ k_)) v1_ (List.replicate N z61) ∧ Below w.heap.size w w' := by
  have hu27 := Try.underlying31
  obtain ⟨i0, hi0, hz1, hz2, hz0⟩ := info_x
  rcases hn with ⟨h1, rfl⟩ | ⟨h1, h2, rfl⟩ | ⟨h1, rfl⟩
  · go_enter Try.func9, Try.ntmps9
    go_wp2_with (first | (at_make; refine wpList_make_full _ rfl _ _ 29 rfl (w.heap.size + 1) 61 i0 (.agg #[.bool false, .bool false, .slice none 0 0, .int .i64 0]) 4 Try.underlying29 hi0 hz0 hz1 .i64 .i64 _ _ 0 rfl rfl (by omega) (by omega) (by rw [hz2]; omega) (by unfold maxLen; omega) (by simp) ?_; intro w1 hown hgrow; have OW := Aside0.mk hown; have GR := Aside0.mk hgrow; have ZB := Aside0.mk ((hgrow.block w.heap.size (by simp) (by simp)).trans (heap_alloc_new w _)); clear hown hgrow; have z0 := (blk_cell ZB.out 0).trans rfl; have z1 := (blk_cell ZB.out 1).trans rfl; have f0 := blk_frozen ZB.out 0; have f1 := blk_frozen ZB.out 1))
    all_goals refine bodyPost_ret (results_cell_row rfl _ _ w.heap.size 31 #[.slice none 0 0, .slice (some ⟨w.heap.size + 1, 0, none⟩) 0 0] (0, 0) _ rfl (blk_put (blk_put ZB.out 0 _ rfl) 1 _ rfl) Try.underlying31 rfl (by kernel_rfl)) rfl ?_
    all_goals
      have V := own_V (d := k61) (by have := OW.out; rw [made_flat 0 (by omega), World.size_alloc] at this; exact this) (recs_zero61 0 w1) (by simp)
      exact ⟨_, _, rfl, Kd.V_nil _ _ _ _ _, Kd.V_mono (Kd.V_far (p := ⟨w.heap.size, 1, none⟩) (Kd.V_far (p := ⟨w.heap.size, 0, none⟩) V (fun k h => near h) _) (fun k h => near h) _) (fun k h => by rcases h with h | h; exact h.elim; omega),
        (((below_alloc (Below.refl w.heap.size w) _).grown GR.out (by simp) (fun k hk => by cases hk)).setCell (p := ⟨w.heap.size, 0, none⟩) (Nat.le_refl _) _).setCell (p := ⟨w.heap.size, 1, none⟩) (Nat.le_refl _) _⟩
  · go_enter Try.func9, Try.ntmps9
    go_wp2_with (first | (at_make; refine wpList_make_full _ rfl _ _ 29 rfl (w.heap.size + 1) 61 i0 (.agg #[.bool false, .bool false, .slice none 0 0, .int .i64 0]) 4 Try.underlying29 hi0 hz0 hz1 .i64 .i64 _ _ N rfl rfl (by omega) (by omega) (by rw [hz2]; omega) (by unfold maxLen; omega) (by simp) ?_; intro w1 hown hgrow; have OW := Aside0.mk hown; have GR := Aside0.mk hgrow; have ZB := Aside0.mk ((hgrow.block w.heap.size (by simp) (by simp)).trans (heap_alloc_new w _)); clear hown hgrow; have z0 := (blk_cell ZB.out 0).trans rfl; have z1 := (blk_cell ZB.out 1).trans rfl; have f0 := blk_frozen ZB.out 0; have f1 := blk_frozen ZB.out 1))
    all_goals refine bodyPost_ret (results_cell_row rfl _ _ w.heap.size 31 #[.slice none 0 0, .slice (some ⟨w.heap.size + 1, 0, none⟩) N N] (0, 0) _ rfl (blk_put (blk_put ZB.out 0 _ rfl) 1 _ rfl) Try.underlying31 rfl (by kernel_rfl)) rfl ?_
    all_goals
      have V := own_V (d := k61) (by have := OW.out; rw [made_flat N (by omega), World.size_alloc] at this; exact this) (recs_zero61 N w1) (by simp)
      exact ⟨_, _, rfl, Kd.V_nil _ _ _ _ _, Kd.V_mono (Kd.V_far (p := ⟨w.heap.size, 1, none⟩) (Kd.V_far (p := ⟨w.heap.size, 0, none⟩) V (fun k h => near h) _) (fun k h => near h) _) (fun k h => by rcases h with h | h; exact h.elim; omega),
        (((below_alloc (Below.refl w.heap.size w) _).grown GR.out (by simp) (fun k hk => by cases hk)).setCell (p := ⟨w.heap.size, 0, none⟩) (Nat.le_refl _) _).setCell (p := ⟨w.heap.size, 1, none⟩) (Nat.le_refl _) _⟩
  · go_enter Try.func9, Try.ntmps9
    go_wp2_with (first | (at_make; refine wpList_make_full _ rfl _ _ 29 rfl (w.heap.size + 1) 61 i0 (.agg #[.bool false, .bool false, .slice none 0 0, .int .i64 0]) 4 Try.underlying29 hi0 hz0 hz1 .i64 .i64 _ _ 6 rfl rfl (by omega) (by omega) (by rw [hz2]; omega) (by unfold maxLen; omega) (by simp) ?_; intro w1 hown hgrow; have OW := Aside0.mk hown; have GR := Aside0.mk hgrow; have ZB := Aside0.mk ((hgrow.block w.heap.size (by simp) (by simp)).trans (heap_alloc_new w _)); clear hown hgrow; have z0 := (blk_cell ZB.out 0).trans rfl; have z1 := (blk_cell ZB.out 1).trans rfl; have f0 := blk_frozen ZB.out 0; have f1 := blk_frozen ZB.out 1))
    all_goals refine bodyPost_ret (results_cell_row rfl _ _ w.heap.size 31 #[.slice none 0 0, .slice (some ⟨w.heap.size + 1, 0, none⟩) 6 6] (0, 0) _ rfl (blk_put (blk_put ZB.out 0 _ rfl) 1 _ rfl) Try.underlying31 rfl (by kernel_rfl)) rfl ?_
    all_goals
      have V := own_V (d := k61) (by have := OW.out; rw [made_flat 6 (by omega), World.size_alloc] at this; exact this) (recs_zero61 6 w1) (by simp)
      exact ⟨_, _, rfl, Kd.V_nil _ _ _ _ _, Kd.V_mono (Kd.V_far (p := ⟨w.heap.size, 1, none⟩) (Kd.V_far (p := ⟨w.heap.size, 0, none⟩) V (fun k h => near h) _) (fun k h => near h) _) (fun k h => by rcases h with h | h; exact h.elim; omega),
        (((below_alloc (Below.refl w.heap.size w) _).grown GR.out (by simp) (fun k hk => by cases hk)).setCell (p := ⟨w.heap.size, 0, none⟩) (Nat.le_refl _) _).setCell (p := ⟨w.heap.size, 1, none⟩) (Nat.le_refl _) _⟩
end Go.Proofs.Ytkkneaefjahihaa.ModR
