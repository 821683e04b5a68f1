/- What the functions of package plan do, on a plan that is there and on none. -/
import Derived.Test.YtacajonkkfmibaaProg
import Derived.Test.YtacajonkkfmibaaWMore
import Derived.Deep.QuietTactic
import Derived.BigQuiet
import Derived.Lib.Hide
set_option linter.unusedVariables false
set_option linter.unusedSimpArgs false
namespace Go.Proofs.Ytacajonkkfmibaa.Plan
open Go Go.RowKit Go.Proofs.YtacajonkkfmibaaW.PrintWords Go.Proofs.YtacajonkkfmibaaW.PrintLast Go.Proofs.YtacajonkkfmibaaW.PrintMore

/-- A plan of a configuration. -/
def planCells (t s n : Int) : Obj := .cells #[.int .i64 t, .int .i64 s, .int .u64 n] 89 (0, 0)

theorem in_any (n lo hi : Int) (w : World) : Calls Try.prog 56 #[.int .i64 n, .int .i64 lo, .int .i64 hi] w fun e w' => e = .returned (.bool (decide (lo ≤ n) && decide (n ≤ hi))) ∧ w = w' := by
  by_cases h : lo ≤ n
  · have h1 : decide (lo ≤ n) = true := decide_eq_true h
    go_enter Try.func56, Try.ntmps56
    go_wp2
    go_ret
    exact ⟨by simp [h1], rfl⟩
  · have h1 : decide (lo ≤ n) = false := decide_eq_false h
    go_enter Try.func56, Try.ntmps56
    go_wp2
    go_ret
    exact ⟨by simp [h1], rfl⟩

theorem in_yes {n lo hi : Int} (h : lo ≤ n ∧ n ≤ hi) (w : World) : Calls Try.prog 56 #[.int .i64 n, .int .i64 lo, .int .i64 hi] w fun e w' => e = .returned (.bool true) ∧ w = w' :=
  (in_any _ _ _ w).mono fun e w' ⟨he, hw⟩ => ⟨by rw [he, decide_eq_true h.1, decide_eq_true h.2]; rfl, hw⟩
theorem in_no {n lo hi : Int} (h : ¬ (lo ≤ n ∧ n ≤ hi)) (w : World) : Calls Try.prog 56 #[.int .i64 n, .int .i64 lo, .int .i64 hi] w fun e w' => e = .returned (.bool false) ∧ w = w' :=
  (in_any _ _ _ w).mono fun e w' ⟨he, hw⟩ => ⟨by
    rw [he]
    have : (decide (lo ≤ n) && decide (n ≤ hi)) = false := by
      rw [← Bool.decide_and]; exact decide_eq_false h
    rw [this], hw⟩

section
variable {t s n : Int} {g : Nat} {w : World}
theorem slots_of (hb : w.heap[g]? = some (planCells t s n)) (ht : 1 ≤ t ∧ t ≤ 6) : Calls Try.prog 58 #[.pointer (some ⟨g, 0, none⟩)] w fun e w' => e = .returned (.int .i64 (3 + 8 * t)) ∧ w = w' := by
  have c0 : w.cell? ⟨g, 0, none⟩ = some (.int .i64 t) := (blk_cell hb 0).trans rfl
  obtain ⟨ht0, ht1⟩ := ht
  clear hb
  go_enter Try.func58, Try.ntmps58
  go_wp2
  go_ret
  exact ⟨rfl, rfl⟩
/-- Where a thread's own word is, or -1. -/
def ownN (t j i : Int) : Int := if 0 ≤ j ∧ j ≤ t - 1 then 3 + 8 * j + i else -1
theorem own_of (hb : w.heap[g]? = some (planCells t s n)) (ht : 1 ≤ t ∧ t ≤ 6) (j i : Int) (hi : 0 ≤ i ∧ i ≤ 7) :
    Calls Try.prog 57 #[.pointer (some ⟨g, 0, none⟩), .int .i64 j, .int .i64 i] w fun e w' => e = .returned (.int .i64 (ownN t j i)) ∧ w = w' := by
  have c0 : w.cell? ⟨g, 0, none⟩ = some (.int .i64 t) := (blk_cell hb 0).trans rfl
  obtain ⟨ht0, ht1⟩ := ht
  obtain ⟨hi0, hi1⟩ := hi
  clear hb
  by_cases h : 0 ≤ j ∧ j ≤ t - 1
  · have hin := fun W => in_yes h W
    have hval : ownN t j i = 3 + 8 * j + i := if_pos h
    rw [hval]
    obtain ⟨h0, h1⟩ := h
    clear hval
    go_enter Try.func57, Try.ntmps57
    go_wp2_with (go_at_call 56; refine (hin _).mono ?_; rintro e w' ⟨rfl, rfl⟩)
    go_ret
    exact ⟨rfl, rfl⟩
  · have hin := fun W => in_no h W
    have hval : ownN t j i = -1 := if_neg h
    rw [hval]
    clear hval h
    go_enter Try.func57, Try.ntmps57
    go_wp2_with (go_at_call 56; refine (hin _).mono ?_; rintro e w' ⟨rfl, rfl⟩)
    go_ret
    exact ⟨rfl, rfl⟩
theorem own_nil (j i : Int) : Calls Try.prog 57 #[.pointer none, .int .i64 j, .int .i64 i] w fun e w' => e = .returned (.int .i64 (-1)) ∧ w = w' := by
  go_enter Try.func57, Try.ntmps57
  go_wp2
  go_ret
  exact ⟨rfl, rfl⟩
theorem active_of (hb : w.heap[g]? = some (planCells t s n)) (ht : 1 ≤ t ∧ t ≤ 6) (j : Int) :
    Calls Try.prog 28 #[.pointer (some ⟨g, 0, none⟩), .int .i64 j] w fun e w' => e = .returned (.int .i64 (ownN t j 0)) ∧ w = w' := by
  have hin := own_of hb ht j 0 (by decide)
  clear hb
  go_enter Try.func28, Try.ntmps28
  go_wp2_with (go_at_call 57; refine hin.mono ?_; rintro e w' ⟨rfl, rfl⟩)
  go_ret
  exact ⟨rfl, rfl⟩
theorem active_nil (j : Int) : Calls Try.prog 28 #[.pointer none, .int .i64 j] w fun e w' => e = .returned (.int .i64 (-1)) ∧ w = w' := by
  go_enter Try.func28, Try.ntmps28
  go_wp2_with (go_at_call 57; refine (own_nil _ _).mono ?_; rintro e w' ⟨rfl, rfl⟩)
  go_ret
  exact ⟨rfl, rfl⟩
theorem victim_of (hb : w.heap[g]? = some (planCells t s n)) (ht : 1 ≤ t ∧ t ≤ 6) (j : Int) :
    Calls Try.prog 29 #[.pointer (some ⟨g, 0, none⟩), .int .i64 j] w fun e w' => e = .returned (.int .i64 (ownN t j 1)) ∧ w = w' := by
  have hin := own_of hb ht j 1 (by decide)
  clear hb
  go_enter Try.func29, Try.ntmps29
  go_wp2_with (go_at_call 57; refine hin.mono ?_; rintro e w' ⟨rfl, rfl⟩)
  go_ret
  exact ⟨rfl, rfl⟩
theorem victim_nil (j : Int) : Calls Try.prog 29 #[.pointer none, .int .i64 j] w fun e w' => e = .returned (.int .i64 (-1)) ∧ w = w' := by
  go_enter Try.func29, Try.ntmps29
  go_wp2_with (go_at_call 57; refine (own_nil _ _).mono ?_; rintro e w' ⟨rfl, rfl⟩)
  go_ret
  exact ⟨rfl, rfl⟩
/-- Where a bag's stamp (d = 2), or its head (d = 5), is, or -1. -/
def bagN (t j b d : Int) : Int := if 0 ≤ b ∧ b ≤ 2 then ownN t j (d + b) else -1
theorem stamp_of (hb : w.heap[g]? = some (planCells t s n)) (ht : 1 ≤ t ∧ t ≤ 6) (j b : Int) :
    Calls Try.prog 30 #[.pointer (some ⟨g, 0, none⟩), .int .i64 j, .int .i64 b] w fun e w' => e = .returned (.int .i64 (bagN t j b 2)) ∧ w = w' := by
  by_cases h : 0 ≤ b ∧ b ≤ 2
  · have hin := fun W => in_yes h W
    have hown := own_of hb ht j (2 + b) (by omega)
    have hval : bagN t j b 2 = ownN t j (2 + b) := if_pos h
    rw [hval]
    obtain ⟨h0, h1⟩ := h
    clear hval hb
    go_enter Try.func30, Try.ntmps30
    go_wp2_with (first | (go_at_call 56; refine (hin _).mono ?_; rintro e w' ⟨rfl, rfl⟩) | (go_at_call 57; refine hown.mono ?_; rintro e w' ⟨rfl, rfl⟩))
    go_ret
    exact ⟨rfl, rfl⟩
  · have hin := fun W => in_no h W
    have hval : bagN t j b 2 = -1 := if_neg h
    rw [hval]
    clear hval h hb
    go_enter Try.func30, Try.ntmps30
    go_wp2_with (go_at_call 56; refine (hin _).mono ?_; rintro e w' ⟨rfl, rfl⟩)
    go_ret
    exact ⟨rfl, rfl⟩
theorem stamp_nil0 (j : Int) : Calls Try.prog 30 #[.pointer none, .int .i64 j, .int .i64 0] w fun e w' => e = .returned (.int .i64 (-1)) ∧ w = w' := by
  have hin := fun W => in_yes (n := 0) (lo := 0) (hi := 2) (by decide) W
  go_enter Try.func30, Try.ntmps30
  go_wp2_with (first | (go_at_call 56; refine (hin _).mono ?_; rintro e w' ⟨rfl, rfl⟩) | (go_at_call 57; refine (own_nil _ _).mono ?_; rintro e w' ⟨rfl, rfl⟩))
  go_ret
  exact ⟨rfl, rfl⟩
theorem bag_of (hb : w.heap[g]? = some (planCells t s n)) (ht : 1 ≤ t ∧ t ≤ 6) (j b : Int) :
    Calls Try.prog 31 #[.pointer (some ⟨g, 0, none⟩), .int .i64 j, .int .i64 b] w fun e w' => e = .returned (.int .i64 (bagN t j b 5)) ∧ w = w' := by
  by_cases h : 0 ≤ b ∧ b ≤ 2
  · have hin := fun W => in_yes h W
    have hown := own_of hb ht j (5 + b) (by omega)
    have hval : bagN t j b 5 = ownN t j (5 + b) := if_pos h
    rw [hval]
    obtain ⟨h0, h1⟩ := h
    clear hval hb
    go_enter Try.func31, Try.ntmps31
    go_wp2_with (first | (go_at_call 56; refine (hin _).mono ?_; rintro e w' ⟨rfl, rfl⟩) | (go_at_call 57; refine hown.mono ?_; rintro e w' ⟨rfl, rfl⟩))
    go_ret
    exact ⟨rfl, rfl⟩
  · have hin := fun W => in_no h W
    have hval : bagN t j b 5 = -1 := if_neg h
    rw [hval]
    clear hval h hb
    go_enter Try.func31, Try.ntmps31
    go_wp2_with (go_at_call 56; refine (hin _).mono ?_; rintro e w' ⟨rfl, rfl⟩)
    go_ret
    exact ⟨rfl, rfl⟩
theorem bag_nil0 (j : Int) : Calls Try.prog 31 #[.pointer none, .int .i64 j, .int .i64 0] w fun e w' => e = .returned (.int .i64 (-1)) ∧ w = w' := by
  have hin := fun W => in_yes (n := 0) (lo := 0) (hi := 2) (by decide) W
  go_enter Try.func31, Try.ntmps31
  go_wp2_with (first | (go_at_call 56; refine (hin _).mono ?_; rintro e w' ⟨rfl, rfl⟩) | (go_at_call 57; refine (own_nil _ _).mono ?_; rintro e w' ⟨rfl, rfl⟩))
  go_ret
  exact ⟨rfl, rfl⟩
/-- Where a slot's field is, or -1. -/
def nodeN (t s j f : Int) : Int := if 1 ≤ j ∧ j ≤ s then (if 0 ≤ f ∧ f ≤ 6 then 3 + 8 * t + 7 * (j - 1) + f else -1) else -1
theorem node_of (hb : w.heap[g]? = some (planCells t s n)) (ht : 1 ≤ t ∧ t ≤ 6) (hs : 7 ≤ s ∧ s ≤ 250) (j f : Int) :
    Calls Try.prog 32 #[.pointer (some ⟨g, 0, none⟩), .int .i64 j, .int .i64 f] w fun e w' => e = .returned (.int .i64 (nodeN t s j f)) ∧ w = w' := by
  have hsl := slots_of hb ht
  have c1 : w.cell? ⟨g, 1, none⟩ = some (.int .i64 s) := (blk_cell hb 1).trans rfl
  obtain ⟨ht0, ht1⟩ := ht
  obtain ⟨hs0, hs1⟩ := hs
  clear hb
  by_cases h : 1 ≤ j ∧ j ≤ s
  · have hin := fun W => in_yes h W
    by_cases h2 : 0 ≤ f ∧ f ≤ 6
    · have hin2 := fun W => in_yes h2 W
      have hval : nodeN t s j f = 3 + 8 * t + 7 * (j - 1) + f := by unfold nodeN; rw [if_pos h, if_pos h2]
      rw [hval]
      obtain ⟨h0, h1⟩ := h
      obtain ⟨h3, h4⟩ := h2
      clear hval
      go_enter Try.func32, Try.ntmps32
      go_wp2_with fail
      refine (hin _).mono ?_
      rintro e w' ⟨rfl, rfl⟩
      go_wp2_with fail
      refine (hin2 _).mono ?_
      rintro e w' ⟨rfl, rfl⟩
      go_wp2_with fail
      refine hsl.mono ?_
      rintro e w' ⟨rfl, rfl⟩
      go_wp2
      go_ret
      exact ⟨rfl, rfl⟩
    · have hin2 := fun W => in_no h2 W
      have hval : nodeN t s j f = -1 := by unfold nodeN; rw [if_pos h, if_neg h2]
      rw [hval]
      clear hval h h2
      go_enter Try.func32, Try.ntmps32
      go_wp2_with fail
      refine (hin _).mono ?_
      rintro e w' ⟨rfl, rfl⟩
      go_wp2_with fail
      refine (hin2 _).mono ?_
      rintro e w' ⟨rfl, rfl⟩
      go_wp2
      go_ret
      exact ⟨rfl, rfl⟩
  · have hin := fun W => in_no h W
    have hval : nodeN t s j f = -1 := if_neg h
    rw [hval]
    clear hval h
    go_enter Try.func32, Try.ntmps32
    go_wp2_with (go_at_call 56; refine (hin _).mono ?_; rintro e w' ⟨rfl, rfl⟩)
    go_ret
    exact ⟨rfl, rfl⟩
theorem node_nil (j f : Int) : Calls Try.prog 32 #[.pointer none, .int .i64 j, .int .i64 f] w fun e w' => e = .returned (.int .i64 (-1)) ∧ w = w' := by
  go_enter Try.func32, Try.ntmps32
  go_wp2
  go_ret
  exact ⟨rfl, rfl⟩
theorem words_of (hb : w.heap[g]? = some (planCells t s n)) (ht : 1 ≤ t ∧ t ≤ 6) (hs : 7 ≤ s ∧ s ≤ 250) :
    Calls Try.prog 33 #[.pointer (some ⟨g, 0, none⟩)] w fun e w' => e = .returned (.int .i64 (3 + 8 * t + 7 * s)) ∧ ∃ m, w' = w.drewN m := by
  have c1 : w.cell? ⟨g, 1, none⟩ = some (.int .i64 s) := (blk_cell hb 1).trans rfl
  have hsl : ∀ m, Calls Try.prog 58 #[.pointer (some ⟨g, 0, none⟩)] (w.drewN m) fun e w' => e = .returned (.int .i64 (3 + 8 * t)) ∧ w.drewN m = w' := fun m => slots_of (w := w.drewN m) hb ht
  obtain ⟨ht0, ht1⟩ := ht
  obtain ⟨hs0, hs1⟩ := hs
  clear hb
  go_enter Try.func33, Try.ntmps33
  go_wp2
  go_quiet ((go_at_call 58; refine (hsl _).mono ?_; rintro e w' ⟨rfl, rfl⟩; exact ⟨rfl, _, rfl⟩))
  go_wp2
  go_ret
  exact ⟨rfl, _, rfl⟩
theorem words_nil : Calls Try.prog 33 #[.pointer none] w fun e w' => e = .returned (.int .i64 0) ∧ w = w' := by
  go_enter Try.func33, Try.ntmps33
  go_wp2
  go_ret
  exact ⟨rfl, rfl⟩
end
end Go.Proofs.Ytacajonkkfmibaa.Plan
