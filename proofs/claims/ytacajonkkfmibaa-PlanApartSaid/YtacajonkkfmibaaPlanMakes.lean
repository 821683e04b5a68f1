/- How a plan is made, its configuration, and what a word is. -/
import Derived.Test.YtacajonkkfmibaaPlanWalks
import Derived.Test.YtacajonkkfmibaaPPlanWordsx2
import Derived.Laws.ResultCell
import Derived.Outline
import Derived.Deep.RegionHeld3
set_option linter.unusedVariables false
set_option linter.unusedSimpArgs false
namespace Go.Proofs.Ytacajonkkfmibaa.Plan
open Go Go.RowKit Go.Proofs.YtacajonkkfmibaaW.PrintWords Go.Proofs.YtacajonkkfmibaaW.PrintLast Go.Proofs.YtacajonkkfmibaaW.PrintMore Go.Proofs.Ytacajonkkfmibaa.PPlanWords

/-- May a configuration be? -/
def MayC (t s n : Int) : Prop := (1 ≤ t ∧ t ≤ 6) ∧ (7 ≤ s ∧ s ≤ 250) ∧ (1 ≤ n ∧ n ≤ 1099511627776)
theorem pin_eq (n lo hi : Int) : plan_in.f n lo hi = some (decide (lo ≤ n ∧ n ≤ hi)) := by
  unfold plan_in.f
  by_cases h : n ≥ lo
  · rw [if_pos h]; exact congrArg some (decide_eq_decide.2 (by omega))
  · rw [if_neg h]; exact congrArg some (decide_eq_false (by omega)).symm
theorem pmay_yes {t s n : Int} (h : MayC t s n) : plan_May.f t s n = some true := by
  obtain ⟨h1, h2, h3⟩ := h
  unfold plan_May.f
  rw [pin_eq, decide_eq_true h1, Option.bind_some, if_pos rfl, pin_eq, decide_eq_true h2, Option.bind_some, if_pos rfl, if_pos h3.1, decide_eq_true h3.2]
theorem pmay_no {t s n : Int} (h : ¬ MayC t s n) : plan_May.f t s n = some false := by
  unfold plan_May.f
  rw [pin_eq, Option.bind_some, pin_eq]
  by_cases h1 : 1 ≤ t ∧ t ≤ 6
  · rw [decide_eq_true h1, if_pos rfl, Option.bind_some]
    by_cases h2 : 7 ≤ s ∧ s ≤ 250
    · rw [decide_eq_true h2, if_pos rfl]
      by_cases h3 : n ≥ 1
      · rw [if_pos h3]
        exact congrArg some (decide_eq_false fun h4 => h ⟨h1, h2, h3, h4⟩)
      · rw [if_neg h3]
    · rw [decide_eq_false h2, if_neg (by decide)]
  · rw [decide_eq_false h1, if_neg (by decide)]
theorem rmay_yes {t s n : Int} (h : MayC t s n) : deadwoodref05_May.f t s n = some true := by
  obtain ⟨h1, h2, h3⟩ := h
  unfold deadwoodref05_May.f
  rw [if_pos (by omega), if_pos (by omega), if_pos (by omega), if_pos (by omega), if_pos (by omega), decide_eq_true h3.2]
theorem rmay_no {t s n : Int} (h : ¬ MayC t s n) : deadwoodref05_May.f t s n = some false := by
  unfold deadwoodref05_May.f
  by_cases h1 : t > 0
  · rw [if_pos h1]
    by_cases h2 : t < 7
    · rw [if_pos h2]
      by_cases h3 : s > 6
      · rw [if_pos h3]
        by_cases h4 : s < 251
        · rw [if_pos h4]
          by_cases h5 : n > 0
          · rw [if_pos h5]
            exact congrArg some (decide_eq_false fun h6 => h ⟨by omega, by omega, by omega, h6⟩)
          · rw [if_neg h5]
        · rw [if_neg h4]
      · rw [if_neg h3]
    · rw [if_neg h2]
  · rw [if_neg h1]

section
variable {t s n : Int} {g : Nat} {w : World}
/-- What a new plan's call leaves. -/
def Made (w : World) (t s n : Int) (e : Ending) (w' : World) : Prop :=
  ∃ g : Nat, e = .returned (.tuple #[.pointer (some ⟨g, 0, none⟩), .int .i64 0]) ∧ w.heap.size ≤ g ∧ w'.heap[g]? = some (planCells t s n) ∧ Below w.heap.size w w'
theorem new_yes (h : MayC t s n) : Calls Try.prog 22 #[.agg #[.int .i64 t, .int .i64 s, .int .u64 n]] w (Made w t s n) := by
  have hm := fun W => plan_May.calls t s n true W (pmay_yes h)
  clear h
  go_enter Try.func22, Try.ntmps22
  go_wp2_with fail
  refine (hm _).mono ?_
  rintro e W1 ⟨rfl, hb⟩
  have hbox : W1.heap[w.heap.size]? = some (.cells #[.int .i64 t, .int .i64 s, .int .u64 n] 44 (0, 0)) := blk_below (heap_alloc_new w _) hb
  have c0 : W1.cell? ⟨w.heap.size, 0, none⟩ = some (.int .i64 t) := (blk_cell hbox 0).trans rfl
  have c1 : W1.cell? ⟨w.heap.size, 1, none⟩ = some (.int .i64 s) := (blk_cell hbox 1).trans rfl
  have c2 : W1.cell? ⟨w.heap.size, 2, none⟩ = some (.int .u64 n) := (blk_cell hbox 2).trans rfl
  have hu1 := Try.underlying44
  have hu2 := Try.underlying89
  have hB := Lib.hid hb
  clear hb hbox
  go_wp2
  go_ret2
  have hb1 := hB.out
  refine ⟨W1.heap.size, rfl, ?_, heap_alloc_new W1 _, ?_⟩
  · have := hb1.size; simp at this; omega
  · exact below_then (below_alloc (Below.refl _ _) _) (by simp) hb1 |>.alloc (by have := hb1.size; simp at this; omega) _
theorem new_no (h : ¬ MayC t s n) : Calls Try.prog 22 #[.agg #[.int .i64 t, .int .i64 s, .int .u64 n]] w fun e w' => e = .returned (.tuple #[.pointer none, .int .i64 1]) ∧ Below w.heap.size w w' := by
  have hm := fun W => plan_May.calls t s n false W (pmay_no h)
  clear h
  go_enter Try.func22, Try.ntmps22
  go_wp2_with fail
  refine (hm _).mono ?_
  rintro e W1 ⟨rfl, hb⟩
  have hB := Lib.hid hb
  clear hb
  go_wp2
  go_ret2
  have hb1 := hB.out
  exact ⟨rfl, below_then (below_alloc (Below.refl _ _) _) (by simp) hb1⟩
theorem conf_of (hb : w.heap[g]? = some (planCells t s n)) : Calls Try.prog 34 #[.pointer (some ⟨g, 0, none⟩)] w fun e w' => e = .returned (.agg #[.int .i64 t, .int .i64 s, .int .u64 n]) ∧ Below w.heap.size w w' := by
  have c0 : w.cell? ⟨g, 0, none⟩ = some (.int .i64 t) := (blk_cell hb 0).trans rfl
  have c1 : w.cell? ⟨g, 1, none⟩ = some (.int .i64 s) := (blk_cell hb 1).trans rfl
  have c2 : w.cell? ⟨g, 2, none⟩ = some (.int .u64 n) := (blk_cell hb 2).trans rfl
  have hu1 := Try.underlying44
  have hu2 := Try.underlying89
  have hlt := World.block_lt_of_cell? w _ c0
  clear hb
  go_enter Try.func34, Try.ntmps34
  go_wp2
  refine bodyPost_ret (results_cell_row rfl _ _ w.heap.size 44 #[.int .i64 t, .int .i64 s, .int .u64 n] (0, 0) _ rfl (heap_alloc_new w _) Try.underlying44 rfl (by kernel_rfl)) rfl ⟨rfl, below_alloc (Below.refl _ _) _⟩
theorem conf_nil : Calls Try.prog 34 #[.pointer none] w fun e w' => e = .returned (.agg #[.int .i64 0, .int .i64 0, .int .u64 0]) ∧ Below w.heap.size w w' := by
  have hu1 := Try.underlying44
  have hu2 := Try.underlying89
  go_enter Try.func34, Try.ntmps34
  go_wp2
  refine bodyPost_ret (results_cell_row rfl _ _ w.heap.size 44 #[.int .i64 0, .int .i64 0, .int .u64 0] (0, 0) _ rfl (heap_alloc_new w _) Try.underlying44 rfl (by kernel_rfl)) rfl ⟨rfl, below_alloc (Below.refl _ _) _⟩
/-- Three cells of a new block are stored. -/
theorem put3 {W w0 : World} {g : Nat} {T : TypeId} {a b c : Value} (hb : W.heap[g]? = some (.cells #[a, b, c] T (0, 0))) (hB : Below w0.heap.size w0 W) (hg : w0.heap.size ≤ g) (x y z : Value) :
    (((W.setCell ⟨g, 0, none⟩ x).setCell ⟨g, 1, none⟩ y).setCell ⟨g, 2, none⟩ z).heap[g]? = some (.cells #[x, y, z] T (0, 0)) ∧
    Below w0.heap.size w0 (((W.setCell ⟨g, 0, none⟩ x).setCell ⟨g, 1, none⟩ y).setCell ⟨g, 2, none⟩ z) :=
  ⟨blk_put (cs := #[x, y, c]) (blk_put (cs := #[x, b, c]) (blk_put (cs := #[a, b, c]) hb 0 _ rfl) 1 _ rfl) 2 _ rfl, below_set (below_set (below_set hB hg) hg) hg⟩
/-- What a word is: its kind and places. -/
def whatN (t a : Int) : Int × Int × Int :=
  if a < 3 then (0, a, 0) else if 3 + 8 * t ≤ a then (5, 1 + (a - (3 + 8 * t)) / 7, (a - (3 + 8 * t)) % 7)
  else if 5 ≤ (a - 3) % 8 then (4, (a - 3) / 8, (a - 3) % 8 - 5) else if 2 ≤ (a - 3) % 8 then (3, (a - 3) / 8, (a - 3) % 8 - 2) else (1 + (a - 3) % 8, (a - 3) / 8, 0)
def whatV (p : Int × Int × Int) : Value := .agg #[.int .i64 p.1, .int .i64 p.2.1, .int .i64 p.2.2]
theorem what_out (hb : w.heap[g]? = some (planCells t s n)) (ht : 1 ≤ t ∧ t ≤ 6) (hs : 7 ≤ s ∧ s ≤ 250) (a : Int) (h : ¬ (0 ≤ a ∧ a < 3 + 8 * t + 7 * s)) :
    Calls Try.prog 39 #[.pointer (some ⟨g, 0, none⟩), .int .i64 a] w fun e w' => e = .returned (.tuple #[whatV (0, 0, 0), .bool false]) ∧ Below w.heap.size w w' := by
  have hw := fun o => words_of (w := w.alloc o) (g := g) (t := t) (s := s) (n := n) (blk_alloc hb o) ht hs
  have hin := fun W => in_no (n := a) (lo := 0) (hi := 3 + 8 * t + 7 * s - 1) (by omega) W
  obtain ⟨ht0, ht1⟩ := ht
  obtain ⟨hs0, hs1⟩ := hs
  have hu1 := Try.underlying61
  clear hb h
  go_enter Try.func39, Try.ntmps39
  go_wp2_with fail
  refine (hw _).mono ?_
  rintro e w' ⟨rfl, m, rfl⟩
  go_wp2_with fail
  refine (hin _).mono ?_
  rintro e w' ⟨rfl, rfl⟩
  go_wp2
  have hp := put3 (w0 := w) (blk_drewN (heap_alloc_new w (.cells #[.int .i64 0, .int .i64 0, .int .i64 0] 61 (0, 0))) m) (pw_below_drewN (below_alloc (Below.refl _ _) _) m) (Nat.le_refl _) (.int .i64 0) (.int .i64 0) (.int .i64 0)
  exact bodyPost_ret (results_ct rfl _ _ w.heap.size 61 #[.int .i64 0, .int .i64 0, .int .i64 0] (0, 0) _ rfl hp.1 Try.underlying61 rfl (by kernel_rfl)) rfl ⟨rfl, hp.2⟩
theorem what_nil (a : Int) : Calls Try.prog 39 #[.pointer none, .int .i64 a] w fun e w' => e = .returned (.tuple #[whatV (0, 0, 0), .bool false]) ∧ Below w.heap.size w w' := by
  have hw := fun W => words_nil (w := W)
  have hin := fun W => in_no (n := a) (lo := 0) (hi := -1) (by omega) W
  have hu1 := Try.underlying61
  go_enter Try.func39, Try.ntmps39
  go_wp2_with fail
  refine (hw _).mono ?_
  rintro e w' ⟨rfl, rfl⟩
  go_wp2_with fail
  refine (hin _).mono ?_
  rintro e w' ⟨rfl, rfl⟩
  go_wp2
  exact bodyPost_ret (results_ct rfl _ _ w.heap.size 61 #[.int .i64 0, .int .i64 0, .int .i64 0] (0, 0) _ rfl (heap_alloc_new w _) Try.underlying61 rfl (by kernel_rfl)) rfl ⟨rfl, below_alloc (Below.refl _ _) _⟩
set_option maxRecDepth 100000 in
/-- One way through What: the word's number lies within, and these tests are decided. -/
theorem what_in (hb : w.heap[g]? = some (planCells t s n)) (ht : 1 ≤ t ∧ t ≤ 6) (hs : 7 ≤ s ∧ s ≤ 250) (a : Int) (h0 : 0 ≤ a) (h1 : a < 3 + 8 * t + 7 * s) :
    Calls Try.prog 39 #[.pointer (some ⟨g, 0, none⟩), .int .i64 a] w fun e w' => e = .returned (.tuple #[whatV (whatN t a), .bool true]) ∧ Below w.heap.size w w' := by
  have hw := fun o => words_of (w := w.alloc o) (g := g) (t := t) (s := s) (n := n) (blk_alloc hb o) ht hs
  have hsl := fun o m => slots_of (w := (w.alloc o).drewN m) (g := g) (t := t) (s := s) (n := n) (blk_drewN (blk_alloc hb o) m) ht
  have hin := fun W => in_yes (n := a) (lo := 0) (hi := 3 + 8 * t + 7 * s - 1) (by omega) W
  obtain ⟨ht0, ht1⟩ := ht
  obtain ⟨hs0, hs1⟩ := hs
  have hu1 := Try.underlying61
  have hp := fun m x y z => put3 (w0 := w) (blk_drewN (heap_alloc_new w (.cells #[.int .i64 0, .int .i64 0, .int .i64 0] 61 (0, 0))) m) (pw_below_drewN (below_alloc (Below.refl _ _) _) m) (Nat.le_refl _) x y z
  have hP := Lib.hid hp
  clear hb hp
  by_cases c1 : a < 3
  · have hv : whatN t a = (0, a, 0) := if_pos c1
    rw [hv]
    clear hv
    go_enter Try.func39, Try.ntmps39
    go_wp2_with fail
    refine (hw _).mono ?_
    rintro e w' ⟨rfl, m, rfl⟩
    go_wp2_with fail
    refine (hin _).mono ?_
    rintro e w' ⟨rfl, rfl⟩
    go_wp2
    have hp := hP.out m (.int .i64 0) (.int .i64 a) (.int .i64 0)
    exact bodyPost_ret (results_ct rfl _ _ w.heap.size 61 #[.int .i64 0, .int .i64 a, .int .i64 0] (0, 0) _ rfl hp.1 Try.underlying61 rfl (by kernel_rfl)) rfl ⟨rfl, hp.2⟩
  · by_cases c2 : 3 + 8 * t ≤ a
    · have hv : whatN t a = (5, 1 + (a - (3 + 8 * t)) / 7, (a - (3 + 8 * t)) % 7) := by unfold whatN; rw [if_neg c1, if_pos c2]
      rw [hv]
      clear hv
      go_enter Try.func39, Try.ntmps39
      go_wp2_with fail
      refine (hw _).mono ?_
      rintro e w' ⟨rfl, m, rfl⟩
      go_wp2_with fail
      refine (hin _).mono ?_
      rintro e w' ⟨rfl, rfl⟩
      go_wp2_with fail
      refine (hsl _ _).mono ?_
      rintro e w' ⟨rfl, rfl⟩
      go_wp2_with fail
      refine (hsl _ _).mono ?_
      rintro e w' ⟨rfl, rfl⟩
      go_wp2
      have hp := hP.out m (.int .i64 (5)) (.int .i64 (1 + (a - (3 + 8 * t)) / 7)) (.int .i64 ((a - (3 + 8 * t)) % 7))
      exact bodyPost_ret (results_ct rfl _ _ w.heap.size 61 #[.int .i64 (5), .int .i64 (1 + (a - (3 + 8 * t)) / 7), .int .i64 ((a - (3 + 8 * t)) % 7)] (0, 0) _ rfl hp.1 Try.underlying61 rfl (by kernel_rfl)) rfl ⟨rfl, hp.2⟩
    have g0 : 0 ≤ a - 3 := by omega
    have g1 : (a - 3) % 8 < 8 := Int.emod_lt_of_pos _ (by decide)
    have g2 : 0 ≤ (a - 3) % 8 := Int.emod_nonneg _ (by decide)
    have g3 : 0 ≤ (a - 3) / 8 := Int.ediv_nonneg g0 (by decide)
    by_cases c3 : 5 ≤ (a - 3) % 8
    · have hv : whatN t a = (4, (a - 3) / 8, (a - 3) % 8 - 5) := by unfold whatN; rw [if_neg c1, if_neg c2, if_pos c3]
      rw [hv]
      clear hv
      go_enter Try.func39, Try.ntmps39
      go_wp2_with fail
      refine (hw _).mono ?_
      rintro e w' ⟨rfl, m, rfl⟩
      go_wp2_with fail
      refine (hin _).mono ?_
      rintro e w' ⟨rfl, rfl⟩
      go_wp2_with fail
      refine (hsl _ _).mono ?_
      rintro e w' ⟨rfl, rfl⟩
      go_wp2
      have hp := hP.out m (.int .i64 (4)) (.int .i64 ((a - 3) / 8)) (.int .i64 ((a - 3) % 8 - 5))
      exact bodyPost_ret (results_ct rfl _ _ w.heap.size 61 #[.int .i64 (4), .int .i64 ((a - 3) / 8), .int .i64 ((a - 3) % 8 - 5)] (0, 0) _ rfl hp.1 Try.underlying61 rfl (by kernel_rfl)) rfl ⟨rfl, hp.2⟩
    by_cases c4 : 2 ≤ (a - 3) % 8
    · have hv : whatN t a = (3, (a - 3) / 8, (a - 3) % 8 - 2) := by unfold whatN; rw [if_neg c1, if_neg c2, if_neg c3, if_pos c4]
      rw [hv]
      clear hv
      go_enter Try.func39, Try.ntmps39
      go_wp2_with fail
      refine (hw _).mono ?_
      rintro e w' ⟨rfl, m, rfl⟩
      go_wp2_with fail
      refine (hin _).mono ?_
      rintro e w' ⟨rfl, rfl⟩
      go_wp2_with fail
      refine (hsl _ _).mono ?_
      rintro e w' ⟨rfl, rfl⟩
      go_wp2
      have hp := hP.out m (.int .i64 (3)) (.int .i64 ((a - 3) / 8)) (.int .i64 ((a - 3) % 8 - 2))
      exact bodyPost_ret (results_ct rfl _ _ w.heap.size 61 #[.int .i64 (3), .int .i64 ((a - 3) / 8), .int .i64 ((a - 3) % 8 - 2)] (0, 0) _ rfl hp.1 Try.underlying61 rfl (by kernel_rfl)) rfl ⟨rfl, hp.2⟩
    · have hv : whatN t a = (1 + (a - 3) % 8, (a - 3) / 8, 0) := by unfold whatN; rw [if_neg c1, if_neg c2, if_neg c3, if_neg c4]
      rw [hv]
      clear hv
      go_enter Try.func39, Try.ntmps39
      go_wp2_with fail
      refine (hw _).mono ?_
      rintro e w' ⟨rfl, m, rfl⟩
      go_wp2_with fail
      refine (hin _).mono ?_
      rintro e w' ⟨rfl, rfl⟩
      go_wp2_with fail
      refine (hsl _ _).mono ?_
      rintro e w' ⟨rfl, rfl⟩
      go_wp2
      have hp := hP.out m (.int .i64 (1 + (a - 3) % 8)) (.int .i64 ((a - 3) / 8)) (.int .i64 (0))
      exact bodyPost_ret (results_ct rfl _ _ w.heap.size 61 #[.int .i64 (1 + (a - 3) % 8), .int .i64 ((a - 3) / 8), .int .i64 (0)] (0, 0) _ rfl hp.1 Try.underlying61 rfl (by kernel_rfl)) rfl ⟨rfl, hp.2⟩
end
end Go.Proofs.Ytacajonkkfmibaa.Plan
