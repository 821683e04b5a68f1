/- A word is found where it is told to be, and two that are unlike are at two places: the walk. -/
import Derived.Test.YtacajonkkfmibaaPlanLives
import Derived.Test.YtacajonkkfmibaaPlanList
set_option linter.unusedVariables false
set_option linter.unusedSimpArgs false
namespace Go.Proofs.Ytacajonkkfmibaa.PlanA
open Go Go.RowKit Go.Proofs.YtacajonkkfmibaaW.PrintWords Go.Proofs.YtacajonkkfmibaaW.PrintLast Go.Proofs.YtacajonkkfmibaaW.PrintMore Go.Proofs.Ytacajonkkfmibaa.PPlanWords Go.Proofs.Ytacajonkkfmibaa.Plan
def confBox (t s n : Int) : Obj := .cells #[.int .i64 t, .int .i64 s, .int .u64 n] 44 (0, 0)
def place (x y z : Int) : Obj := .cells #[.int .i64 x, .int .i64 y, .int .i64 z] 61 (0, 0)
theorem place_cells {x y z : Int} {g : Nat} {W : World} (hb : W.heap[g]? = some (place x y z)) : W.cell? ⟨g, 0, none⟩ = some (.int .i64 x) ∧ W.cell? ⟨g, 1, none⟩ = some (.int .i64 y) ∧ W.cell? ⟨g, 2, none⟩ = some (.int .i64 z) :=
  ⟨(blk_cell hb 0).trans rfl, (blk_cell hb 1).trans rfl, (blk_cell hb 2).trans rfl⟩
abbrev Goal (t s n a b : Int) (w : World) : Prop := Calls Try.prog 7 #[.agg #[.int .i64 t, .int .i64 s, .int .u64 n], .int .i64 a, .int .i64 b] w fun e w' => e = .returned (.bool true) ∧ Below w.heap.size w w'
theorem what_inj {t a b : Int} (ha : 0 ≤ a) (hb : 0 ≤ b) (h : whatN t a = whatN t b) : a = b := by
  rcases what_cases t a ha with ⟨e, h1⟩ | ⟨h1, h2, x, y, e, h3⟩ | ⟨h1, h2, x, y, h3, h4, h5, h6, ⟨h7, e⟩ | ⟨h7, h8, e⟩ | ⟨h7, e⟩⟩ <;>
  rcases what_cases t b hb with ⟨e', k1⟩ | ⟨k1, k2, x', y', e', k3⟩ | ⟨k1, k2, x', y', k3, k4, k5, k6, ⟨k7, e'⟩ | ⟨k7, k8, e'⟩ | ⟨k7, e'⟩⟩ <;>
  (rw [e, e'] at h; simp only [Prod.mk.injEq] at h; omega)
theorem neq_bits {x y z p q r : Int} (h : (x, y, z) ≠ (p, q, r)) : (x == p && (y == q && z == r)) = false := by
  by_cases h1 : x = p <;> by_cases h2 : y = q <;> by_cases h3 : z = r <;> simp_all
theorem apart_no {t s n a b : Int} (w : World) (h : ¬ MayC t s n) : Goal t s n a b w := by
  have hu1 := Try.underlying44
  have hn := fun W => new_no (w := W) h
  have hB0 := below_alloc (Below.refl w.heap.size w) (confBox t s n)
  unfold confBox at hB0
  have HB0 := Lib.hid hB0
  clear hB0 h
  go_enter Try.func7, Try.ntmps7
  go_wp2_with fail
  refine (hn _).mono ?_
  rintro e W1 ⟨rfl, hb⟩
  have HB1 := Lib.hid (below_then HB0.out HB0.out.size hb)
  clear hb HB0
  go_wp2_with fail
  refine (lives_calls _).mono ?_
  rintro e W2 ⟨rfl, hb⟩
  have HB2 := Lib.hid (below_then HB1.out HB1.out.size hb)
  clear hb HB1
  go_wp2
  go_ret
  exact ⟨rfl, HB2.out⟩

set_option maxRecDepth 100000 in
set_option maxHeartbeats 4000000 in
theorem apart_LL {t s : Nat} {n a b : Int} (w : World) (h : MayC t s n) (ha : a < 0) (hb : b < 0) : Goal t s n a b w := by
  have hu1 := Try.underlying44
  have hu2 := Try.underlying61
  have hn := fun W => new_yes (w := W) h
  have ht : 1 ≤ (t : Int) ∧ (t : Int) ≤ 6 := h.1
  have hs : 7 ≤ (s : Int) ∧ (s : Int) ≤ 250 := h.2.1
  have ca0 : decide (0 ≤ a) = false := decide_eq_false (by omega)
  have cb0 : decide (0 ≤ b) = false := decide_eq_false (by omega)
  have HNa : Hid (¬ (0 ≤ a ∧ a < 3 + 8 * (t : Int) + 7 * s)) := Lib.hid (by omega)
  have HNb : Hid (¬ (0 ≤ b ∧ b < 3 + 8 * (t : Int) + 7 * s)) := Lib.hid (by omega)
  clear ha hb
  have HT := Lib.hid ht
  have HS := Lib.hid hs
  have hB0 := below_alloc (Below.refl w.heap.size w) (confBox t s n)
  unfold confBox at hB0
  have HB0 := Lib.hid hB0
  clear hB0 ht hs h
  go_enter Try.func7, Try.ntmps7
  go_wp2_with fail
  refine (hn _).mono ?_
  rintro e W1 ⟨g, rfl, hg, hp, hb⟩
  have HP1 := Lib.hid hp
  have HB1 := Lib.hid (below_then HB0.out HB0.out.size hb)
  clear hb HB0 hp hg hn
  have hwa := what_out HP1.out HT.out HS.out a HNa.out
  unfold whatV at hwa
  go_wp2_with fail
  refine hwa.mono ?_
  rintro e W2 ⟨rfl, hb⟩
  clear hwa
  have HP2 := Lib.hid (blk_alloc (blk_below HP1.out hb) (place 0 0 0))
  have HX2 := Lib.hid (heap_alloc_new W2 (place 0 0 0))
  have HB2 := Lib.hid (below_alloc (below_then HB1.out HB1.out.size hb) (place 0 0 0))
  unfold place at HP2 HB2 HX2
  clear hb HB1 HP1
  have hwb := what_out HP2.out HT.out HS.out b HNb.out
  unfold whatV at hwb
  go_wp2_with fail
  refine hwb.mono ?_
  rintro e W3 ⟨rfl, hb⟩
  clear hwb
  have hX3 : (W3.alloc (place 0 0 0)).heap[W2.heap.size]? = some (place 0 0 0) := blk_alloc (blk_below HX2.out hb) (place 0 0 0)
  obtain ⟨x0, x1, x2⟩ := place_cells hX3
  obtain ⟨y0, y1, y2⟩ := place_cells (heap_alloc_new W3 (place 0 0 0))
  have HP3 := Lib.hid (blk_alloc (blk_below HP2.out hb) (place 0 0 0))
  have HB3 := Lib.hid (below_alloc (below_then HB2.out HB2.out.size hb) (place 0 0 0))
  unfold place at HP3 HB3 x0 x1 x2 y0 y1 y2
  clear hb HB2 HP2 HX2 hX3
  go_wp2_with fail
  refine (lives_calls _).mono ?_
  rintro e W9 ⟨rfl, hb⟩
  have HB9 := Lib.hid (below_then HB3.out (by have := HB3.out.size; exact this) hb)
  clear hb HB3
  go_wp2
  go_ret
  exact ⟨rfl, HB9.out⟩

set_option maxRecDepth 100000 in
set_option maxHeartbeats 4000000 in
theorem apart_LH {t s : Nat} {n a b : Int} (w : World) (h : MayC t s n) (ha : a < 0) (hb : 3 + 8 * (t : Int) + 7 * s ≤ b) : Goal t s n a b w := by
  have hu1 := Try.underlying44
  have hu2 := Try.underlying61
  have hn := fun W => new_yes (w := W) h
  have ht : 1 ≤ (t : Int) ∧ (t : Int) ≤ 6 := h.1
  have hs : 7 ≤ (s : Int) ∧ (s : Int) ≤ 250 := h.2.1
  have ca0 : decide (0 ≤ a) = false := decide_eq_false (by omega)
  have cb0 : decide (0 ≤ b) = true := decide_eq_true (by omega)
  have cb1 : decide (b < 3 + 8 * (t : Int) + 7 * s) = false := decide_eq_false (by omega)
  have HNa : Hid (¬ (0 ≤ a ∧ a < 3 + 8 * (t : Int) + 7 * s)) := Lib.hid (by omega)
  have HNb : Hid (¬ (0 ≤ b ∧ b < 3 + 8 * (t : Int) + 7 * s)) := Lib.hid (by omega)
  clear ha hb
  have HT := Lib.hid ht
  have HS := Lib.hid hs
  have hB0 := below_alloc (Below.refl w.heap.size w) (confBox t s n)
  unfold confBox at hB0
  have HB0 := Lib.hid hB0
  clear hB0 ht hs h
  go_enter Try.func7, Try.ntmps7
  go_wp2_with fail
  refine (hn _).mono ?_
  rintro e W1 ⟨g, rfl, hg, hp, hb⟩
  have HP1 := Lib.hid hp
  have HB1 := Lib.hid (below_then HB0.out HB0.out.size hb)
  clear hb HB0 hp hg hn
  have hwa := what_out HP1.out HT.out HS.out a HNa.out
  unfold whatV at hwa
  go_wp2_with fail
  refine hwa.mono ?_
  rintro e W2 ⟨rfl, hb⟩
  clear hwa
  have HP2 := Lib.hid (blk_alloc (blk_below HP1.out hb) (place 0 0 0))
  have HX2 := Lib.hid (heap_alloc_new W2 (place 0 0 0))
  have HB2 := Lib.hid (below_alloc (below_then HB1.out HB1.out.size hb) (place 0 0 0))
  unfold place at HP2 HB2 HX2
  clear hb HB1 HP1
  have hwb := what_out HP2.out HT.out HS.out b HNb.out
  unfold whatV at hwb
  go_wp2_with fail
  refine hwb.mono ?_
  rintro e W3 ⟨rfl, hb⟩
  clear hwb
  have hX3 : (W3.alloc (place 0 0 0)).heap[W2.heap.size]? = some (place 0 0 0) := blk_alloc (blk_below HX2.out hb) (place 0 0 0)
  obtain ⟨x0, x1, x2⟩ := place_cells hX3
  obtain ⟨y0, y1, y2⟩ := place_cells (heap_alloc_new W3 (place 0 0 0))
  have HP3 := Lib.hid (blk_alloc (blk_below HP2.out hb) (place 0 0 0))
  have HB3 := Lib.hid (below_alloc (below_then HB2.out HB2.out.size hb) (place 0 0 0))
  unfold place at HP3 HB3 x0 x1 x2 y0 y1 y2
  clear hb HB2 HP2 HX2 hX3
  have hwo := words_of HP3.out HT.out HS.out
  go_wp2_with fail
  refine hwo.mono ?_
  rintro e w' ⟨rfl, m, rfl⟩
  clear hwo
  go_wp2_with fail
  refine (lives_calls _).mono ?_
  rintro e W9 ⟨rfl, hb⟩
  have HB9 := Lib.hid (below_then (pw_below_drewN HB3.out _) (by have := HB3.out.size; simpa using this) hb)
  clear hb HB3
  go_wp2
  go_ret
  exact ⟨rfl, HB9.out⟩

set_option maxRecDepth 100000 in
set_option maxHeartbeats 4000000 in
theorem apart_LI {t s : Nat} {n a b : Int} (w : World) (h : MayC t s n) (ha : a < 0) (hb : 0 ≤ b ∧ b < 3 + 8 * (t : Int) + 7 * s) : Goal t s n a b w := by
  have hu1 := Try.underlying44
  have hu2 := Try.underlying61
  have hn := fun W => new_yes (w := W) h
  have ht : 1 ≤ (t : Int) ∧ (t : Int) ≤ 6 := h.1
  have hs : 7 ≤ (s : Int) ∧ (s : Int) ≤ 250 := h.2.1
  have ca0 : decide (0 ≤ a) = false := decide_eq_false (by omega)
  have cb0 : decide (0 ≤ b) = true := decide_eq_true (by omega)
  have cb1 : decide (b < 3 + 8 * (t : Int) + 7 * s) = true := decide_eq_true (by omega)
  have HNa : Hid (¬ (0 ≤ a ∧ a < 3 + 8 * (t : Int) + 7 * s)) := Lib.hid (by omega)
  rcases hq : whatN t b with ⟨p, q, r⟩
  have HQb := Lib.hid hq
  have HIb := Lib.hid hb
  clear hq ha hb
  have HT := Lib.hid ht
  have HS := Lib.hid hs
  have hB0 := below_alloc (Below.refl w.heap.size w) (confBox t s n)
  unfold confBox at hB0
  have HB0 := Lib.hid hB0
  clear hB0 ht hs h
  go_enter Try.func7, Try.ntmps7
  go_wp2_with fail
  refine (hn _).mono ?_
  rintro e W1 ⟨g, rfl, hg, hp, hb⟩
  have HP1 := Lib.hid hp
  have HB1 := Lib.hid (below_then HB0.out HB0.out.size hb)
  clear hb HB0 hp hg hn
  have hwa := what_out HP1.out HT.out HS.out a HNa.out
  unfold whatV at hwa
  go_wp2_with fail
  refine hwa.mono ?_
  rintro e W2 ⟨rfl, hb⟩
  clear hwa
  have HP2 := Lib.hid (blk_alloc (blk_below HP1.out hb) (place 0 0 0))
  have HX2 := Lib.hid (heap_alloc_new W2 (place 0 0 0))
  have HB2 := Lib.hid (below_alloc (below_then HB1.out HB1.out.size hb) (place 0 0 0))
  unfold place at HP2 HB2 HX2
  clear hb HB1 HP1
  have hwb := what_in HP2.out HT.out HS.out b HIb.out.1 HIb.out.2
  rw [HQb.out] at hwb
  unfold whatV at hwb
  go_wp2_with fail
  refine hwb.mono ?_
  rintro e W3 ⟨rfl, hb⟩
  clear hwb
  have hX3 : (W3.alloc (place p q r)).heap[W2.heap.size]? = some (place 0 0 0) := blk_alloc (blk_below HX2.out hb) (place p q r)
  obtain ⟨x0, x1, x2⟩ := place_cells hX3
  obtain ⟨y0, y1, y2⟩ := place_cells (heap_alloc_new W3 (place p q r))
  have HP3 := Lib.hid (blk_alloc (blk_below HP2.out hb) (place p q r))
  have HB3 := Lib.hid (below_alloc (below_then HB2.out HB2.out.size hb) (place p q r))
  unfold place at HP3 HB3 x0 x1 x2 y0 y1 y2
  clear hb HB2 HP2 HX2 hX3
  have hwo := words_of HP3.out HT.out HS.out
  go_wp2_with fail
  refine hwo.mono ?_
  rintro e w' ⟨rfl, m, rfl⟩
  clear hwo
  go_wp2_with fail
  refine (lives_calls _).mono ?_
  rintro e W9 ⟨rfl, hb⟩
  have HB9 := Lib.hid (below_then (pw_below_drewN HB3.out _) (by have := HB3.out.size; simpa using this) hb)
  clear hb HB3
  go_wp2
  go_ret
  exact ⟨rfl, HB9.out⟩

set_option maxRecDepth 100000 in
set_option maxHeartbeats 4000000 in
theorem apart_HL {t s : Nat} {n a b : Int} (w : World) (h : MayC t s n) (ha : 3 + 8 * (t : Int) + 7 * s ≤ a) (hb : b < 0) : Goal t s n a b w := by
  have hu1 := Try.underlying44
  have hu2 := Try.underlying61
  have hn := fun W => new_yes (w := W) h
  have ht : 1 ≤ (t : Int) ∧ (t : Int) ≤ 6 := h.1
  have hs : 7 ≤ (s : Int) ∧ (s : Int) ≤ 250 := h.2.1
  have ca0 : decide (0 ≤ a) = true := decide_eq_true (by omega)
  have ca1 : decide (a < 3 + 8 * (t : Int) + 7 * s) = false := decide_eq_false (by omega)
  have cb0 : decide (0 ≤ b) = false := decide_eq_false (by omega)
  have HNa : Hid (¬ (0 ≤ a ∧ a < 3 + 8 * (t : Int) + 7 * s)) := Lib.hid (by omega)
  have HNb : Hid (¬ (0 ≤ b ∧ b < 3 + 8 * (t : Int) + 7 * s)) := Lib.hid (by omega)
  clear ha hb
  have HT := Lib.hid ht
  have HS := Lib.hid hs
  have hB0 := below_alloc (Below.refl w.heap.size w) (confBox t s n)
  unfold confBox at hB0
  have HB0 := Lib.hid hB0
  clear hB0 ht hs h
  go_enter Try.func7, Try.ntmps7
  go_wp2_with fail
  refine (hn _).mono ?_
  rintro e W1 ⟨g, rfl, hg, hp, hb⟩
  have HP1 := Lib.hid hp
  have HB1 := Lib.hid (below_then HB0.out HB0.out.size hb)
  clear hb HB0 hp hg hn
  have hwa := what_out HP1.out HT.out HS.out a HNa.out
  unfold whatV at hwa
  go_wp2_with fail
  refine hwa.mono ?_
  rintro e W2 ⟨rfl, hb⟩
  clear hwa
  have HP2 := Lib.hid (blk_alloc (blk_below HP1.out hb) (place 0 0 0))
  have HX2 := Lib.hid (heap_alloc_new W2 (place 0 0 0))
  have HB2 := Lib.hid (below_alloc (below_then HB1.out HB1.out.size hb) (place 0 0 0))
  unfold place at HP2 HB2 HX2
  clear hb HB1 HP1
  have hwb := what_out HP2.out HT.out HS.out b HNb.out
  unfold whatV at hwb
  go_wp2_with fail
  refine hwb.mono ?_
  rintro e W3 ⟨rfl, hb⟩
  clear hwb
  have hX3 : (W3.alloc (place 0 0 0)).heap[W2.heap.size]? = some (place 0 0 0) := blk_alloc (blk_below HX2.out hb) (place 0 0 0)
  obtain ⟨x0, x1, x2⟩ := place_cells hX3
  obtain ⟨y0, y1, y2⟩ := place_cells (heap_alloc_new W3 (place 0 0 0))
  have HP3 := Lib.hid (blk_alloc (blk_below HP2.out hb) (place 0 0 0))
  have HB3 := Lib.hid (below_alloc (below_then HB2.out HB2.out.size hb) (place 0 0 0))
  unfold place at HP3 HB3 x0 x1 x2 y0 y1 y2
  clear hb HB2 HP2 HX2 hX3
  have hwo := words_of HP3.out HT.out HS.out
  go_wp2_with fail
  refine hwo.mono ?_
  rintro e w' ⟨rfl, m, rfl⟩
  clear hwo
  go_wp2_with fail
  refine (lives_calls _).mono ?_
  rintro e W9 ⟨rfl, hb⟩
  have HB9 := Lib.hid (below_then (pw_below_drewN HB3.out _) (by have := HB3.out.size; simpa using this) hb)
  clear hb HB3
  go_wp2
  go_ret
  exact ⟨rfl, HB9.out⟩

set_option maxRecDepth 100000 in
set_option maxHeartbeats 4000000 in
theorem apart_HH {t s : Nat} {n a b : Int} (w : World) (h : MayC t s n) (ha : 3 + 8 * (t : Int) + 7 * s ≤ a) (hb : 3 + 8 * (t : Int) + 7 * s ≤ b) : Goal t s n a b w := by
  have hu1 := Try.underlying44
  have hu2 := Try.underlying61
  have hn := fun W => new_yes (w := W) h
  have ht : 1 ≤ (t : Int) ∧ (t : Int) ≤ 6 := h.1
  have hs : 7 ≤ (s : Int) ∧ (s : Int) ≤ 250 := h.2.1
  have ca0 : decide (0 ≤ a) = true := decide_eq_true (by omega)
  have ca1 : decide (a < 3 + 8 * (t : Int) + 7 * s) = false := decide_eq_false (by omega)
  have cb0 : decide (0 ≤ b) = true := decide_eq_true (by omega)
  have cb1 : decide (b < 3 + 8 * (t : Int) + 7 * s) = false := decide_eq_false (by omega)
  have HNa : Hid (¬ (0 ≤ a ∧ a < 3 + 8 * (t : Int) + 7 * s)) := Lib.hid (by omega)
  have HNb : Hid (¬ (0 ≤ b ∧ b < 3 + 8 * (t : Int) + 7 * s)) := Lib.hid (by omega)
  clear ha hb
  have HT := Lib.hid ht
  have HS := Lib.hid hs
  have hB0 := below_alloc (Below.refl w.heap.size w) (confBox t s n)
  unfold confBox at hB0
  have HB0 := Lib.hid hB0
  clear hB0 ht hs h
  go_enter Try.func7, Try.ntmps7
  go_wp2_with fail
  refine (hn _).mono ?_
  rintro e W1 ⟨g, rfl, hg, hp, hb⟩
  have HP1 := Lib.hid hp
  have HB1 := Lib.hid (below_then HB0.out HB0.out.size hb)
  clear hb HB0 hp hg hn
  have hwa := what_out HP1.out HT.out HS.out a HNa.out
  unfold whatV at hwa
  go_wp2_with fail
  refine hwa.mono ?_
  rintro e W2 ⟨rfl, hb⟩
  clear hwa
  have HP2 := Lib.hid (blk_alloc (blk_below HP1.out hb) (place 0 0 0))
  have HX2 := Lib.hid (heap_alloc_new W2 (place 0 0 0))
  have HB2 := Lib.hid (below_alloc (below_then HB1.out HB1.out.size hb) (place 0 0 0))
  unfold place at HP2 HB2 HX2
  clear hb HB1 HP1
  have hwb := what_out HP2.out HT.out HS.out b HNb.out
  unfold whatV at hwb
  go_wp2_with fail
  refine hwb.mono ?_
  rintro e W3 ⟨rfl, hb⟩
  clear hwb
  have hX3 : (W3.alloc (place 0 0 0)).heap[W2.heap.size]? = some (place 0 0 0) := blk_alloc (blk_below HX2.out hb) (place 0 0 0)
  obtain ⟨x0, x1, x2⟩ := place_cells hX3
  obtain ⟨y0, y1, y2⟩ := place_cells (heap_alloc_new W3 (place 0 0 0))
  have HP3 := Lib.hid (blk_alloc (blk_below HP2.out hb) (place 0 0 0))
  have HB3 := Lib.hid (below_alloc (below_then HB2.out HB2.out.size hb) (place 0 0 0))
  unfold place at HP3 HB3 x0 x1 x2 y0 y1 y2
  clear hb HB2 HP2 HX2 hX3
  have hwo := words_of HP3.out HT.out HS.out
  go_wp2_with fail
  refine hwo.mono ?_
  rintro e w' ⟨rfl, m, rfl⟩
  clear hwo
  have hwo := words_of (blk_drewN HP3.out m) HT.out HS.out
  go_wp2_with fail
  refine hwo.mono ?_
  rintro e w' ⟨rfl, m2, rfl⟩
  clear hwo
  go_wp2_with fail
  refine (lives_calls _).mono ?_
  rintro e W9 ⟨rfl, hb⟩
  have HB9 := Lib.hid (below_then (pw_below_drewN HB3.out _) (by have := HB3.out.size; simpa using this) hb)
  clear hb HB3
  go_wp2
  go_ret
  exact ⟨rfl, HB9.out⟩

set_option maxRecDepth 100000 in
set_option maxHeartbeats 4000000 in
theorem apart_HI {t s : Nat} {n a b : Int} (w : World) (h : MayC t s n) (ha : 3 + 8 * (t : Int) + 7 * s ≤ a) (hb : 0 ≤ b ∧ b < 3 + 8 * (t : Int) + 7 * s) : Goal t s n a b w := by
  have hu1 := Try.underlying44
  have hu2 := Try.underlying61
  have hn := fun W => new_yes (w := W) h
  have ht : 1 ≤ (t : Int) ∧ (t : Int) ≤ 6 := h.1
  have hs : 7 ≤ (s : Int) ∧ (s : Int) ≤ 250 := h.2.1
  have ca0 : decide (0 ≤ a) = true := decide_eq_true (by omega)
  have ca1 : decide (a < 3 + 8 * (t : Int) + 7 * s) = false := decide_eq_false (by omega)
  have cb0 : decide (0 ≤ b) = true := decide_eq_true (by omega)
  have cb1 : decide (b < 3 + 8 * (t : Int) + 7 * s) = true := decide_eq_true (by omega)
  have HNa : Hid (¬ (0 ≤ a ∧ a < 3 + 8 * (t : Int) + 7 * s)) := Lib.hid (by omega)
  rcases hq : whatN t b with ⟨p, q, r⟩
  have HQb := Lib.hid hq
  have HIb := Lib.hid hb
  clear hq ha hb
  have HT := Lib.hid ht
  have HS := Lib.hid hs
  have hB0 := below_alloc (Below.refl w.heap.size w) (confBox t s n)
  unfold confBox at hB0
  have HB0 := Lib.hid hB0
  clear hB0 ht hs h
  go_enter Try.func7, Try.ntmps7
  go_wp2_with fail
  refine (hn _).mono ?_
  rintro e W1 ⟨g, rfl, hg, hp, hb⟩
  have HP1 := Lib.hid hp
  have HB1 := Lib.hid (below_then HB0.out HB0.out.size hb)
  clear hb HB0 hp hg hn
  have hwa := what_out HP1.out HT.out HS.out a HNa.out
  unfold whatV at hwa
  go_wp2_with fail
  refine hwa.mono ?_
  rintro e W2 ⟨rfl, hb⟩
  clear hwa
  have HP2 := Lib.hid (blk_alloc (blk_below HP1.out hb) (place 0 0 0))
  have HX2 := Lib.hid (heap_alloc_new W2 (place 0 0 0))
  have HB2 := Lib.hid (below_alloc (below_then HB1.out HB1.out.size hb) (place 0 0 0))
  unfold place at HP2 HB2 HX2
  clear hb HB1 HP1
  have hwb := what_in HP2.out HT.out HS.out b HIb.out.1 HIb.out.2
  rw [HQb.out] at hwb
  unfold whatV at hwb
  go_wp2_with fail
  refine hwb.mono ?_
  rintro e W3 ⟨rfl, hb⟩
  clear hwb
  have hX3 : (W3.alloc (place p q r)).heap[W2.heap.size]? = some (place 0 0 0) := blk_alloc (blk_below HX2.out hb) (place p q r)
  obtain ⟨x0, x1, x2⟩ := place_cells hX3
  obtain ⟨y0, y1, y2⟩ := place_cells (heap_alloc_new W3 (place p q r))
  have HP3 := Lib.hid (blk_alloc (blk_below HP2.out hb) (place p q r))
  have HB3 := Lib.hid (below_alloc (below_then HB2.out HB2.out.size hb) (place p q r))
  unfold place at HP3 HB3 x0 x1 x2 y0 y1 y2
  clear hb HB2 HP2 HX2 hX3
  have hwo := words_of HP3.out HT.out HS.out
  go_wp2_with fail
  refine hwo.mono ?_
  rintro e w' ⟨rfl, m, rfl⟩
  clear hwo
  have hwo := words_of (blk_drewN HP3.out m) HT.out HS.out
  go_wp2_with fail
  refine hwo.mono ?_
  rintro e w' ⟨rfl, m2, rfl⟩
  clear hwo
  go_wp2_with fail
  refine (lives_calls _).mono ?_
  rintro e W9 ⟨rfl, hb⟩
  have HB9 := Lib.hid (below_then (pw_below_drewN HB3.out _) (by have := HB3.out.size; simpa using this) hb)
  clear hb HB3
  go_wp2
  go_ret
  exact ⟨rfl, HB9.out⟩

set_option maxRecDepth 100000 in
set_option maxHeartbeats 4000000 in
theorem apart_0L {t s : Nat} {n a b : Int} (w : World) (h : MayC t s n) (ha : 0 ≤ a ∧ a < 3 + 8 * (t : Int) + 7 * s) (h7 : a < 3) (hw : whatN t a = (0, a, 0)) (hb : b < 0) : Goal t s n a b w := by
  have hu1 := Try.underlying44
  have hu2 := Try.underlying61
  have hn := fun W => new_yes (w := W) h
  have ht : 1 ≤ (t : Int) ∧ (t : Int) ≤ 6 := h.1
  have hs : 7 ≤ (s : Int) ∧ (s : Int) ≤ 250 := h.2.1
  have ca0 : decide (0 ≤ a) = true := decide_eq_true (by omega)
  have ca1 : decide (a < 3 + 8 * (t : Int) + 7 * s) = true := decide_eq_true (by omega)
  have HIa := Lib.hid ha
  have HW := Lib.hid hw
  have cb0 : decide (0 ≤ b) = false := decide_eq_false (by omega)
  have HNb : Hid (¬ (0 ≤ b ∧ b < 3 + 8 * (t : Int) + 7 * s)) := Lib.hid (by omega)
  clear hb
  clear ha hw
  clear h7
  have HT := Lib.hid ht
  have HS := Lib.hid hs
  have hB0 := below_alloc (Below.refl w.heap.size w) (confBox t s n)
  unfold confBox at hB0
  have HB0 := Lib.hid hB0
  clear hB0 ht hs h
  go_enter Try.func7, Try.ntmps7
  go_wp2_with fail
  refine (hn _).mono ?_
  rintro e W1 ⟨g, rfl, hg, hp, hb⟩
  have HP1 := Lib.hid hp
  have HB1 := Lib.hid (below_then HB0.out HB0.out.size hb)
  clear hb HB0 hp hg hn
  have hwa := what_in HP1.out HT.out HS.out a HIa.out.1 HIa.out.2
  rw [HW.out] at hwa
  unfold whatV at hwa
  go_wp2_with fail
  refine hwa.mono ?_
  rintro e W2 ⟨rfl, hb⟩
  clear hwa
  have HP2 := Lib.hid (blk_alloc (blk_below HP1.out hb) (place 0 a 0))
  have HX2 := Lib.hid (heap_alloc_new W2 (place 0 a 0))
  have HB2 := Lib.hid (below_alloc (below_then HB1.out HB1.out.size hb) (place 0 a 0))
  unfold place at HP2 HB2 HX2
  clear hb HB1 HP1
  have hwb := what_out HP2.out HT.out HS.out b HNb.out
  unfold whatV at hwb
  go_wp2_with fail
  refine hwb.mono ?_
  rintro e W3 ⟨rfl, hb⟩
  clear hwb
  have hX3 : (W3.alloc (place 0 0 0)).heap[W2.heap.size]? = some (place 0 a 0) := blk_alloc (blk_below HX2.out hb) (place 0 0 0)
  obtain ⟨x0, x1, x2⟩ := place_cells hX3
  obtain ⟨y0, y1, y2⟩ := place_cells (heap_alloc_new W3 (place 0 0 0))
  have HP3 := Lib.hid (blk_alloc (blk_below HP2.out hb) (place 0 0 0))
  have HB3 := Lib.hid (below_alloc (below_then HB2.out HB2.out.size hb) (place 0 0 0))
  unfold place at HP3 HB3 x0 x1 x2 y0 y1 y2
  clear hb HB2 HP2 HX2 hX3
  have hwo := words_of HP3.out HT.out HS.out
  go_wp2_with fail
  refine hwo.mono ?_
  rintro e w' ⟨rfl, m, rfl⟩
  clear hwo
  go_wp2_with fail
  refine (lives_calls _).mono ?_
  rintro e W9 ⟨rfl, hb⟩
  have HB9 := Lib.hid (below_then (pw_below_drewN HB3.out _) (by have := HB3.out.size; simpa using this) hb)
  clear hb HB3
  go_wp2
  go_ret
  exact ⟨rfl, HB9.out⟩

set_option maxRecDepth 100000 in
set_option maxHeartbeats 4000000 in
theorem apart_0H {t s : Nat} {n a b : Int} (w : World) (h : MayC t s n) (ha : 0 ≤ a ∧ a < 3 + 8 * (t : Int) + 7 * s) (h7 : a < 3) (hw : whatN t a = (0, a, 0)) (hb : 3 + 8 * (t : Int) + 7 * s ≤ b) : Goal t s n a b w := by
  have hu1 := Try.underlying44
  have hu2 := Try.underlying61
  have hn := fun W => new_yes (w := W) h
  have ht : 1 ≤ (t : Int) ∧ (t : Int) ≤ 6 := h.1
  have hs : 7 ≤ (s : Int) ∧ (s : Int) ≤ 250 := h.2.1
  have ca0 : decide (0 ≤ a) = true := decide_eq_true (by omega)
  have ca1 : decide (a < 3 + 8 * (t : Int) + 7 * s) = true := decide_eq_true (by omega)
  have HIa := Lib.hid ha
  have HW := Lib.hid hw
  have cb0 : decide (0 ≤ b) = true := decide_eq_true (by omega)
  have cb1 : decide (b < 3 + 8 * (t : Int) + 7 * s) = false := decide_eq_false (by omega)
  have HNb : Hid (¬ (0 ≤ b ∧ b < 3 + 8 * (t : Int) + 7 * s)) := Lib.hid (by omega)
  clear hb
  clear ha hw
  clear h7
  have HT := Lib.hid ht
  have HS := Lib.hid hs
  have hB0 := below_alloc (Below.refl w.heap.size w) (confBox t s n)
  unfold confBox at hB0
  have HB0 := Lib.hid hB0
  clear hB0 ht hs h
  go_enter Try.func7, Try.ntmps7
  go_wp2_with fail
  refine (hn _).mono ?_
  rintro e W1 ⟨g, rfl, hg, hp, hb⟩
  have HP1 := Lib.hid hp
  have HB1 := Lib.hid (below_then HB0.out HB0.out.size hb)
  clear hb HB0 hp hg hn
  have hwa := what_in HP1.out HT.out HS.out a HIa.out.1 HIa.out.2
  rw [HW.out] at hwa
  unfold whatV at hwa
  go_wp2_with fail
  refine hwa.mono ?_
  rintro e W2 ⟨rfl, hb⟩
  clear hwa
  have HP2 := Lib.hid (blk_alloc (blk_below HP1.out hb) (place 0 a 0))
  have HX2 := Lib.hid (heap_alloc_new W2 (place 0 a 0))
  have HB2 := Lib.hid (below_alloc (below_then HB1.out HB1.out.size hb) (place 0 a 0))
  unfold place at HP2 HB2 HX2
  clear hb HB1 HP1
  have hwb := what_out HP2.out HT.out HS.out b HNb.out
  unfold whatV at hwb
  go_wp2_with fail
  refine hwb.mono ?_
  rintro e W3 ⟨rfl, hb⟩
  clear hwb
  have hX3 : (W3.alloc (place 0 0 0)).heap[W2.heap.size]? = some (place 0 a 0) := blk_alloc (blk_below HX2.out hb) (place 0 0 0)
  obtain ⟨x0, x1, x2⟩ := place_cells hX3
  obtain ⟨y0, y1, y2⟩ := place_cells (heap_alloc_new W3 (place 0 0 0))
  have HP3 := Lib.hid (blk_alloc (blk_below HP2.out hb) (place 0 0 0))
  have HB3 := Lib.hid (below_alloc (below_then HB2.out HB2.out.size hb) (place 0 0 0))
  unfold place at HP3 HB3 x0 x1 x2 y0 y1 y2
  clear hb HB2 HP2 HX2 hX3
  have hwo := words_of HP3.out HT.out HS.out
  go_wp2_with fail
  refine hwo.mono ?_
  rintro e w' ⟨rfl, m, rfl⟩
  clear hwo
  have hwo := words_of (blk_drewN HP3.out m) HT.out HS.out
  go_wp2_with fail
  refine hwo.mono ?_
  rintro e w' ⟨rfl, m2, rfl⟩
  clear hwo
  go_wp2_with fail
  refine (lives_calls _).mono ?_
  rintro e W9 ⟨rfl, hb⟩
  have HB9 := Lib.hid (below_then (pw_below_drewN HB3.out _) (by have := HB3.out.size; simpa using this) hb)
  clear hb HB3
  go_wp2
  go_ret
  exact ⟨rfl, HB9.out⟩

set_option maxRecDepth 100000 in
set_option maxHeartbeats 4000000 in
theorem apart_0E {t s : Nat} {n a : Int} (w : World) (h : MayC t s n) (ha : 0 ≤ a ∧ a < 3 + 8 * (t : Int) + 7 * s) (h7 : a < 3) (hw : whatN t a = (0, a, 0)) : Goal t s n a a w := by
  have hu1 := Try.underlying44
  have hu2 := Try.underlying61
  have hn := fun W => new_yes (w := W) h
  have ht : 1 ≤ (t : Int) ∧ (t : Int) ≤ 6 := h.1
  have hs : 7 ≤ (s : Int) ∧ (s : Int) ≤ 250 := h.2.1
  have ca0 : decide (0 ≤ a) = true := decide_eq_true (by omega)
  have ca1 : decide (a < 3 + 8 * (t : Int) + 7 * s) = true := decide_eq_true (by omega)
  have HIa := Lib.hid ha
  have HW := Lib.hid hw
  clear ha hw
  clear h7
  have HT := Lib.hid ht
  have HS := Lib.hid hs
  have hB0 := below_alloc (Below.refl w.heap.size w) (confBox t s n)
  unfold confBox at hB0
  have HB0 := Lib.hid hB0
  clear hB0 ht hs h
  go_enter Try.func7, Try.ntmps7
  go_wp2_with fail
  refine (hn _).mono ?_
  rintro e W1 ⟨g, rfl, hg, hp, hb⟩
  have HP1 := Lib.hid hp
  have HB1 := Lib.hid (below_then HB0.out HB0.out.size hb)
  clear hb HB0 hp hg hn
  have hwa := what_in HP1.out HT.out HS.out a HIa.out.1 HIa.out.2
  rw [HW.out] at hwa
  unfold whatV at hwa
  go_wp2_with fail
  refine hwa.mono ?_
  rintro e W2 ⟨rfl, hb⟩
  clear hwa
  have HP2 := Lib.hid (blk_alloc (blk_below HP1.out hb) (place 0 a 0))
  have HX2 := Lib.hid (heap_alloc_new W2 (place 0 a 0))
  have HB2 := Lib.hid (below_alloc (below_then HB1.out HB1.out.size hb) (place 0 a 0))
  unfold place at HP2 HB2 HX2
  clear hb HB1 HP1
  have hwb := what_in HP2.out HT.out HS.out a HIa.out.1 HIa.out.2
  rw [HW.out] at hwb
  unfold whatV at hwb
  go_wp2_with fail
  refine hwb.mono ?_
  rintro e W3 ⟨rfl, hb⟩
  clear hwb
  have hX3 : (W3.alloc (place 0 a 0)).heap[W2.heap.size]? = some (place 0 a 0) := blk_alloc (blk_below HX2.out hb) (place 0 a 0)
  obtain ⟨x0, x1, x2⟩ := place_cells hX3
  obtain ⟨y0, y1, y2⟩ := place_cells (heap_alloc_new W3 (place 0 a 0))
  have HP3 := Lib.hid (blk_alloc (blk_below HP2.out hb) (place 0 a 0))
  have HB3 := Lib.hid (below_alloc (below_then HB2.out HB2.out.size hb) (place 0 a 0))
  unfold place at HP3 HB3 x0 x1 x2 y0 y1 y2
  clear hb HB2 HP2 HX2 hX3
  have hwo := words_of HP3.out HT.out HS.out
  go_wp2_with fail
  refine hwo.mono ?_
  rintro e w' ⟨rfl, m, rfl⟩
  clear hwo
  have hwo := words_of (blk_drewN HP3.out m) HT.out HS.out
  go_wp2_with fail
  refine hwo.mono ?_
  rintro e w' ⟨rfl, m2, rfl⟩
  clear hwo
  go_wp2_with fail
  refine (lives_calls _).mono ?_
  rintro e W9 ⟨rfl, hb⟩
  have HB9 := Lib.hid (below_then (pw_below_drewN HB3.out _) (by have := HB3.out.size; simpa using this) hb)
  clear hb HB3
  go_wp2
  go_ret
  exact ⟨rfl, HB9.out⟩

set_option maxRecDepth 100000 in
set_option maxHeartbeats 4000000 in
theorem apart_0N1 {t s : Nat} {n a b : Int} (w : World) (h : MayC t s n) (ha : 0 ≤ a ∧ a < 3 + 8 * (t : Int) + 7 * s) (h7 : a < 3) (hw : whatN t a = (0, a, 0)) (hb : 0 ≤ b ∧ b < 3 + 8 * (t : Int) + 7 * s) {p q r : Int} (hwb : whatN t b = (p, q, r)) (hd : ¬ 0 = p) (hne : a ≠ b) : Goal t s n a b w := by
  have hu1 := Try.underlying44
  have hu2 := Try.underlying61
  have hn := fun W => new_yes (w := W) h
  have ht : 1 ≤ (t : Int) ∧ (t : Int) ≤ 6 := h.1
  have hs : 7 ≤ (s : Int) ∧ (s : Int) ≤ 250 := h.2.1
  have ca0 : decide (0 ≤ a) = true := decide_eq_true (by omega)
  have ca1 : decide (a < 3 + 8 * (t : Int) + 7 * s) = true := decide_eq_true (by omega)
  have HIa := Lib.hid ha
  have HW := Lib.hid hw
  have cb0 : decide (0 ≤ b) = true := decide_eq_true (by omega)
  have cb1 : decide (b < 3 + 8 * (t : Int) + 7 * s) = true := decide_eq_true (by omega)
  have hab : (a == b) = false := beq_eq_false_iff_ne.2 hne
  have HQb := Lib.hid hwb
  have HIb := Lib.hid hb
  clear hwb hne hb
  clear ha hw
  clear h7
  have HT := Lib.hid ht
  have HS := Lib.hid hs
  have hB0 := below_alloc (Below.refl w.heap.size w) (confBox t s n)
  unfold confBox at hB0
  have HB0 := Lib.hid hB0
  clear hB0 ht hs h
  go_enter Try.func7, Try.ntmps7
  go_wp2_with fail
  refine (hn _).mono ?_
  rintro e W1 ⟨g, rfl, hg, hp, hb⟩
  have HP1 := Lib.hid hp
  have HB1 := Lib.hid (below_then HB0.out HB0.out.size hb)
  clear hb HB0 hp hg hn
  have hwa := what_in HP1.out HT.out HS.out a HIa.out.1 HIa.out.2
  rw [HW.out] at hwa
  unfold whatV at hwa
  go_wp2_with fail
  refine hwa.mono ?_
  rintro e W2 ⟨rfl, hb⟩
  clear hwa
  have HP2 := Lib.hid (blk_alloc (blk_below HP1.out hb) (place 0 a 0))
  have HX2 := Lib.hid (heap_alloc_new W2 (place 0 a 0))
  have HB2 := Lib.hid (below_alloc (below_then HB1.out HB1.out.size hb) (place 0 a 0))
  unfold place at HP2 HB2 HX2
  clear hb HB1 HP1
  have hwb := what_in HP2.out HT.out HS.out b HIb.out.1 HIb.out.2
  rw [HQb.out] at hwb
  unfold whatV at hwb
  go_wp2_with fail
  refine hwb.mono ?_
  rintro e W3 ⟨rfl, hb⟩
  clear hwb
  have hX3 : (W3.alloc (place p q r)).heap[W2.heap.size]? = some (place 0 a 0) := blk_alloc (blk_below HX2.out hb) (place p q r)
  obtain ⟨x0, x1, x2⟩ := place_cells hX3
  obtain ⟨y0, y1, y2⟩ := place_cells (heap_alloc_new W3 (place p q r))
  have HP3 := Lib.hid (blk_alloc (blk_below HP2.out hb) (place p q r))
  have HB3 := Lib.hid (below_alloc (below_then HB2.out HB2.out.size hb) (place p q r))
  unfold place at HP3 HB3 x0 x1 x2 y0 y1 y2
  clear hb HB2 HP2 HX2 hX3
  have hwo := words_of HP3.out HT.out HS.out
  go_wp2_with fail
  refine hwo.mono ?_
  rintro e w' ⟨rfl, m, rfl⟩
  clear hwo
  have hwo := words_of (blk_drewN HP3.out m) HT.out HS.out
  go_wp2_with fail
  refine hwo.mono ?_
  rintro e w' ⟨rfl, m2, rfl⟩
  clear hwo
  go_wp2_with fail
  refine (lives_calls _).mono ?_
  rintro e W9 ⟨rfl, hb⟩
  have HB9 := Lib.hid (below_then (pw_below_drewN HB3.out _) (by have := HB3.out.size; simpa using this) hb)
  clear hb HB3
  go_wp2
  go_ret
  exact ⟨rfl, HB9.out⟩

set_option maxRecDepth 100000 in
set_option maxHeartbeats 4000000 in
theorem apart_0N2 {t s : Nat} {n a b : Int} (w : World) (h : MayC t s n) (ha : 0 ≤ a ∧ a < 3 + 8 * (t : Int) + 7 * s) (h7 : a < 3) (hw : whatN t a = (0, a, 0)) (hb : 0 ≤ b ∧ b < 3 + 8 * (t : Int) + 7 * s) {p q r : Int} (hwb : whatN t b = (0, q, r)) (hd : ¬ a = q) (hne : a ≠ b) : Goal t s n a b w := by
  have hu1 := Try.underlying44
  have hu2 := Try.underlying61
  have hn := fun W => new_yes (w := W) h
  have ht : 1 ≤ (t : Int) ∧ (t : Int) ≤ 6 := h.1
  have hs : 7 ≤ (s : Int) ∧ (s : Int) ≤ 250 := h.2.1
  have ca0 : decide (0 ≤ a) = true := decide_eq_true (by omega)
  have ca1 : decide (a < 3 + 8 * (t : Int) + 7 * s) = true := decide_eq_true (by omega)
  have HIa := Lib.hid ha
  have HW := Lib.hid hw
  have cb0 : decide (0 ≤ b) = true := decide_eq_true (by omega)
  have cb1 : decide (b < 3 + 8 * (t : Int) + 7 * s) = true := decide_eq_true (by omega)
  have hab : (a == b) = false := beq_eq_false_iff_ne.2 hne
  have HQb := Lib.hid hwb
  have HIb := Lib.hid hb
  clear hwb hne hb
  clear ha hw
  clear h7
  have HT := Lib.hid ht
  have HS := Lib.hid hs
  have hB0 := below_alloc (Below.refl w.heap.size w) (confBox t s n)
  unfold confBox at hB0
  have HB0 := Lib.hid hB0
  clear hB0 ht hs h
  go_enter Try.func7, Try.ntmps7
  go_wp2_with fail
  refine (hn _).mono ?_
  rintro e W1 ⟨g, rfl, hg, hp, hb⟩
  have HP1 := Lib.hid hp
  have HB1 := Lib.hid (below_then HB0.out HB0.out.size hb)
  clear hb HB0 hp hg hn
  have hwa := what_in HP1.out HT.out HS.out a HIa.out.1 HIa.out.2
  rw [HW.out] at hwa
  unfold whatV at hwa
  go_wp2_with fail
  refine hwa.mono ?_
  rintro e W2 ⟨rfl, hb⟩
  clear hwa
  have HP2 := Lib.hid (blk_alloc (blk_below HP1.out hb) (place 0 a 0))
  have HX2 := Lib.hid (heap_alloc_new W2 (place 0 a 0))
  have HB2 := Lib.hid (below_alloc (below_then HB1.out HB1.out.size hb) (place 0 a 0))
  unfold place at HP2 HB2 HX2
  clear hb HB1 HP1
  have hwb := what_in HP2.out HT.out HS.out b HIb.out.1 HIb.out.2
  rw [HQb.out] at hwb
  unfold whatV at hwb
  go_wp2_with fail
  refine hwb.mono ?_
  rintro e W3 ⟨rfl, hb⟩
  clear hwb
  have hX3 : (W3.alloc (place 0 q r)).heap[W2.heap.size]? = some (place 0 a 0) := blk_alloc (blk_below HX2.out hb) (place 0 q r)
  obtain ⟨x0, x1, x2⟩ := place_cells hX3
  obtain ⟨y0, y1, y2⟩ := place_cells (heap_alloc_new W3 (place 0 q r))
  have HP3 := Lib.hid (blk_alloc (blk_below HP2.out hb) (place 0 q r))
  have HB3 := Lib.hid (below_alloc (below_then HB2.out HB2.out.size hb) (place 0 q r))
  unfold place at HP3 HB3 x0 x1 x2 y0 y1 y2
  clear hb HB2 HP2 HX2 hX3
  have hwo := words_of HP3.out HT.out HS.out
  go_wp2_with fail
  refine hwo.mono ?_
  rintro e w' ⟨rfl, m, rfl⟩
  clear hwo
  have hwo := words_of (blk_drewN HP3.out m) HT.out HS.out
  go_wp2_with fail
  refine hwo.mono ?_
  rintro e w' ⟨rfl, m2, rfl⟩
  clear hwo
  go_wp2_with fail
  refine (lives_calls _).mono ?_
  rintro e W9 ⟨rfl, hb⟩
  have HB9 := Lib.hid (below_then (pw_below_drewN HB3.out _) (by have := HB3.out.size; simpa using this) hb)
  clear hb HB3
  go_wp2
  go_ret
  exact ⟨rfl, HB9.out⟩

set_option maxRecDepth 100000 in
set_option maxHeartbeats 4000000 in
theorem apart_0N3 {t s : Nat} {n a b : Int} (w : World) (h : MayC t s n) (ha : 0 ≤ a ∧ a < 3 + 8 * (t : Int) + 7 * s) (h7 : a < 3) (hw : whatN t a = (0, a, 0)) (hb : 0 ≤ b ∧ b < 3 + 8 * (t : Int) + 7 * s) {p q r : Int} (hwb : whatN t b = (0, a, r)) (hd : ¬ 0 = r) (hne : a ≠ b) : Goal t s n a b w := by
  have hu1 := Try.underlying44
  have hu2 := Try.underlying61
  have hn := fun W => new_yes (w := W) h
  have ht : 1 ≤ (t : Int) ∧ (t : Int) ≤ 6 := h.1
  have hs : 7 ≤ (s : Int) ∧ (s : Int) ≤ 250 := h.2.1
  have ca0 : decide (0 ≤ a) = true := decide_eq_true (by omega)
  have ca1 : decide (a < 3 + 8 * (t : Int) + 7 * s) = true := decide_eq_true (by omega)
  have HIa := Lib.hid ha
  have HW := Lib.hid hw
  have cb0 : decide (0 ≤ b) = true := decide_eq_true (by omega)
  have cb1 : decide (b < 3 + 8 * (t : Int) + 7 * s) = true := decide_eq_true (by omega)
  have hab : (a == b) = false := beq_eq_false_iff_ne.2 hne
  have HQb := Lib.hid hwb
  have HIb := Lib.hid hb
  clear hwb hne hb
  clear ha hw
  clear h7
  have HT := Lib.hid ht
  have HS := Lib.hid hs
  have hB0 := below_alloc (Below.refl w.heap.size w) (confBox t s n)
  unfold confBox at hB0
  have HB0 := Lib.hid hB0
  clear hB0 ht hs h
  go_enter Try.func7, Try.ntmps7
  go_wp2_with fail
  refine (hn _).mono ?_
  rintro e W1 ⟨g, rfl, hg, hp, hb⟩
  have HP1 := Lib.hid hp
  have HB1 := Lib.hid (below_then HB0.out HB0.out.size hb)
  clear hb HB0 hp hg hn
  have hwa := what_in HP1.out HT.out HS.out a HIa.out.1 HIa.out.2
  rw [HW.out] at hwa
  unfold whatV at hwa
  go_wp2_with fail
  refine hwa.mono ?_
  rintro e W2 ⟨rfl, hb⟩
  clear hwa
  have HP2 := Lib.hid (blk_alloc (blk_below HP1.out hb) (place 0 a 0))
  have HX2 := Lib.hid (heap_alloc_new W2 (place 0 a 0))
  have HB2 := Lib.hid (below_alloc (below_then HB1.out HB1.out.size hb) (place 0 a 0))
  unfold place at HP2 HB2 HX2
  clear hb HB1 HP1
  have hwb := what_in HP2.out HT.out HS.out b HIb.out.1 HIb.out.2
  rw [HQb.out] at hwb
  unfold whatV at hwb
  go_wp2_with fail
  refine hwb.mono ?_
  rintro e W3 ⟨rfl, hb⟩
  clear hwb
  have hX3 : (W3.alloc (place 0 a r)).heap[W2.heap.size]? = some (place 0 a 0) := blk_alloc (blk_below HX2.out hb) (place 0 a r)
  obtain ⟨x0, x1, x2⟩ := place_cells hX3
  obtain ⟨y0, y1, y2⟩ := place_cells (heap_alloc_new W3 (place 0 a r))
  have HP3 := Lib.hid (blk_alloc (blk_below HP2.out hb) (place 0 a r))
  have HB3 := Lib.hid (below_alloc (below_then HB2.out HB2.out.size hb) (place 0 a r))
  unfold place at HP3 HB3 x0 x1 x2 y0 y1 y2
  clear hb HB2 HP2 HX2 hX3
  have hwo := words_of HP3.out HT.out HS.out
  go_wp2_with fail
  refine hwo.mono ?_
  rintro e w' ⟨rfl, m, rfl⟩
  clear hwo
  have hwo := words_of (blk_drewN HP3.out m) HT.out HS.out
  go_wp2_with fail
  refine hwo.mono ?_
  rintro e w' ⟨rfl, m2, rfl⟩
  clear hwo
  go_wp2_with fail
  refine (lives_calls _).mono ?_
  rintro e W9 ⟨rfl, hb⟩
  have HB9 := Lib.hid (below_then (pw_below_drewN HB3.out _) (by have := HB3.out.size; simpa using this) hb)
  clear hb HB3
  go_wp2
  go_ret
  exact ⟨rfl, HB9.out⟩

set_option maxRecDepth 100000 in
set_option maxHeartbeats 4000000 in
theorem apart_5L {t s : Nat} {n a b : Int} (w : World) (h : MayC t s n) (ha : 0 ≤ a ∧ a < 3 + 8 * (t : Int) + 7 * s) {x y : Int} (h7 : 0 ≤ y ∧ y < 7 ∧ a = 3 + 8 * t + 7 * x + y ∧ 0 ≤ x) (hw : whatN t a = (5, (1 + x), y)) (hb : b < 0) : Goal t s n a b w := by
  have hu1 := Try.underlying44
  have hu2 := Try.underlying61
  have hn := fun W => new_yes (w := W) h
  have ht : 1 ≤ (t : Int) ∧ (t : Int) ≤ 6 := h.1
  have hs : 7 ≤ (s : Int) ∧ (s : Int) ≤ 250 := h.2.1
  have ca0 : decide (0 ≤ a) = true := decide_eq_true (by omega)
  have ca1 : decide (a < 3 + 8 * (t : Int) + 7 * s) = true := decide_eq_true (by omega)
  have hval : nodeN t s (1 + x) y = a := by unfold nodeN; (repeat' split) <;> omega
  have HV := Lib.hid hval
  clear hval
  have HIa := Lib.hid ha
  have HW := Lib.hid hw
  have cb0 : decide (0 ≤ b) = false := decide_eq_false (by omega)
  have HNb : Hid (¬ (0 ≤ b ∧ b < 3 + 8 * (t : Int) + 7 * s)) := Lib.hid (by omega)
  clear hb
  clear ha hw
  clear h7
  have HT := Lib.hid ht
  have HS := Lib.hid hs
  have hB0 := below_alloc (Below.refl w.heap.size w) (confBox t s n)
  unfold confBox at hB0
  have HB0 := Lib.hid hB0
  clear hB0 ht hs h
  go_enter Try.func7, Try.ntmps7
  go_wp2_with fail
  refine (hn _).mono ?_
  rintro e W1 ⟨g, rfl, hg, hp, hb⟩
  have HP1 := Lib.hid hp
  have HB1 := Lib.hid (below_then HB0.out HB0.out.size hb)
  clear hb HB0 hp hg hn
  have hwa := what_in HP1.out HT.out HS.out a HIa.out.1 HIa.out.2
  rw [HW.out] at hwa
  unfold whatV at hwa
  go_wp2_with fail
  refine hwa.mono ?_
  rintro e W2 ⟨rfl, hb⟩
  clear hwa
  have HP2 := Lib.hid (blk_alloc (blk_below HP1.out hb) (place 5 (1 + x) y))
  have HX2 := Lib.hid (heap_alloc_new W2 (place 5 (1 + x) y))
  have HB2 := Lib.hid (below_alloc (below_then HB1.out HB1.out.size hb) (place 5 (1 + x) y))
  unfold place at HP2 HB2 HX2
  clear hb HB1 HP1
  have hwb := what_out HP2.out HT.out HS.out b HNb.out
  unfold whatV at hwb
  go_wp2_with fail
  refine hwb.mono ?_
  rintro e W3 ⟨rfl, hb⟩
  clear hwb
  have hX3 : (W3.alloc (place 0 0 0)).heap[W2.heap.size]? = some (place 5 (1 + x) y) := blk_alloc (blk_below HX2.out hb) (place 0 0 0)
  obtain ⟨x0, x1, x2⟩ := place_cells hX3
  obtain ⟨y0, y1, y2⟩ := place_cells (heap_alloc_new W3 (place 0 0 0))
  have HP3 := Lib.hid (blk_alloc (blk_below HP2.out hb) (place 0 0 0))
  have HB3 := Lib.hid (below_alloc (below_then HB2.out HB2.out.size hb) (place 0 0 0))
  unfold place at HP3 HB3 x0 x1 x2 y0 y1 y2
  clear hb HB2 HP2 HX2 hX3
  have hwo := words_of HP3.out HT.out HS.out
  go_wp2_with fail
  refine hwo.mono ?_
  rintro e w' ⟨rfl, m, rfl⟩
  clear hwo
  have hcall := node_of (blk_drewN HP3.out m) HT.out HS.out (1 + x) y
  rw [HV.out] at hcall
  go_wp2_with fail
  refine hcall.mono ?_
  rintro e w' ⟨rfl, rfl⟩
  clear hcall
  go_wp2_with fail
  refine (lives_calls _).mono ?_
  rintro e W9 ⟨rfl, hb⟩
  have HB9 := Lib.hid (below_then (pw_below_drewN HB3.out _) (by have := HB3.out.size; simpa using this) hb)
  clear hb HB3
  go_wp2
  go_ret
  exact ⟨rfl, HB9.out⟩

set_option maxRecDepth 100000 in
set_option maxHeartbeats 4000000 in
theorem apart_5H {t s : Nat} {n a b : Int} (w : World) (h : MayC t s n) (ha : 0 ≤ a ∧ a < 3 + 8 * (t : Int) + 7 * s) {x y : Int} (h7 : 0 ≤ y ∧ y < 7 ∧ a = 3 + 8 * t + 7 * x + y ∧ 0 ≤ x) (hw : whatN t a = (5, (1 + x), y)) (hb : 3 + 8 * (t : Int) + 7 * s ≤ b) : Goal t s n a b w := by
  have hu1 := Try.underlying44
  have hu2 := Try.underlying61
  have hn := fun W => new_yes (w := W) h
  have ht : 1 ≤ (t : Int) ∧ (t : Int) ≤ 6 := h.1
  have hs : 7 ≤ (s : Int) ∧ (s : Int) ≤ 250 := h.2.1
  have ca0 : decide (0 ≤ a) = true := decide_eq_true (by omega)
  have ca1 : decide (a < 3 + 8 * (t : Int) + 7 * s) = true := decide_eq_true (by omega)
  have hval : nodeN t s (1 + x) y = a := by unfold nodeN; (repeat' split) <;> omega
  have HV := Lib.hid hval
  clear hval
  have HIa := Lib.hid ha
  have HW := Lib.hid hw
  have cb0 : decide (0 ≤ b) = true := decide_eq_true (by omega)
  have cb1 : decide (b < 3 + 8 * (t : Int) + 7 * s) = false := decide_eq_false (by omega)
  have HNb : Hid (¬ (0 ≤ b ∧ b < 3 + 8 * (t : Int) + 7 * s)) := Lib.hid (by omega)
  clear hb
  clear ha hw
  clear h7
  have HT := Lib.hid ht
  have HS := Lib.hid hs
  have hB0 := below_alloc (Below.refl w.heap.size w) (confBox t s n)
  unfold confBox at hB0
  have HB0 := Lib.hid hB0
  clear hB0 ht hs h
  go_enter Try.func7, Try.ntmps7
  go_wp2_with fail
  refine (hn _).mono ?_
  rintro e W1 ⟨g, rfl, hg, hp, hb⟩
  have HP1 := Lib.hid hp
  have HB1 := Lib.hid (below_then HB0.out HB0.out.size hb)
  clear hb HB0 hp hg hn
  have hwa := what_in HP1.out HT.out HS.out a HIa.out.1 HIa.out.2
  rw [HW.out] at hwa
  unfold whatV at hwa
  go_wp2_with fail
  refine hwa.mono ?_
  rintro e W2 ⟨rfl, hb⟩
  clear hwa
  have HP2 := Lib.hid (blk_alloc (blk_below HP1.out hb) (place 5 (1 + x) y))
  have HX2 := Lib.hid (heap_alloc_new W2 (place 5 (1 + x) y))
  have HB2 := Lib.hid (below_alloc (below_then HB1.out HB1.out.size hb) (place 5 (1 + x) y))
  unfold place at HP2 HB2 HX2
  clear hb HB1 HP1
  have hwb := what_out HP2.out HT.out HS.out b HNb.out
  unfold whatV at hwb
  go_wp2_with fail
  refine hwb.mono ?_
  rintro e W3 ⟨rfl, hb⟩
  clear hwb
  have hX3 : (W3.alloc (place 0 0 0)).heap[W2.heap.size]? = some (place 5 (1 + x) y) := blk_alloc (blk_below HX2.out hb) (place 0 0 0)
  obtain ⟨x0, x1, x2⟩ := place_cells hX3
  obtain ⟨y0, y1, y2⟩ := place_cells (heap_alloc_new W3 (place 0 0 0))
  have HP3 := Lib.hid (blk_alloc (blk_below HP2.out hb) (place 0 0 0))
  have HB3 := Lib.hid (below_alloc (below_then HB2.out HB2.out.size hb) (place 0 0 0))
  unfold place at HP3 HB3 x0 x1 x2 y0 y1 y2
  clear hb HB2 HP2 HX2 hX3
  have hwo := words_of HP3.out HT.out HS.out
  go_wp2_with fail
  refine hwo.mono ?_
  rintro e w' ⟨rfl, m, rfl⟩
  clear hwo
  have hwo := words_of (blk_drewN HP3.out m) HT.out HS.out
  go_wp2_with fail
  refine hwo.mono ?_
  rintro e w' ⟨rfl, m2, rfl⟩
  clear hwo
  have hcall := node_of (blk_drewN HP3.out (m + m2)) HT.out HS.out (1 + x) y
  rw [HV.out] at hcall
  go_wp2_with fail
  refine hcall.mono ?_
  rintro e w' ⟨rfl, rfl⟩
  clear hcall
  go_wp2_with fail
  refine (lives_calls _).mono ?_
  rintro e W9 ⟨rfl, hb⟩
  have HB9 := Lib.hid (below_then (pw_below_drewN HB3.out _) (by have := HB3.out.size; simpa using this) hb)
  clear hb HB3
  go_wp2
  go_ret
  exact ⟨rfl, HB9.out⟩

set_option maxRecDepth 100000 in
set_option maxHeartbeats 4000000 in
theorem apart_5E {t s : Nat} {n a : Int} (w : World) (h : MayC t s n) (ha : 0 ≤ a ∧ a < 3 + 8 * (t : Int) + 7 * s) {x y : Int} (h7 : 0 ≤ y ∧ y < 7 ∧ a = 3 + 8 * t + 7 * x + y ∧ 0 ≤ x) (hw : whatN t a = (5, (1 + x), y)) : Goal t s n a a w := by
  have hu1 := Try.underlying44
  have hu2 := Try.underlying61
  have hn := fun W => new_yes (w := W) h
  have ht : 1 ≤ (t : Int) ∧ (t : Int) ≤ 6 := h.1
  have hs : 7 ≤ (s : Int) ∧ (s : Int) ≤ 250 := h.2.1
  have ca0 : decide (0 ≤ a) = true := decide_eq_true (by omega)
  have ca1 : decide (a < 3 + 8 * (t : Int) + 7 * s) = true := decide_eq_true (by omega)
  have hval : nodeN t s (1 + x) y = a := by unfold nodeN; (repeat' split) <;> omega
  have HV := Lib.hid hval
  clear hval
  have HIa := Lib.hid ha
  have HW := Lib.hid hw
  clear ha hw
  clear h7
  have HT := Lib.hid ht
  have HS := Lib.hid hs
  have hB0 := below_alloc (Below.refl w.heap.size w) (confBox t s n)
  unfold confBox at hB0
  have HB0 := Lib.hid hB0
  clear hB0 ht hs h
  go_enter Try.func7, Try.ntmps7
  go_wp2_with fail
  refine (hn _).mono ?_
  rintro e W1 ⟨g, rfl, hg, hp, hb⟩
  have HP1 := Lib.hid hp
  have HB1 := Lib.hid (below_then HB0.out HB0.out.size hb)
  clear hb HB0 hp hg hn
  have hwa := what_in HP1.out HT.out HS.out a HIa.out.1 HIa.out.2
  rw [HW.out] at hwa
  unfold whatV at hwa
  go_wp2_with fail
  refine hwa.mono ?_
  rintro e W2 ⟨rfl, hb⟩
  clear hwa
  have HP2 := Lib.hid (blk_alloc (blk_below HP1.out hb) (place 5 (1 + x) y))
  have HX2 := Lib.hid (heap_alloc_new W2 (place 5 (1 + x) y))
  have HB2 := Lib.hid (below_alloc (below_then HB1.out HB1.out.size hb) (place 5 (1 + x) y))
  unfold place at HP2 HB2 HX2
  clear hb HB1 HP1
  have hwb := what_in HP2.out HT.out HS.out a HIa.out.1 HIa.out.2
  rw [HW.out] at hwb
  unfold whatV at hwb
  go_wp2_with fail
  refine hwb.mono ?_
  rintro e W3 ⟨rfl, hb⟩
  clear hwb
  have hX3 : (W3.alloc (place 5 (1 + x) y)).heap[W2.heap.size]? = some (place 5 (1 + x) y) := blk_alloc (blk_below HX2.out hb) (place 5 (1 + x) y)
  obtain ⟨x0, x1, x2⟩ := place_cells hX3
  obtain ⟨y0, y1, y2⟩ := place_cells (heap_alloc_new W3 (place 5 (1 + x) y))
  have HP3 := Lib.hid (blk_alloc (blk_below HP2.out hb) (place 5 (1 + x) y))
  have HB3 := Lib.hid (below_alloc (below_then HB2.out HB2.out.size hb) (place 5 (1 + x) y))
  unfold place at HP3 HB3 x0 x1 x2 y0 y1 y2
  clear hb HB2 HP2 HX2 hX3
  have hwo := words_of HP3.out HT.out HS.out
  go_wp2_with fail
  refine hwo.mono ?_
  rintro e w' ⟨rfl, m, rfl⟩
  clear hwo
  have hwo := words_of (blk_drewN HP3.out m) HT.out HS.out
  go_wp2_with fail
  refine hwo.mono ?_
  rintro e w' ⟨rfl, m2, rfl⟩
  clear hwo
  have hcall := node_of (blk_drewN HP3.out (m + m2)) HT.out HS.out (1 + x) y
  rw [HV.out] at hcall
  go_wp2_with fail
  refine hcall.mono ?_
  rintro e w' ⟨rfl, rfl⟩
  clear hcall
  go_wp2_with fail
  refine (lives_calls _).mono ?_
  rintro e W9 ⟨rfl, hb⟩
  have HB9 := Lib.hid (below_then (pw_below_drewN HB3.out _) (by have := HB3.out.size; simpa using this) hb)
  clear hb HB3
  go_wp2
  go_ret
  exact ⟨rfl, HB9.out⟩

set_option maxRecDepth 100000 in
set_option maxHeartbeats 4000000 in
theorem apart_5N1 {t s : Nat} {n a b : Int} (w : World) (h : MayC t s n) (ha : 0 ≤ a ∧ a < 3 + 8 * (t : Int) + 7 * s) {x y : Int} (h7 : 0 ≤ y ∧ y < 7 ∧ a = 3 + 8 * t + 7 * x + y ∧ 0 ≤ x) (hw : whatN t a = (5, (1 + x), y)) (hb : 0 ≤ b ∧ b < 3 + 8 * (t : Int) + 7 * s) {p q r : Int} (hwb : whatN t b = (p, q, r)) (hd : ¬ 5 = p) (hne : a ≠ b) : Goal t s n a b w := by
  have hu1 := Try.underlying44
  have hu2 := Try.underlying61
  have hn := fun W => new_yes (w := W) h
  have ht : 1 ≤ (t : Int) ∧ (t : Int) ≤ 6 := h.1
  have hs : 7 ≤ (s : Int) ∧ (s : Int) ≤ 250 := h.2.1
  have ca0 : decide (0 ≤ a) = true := decide_eq_true (by omega)
  have ca1 : decide (a < 3 + 8 * (t : Int) + 7 * s) = true := decide_eq_true (by omega)
  have hval : nodeN t s (1 + x) y = a := by unfold nodeN; (repeat' split) <;> omega
  have HV := Lib.hid hval
  clear hval
  have HIa := Lib.hid ha
  have HW := Lib.hid hw
  have cb0 : decide (0 ≤ b) = true := decide_eq_true (by omega)
  have cb1 : decide (b < 3 + 8 * (t : Int) + 7 * s) = true := decide_eq_true (by omega)
  have hab : (a == b) = false := beq_eq_false_iff_ne.2 hne
  have HQb := Lib.hid hwb
  have HIb := Lib.hid hb
  clear hwb hne hb
  clear ha hw
  clear h7
  have HT := Lib.hid ht
  have HS := Lib.hid hs
  have hB0 := below_alloc (Below.refl w.heap.size w) (confBox t s n)
  unfold confBox at hB0
  have HB0 := Lib.hid hB0
  clear hB0 ht hs h
  go_enter Try.func7, Try.ntmps7
  go_wp2_with fail
  refine (hn _).mono ?_
  rintro e W1 ⟨g, rfl, hg, hp, hb⟩
  have HP1 := Lib.hid hp
  have HB1 := Lib.hid (below_then HB0.out HB0.out.size hb)
  clear hb HB0 hp hg hn
  have hwa := what_in HP1.out HT.out HS.out a HIa.out.1 HIa.out.2
  rw [HW.out] at hwa
  unfold whatV at hwa
  go_wp2_with fail
  refine hwa.mono ?_
  rintro e W2 ⟨rfl, hb⟩
  clear hwa
  have HP2 := Lib.hid (blk_alloc (blk_below HP1.out hb) (place 5 (1 + x) y))
  have HX2 := Lib.hid (heap_alloc_new W2 (place 5 (1 + x) y))
  have HB2 := Lib.hid (below_alloc (below_then HB1.out HB1.out.size hb) (place 5 (1 + x) y))
  unfold place at HP2 HB2 HX2
  clear hb HB1 HP1
  have hwb := what_in HP2.out HT.out HS.out b HIb.out.1 HIb.out.2
  rw [HQb.out] at hwb
  unfold whatV at hwb
  go_wp2_with fail
  refine hwb.mono ?_
  rintro e W3 ⟨rfl, hb⟩
  clear hwb
  have hX3 : (W3.alloc (place p q r)).heap[W2.heap.size]? = some (place 5 (1 + x) y) := blk_alloc (blk_below HX2.out hb) (place p q r)
  obtain ⟨x0, x1, x2⟩ := place_cells hX3
  obtain ⟨y0, y1, y2⟩ := place_cells (heap_alloc_new W3 (place p q r))
  have HP3 := Lib.hid (blk_alloc (blk_below HP2.out hb) (place p q r))
  have HB3 := Lib.hid (below_alloc (below_then HB2.out HB2.out.size hb) (place p q r))
  unfold place at HP3 HB3 x0 x1 x2 y0 y1 y2
  clear hb HB2 HP2 HX2 hX3
  have hwo := words_of HP3.out HT.out HS.out
  go_wp2_with fail
  refine hwo.mono ?_
  rintro e w' ⟨rfl, m, rfl⟩
  clear hwo
  have hwo := words_of (blk_drewN HP3.out m) HT.out HS.out
  go_wp2_with fail
  refine hwo.mono ?_
  rintro e w' ⟨rfl, m2, rfl⟩
  clear hwo
  have hcall := node_of (blk_drewN HP3.out (m + m2)) HT.out HS.out (1 + x) y
  rw [HV.out] at hcall
  go_wp2_with fail
  refine hcall.mono ?_
  rintro e w' ⟨rfl, rfl⟩
  clear hcall
  go_wp2_with fail
  refine (lives_calls _).mono ?_
  rintro e W9 ⟨rfl, hb⟩
  have HB9 := Lib.hid (below_then (pw_below_drewN HB3.out _) (by have := HB3.out.size; simpa using this) hb)
  clear hb HB3
  go_wp2
  go_ret
  exact ⟨rfl, HB9.out⟩

set_option maxRecDepth 100000 in
set_option maxHeartbeats 4000000 in
theorem apart_5N2 {t s : Nat} {n a b : Int} (w : World) (h : MayC t s n) (ha : 0 ≤ a ∧ a < 3 + 8 * (t : Int) + 7 * s) {x y : Int} (h7 : 0 ≤ y ∧ y < 7 ∧ a = 3 + 8 * t + 7 * x + y ∧ 0 ≤ x) (hw : whatN t a = (5, (1 + x), y)) (hb : 0 ≤ b ∧ b < 3 + 8 * (t : Int) + 7 * s) {p q r : Int} (hwb : whatN t b = (5, q, r)) (hd : ¬ (1 + x) = q) (hne : a ≠ b) : Goal t s n a b w := by
  have hu1 := Try.underlying44
  have hu2 := Try.underlying61
  have hn := fun W => new_yes (w := W) h
  have ht : 1 ≤ (t : Int) ∧ (t : Int) ≤ 6 := h.1
  have hs : 7 ≤ (s : Int) ∧ (s : Int) ≤ 250 := h.2.1
  have ca0 : decide (0 ≤ a) = true := decide_eq_true (by omega)
  have ca1 : decide (a < 3 + 8 * (t : Int) + 7 * s) = true := decide_eq_true (by omega)
  have hval : nodeN t s (1 + x) y = a := by unfold nodeN; (repeat' split) <;> omega
  have HV := Lib.hid hval
  clear hval
  have HIa := Lib.hid ha
  have HW := Lib.hid hw
  have cb0 : decide (0 ≤ b) = true := decide_eq_true (by omega)
  have cb1 : decide (b < 3 + 8 * (t : Int) + 7 * s) = true := decide_eq_true (by omega)
  have hab : (a == b) = false := beq_eq_false_iff_ne.2 hne
  have HQb := Lib.hid hwb
  have HIb := Lib.hid hb
  clear hwb hne hb
  clear ha hw
  clear h7
  have HT := Lib.hid ht
  have HS := Lib.hid hs
  have hB0 := below_alloc (Below.refl w.heap.size w) (confBox t s n)
  unfold confBox at hB0
  have HB0 := Lib.hid hB0
  clear hB0 ht hs h
  go_enter Try.func7, Try.ntmps7
  go_wp2_with fail
  refine (hn _).mono ?_
  rintro e W1 ⟨g, rfl, hg, hp, hb⟩
  have HP1 := Lib.hid hp
  have HB1 := Lib.hid (below_then HB0.out HB0.out.size hb)
  clear hb HB0 hp hg hn
  have hwa := what_in HP1.out HT.out HS.out a HIa.out.1 HIa.out.2
  rw [HW.out] at hwa
  unfold whatV at hwa
  go_wp2_with fail
  refine hwa.mono ?_
  rintro e W2 ⟨rfl, hb⟩
  clear hwa
  have HP2 := Lib.hid (blk_alloc (blk_below HP1.out hb) (place 5 (1 + x) y))
  have HX2 := Lib.hid (heap_alloc_new W2 (place 5 (1 + x) y))
  have HB2 := Lib.hid (below_alloc (below_then HB1.out HB1.out.size hb) (place 5 (1 + x) y))
  unfold place at HP2 HB2 HX2
  clear hb HB1 HP1
  have hwb := what_in HP2.out HT.out HS.out b HIb.out.1 HIb.out.2
  rw [HQb.out] at hwb
  unfold whatV at hwb
  go_wp2_with fail
  refine hwb.mono ?_
  rintro e W3 ⟨rfl, hb⟩
  clear hwb
  have hX3 : (W3.alloc (place 5 q r)).heap[W2.heap.size]? = some (place 5 (1 + x) y) := blk_alloc (blk_below HX2.out hb) (place 5 q r)
  obtain ⟨x0, x1, x2⟩ := place_cells hX3
  obtain ⟨y0, y1, y2⟩ := place_cells (heap_alloc_new W3 (place 5 q r))
  have HP3 := Lib.hid (blk_alloc (blk_below HP2.out hb) (place 5 q r))
  have HB3 := Lib.hid (below_alloc (below_then HB2.out HB2.out.size hb) (place 5 q r))
  unfold place at HP3 HB3 x0 x1 x2 y0 y1 y2
  clear hb HB2 HP2 HX2 hX3
  have hwo := words_of HP3.out HT.out HS.out
  go_wp2_with fail
  refine hwo.mono ?_
  rintro e w' ⟨rfl, m, rfl⟩
  clear hwo
  have hwo := words_of (blk_drewN HP3.out m) HT.out HS.out
  go_wp2_with fail
  refine hwo.mono ?_
  rintro e w' ⟨rfl, m2, rfl⟩
  clear hwo
  have hcall := node_of (blk_drewN HP3.out (m + m2)) HT.out HS.out (1 + x) y
  rw [HV.out] at hcall
  go_wp2_with fail
  refine hcall.mono ?_
  rintro e w' ⟨rfl, rfl⟩
  clear hcall
  go_wp2_with fail
  refine (lives_calls _).mono ?_
  rintro e W9 ⟨rfl, hb⟩
  have HB9 := Lib.hid (below_then (pw_below_drewN HB3.out _) (by have := HB3.out.size; simpa using this) hb)
  clear hb HB3
  go_wp2
  go_ret
  exact ⟨rfl, HB9.out⟩

set_option maxRecDepth 100000 in
set_option maxHeartbeats 4000000 in
theorem apart_5N3 {t s : Nat} {n a b : Int} (w : World) (h : MayC t s n) (ha : 0 ≤ a ∧ a < 3 + 8 * (t : Int) + 7 * s) {x y : Int} (h7 : 0 ≤ y ∧ y < 7 ∧ a = 3 + 8 * t + 7 * x + y ∧ 0 ≤ x) (hw : whatN t a = (5, (1 + x), y)) (hb : 0 ≤ b ∧ b < 3 + 8 * (t : Int) + 7 * s) {p q r : Int} (hwb : whatN t b = (5, (1 + x), r)) (hd : ¬ y = r) (hne : a ≠ b) : Goal t s n a b w := by
  have hu1 := Try.underlying44
  have hu2 := Try.underlying61
  have hn := fun W => new_yes (w := W) h
  have ht : 1 ≤ (t : Int) ∧ (t : Int) ≤ 6 := h.1
  have hs : 7 ≤ (s : Int) ∧ (s : Int) ≤ 250 := h.2.1
  have ca0 : decide (0 ≤ a) = true := decide_eq_true (by omega)
  have ca1 : decide (a < 3 + 8 * (t : Int) + 7 * s) = true := decide_eq_true (by omega)
  have hval : nodeN t s (1 + x) y = a := by unfold nodeN; (repeat' split) <;> omega
  have HV := Lib.hid hval
  clear hval
  have HIa := Lib.hid ha
  have HW := Lib.hid hw
  have cb0 : decide (0 ≤ b) = true := decide_eq_true (by omega)
  have cb1 : decide (b < 3 + 8 * (t : Int) + 7 * s) = true := decide_eq_true (by omega)
  have hab : (a == b) = false := beq_eq_false_iff_ne.2 hne
  have HQb := Lib.hid hwb
  have HIb := Lib.hid hb
  clear hwb hne hb
  clear ha hw
  clear h7
  have HT := Lib.hid ht
  have HS := Lib.hid hs
  have hB0 := below_alloc (Below.refl w.heap.size w) (confBox t s n)
  unfold confBox at hB0
  have HB0 := Lib.hid hB0
  clear hB0 ht hs h
  go_enter Try.func7, Try.ntmps7
  go_wp2_with fail
  refine (hn _).mono ?_
  rintro e W1 ⟨g, rfl, hg, hp, hb⟩
  have HP1 := Lib.hid hp
  have HB1 := Lib.hid (below_then HB0.out HB0.out.size hb)
  clear hb HB0 hp hg hn
  have hwa := what_in HP1.out HT.out HS.out a HIa.out.1 HIa.out.2
  rw [HW.out] at hwa
  unfold whatV at hwa
  go_wp2_with fail
  refine hwa.mono ?_
  rintro e W2 ⟨rfl, hb⟩
  clear hwa
  have HP2 := Lib.hid (blk_alloc (blk_below HP1.out hb) (place 5 (1 + x) y))
  have HX2 := Lib.hid (heap_alloc_new W2 (place 5 (1 + x) y))
  have HB2 := Lib.hid (below_alloc (below_then HB1.out HB1.out.size hb) (place 5 (1 + x) y))
  unfold place at HP2 HB2 HX2
  clear hb HB1 HP1
  have hwb := what_in HP2.out HT.out HS.out b HIb.out.1 HIb.out.2
  rw [HQb.out] at hwb
  unfold whatV at hwb
  go_wp2_with fail
  refine hwb.mono ?_
  rintro e W3 ⟨rfl, hb⟩
  clear hwb
  have hX3 : (W3.alloc (place 5 (1 + x) r)).heap[W2.heap.size]? = some (place 5 (1 + x) y) := blk_alloc (blk_below HX2.out hb) (place 5 (1 + x) r)
  obtain ⟨x0, x1, x2⟩ := place_cells hX3
  obtain ⟨y0, y1, y2⟩ := place_cells (heap_alloc_new W3 (place 5 (1 + x) r))
  have HP3 := Lib.hid (blk_alloc (blk_below HP2.out hb) (place 5 (1 + x) r))
  have HB3 := Lib.hid (below_alloc (below_then HB2.out HB2.out.size hb) (place 5 (1 + x) r))
  unfold place at HP3 HB3 x0 x1 x2 y0 y1 y2
  clear hb HB2 HP2 HX2 hX3
  have hwo := words_of HP3.out HT.out HS.out
  go_wp2_with fail
  refine hwo.mono ?_
  rintro e w' ⟨rfl, m, rfl⟩
  clear hwo
  have hwo := words_of (blk_drewN HP3.out m) HT.out HS.out
  go_wp2_with fail
  refine hwo.mono ?_
  rintro e w' ⟨rfl, m2, rfl⟩
  clear hwo
  have hcall := node_of (blk_drewN HP3.out (m + m2)) HT.out HS.out (1 + x) y
  rw [HV.out] at hcall
  go_wp2_with fail
  refine hcall.mono ?_
  rintro e w' ⟨rfl, rfl⟩
  clear hcall
  go_wp2_with fail
  refine (lives_calls _).mono ?_
  rintro e W9 ⟨rfl, hb⟩
  have HB9 := Lib.hid (below_then (pw_below_drewN HB3.out _) (by have := HB3.out.size; simpa using this) hb)
  clear hb HB3
  go_wp2
  go_ret
  exact ⟨rfl, HB9.out⟩

set_option maxRecDepth 100000 in
set_option maxHeartbeats 4000000 in
theorem apart_4L {t s : Nat} {n a b : Int} (w : World) (h : MayC t s n) (ha : 0 ≤ a ∧ a < 3 + 8 * (t : Int) + 7 * s) {x y : Int} (h7 : 0 ≤ x ∧ 0 ≤ y ∧ y < 8 ∧ a = 3 + 8 * x + y ∧ 5 ≤ y ∧ a < 3 + 8 * t) (hw : whatN t a = (4, x, (y - 5))) (hb : b < 0) : Goal t s n a b w := by
  have hu1 := Try.underlying44
  have hu2 := Try.underlying61
  have hn := fun W => new_yes (w := W) h
  have ht : 1 ≤ (t : Int) ∧ (t : Int) ≤ 6 := h.1
  have hs : 7 ≤ (s : Int) ∧ (s : Int) ≤ 250 := h.2.1
  have ca0 : decide (0 ≤ a) = true := decide_eq_true (by omega)
  have ca1 : decide (a < 3 + 8 * (t : Int) + 7 * s) = true := decide_eq_true (by omega)
  have hval : bagN t x (y - 5) 5 = a := by unfold bagN ownN; (repeat' split) <;> omega
  have HV := Lib.hid hval
  clear hval
  have HIa := Lib.hid ha
  have HW := Lib.hid hw
  have cb0 : decide (0 ≤ b) = false := decide_eq_false (by omega)
  have HNb : Hid (¬ (0 ≤ b ∧ b < 3 + 8 * (t : Int) + 7 * s)) := Lib.hid (by omega)
  clear hb
  clear ha hw
  clear h7
  have HT := Lib.hid ht
  have HS := Lib.hid hs
  have hB0 := below_alloc (Below.refl w.heap.size w) (confBox t s n)
  unfold confBox at hB0
  have HB0 := Lib.hid hB0
  clear hB0 ht hs h
  go_enter Try.func7, Try.ntmps7
  go_wp2_with fail
  refine (hn _).mono ?_
  rintro e W1 ⟨g, rfl, hg, hp, hb⟩
  have HP1 := Lib.hid hp
  have HB1 := Lib.hid (below_then HB0.out HB0.out.size hb)
  clear hb HB0 hp hg hn
  have hwa := what_in HP1.out HT.out HS.out a HIa.out.1 HIa.out.2
  rw [HW.out] at hwa
  unfold whatV at hwa
  go_wp2_with fail
  refine hwa.mono ?_
  rintro e W2 ⟨rfl, hb⟩
  clear hwa
  have HP2 := Lib.hid (blk_alloc (blk_below HP1.out hb) (place 4 x (y - 5)))
  have HX2 := Lib.hid (heap_alloc_new W2 (place 4 x (y - 5)))
  have HB2 := Lib.hid (below_alloc (below_then HB1.out HB1.out.size hb) (place 4 x (y - 5)))
  unfold place at HP2 HB2 HX2
  clear hb HB1 HP1
  have hwb := what_out HP2.out HT.out HS.out b HNb.out
  unfold whatV at hwb
  go_wp2_with fail
  refine hwb.mono ?_
  rintro e W3 ⟨rfl, hb⟩
  clear hwb
  have hX3 : (W3.alloc (place 0 0 0)).heap[W2.heap.size]? = some (place 4 x (y - 5)) := blk_alloc (blk_below HX2.out hb) (place 0 0 0)
  obtain ⟨x0, x1, x2⟩ := place_cells hX3
  obtain ⟨y0, y1, y2⟩ := place_cells (heap_alloc_new W3 (place 0 0 0))
  have HP3 := Lib.hid (blk_alloc (blk_below HP2.out hb) (place 0 0 0))
  have HB3 := Lib.hid (below_alloc (below_then HB2.out HB2.out.size hb) (place 0 0 0))
  unfold place at HP3 HB3 x0 x1 x2 y0 y1 y2
  clear hb HB2 HP2 HX2 hX3
  have hwo := words_of HP3.out HT.out HS.out
  go_wp2_with fail
  refine hwo.mono ?_
  rintro e w' ⟨rfl, m, rfl⟩
  clear hwo
  have hcall := bag_of (blk_drewN HP3.out m) HT.out x (y - 5)
  rw [HV.out] at hcall
  go_wp2_with fail
  refine hcall.mono ?_
  rintro e w' ⟨rfl, rfl⟩
  clear hcall
  go_wp2_with fail
  refine (lives_calls _).mono ?_
  rintro e W9 ⟨rfl, hb⟩
  have HB9 := Lib.hid (below_then (pw_below_drewN HB3.out _) (by have := HB3.out.size; simpa using this) hb)
  clear hb HB3
  go_wp2
  go_ret
  exact ⟨rfl, HB9.out⟩

set_option maxRecDepth 100000 in
set_option maxHeartbeats 4000000 in
theorem apart_4H {t s : Nat} {n a b : Int} (w : World) (h : MayC t s n) (ha : 0 ≤ a ∧ a < 3 + 8 * (t : Int) + 7 * s) {x y : Int} (h7 : 0 ≤ x ∧ 0 ≤ y ∧ y < 8 ∧ a = 3 + 8 * x + y ∧ 5 ≤ y ∧ a < 3 + 8 * t) (hw : whatN t a = (4, x, (y - 5))) (hb : 3 + 8 * (t : Int) + 7 * s ≤ b) : Goal t s n a b w := by
  have hu1 := Try.underlying44
  have hu2 := Try.underlying61
  have hn := fun W => new_yes (w := W) h
  have ht : 1 ≤ (t : Int) ∧ (t : Int) ≤ 6 := h.1
  have hs : 7 ≤ (s : Int) ∧ (s : Int) ≤ 250 := h.2.1
  have ca0 : decide (0 ≤ a) = true := decide_eq_true (by omega)
  have ca1 : decide (a < 3 + 8 * (t : Int) + 7 * s) = true := decide_eq_true (by omega)
  have hval : bagN t x (y - 5) 5 = a := by unfold bagN ownN; (repeat' split) <;> omega
  have HV := Lib.hid hval
  clear hval
  have HIa := Lib.hid ha
  have HW := Lib.hid hw
  have cb0 : decide (0 ≤ b) = true := decide_eq_true (by omega)
  have cb1 : decide (b < 3 + 8 * (t : Int) + 7 * s) = false := decide_eq_false (by omega)
  have HNb : Hid (¬ (0 ≤ b ∧ b < 3 + 8 * (t : Int) + 7 * s)) := Lib.hid (by omega)
  clear hb
  clear ha hw
  clear h7
  have HT := Lib.hid ht
  have HS := Lib.hid hs
  have hB0 := below_alloc (Below.refl w.heap.size w) (confBox t s n)
  unfold confBox at hB0
  have HB0 := Lib.hid hB0
  clear hB0 ht hs h
  go_enter Try.func7, Try.ntmps7
  go_wp2_with fail
  refine (hn _).mono ?_
  rintro e W1 ⟨g, rfl, hg, hp, hb⟩
  have HP1 := Lib.hid hp
  have HB1 := Lib.hid (below_then HB0.out HB0.out.size hb)
  clear hb HB0 hp hg hn
  have hwa := what_in HP1.out HT.out HS.out a HIa.out.1 HIa.out.2
  rw [HW.out] at hwa
  unfold whatV at hwa
  go_wp2_with fail
  refine hwa.mono ?_
  rintro e W2 ⟨rfl, hb⟩
  clear hwa
  have HP2 := Lib.hid (blk_alloc (blk_below HP1.out hb) (place 4 x (y - 5)))
  have HX2 := Lib.hid (heap_alloc_new W2 (place 4 x (y - 5)))
  have HB2 := Lib.hid (below_alloc (below_then HB1.out HB1.out.size hb) (place 4 x (y - 5)))
  unfold place at HP2 HB2 HX2
  clear hb HB1 HP1
  have hwb := what_out HP2.out HT.out HS.out b HNb.out
  unfold whatV at hwb
  go_wp2_with fail
  refine hwb.mono ?_
  rintro e W3 ⟨rfl, hb⟩
  clear hwb
  have hX3 : (W3.alloc (place 0 0 0)).heap[W2.heap.size]? = some (place 4 x (y - 5)) := blk_alloc (blk_below HX2.out hb) (place 0 0 0)
  obtain ⟨x0, x1, x2⟩ := place_cells hX3
  obtain ⟨y0, y1, y2⟩ := place_cells (heap_alloc_new W3 (place 0 0 0))
  have HP3 := Lib.hid (blk_alloc (blk_below HP2.out hb) (place 0 0 0))
  have HB3 := Lib.hid (below_alloc (below_then HB2.out HB2.out.size hb) (place 0 0 0))
  unfold place at HP3 HB3 x0 x1 x2 y0 y1 y2
  clear hb HB2 HP2 HX2 hX3
  have hwo := words_of HP3.out HT.out HS.out
  go_wp2_with fail
  refine hwo.mono ?_
  rintro e w' ⟨rfl, m, rfl⟩
  clear hwo
  have hwo := words_of (blk_drewN HP3.out m) HT.out HS.out
  go_wp2_with fail
  refine hwo.mono ?_
  rintro e w' ⟨rfl, m2, rfl⟩
  clear hwo
  have hcall := bag_of (blk_drewN HP3.out (m + m2)) HT.out x (y - 5)
  rw [HV.out] at hcall
  go_wp2_with fail
  refine hcall.mono ?_
  rintro e w' ⟨rfl, rfl⟩
  clear hcall
  go_wp2_with fail
  refine (lives_calls _).mono ?_
  rintro e W9 ⟨rfl, hb⟩
  have HB9 := Lib.hid (below_then (pw_below_drewN HB3.out _) (by have := HB3.out.size; simpa using this) hb)
  clear hb HB3
  go_wp2
  go_ret
  exact ⟨rfl, HB9.out⟩

set_option maxRecDepth 100000 in
set_option maxHeartbeats 4000000 in
theorem apart_4E {t s : Nat} {n a : Int} (w : World) (h : MayC t s n) (ha : 0 ≤ a ∧ a < 3 + 8 * (t : Int) + 7 * s) {x y : Int} (h7 : 0 ≤ x ∧ 0 ≤ y ∧ y < 8 ∧ a = 3 + 8 * x + y ∧ 5 ≤ y ∧ a < 3 + 8 * t) (hw : whatN t a = (4, x, (y - 5))) : Goal t s n a a w := by
  have hu1 := Try.underlying44
  have hu2 := Try.underlying61
  have hn := fun W => new_yes (w := W) h
  have ht : 1 ≤ (t : Int) ∧ (t : Int) ≤ 6 := h.1
  have hs : 7 ≤ (s : Int) ∧ (s : Int) ≤ 250 := h.2.1
  have ca0 : decide (0 ≤ a) = true := decide_eq_true (by omega)
  have ca1 : decide (a < 3 + 8 * (t : Int) + 7 * s) = true := decide_eq_true (by omega)
  have hval : bagN t x (y - 5) 5 = a := by unfold bagN ownN; (repeat' split) <;> omega
  have HV := Lib.hid hval
  clear hval
  have HIa := Lib.hid ha
  have HW := Lib.hid hw
  clear ha hw
  clear h7
  have HT := Lib.hid ht
  have HS := Lib.hid hs
  have hB0 := below_alloc (Below.refl w.heap.size w) (confBox t s n)
  unfold confBox at hB0
  have HB0 := Lib.hid hB0
  clear hB0 ht hs h
  go_enter Try.func7, Try.ntmps7
  go_wp2_with fail
  refine (hn _).mono ?_
  rintro e W1 ⟨g, rfl, hg, hp, hb⟩
  have HP1 := Lib.hid hp
  have HB1 := Lib.hid (below_then HB0.out HB0.out.size hb)
  clear hb HB0 hp hg hn
  have hwa := what_in HP1.out HT.out HS.out a HIa.out.1 HIa.out.2
  rw [HW.out] at hwa
  unfold whatV at hwa
  go_wp2_with fail
  refine hwa.mono ?_
  rintro e W2 ⟨rfl, hb⟩
  clear hwa
  have HP2 := Lib.hid (blk_alloc (blk_below HP1.out hb) (place 4 x (y - 5)))
  have HX2 := Lib.hid (heap_alloc_new W2 (place 4 x (y - 5)))
  have HB2 := Lib.hid (below_alloc (below_then HB1.out HB1.out.size hb) (place 4 x (y - 5)))
  unfold place at HP2 HB2 HX2
  clear hb HB1 HP1
  have hwb := what_in HP2.out HT.out HS.out a HIa.out.1 HIa.out.2
  rw [HW.out] at hwb
  unfold whatV at hwb
  go_wp2_with fail
  refine hwb.mono ?_
  rintro e W3 ⟨rfl, hb⟩
  clear hwb
  have hX3 : (W3.alloc (place 4 x (y - 5))).heap[W2.heap.size]? = some (place 4 x (y - 5)) := blk_alloc (blk_below HX2.out hb) (place 4 x (y - 5))
  obtain ⟨x0, x1, x2⟩ := place_cells hX3
  obtain ⟨y0, y1, y2⟩ := place_cells (heap_alloc_new W3 (place 4 x (y - 5)))
  have HP3 := Lib.hid (blk_alloc (blk_below HP2.out hb) (place 4 x (y - 5)))
  have HB3 := Lib.hid (below_alloc (below_then HB2.out HB2.out.size hb) (place 4 x (y - 5)))
  unfold place at HP3 HB3 x0 x1 x2 y0 y1 y2
  clear hb HB2 HP2 HX2 hX3
  have hwo := words_of HP3.out HT.out HS.out
  go_wp2_with fail
  refine hwo.mono ?_
  rintro e w' ⟨rfl, m, rfl⟩
  clear hwo
  have hwo := words_of (blk_drewN HP3.out m) HT.out HS.out
  go_wp2_with fail
  refine hwo.mono ?_
  rintro e w' ⟨rfl, m2, rfl⟩
  clear hwo
  have hcall := bag_of (blk_drewN HP3.out (m + m2)) HT.out x (y - 5)
  rw [HV.out] at hcall
  go_wp2_with fail
  refine hcall.mono ?_
  rintro e w' ⟨rfl, rfl⟩
  clear hcall
  go_wp2_with fail
  refine (lives_calls _).mono ?_
  rintro e W9 ⟨rfl, hb⟩
  have HB9 := Lib.hid (below_then (pw_below_drewN HB3.out _) (by have := HB3.out.size; simpa using this) hb)
  clear hb HB3
  go_wp2
  go_ret
  exact ⟨rfl, HB9.out⟩

set_option maxRecDepth 100000 in
set_option maxHeartbeats 4000000 in
theorem apart_4N1 {t s : Nat} {n a b : Int} (w : World) (h : MayC t s n) (ha : 0 ≤ a ∧ a < 3 + 8 * (t : Int) + 7 * s) {x y : Int} (h7 : 0 ≤ x ∧ 0 ≤ y ∧ y < 8 ∧ a = 3 + 8 * x + y ∧ 5 ≤ y ∧ a < 3 + 8 * t) (hw : whatN t a = (4, x, (y - 5))) (hb : 0 ≤ b ∧ b < 3 + 8 * (t : Int) + 7 * s) {p q r : Int} (hwb : whatN t b = (p, q, r)) (hd : ¬ 4 = p) (hne : a ≠ b) : Goal t s n a b w := by
  have hu1 := Try.underlying44
  have hu2 := Try.underlying61
  have hn := fun W => new_yes (w := W) h
  have ht : 1 ≤ (t : Int) ∧ (t : Int) ≤ 6 := h.1
  have hs : 7 ≤ (s : Int) ∧ (s : Int) ≤ 250 := h.2.1
  have ca0 : decide (0 ≤ a) = true := decide_eq_true (by omega)
  have ca1 : decide (a < 3 + 8 * (t : Int) + 7 * s) = true := decide_eq_true (by omega)
  have hval : bagN t x (y - 5) 5 = a := by unfold bagN ownN; (repeat' split) <;> omega
  have HV := Lib.hid hval
  clear hval
  have HIa := Lib.hid ha
  have HW := Lib.hid hw
  have cb0 : decide (0 ≤ b) = true := decide_eq_true (by omega)
  have cb1 : decide (b < 3 + 8 * (t : Int) + 7 * s) = true := decide_eq_true (by omega)
  have hab : (a == b) = false := beq_eq_false_iff_ne.2 hne
  have HQb := Lib.hid hwb
  have HIb := Lib.hid hb
  clear hwb hne hb
  clear ha hw
  clear h7
  have HT := Lib.hid ht
  have HS := Lib.hid hs
  have hB0 := below_alloc (Below.refl w.heap.size w) (confBox t s n)
  unfold confBox at hB0
  have HB0 := Lib.hid hB0
  clear hB0 ht hs h
  go_enter Try.func7, Try.ntmps7
  go_wp2_with fail
  refine (hn _).mono ?_
  rintro e W1 ⟨g, rfl, hg, hp, hb⟩
  have HP1 := Lib.hid hp
  have HB1 := Lib.hid (below_then HB0.out HB0.out.size hb)
  clear hb HB0 hp hg hn
  have hwa := what_in HP1.out HT.out HS.out a HIa.out.1 HIa.out.2
  rw [HW.out] at hwa
  unfold whatV at hwa
  go_wp2_with fail
  refine hwa.mono ?_
  rintro e W2 ⟨rfl, hb⟩
  clear hwa
  have HP2 := Lib.hid (blk_alloc (blk_below HP1.out hb) (place 4 x (y - 5)))
  have HX2 := Lib.hid (heap_alloc_new W2 (place 4 x (y - 5)))
  have HB2 := Lib.hid (below_alloc (below_then HB1.out HB1.out.size hb) (place 4 x (y - 5)))
  unfold place at HP2 HB2 HX2
  clear hb HB1 HP1
  have hwb := what_in HP2.out HT.out HS.out b HIb.out.1 HIb.out.2
  rw [HQb.out] at hwb
  unfold whatV at hwb
  go_wp2_with fail
  refine hwb.mono ?_
  rintro e W3 ⟨rfl, hb⟩
  clear hwb
  have hX3 : (W3.alloc (place p q r)).heap[W2.heap.size]? = some (place 4 x (y - 5)) := blk_alloc (blk_below HX2.out hb) (place p q r)
  obtain ⟨x0, x1, x2⟩ := place_cells hX3
  obtain ⟨y0, y1, y2⟩ := place_cells (heap_alloc_new W3 (place p q r))
  have HP3 := Lib.hid (blk_alloc (blk_below HP2.out hb) (place p q r))
  have HB3 := Lib.hid (below_alloc (below_then HB2.out HB2.out.size hb) (place p q r))
  unfold place at HP3 HB3 x0 x1 x2 y0 y1 y2
  clear hb HB2 HP2 HX2 hX3
  have hwo := words_of HP3.out HT.out HS.out
  go_wp2_with fail
  refine hwo.mono ?_
  rintro e w' ⟨rfl, m, rfl⟩
  clear hwo
  have hwo := words_of (blk_drewN HP3.out m) HT.out HS.out
  go_wp2_with fail
  refine hwo.mono ?_
  rintro e w' ⟨rfl, m2, rfl⟩
  clear hwo
  have hcall := bag_of (blk_drewN HP3.out (m + m2)) HT.out x (y - 5)
  rw [HV.out] at hcall
  go_wp2_with fail
  refine hcall.mono ?_
  rintro e w' ⟨rfl, rfl⟩
  clear hcall
  go_wp2_with fail
  refine (lives_calls _).mono ?_
  rintro e W9 ⟨rfl, hb⟩
  have HB9 := Lib.hid (below_then (pw_below_drewN HB3.out _) (by have := HB3.out.size; simpa using this) hb)
  clear hb HB3
  go_wp2
  go_ret
  exact ⟨rfl, HB9.out⟩

set_option maxRecDepth 100000 in
set_option maxHeartbeats 4000000 in
theorem apart_4N2 {t s : Nat} {n a b : Int} (w : World) (h : MayC t s n) (ha : 0 ≤ a ∧ a < 3 + 8 * (t : Int) + 7 * s) {x y : Int} (h7 : 0 ≤ x ∧ 0 ≤ y ∧ y < 8 ∧ a = 3 + 8 * x + y ∧ 5 ≤ y ∧ a < 3 + 8 * t) (hw : whatN t a = (4, x, (y - 5))) (hb : 0 ≤ b ∧ b < 3 + 8 * (t : Int) + 7 * s) {p q r : Int} (hwb : whatN t b = (4, q, r)) (hd : ¬ x = q) (hne : a ≠ b) : Goal t s n a b w := by
  have hu1 := Try.underlying44
  have hu2 := Try.underlying61
  have hn := fun W => new_yes (w := W) h
  have ht : 1 ≤ (t : Int) ∧ (t : Int) ≤ 6 := h.1
  have hs : 7 ≤ (s : Int) ∧ (s : Int) ≤ 250 := h.2.1
  have ca0 : decide (0 ≤ a) = true := decide_eq_true (by omega)
  have ca1 : decide (a < 3 + 8 * (t : Int) + 7 * s) = true := decide_eq_true (by omega)
  have hval : bagN t x (y - 5) 5 = a := by unfold bagN ownN; (repeat' split) <;> omega
  have HV := Lib.hid hval
  clear hval
  have HIa := Lib.hid ha
  have HW := Lib.hid hw
  have cb0 : decide (0 ≤ b) = true := decide_eq_true (by omega)
  have cb1 : decide (b < 3 + 8 * (t : Int) + 7 * s) = true := decide_eq_true (by omega)
  have hab : (a == b) = false := beq_eq_false_iff_ne.2 hne
  have HQb := Lib.hid hwb
  have HIb := Lib.hid hb
  clear hwb hne hb
  clear ha hw
  clear h7
  have HT := Lib.hid ht
  have HS := Lib.hid hs
  have hB0 := below_alloc (Below.refl w.heap.size w) (confBox t s n)
  unfold confBox at hB0
  have HB0 := Lib.hid hB0
  clear hB0 ht hs h
  go_enter Try.func7, Try.ntmps7
  go_wp2_with fail
  refine (hn _).mono ?_
  rintro e W1 ⟨g, rfl, hg, hp, hb⟩
  have HP1 := Lib.hid hp
  have HB1 := Lib.hid (below_then HB0.out HB0.out.size hb)
  clear hb HB0 hp hg hn
  have hwa := what_in HP1.out HT.out HS.out a HIa.out.1 HIa.out.2
  rw [HW.out] at hwa
  unfold whatV at hwa
  go_wp2_with fail
  refine hwa.mono ?_
  rintro e W2 ⟨rfl, hb⟩
  clear hwa
  have HP2 := Lib.hid (blk_alloc (blk_below HP1.out hb) (place 4 x (y - 5)))
  have HX2 := Lib.hid (heap_alloc_new W2 (place 4 x (y - 5)))
  have HB2 := Lib.hid (below_alloc (below_then HB1.out HB1.out.size hb) (place 4 x (y - 5)))
  unfold place at HP2 HB2 HX2
  clear hb HB1 HP1
  have hwb := what_in HP2.out HT.out HS.out b HIb.out.1 HIb.out.2
  rw [HQb.out] at hwb
  unfold whatV at hwb
  go_wp2_with fail
  refine hwb.mono ?_
  rintro e W3 ⟨rfl, hb⟩
  clear hwb
  have hX3 : (W3.alloc (place 4 q r)).heap[W2.heap.size]? = some (place 4 x (y - 5)) := blk_alloc (blk_below HX2.out hb) (place 4 q r)
  obtain ⟨x0, x1, x2⟩ := place_cells hX3
  obtain ⟨y0, y1, y2⟩ := place_cells (heap_alloc_new W3 (place 4 q r))
  have HP3 := Lib.hid (blk_alloc (blk_below HP2.out hb) (place 4 q r))
  have HB3 := Lib.hid (below_alloc (below_then HB2.out HB2.out.size hb) (place 4 q r))
  unfold place at HP3 HB3 x0 x1 x2 y0 y1 y2
  clear hb HB2 HP2 HX2 hX3
  have hwo := words_of HP3.out HT.out HS.out
  go_wp2_with fail
  refine hwo.mono ?_
  rintro e w' ⟨rfl, m, rfl⟩
  clear hwo
  have hwo := words_of (blk_drewN HP3.out m) HT.out HS.out
  go_wp2_with fail
  refine hwo.mono ?_
  rintro e w' ⟨rfl, m2, rfl⟩
  clear hwo
  have hcall := bag_of (blk_drewN HP3.out (m + m2)) HT.out x (y - 5)
  rw [HV.out] at hcall
  go_wp2_with fail
  refine hcall.mono ?_
  rintro e w' ⟨rfl, rfl⟩
  clear hcall
  go_wp2_with fail
  refine (lives_calls _).mono ?_
  rintro e W9 ⟨rfl, hb⟩
  have HB9 := Lib.hid (below_then (pw_below_drewN HB3.out _) (by have := HB3.out.size; simpa using this) hb)
  clear hb HB3
  go_wp2
  go_ret
  exact ⟨rfl, HB9.out⟩

set_option maxRecDepth 100000 in
set_option maxHeartbeats 4000000 in
theorem apart_4N3 {t s : Nat} {n a b : Int} (w : World) (h : MayC t s n) (ha : 0 ≤ a ∧ a < 3 + 8 * (t : Int) + 7 * s) {x y : Int} (h7 : 0 ≤ x ∧ 0 ≤ y ∧ y < 8 ∧ a = 3 + 8 * x + y ∧ 5 ≤ y ∧ a < 3 + 8 * t) (hw : whatN t a = (4, x, (y - 5))) (hb : 0 ≤ b ∧ b < 3 + 8 * (t : Int) + 7 * s) {p q r : Int} (hwb : whatN t b = (4, x, r)) (hd : ¬ (y - 5) = r) (hne : a ≠ b) : Goal t s n a b w := by
  have hu1 := Try.underlying44
  have hu2 := Try.underlying61
  have hn := fun W => new_yes (w := W) h
  have ht : 1 ≤ (t : Int) ∧ (t : Int) ≤ 6 := h.1
  have hs : 7 ≤ (s : Int) ∧ (s : Int) ≤ 250 := h.2.1
  have ca0 : decide (0 ≤ a) = true := decide_eq_true (by omega)
  have ca1 : decide (a < 3 + 8 * (t : Int) + 7 * s) = true := decide_eq_true (by omega)
  have hval : bagN t x (y - 5) 5 = a := by unfold bagN ownN; (repeat' split) <;> omega
  have HV := Lib.hid hval
  clear hval
  have HIa := Lib.hid ha
  have HW := Lib.hid hw
  have cb0 : decide (0 ≤ b) = true := decide_eq_true (by omega)
  have cb1 : decide (b < 3 + 8 * (t : Int) + 7 * s) = true := decide_eq_true (by omega)
  have hab : (a == b) = false := beq_eq_false_iff_ne.2 hne
  have HQb := Lib.hid hwb
  have HIb := Lib.hid hb
  clear hwb hne hb
  clear ha hw
  clear h7
  have HT := Lib.hid ht
  have HS := Lib.hid hs
  have hB0 := below_alloc (Below.refl w.heap.size w) (confBox t s n)
  unfold confBox at hB0
  have HB0 := Lib.hid hB0
  clear hB0 ht hs h
  go_enter Try.func7, Try.ntmps7
  go_wp2_with fail
  refine (hn _).mono ?_
  rintro e W1 ⟨g, rfl, hg, hp, hb⟩
  have HP1 := Lib.hid hp
  have HB1 := Lib.hid (below_then HB0.out HB0.out.size hb)
  clear hb HB0 hp hg hn
  have hwa := what_in HP1.out HT.out HS.out a HIa.out.1 HIa.out.2
  rw [HW.out] at hwa
  unfold whatV at hwa
  go_wp2_with fail
  refine hwa.mono ?_
  rintro e W2 ⟨rfl, hb⟩
  clear hwa
  have HP2 := Lib.hid (blk_alloc (blk_below HP1.out hb) (place 4 x (y - 5)))
  have HX2 := Lib.hid (heap_alloc_new W2 (place 4 x (y - 5)))
  have HB2 := Lib.hid (below_alloc (below_then HB1.out HB1.out.size hb) (place 4 x (y - 5)))
  unfold place at HP2 HB2 HX2
  clear hb HB1 HP1
  have hwb := what_in HP2.out HT.out HS.out b HIb.out.1 HIb.out.2
  rw [HQb.out] at hwb
  unfold whatV at hwb
  go_wp2_with fail
  refine hwb.mono ?_
  rintro e W3 ⟨rfl, hb⟩
  clear hwb
  have hX3 : (W3.alloc (place 4 x r)).heap[W2.heap.size]? = some (place 4 x (y - 5)) := blk_alloc (blk_below HX2.out hb) (place 4 x r)
  obtain ⟨x0, x1, x2⟩ := place_cells hX3
  obtain ⟨y0, y1, y2⟩ := place_cells (heap_alloc_new W3 (place 4 x r))
  have HP3 := Lib.hid (blk_alloc (blk_below HP2.out hb) (place 4 x r))
  have HB3 := Lib.hid (below_alloc (below_then HB2.out HB2.out.size hb) (place 4 x r))
  unfold place at HP3 HB3 x0 x1 x2 y0 y1 y2
  clear hb HB2 HP2 HX2 hX3
  have hwo := words_of HP3.out HT.out HS.out
  go_wp2_with fail
  refine hwo.mono ?_
  rintro e w' ⟨rfl, m, rfl⟩
  clear hwo
  have hwo := words_of (blk_drewN HP3.out m) HT.out HS.out
  go_wp2_with fail
  refine hwo.mono ?_
  rintro e w' ⟨rfl, m2, rfl⟩
  clear hwo
  have hcall := bag_of (blk_drewN HP3.out (m + m2)) HT.out x (y - 5)
  rw [HV.out] at hcall
  go_wp2_with fail
  refine hcall.mono ?_
  rintro e w' ⟨rfl, rfl⟩
  clear hcall
  go_wp2_with fail
  refine (lives_calls _).mono ?_
  rintro e W9 ⟨rfl, hb⟩
  have HB9 := Lib.hid (below_then (pw_below_drewN HB3.out _) (by have := HB3.out.size; simpa using this) hb)
  clear hb HB3
  go_wp2
  go_ret
  exact ⟨rfl, HB9.out⟩

set_option maxRecDepth 100000 in
set_option maxHeartbeats 4000000 in
theorem apart_3L {t s : Nat} {n a b : Int} (w : World) (h : MayC t s n) (ha : 0 ≤ a ∧ a < 3 + 8 * (t : Int) + 7 * s) {x y : Int} (h7 : 0 ≤ x ∧ 0 ≤ y ∧ y < 8 ∧ a = 3 + 8 * x + y ∧ 2 ≤ y ∧ y < 5 ∧ a < 3 + 8 * t) (hw : whatN t a = (3, x, (y - 2))) (hb : b < 0) : Goal t s n a b w := by
  have hu1 := Try.underlying44
  have hu2 := Try.underlying61
  have hn := fun W => new_yes (w := W) h
  have ht : 1 ≤ (t : Int) ∧ (t : Int) ≤ 6 := h.1
  have hs : 7 ≤ (s : Int) ∧ (s : Int) ≤ 250 := h.2.1
  have ca0 : decide (0 ≤ a) = true := decide_eq_true (by omega)
  have ca1 : decide (a < 3 + 8 * (t : Int) + 7 * s) = true := decide_eq_true (by omega)
  have hval : bagN t x (y - 2) 2 = a := by unfold bagN ownN; (repeat' split) <;> omega
  have HV := Lib.hid hval
  clear hval
  have HIa := Lib.hid ha
  have HW := Lib.hid hw
  have cb0 : decide (0 ≤ b) = false := decide_eq_false (by omega)
  have HNb : Hid (¬ (0 ≤ b ∧ b < 3 + 8 * (t : Int) + 7 * s)) := Lib.hid (by omega)
  clear hb
  clear ha hw
  clear h7
  have HT := Lib.hid ht
  have HS := Lib.hid hs
  have hB0 := below_alloc (Below.refl w.heap.size w) (confBox t s n)
  unfold confBox at hB0
  have HB0 := Lib.hid hB0
  clear hB0 ht hs h
  go_enter Try.func7, Try.ntmps7
  go_wp2_with fail
  refine (hn _).mono ?_
  rintro e W1 ⟨g, rfl, hg, hp, hb⟩
  have HP1 := Lib.hid hp
  have HB1 := Lib.hid (below_then HB0.out HB0.out.size hb)
  clear hb HB0 hp hg hn
  have hwa := what_in HP1.out HT.out HS.out a HIa.out.1 HIa.out.2
  rw [HW.out] at hwa
  unfold whatV at hwa
  go_wp2_with fail
  refine hwa.mono ?_
  rintro e W2 ⟨rfl, hb⟩
  clear hwa
  have HP2 := Lib.hid (blk_alloc (blk_below HP1.out hb) (place 3 x (y - 2)))
  have HX2 := Lib.hid (heap_alloc_new W2 (place 3 x (y - 2)))
  have HB2 := Lib.hid (below_alloc (below_then HB1.out HB1.out.size hb) (place 3 x (y - 2)))
  unfold place at HP2 HB2 HX2
  clear hb HB1 HP1
  have hwb := what_out HP2.out HT.out HS.out b HNb.out
  unfold whatV at hwb
  go_wp2_with fail
  refine hwb.mono ?_
  rintro e W3 ⟨rfl, hb⟩
  clear hwb
  have hX3 : (W3.alloc (place 0 0 0)).heap[W2.heap.size]? = some (place 3 x (y - 2)) := blk_alloc (blk_below HX2.out hb) (place 0 0 0)
  obtain ⟨x0, x1, x2⟩ := place_cells hX3
  obtain ⟨y0, y1, y2⟩ := place_cells (heap_alloc_new W3 (place 0 0 0))
  have HP3 := Lib.hid (blk_alloc (blk_below HP2.out hb) (place 0 0 0))
  have HB3 := Lib.hid (below_alloc (below_then HB2.out HB2.out.size hb) (place 0 0 0))
  unfold place at HP3 HB3 x0 x1 x2 y0 y1 y2
  clear hb HB2 HP2 HX2 hX3
  have hwo := words_of HP3.out HT.out HS.out
  go_wp2_with fail
  refine hwo.mono ?_
  rintro e w' ⟨rfl, m, rfl⟩
  clear hwo
  have hcall := stamp_of (blk_drewN HP3.out m) HT.out x (y - 2)
  rw [HV.out] at hcall
  go_wp2_with fail
  refine hcall.mono ?_
  rintro e w' ⟨rfl, rfl⟩
  clear hcall
  go_wp2_with fail
  refine (lives_calls _).mono ?_
  rintro e W9 ⟨rfl, hb⟩
  have HB9 := Lib.hid (below_then (pw_below_drewN HB3.out _) (by have := HB3.out.size; simpa using this) hb)
  clear hb HB3
  go_wp2
  go_ret
  exact ⟨rfl, HB9.out⟩

set_option maxRecDepth 100000 in
set_option maxHeartbeats 4000000 in
theorem apart_3H {t s : Nat} {n a b : Int} (w : World) (h : MayC t s n) (ha : 0 ≤ a ∧ a < 3 + 8 * (t : Int) + 7 * s) {x y : Int} (h7 : 0 ≤ x ∧ 0 ≤ y ∧ y < 8 ∧ a = 3 + 8 * x + y ∧ 2 ≤ y ∧ y < 5 ∧ a < 3 + 8 * t) (hw : whatN t a = (3, x, (y - 2))) (hb : 3 + 8 * (t : Int) + 7 * s ≤ b) : Goal t s n a b w := by
  have hu1 := Try.underlying44
  have hu2 := Try.underlying61
  have hn := fun W => new_yes (w := W) h
  have ht : 1 ≤ (t : Int) ∧ (t : Int) ≤ 6 := h.1
  have hs : 7 ≤ (s : Int) ∧ (s : Int) ≤ 250 := h.2.1
  have ca0 : decide (0 ≤ a) = true := decide_eq_true (by omega)
  have ca1 : decide (a < 3 + 8 * (t : Int) + 7 * s) = true := decide_eq_true (by omega)
  have hval : bagN t x (y - 2) 2 = a := by unfold bagN ownN; (repeat' split) <;> omega
  have HV := Lib.hid hval
  clear hval
  have HIa := Lib.hid ha
  have HW := Lib.hid hw
  have cb0 : decide (0 ≤ b) = true := decide_eq_true (by omega)
  have cb1 : decide (b < 3 + 8 * (t : Int) + 7 * s) = false := decide_eq_false (by omega)
  have HNb : Hid (¬ (0 ≤ b ∧ b < 3 + 8 * (t : Int) + 7 * s)) := Lib.hid (by omega)
  clear hb
  clear ha hw
  clear h7
  have HT := Lib.hid ht
  have HS := Lib.hid hs
  have hB0 := below_alloc (Below.refl w.heap.size w) (confBox t s n)
  unfold confBox at hB0
  have HB0 := Lib.hid hB0
  clear hB0 ht hs h
  go_enter Try.func7, Try.ntmps7
  go_wp2_with fail
  refine (hn _).mono ?_
  rintro e W1 ⟨g, rfl, hg, hp, hb⟩
  have HP1 := Lib.hid hp
  have HB1 := Lib.hid (below_then HB0.out HB0.out.size hb)
  clear hb HB0 hp hg hn
  have hwa := what_in HP1.out HT.out HS.out a HIa.out.1 HIa.out.2
  rw [HW.out] at hwa
  unfold whatV at hwa
  go_wp2_with fail
  refine hwa.mono ?_
  rintro e W2 ⟨rfl, hb⟩
  clear hwa
  have HP2 := Lib.hid (blk_alloc (blk_below HP1.out hb) (place 3 x (y - 2)))
  have HX2 := Lib.hid (heap_alloc_new W2 (place 3 x (y - 2)))
  have HB2 := Lib.hid (below_alloc (below_then HB1.out HB1.out.size hb) (place 3 x (y - 2)))
  unfold place at HP2 HB2 HX2
  clear hb HB1 HP1
  have hwb := what_out HP2.out HT.out HS.out b HNb.out
  unfold whatV at hwb
  go_wp2_with fail
  refine hwb.mono ?_
  rintro e W3 ⟨rfl, hb⟩
  clear hwb
  have hX3 : (W3.alloc (place 0 0 0)).heap[W2.heap.size]? = some (place 3 x (y - 2)) := blk_alloc (blk_below HX2.out hb) (place 0 0 0)
  obtain ⟨x0, x1, x2⟩ := place_cells hX3
  obtain ⟨y0, y1, y2⟩ := place_cells (heap_alloc_new W3 (place 0 0 0))
  have HP3 := Lib.hid (blk_alloc (blk_below HP2.out hb) (place 0 0 0))
  have HB3 := Lib.hid (below_alloc (below_then HB2.out HB2.out.size hb) (place 0 0 0))
  unfold place at HP3 HB3 x0 x1 x2 y0 y1 y2
  clear hb HB2 HP2 HX2 hX3
  have hwo := words_of HP3.out HT.out HS.out
  go_wp2_with fail
  refine hwo.mono ?_
  rintro e w' ⟨rfl, m, rfl⟩
  clear hwo
  have hwo := words_of (blk_drewN HP3.out m) HT.out HS.out
  go_wp2_with fail
  refine hwo.mono ?_
  rintro e w' ⟨rfl, m2, rfl⟩
  clear hwo
  have hcall := stamp_of (blk_drewN HP3.out (m + m2)) HT.out x (y - 2)
  rw [HV.out] at hcall
  go_wp2_with fail
  refine hcall.mono ?_
  rintro e w' ⟨rfl, rfl⟩
  clear hcall
  go_wp2_with fail
  refine (lives_calls _).mono ?_
  rintro e W9 ⟨rfl, hb⟩
  have HB9 := Lib.hid (below_then (pw_below_drewN HB3.out _) (by have := HB3.out.size; simpa using this) hb)
  clear hb HB3
  go_wp2
  go_ret
  exact ⟨rfl, HB9.out⟩

set_option maxRecDepth 100000 in
set_option maxHeartbeats 4000000 in
theorem apart_3E {t s : Nat} {n a : Int} (w : World) (h : MayC t s n) (ha : 0 ≤ a ∧ a < 3 + 8 * (t : Int) + 7 * s) {x y : Int} (h7 : 0 ≤ x ∧ 0 ≤ y ∧ y < 8 ∧ a = 3 + 8 * x + y ∧ 2 ≤ y ∧ y < 5 ∧ a < 3 + 8 * t) (hw : whatN t a = (3, x, (y - 2))) : Goal t s n a a w := by
  have hu1 := Try.underlying44
  have hu2 := Try.underlying61
  have hn := fun W => new_yes (w := W) h
  have ht : 1 ≤ (t : Int) ∧ (t : Int) ≤ 6 := h.1
  have hs : 7 ≤ (s : Int) ∧ (s : Int) ≤ 250 := h.2.1
  have ca0 : decide (0 ≤ a) = true := decide_eq_true (by omega)
  have ca1 : decide (a < 3 + 8 * (t : Int) + 7 * s) = true := decide_eq_true (by omega)
  have hval : bagN t x (y - 2) 2 = a := by unfold bagN ownN; (repeat' split) <;> omega
  have HV := Lib.hid hval
  clear hval
  have HIa := Lib.hid ha
  have HW := Lib.hid hw
  clear ha hw
  clear h7
  have HT := Lib.hid ht
  have HS := Lib.hid hs
  have hB0 := below_alloc (Below.refl w.heap.size w) (confBox t s n)
  unfold confBox at hB0
  have HB0 := Lib.hid hB0
  clear hB0 ht hs h
  go_enter Try.func7, Try.ntmps7
  go_wp2_with fail
  refine (hn _).mono ?_
  rintro e W1 ⟨g, rfl, hg, hp, hb⟩
  have HP1 := Lib.hid hp
  have HB1 := Lib.hid (below_then HB0.out HB0.out.size hb)
  clear hb HB0 hp hg hn
  have hwa := what_in HP1.out HT.out HS.out a HIa.out.1 HIa.out.2
  rw [HW.out] at hwa
  unfold whatV at hwa
  go_wp2_with fail
  refine hwa.mono ?_
  rintro e W2 ⟨rfl, hb⟩
  clear hwa
  have HP2 := Lib.hid (blk_alloc (blk_below HP1.out hb) (place 3 x (y - 2)))
  have HX2 := Lib.hid (heap_alloc_new W2 (place 3 x (y - 2)))
  have HB2 := Lib.hid (below_alloc (below_then HB1.out HB1.out.size hb) (place 3 x (y - 2)))
  unfold place at HP2 HB2 HX2
  clear hb HB1 HP1
  have hwb := what_in HP2.out HT.out HS.out a HIa.out.1 HIa.out.2
  rw [HW.out] at hwb
  unfold whatV at hwb
  go_wp2_with fail
  refine hwb.mono ?_
  rintro e W3 ⟨rfl, hb⟩
  clear hwb
  have hX3 : (W3.alloc (place 3 x (y - 2))).heap[W2.heap.size]? = some (place 3 x (y - 2)) := blk_alloc (blk_below HX2.out hb) (place 3 x (y - 2))
  obtain ⟨x0, x1, x2⟩ := place_cells hX3
  obtain ⟨y0, y1, y2⟩ := place_cells (heap_alloc_new W3 (place 3 x (y - 2)))
  have HP3 := Lib.hid (blk_alloc (blk_below HP2.out hb) (place 3 x (y - 2)))
  have HB3 := Lib.hid (below_alloc (below_then HB2.out HB2.out.size hb) (place 3 x (y - 2)))
  unfold place at HP3 HB3 x0 x1 x2 y0 y1 y2
  clear hb HB2 HP2 HX2 hX3
  have hwo := words_of HP3.out HT.out HS.out
  go_wp2_with fail
  refine hwo.mono ?_
  rintro e w' ⟨rfl, m, rfl⟩
  clear hwo
  have hwo := words_of (blk_drewN HP3.out m) HT.out HS.out
  go_wp2_with fail
  refine hwo.mono ?_
  rintro e w' ⟨rfl, m2, rfl⟩
  clear hwo
  have hcall := stamp_of (blk_drewN HP3.out (m + m2)) HT.out x (y - 2)
  rw [HV.out] at hcall
  go_wp2_with fail
  refine hcall.mono ?_
  rintro e w' ⟨rfl, rfl⟩
  clear hcall
  go_wp2_with fail
  refine (lives_calls _).mono ?_
  rintro e W9 ⟨rfl, hb⟩
  have HB9 := Lib.hid (below_then (pw_below_drewN HB3.out _) (by have := HB3.out.size; simpa using this) hb)
  clear hb HB3
  go_wp2
  go_ret
  exact ⟨rfl, HB9.out⟩

set_option maxRecDepth 100000 in
set_option maxHeartbeats 4000000 in
theorem apart_3N1 {t s : Nat} {n a b : Int} (w : World) (h : MayC t s n) (ha : 0 ≤ a ∧ a < 3 + 8 * (t : Int) + 7 * s) {x y : Int} (h7 : 0 ≤ x ∧ 0 ≤ y ∧ y < 8 ∧ a = 3 + 8 * x + y ∧ 2 ≤ y ∧ y < 5 ∧ a < 3 + 8 * t) (hw : whatN t a = (3, x, (y - 2))) (hb : 0 ≤ b ∧ b < 3 + 8 * (t : Int) + 7 * s) {p q r : Int} (hwb : whatN t b = (p, q, r)) (hd : ¬ 3 = p) (hne : a ≠ b) : Goal t s n a b w := by
  have hu1 := Try.underlying44
  have hu2 := Try.underlying61
  have hn := fun W => new_yes (w := W) h
  have ht : 1 ≤ (t : Int) ∧ (t : Int) ≤ 6 := h.1
  have hs : 7 ≤ (s : Int) ∧ (s : Int) ≤ 250 := h.2.1
  have ca0 : decide (0 ≤ a) = true := decide_eq_true (by omega)
  have ca1 : decide (a < 3 + 8 * (t : Int) + 7 * s) = true := decide_eq_true (by omega)
  have hval : bagN t x (y - 2) 2 = a := by unfold bagN ownN; (repeat' split) <;> omega
  have HV := Lib.hid hval
  clear hval
  have HIa := Lib.hid ha
  have HW := Lib.hid hw
  have cb0 : decide (0 ≤ b) = true := decide_eq_true (by omega)
  have cb1 : decide (b < 3 + 8 * (t : Int) + 7 * s) = true := decide_eq_true (by omega)
  have hab : (a == b) = false := beq_eq_false_iff_ne.2 hne
  have HQb := Lib.hid hwb
  have HIb := Lib.hid hb
  clear hwb hne hb
  clear ha hw
  clear h7
  have HT := Lib.hid ht
  have HS := Lib.hid hs
  have hB0 := below_alloc (Below.refl w.heap.size w) (confBox t s n)
  unfold confBox at hB0
  have HB0 := Lib.hid hB0
  clear hB0 ht hs h
  go_enter Try.func7, Try.ntmps7
  go_wp2_with fail
  refine (hn _).mono ?_
  rintro e W1 ⟨g, rfl, hg, hp, hb⟩
  have HP1 := Lib.hid hp
  have HB1 := Lib.hid (below_then HB0.out HB0.out.size hb)
  clear hb HB0 hp hg hn
  have hwa := what_in HP1.out HT.out HS.out a HIa.out.1 HIa.out.2
  rw [HW.out] at hwa
  unfold whatV at hwa
  go_wp2_with fail
  refine hwa.mono ?_
  rintro e W2 ⟨rfl, hb⟩
  clear hwa
  have HP2 := Lib.hid (blk_alloc (blk_below HP1.out hb) (place 3 x (y - 2)))
  have HX2 := Lib.hid (heap_alloc_new W2 (place 3 x (y - 2)))
  have HB2 := Lib.hid (below_alloc (below_then HB1.out HB1.out.size hb) (place 3 x (y - 2)))
  unfold place at HP2 HB2 HX2
  clear hb HB1 HP1
  have hwb := what_in HP2.out HT.out HS.out b HIb.out.1 HIb.out.2
  rw [HQb.out] at hwb
  unfold whatV at hwb
  go_wp2_with fail
  refine hwb.mono ?_
  rintro e W3 ⟨rfl, hb⟩
  clear hwb
  have hX3 : (W3.alloc (place p q r)).heap[W2.heap.size]? = some (place 3 x (y - 2)) := blk_alloc (blk_below HX2.out hb) (place p q r)
  obtain ⟨x0, x1, x2⟩ := place_cells hX3
  obtain ⟨y0, y1, y2⟩ := place_cells (heap_alloc_new W3 (place p q r))
  have HP3 := Lib.hid (blk_alloc (blk_below HP2.out hb) (place p q r))
  have HB3 := Lib.hid (below_alloc (below_then HB2.out HB2.out.size hb) (place p q r))
  unfold place at HP3 HB3 x0 x1 x2 y0 y1 y2
  clear hb HB2 HP2 HX2 hX3
  have hwo := words_of HP3.out HT.out HS.out
  go_wp2_with fail
  refine hwo.mono ?_
  rintro e w' ⟨rfl, m, rfl⟩
  clear hwo
  have hwo := words_of (blk_drewN HP3.out m) HT.out HS.out
  go_wp2_with fail
  refine hwo.mono ?_
  rintro e w' ⟨rfl, m2, rfl⟩
  clear hwo
  have hcall := stamp_of (blk_drewN HP3.out (m + m2)) HT.out x (y - 2)
  rw [HV.out] at hcall
  go_wp2_with fail
  refine hcall.mono ?_
  rintro e w' ⟨rfl, rfl⟩
  clear hcall
  go_wp2_with fail
  refine (lives_calls _).mono ?_
  rintro e W9 ⟨rfl, hb⟩
  have HB9 := Lib.hid (below_then (pw_below_drewN HB3.out _) (by have := HB3.out.size; simpa using this) hb)
  clear hb HB3
  go_wp2
  go_ret
  exact ⟨rfl, HB9.out⟩

set_option maxRecDepth 100000 in
set_option maxHeartbeats 4000000 in
theorem apart_3N2 {t s : Nat} {n a b : Int} (w : World) (h : MayC t s n) (ha : 0 ≤ a ∧ a < 3 + 8 * (t : Int) + 7 * s) {x y : Int} (h7 : 0 ≤ x ∧ 0 ≤ y ∧ y < 8 ∧ a = 3 + 8 * x + y ∧ 2 ≤ y ∧ y < 5 ∧ a < 3 + 8 * t) (hw : whatN t a = (3, x, (y - 2))) (hb : 0 ≤ b ∧ b < 3 + 8 * (t : Int) + 7 * s) {p q r : Int} (hwb : whatN t b = (3, q, r)) (hd : ¬ x = q) (hne : a ≠ b) : Goal t s n a b w := by
  have hu1 := Try.underlying44
  have hu2 := Try.underlying61
  have hn := fun W => new_yes (w := W) h
  have ht : 1 ≤ (t : Int) ∧ (t : Int) ≤ 6 := h.1
  have hs : 7 ≤ (s : Int) ∧ (s : Int) ≤ 250 := h.2.1
  have ca0 : decide (0 ≤ a) = true := decide_eq_true (by omega)
  have ca1 : decide (a < 3 + 8 * (t : Int) + 7 * s) = true := decide_eq_true (by omega)
  have hval : bagN t x (y - 2) 2 = a := by unfold bagN ownN; (repeat' split) <;> omega
  have HV := Lib.hid hval
  clear hval
  have HIa := Lib.hid ha
  have HW := Lib.hid hw
  have cb0 : decide (0 ≤ b) = true := decide_eq_true (by omega)
  have cb1 : decide (b < 3 + 8 * (t : Int) + 7 * s) = true := decide_eq_true (by omega)
  have hab : (a == b) = false := beq_eq_false_iff_ne.2 hne
  have HQb := Lib.hid hwb
  have HIb := Lib.hid hb
  clear hwb hne hb
  clear ha hw
  clear h7
  have HT := Lib.hid ht
  have HS := Lib.hid hs
  have hB0 := below_alloc (Below.refl w.heap.size w) (confBox t s n)
  unfold confBox at hB0
  have HB0 := Lib.hid hB0
  clear hB0 ht hs h
  go_enter Try.func7, Try.ntmps7
  go_wp2_with fail
  refine (hn _).mono ?_
  rintro e W1 ⟨g, rfl, hg, hp, hb⟩
  have HP1 := Lib.hid hp
  have HB1 := Lib.hid (below_then HB0.out HB0.out.size hb)
  clear hb HB0 hp hg hn
  have hwa := what_in HP1.out HT.out HS.out a HIa.out.1 HIa.out.2
  rw [HW.out] at hwa
  unfold whatV at hwa
  go_wp2_with fail
  refine hwa.mono ?_
  rintro e W2 ⟨rfl, hb⟩
  clear hwa
  have HP2 := Lib.hid (blk_alloc (blk_below HP1.out hb) (place 3 x (y - 2)))
  have HX2 := Lib.hid (heap_alloc_new W2 (place 3 x (y - 2)))
  have HB2 := Lib.hid (below_alloc (below_then HB1.out HB1.out.size hb) (place 3 x (y - 2)))
  unfold place at HP2 HB2 HX2
  clear hb HB1 HP1
  have hwb := what_in HP2.out HT.out HS.out b HIb.out.1 HIb.out.2
  rw [HQb.out] at hwb
  unfold whatV at hwb
  go_wp2_with fail
  refine hwb.mono ?_
  rintro e W3 ⟨rfl, hb⟩
  clear hwb
  have hX3 : (W3.alloc (place 3 q r)).heap[W2.heap.size]? = some (place 3 x (y - 2)) := blk_alloc (blk_below HX2.out hb) (place 3 q r)
  obtain ⟨x0, x1, x2⟩ := place_cells hX3
  obtain ⟨y0, y1, y2⟩ := place_cells (heap_alloc_new W3 (place 3 q r))
  have HP3 := Lib.hid (blk_alloc (blk_below HP2.out hb) (place 3 q r))
  have HB3 := Lib.hid (below_alloc (below_then HB2.out HB2.out.size hb) (place 3 q r))
  unfold place at HP3 HB3 x0 x1 x2 y0 y1 y2
  clear hb HB2 HP2 HX2 hX3
  have hwo := words_of HP3.out HT.out HS.out
  go_wp2_with fail
  refine hwo.mono ?_
  rintro e w' ⟨rfl, m, rfl⟩
  clear hwo
  have hwo := words_of (blk_drewN HP3.out m) HT.out HS.out
  go_wp2_with fail
  refine hwo.mono ?_
  rintro e w' ⟨rfl, m2, rfl⟩
  clear hwo
  have hcall := stamp_of (blk_drewN HP3.out (m + m2)) HT.out x (y - 2)
  rw [HV.out] at hcall
  go_wp2_with fail
  refine hcall.mono ?_
  rintro e w' ⟨rfl, rfl⟩
  clear hcall
  go_wp2_with fail
  refine (lives_calls _).mono ?_
  rintro e W9 ⟨rfl, hb⟩
  have HB9 := Lib.hid (below_then (pw_below_drewN HB3.out _) (by have := HB3.out.size; simpa using this) hb)
  clear hb HB3
  go_wp2
  go_ret
  exact ⟨rfl, HB9.out⟩

set_option maxRecDepth 100000 in
set_option maxHeartbeats 4000000 in
theorem apart_3N3 {t s : Nat} {n a b : Int} (w : World) (h : MayC t s n) (ha : 0 ≤ a ∧ a < 3 + 8 * (t : Int) + 7 * s) {x y : Int} (h7 : 0 ≤ x ∧ 0 ≤ y ∧ y < 8 ∧ a = 3 + 8 * x + y ∧ 2 ≤ y ∧ y < 5 ∧ a < 3 + 8 * t) (hw : whatN t a = (3, x, (y - 2))) (hb : 0 ≤ b ∧ b < 3 + 8 * (t : Int) + 7 * s) {p q r : Int} (hwb : whatN t b = (3, x, r)) (hd : ¬ (y - 2) = r) (hne : a ≠ b) : Goal t s n a b w := by
  have hu1 := Try.underlying44
  have hu2 := Try.underlying61
  have hn := fun W => new_yes (w := W) h
  have ht : 1 ≤ (t : Int) ∧ (t : Int) ≤ 6 := h.1
  have hs : 7 ≤ (s : Int) ∧ (s : Int) ≤ 250 := h.2.1
  have ca0 : decide (0 ≤ a) = true := decide_eq_true (by omega)
  have ca1 : decide (a < 3 + 8 * (t : Int) + 7 * s) = true := decide_eq_true (by omega)
  have hval : bagN t x (y - 2) 2 = a := by unfold bagN ownN; (repeat' split) <;> omega
  have HV := Lib.hid hval
  clear hval
  have HIa := Lib.hid ha
  have HW := Lib.hid hw
  have cb0 : decide (0 ≤ b) = true := decide_eq_true (by omega)
  have cb1 : decide (b < 3 + 8 * (t : Int) + 7 * s) = true := decide_eq_true (by omega)
  have hab : (a == b) = false := beq_eq_false_iff_ne.2 hne
  have HQb := Lib.hid hwb
  have HIb := Lib.hid hb
  clear hwb hne hb
  clear ha hw
  clear h7
  have HT := Lib.hid ht
  have HS := Lib.hid hs
  have hB0 := below_alloc (Below.refl w.heap.size w) (confBox t s n)
  unfold confBox at hB0
  have HB0 := Lib.hid hB0
  clear hB0 ht hs h
  go_enter Try.func7, Try.ntmps7
  go_wp2_with fail
  refine (hn _).mono ?_
  rintro e W1 ⟨g, rfl, hg, hp, hb⟩
  have HP1 := Lib.hid hp
  have HB1 := Lib.hid (below_then HB0.out HB0.out.size hb)
  clear hb HB0 hp hg hn
  have hwa := what_in HP1.out HT.out HS.out a HIa.out.1 HIa.out.2
  rw [HW.out] at hwa
  unfold whatV at hwa
  go_wp2_with fail
  refine hwa.mono ?_
  rintro e W2 ⟨rfl, hb⟩
  clear hwa
  have HP2 := Lib.hid (blk_alloc (blk_below HP1.out hb) (place 3 x (y - 2)))
  have HX2 := Lib.hid (heap_alloc_new W2 (place 3 x (y - 2)))
  have HB2 := Lib.hid (below_alloc (below_then HB1.out HB1.out.size hb) (place 3 x (y - 2)))
  unfold place at HP2 HB2 HX2
  clear hb HB1 HP1
  have hwb := what_in HP2.out HT.out HS.out b HIb.out.1 HIb.out.2
  rw [HQb.out] at hwb
  unfold whatV at hwb
  go_wp2_with fail
  refine hwb.mono ?_
  rintro e W3 ⟨rfl, hb⟩
  clear hwb
  have hX3 : (W3.alloc (place 3 x r)).heap[W2.heap.size]? = some (place 3 x (y - 2)) := blk_alloc (blk_below HX2.out hb) (place 3 x r)
  obtain ⟨x0, x1, x2⟩ := place_cells hX3
  obtain ⟨y0, y1, y2⟩ := place_cells (heap_alloc_new W3 (place 3 x r))
  have HP3 := Lib.hid (blk_alloc (blk_below HP2.out hb) (place 3 x r))
  have HB3 := Lib.hid (below_alloc (below_then HB2.out HB2.out.size hb) (place 3 x r))
  unfold place at HP3 HB3 x0 x1 x2 y0 y1 y2
  clear hb HB2 HP2 HX2 hX3
  have hwo := words_of HP3.out HT.out HS.out
  go_wp2_with fail
  refine hwo.mono ?_
  rintro e w' ⟨rfl, m, rfl⟩
  clear hwo
  have hwo := words_of (blk_drewN HP3.out m) HT.out HS.out
  go_wp2_with fail
  refine hwo.mono ?_
  rintro e w' ⟨rfl, m2, rfl⟩
  clear hwo
  have hcall := stamp_of (blk_drewN HP3.out (m + m2)) HT.out x (y - 2)
  rw [HV.out] at hcall
  go_wp2_with fail
  refine hcall.mono ?_
  rintro e w' ⟨rfl, rfl⟩
  clear hcall
  go_wp2_with fail
  refine (lives_calls _).mono ?_
  rintro e W9 ⟨rfl, hb⟩
  have HB9 := Lib.hid (below_then (pw_below_drewN HB3.out _) (by have := HB3.out.size; simpa using this) hb)
  clear hb HB3
  go_wp2
  go_ret
  exact ⟨rfl, HB9.out⟩

set_option maxRecDepth 100000 in
set_option maxHeartbeats 4000000 in
theorem apart_1L {t s : Nat} {n a b : Int} (w : World) (h : MayC t s n) (ha : 0 ≤ a ∧ a < 3 + 8 * (t : Int) + 7 * s) {x : Int} (h7 : 0 ≤ x ∧ a = 3 + 8 * x ∧ a < 3 + 8 * t) (hw : whatN t a = (1, x, 0)) (hb : b < 0) : Goal t s n a b w := by
  have hu1 := Try.underlying44
  have hu2 := Try.underlying61
  have hn := fun W => new_yes (w := W) h
  have ht : 1 ≤ (t : Int) ∧ (t : Int) ≤ 6 := h.1
  have hs : 7 ≤ (s : Int) ∧ (s : Int) ≤ 250 := h.2.1
  have ca0 : decide (0 ≤ a) = true := decide_eq_true (by omega)
  have ca1 : decide (a < 3 + 8 * (t : Int) + 7 * s) = true := decide_eq_true (by omega)
  have hval : ownN t x 0 = a := by unfold ownN; (repeat' split) <;> omega
  have HV := Lib.hid hval
  clear hval
  have HIa := Lib.hid ha
  have HW := Lib.hid hw
  have cb0 : decide (0 ≤ b) = false := decide_eq_false (by omega)
  have HNb : Hid (¬ (0 ≤ b ∧ b < 3 + 8 * (t : Int) + 7 * s)) := Lib.hid (by omega)
  clear hb
  clear ha hw
  clear h7
  have HT := Lib.hid ht
  have HS := Lib.hid hs
  have hB0 := below_alloc (Below.refl w.heap.size w) (confBox t s n)
  unfold confBox at hB0
  have HB0 := Lib.hid hB0
  clear hB0 ht hs h
  go_enter Try.func7, Try.ntmps7
  go_wp2_with fail
  refine (hn _).mono ?_
  rintro e W1 ⟨g, rfl, hg, hp, hb⟩
  have HP1 := Lib.hid hp
  have HB1 := Lib.hid (below_then HB0.out HB0.out.size hb)
  clear hb HB0 hp hg hn
  have hwa := what_in HP1.out HT.out HS.out a HIa.out.1 HIa.out.2
  rw [HW.out] at hwa
  unfold whatV at hwa
  go_wp2_with fail
  refine hwa.mono ?_
  rintro e W2 ⟨rfl, hb⟩
  clear hwa
  have HP2 := Lib.hid (blk_alloc (blk_below HP1.out hb) (place 1 x 0))
  have HX2 := Lib.hid (heap_alloc_new W2 (place 1 x 0))
  have HB2 := Lib.hid (below_alloc (below_then HB1.out HB1.out.size hb) (place 1 x 0))
  unfold place at HP2 HB2 HX2
  clear hb HB1 HP1
  have hwb := what_out HP2.out HT.out HS.out b HNb.out
  unfold whatV at hwb
  go_wp2_with fail
  refine hwb.mono ?_
  rintro e W3 ⟨rfl, hb⟩
  clear hwb
  have hX3 : (W3.alloc (place 0 0 0)).heap[W2.heap.size]? = some (place 1 x 0) := blk_alloc (blk_below HX2.out hb) (place 0 0 0)
  obtain ⟨x0, x1, x2⟩ := place_cells hX3
  obtain ⟨y0, y1, y2⟩ := place_cells (heap_alloc_new W3 (place 0 0 0))
  have HP3 := Lib.hid (blk_alloc (blk_below HP2.out hb) (place 0 0 0))
  have HB3 := Lib.hid (below_alloc (below_then HB2.out HB2.out.size hb) (place 0 0 0))
  unfold place at HP3 HB3 x0 x1 x2 y0 y1 y2
  clear hb HB2 HP2 HX2 hX3
  have hwo := words_of HP3.out HT.out HS.out
  go_wp2_with fail
  refine hwo.mono ?_
  rintro e w' ⟨rfl, m, rfl⟩
  clear hwo
  have hcall := active_of (blk_drewN HP3.out m) HT.out x
  rw [HV.out] at hcall
  go_wp2_with fail
  refine hcall.mono ?_
  rintro e w' ⟨rfl, rfl⟩
  clear hcall
  go_wp2_with fail
  refine (lives_calls _).mono ?_
  rintro e W9 ⟨rfl, hb⟩
  have HB9 := Lib.hid (below_then (pw_below_drewN HB3.out _) (by have := HB3.out.size; simpa using this) hb)
  clear hb HB3
  go_wp2
  go_ret
  exact ⟨rfl, HB9.out⟩

set_option maxRecDepth 100000 in
set_option maxHeartbeats 4000000 in
theorem apart_1H {t s : Nat} {n a b : Int} (w : World) (h : MayC t s n) (ha : 0 ≤ a ∧ a < 3 + 8 * (t : Int) + 7 * s) {x : Int} (h7 : 0 ≤ x ∧ a = 3 + 8 * x ∧ a < 3 + 8 * t) (hw : whatN t a = (1, x, 0)) (hb : 3 + 8 * (t : Int) + 7 * s ≤ b) : Goal t s n a b w := by
  have hu1 := Try.underlying44
  have hu2 := Try.underlying61
  have hn := fun W => new_yes (w := W) h
  have ht : 1 ≤ (t : Int) ∧ (t : Int) ≤ 6 := h.1
  have hs : 7 ≤ (s : Int) ∧ (s : Int) ≤ 250 := h.2.1
  have ca0 : decide (0 ≤ a) = true := decide_eq_true (by omega)
  have ca1 : decide (a < 3 + 8 * (t : Int) + 7 * s) = true := decide_eq_true (by omega)
  have hval : ownN t x 0 = a := by unfold ownN; (repeat' split) <;> omega
  have HV := Lib.hid hval
  clear hval
  have HIa := Lib.hid ha
  have HW := Lib.hid hw
  have cb0 : decide (0 ≤ b) = true := decide_eq_true (by omega)
  have cb1 : decide (b < 3 + 8 * (t : Int) + 7 * s) = false := decide_eq_false (by omega)
  have HNb : Hid (¬ (0 ≤ b ∧ b < 3 + 8 * (t : Int) + 7 * s)) := Lib.hid (by omega)
  clear hb
  clear ha hw
  clear h7
  have HT := Lib.hid ht
  have HS := Lib.hid hs
  have hB0 := below_alloc (Below.refl w.heap.size w) (confBox t s n)
  unfold confBox at hB0
  have HB0 := Lib.hid hB0
  clear hB0 ht hs h
  go_enter Try.func7, Try.ntmps7
  go_wp2_with fail
  refine (hn _).mono ?_
  rintro e W1 ⟨g, rfl, hg, hp, hb⟩
  have HP1 := Lib.hid hp
  have HB1 := Lib.hid (below_then HB0.out HB0.out.size hb)
  clear hb HB0 hp hg hn
  have hwa := what_in HP1.out HT.out HS.out a HIa.out.1 HIa.out.2
  rw [HW.out] at hwa
  unfold whatV at hwa
  go_wp2_with fail
  refine hwa.mono ?_
  rintro e W2 ⟨rfl, hb⟩
  clear hwa
  have HP2 := Lib.hid (blk_alloc (blk_below HP1.out hb) (place 1 x 0))
  have HX2 := Lib.hid (heap_alloc_new W2 (place 1 x 0))
  have HB2 := Lib.hid (below_alloc (below_then HB1.out HB1.out.size hb) (place 1 x 0))
  unfold place at HP2 HB2 HX2
  clear hb HB1 HP1
  have hwb := what_out HP2.out HT.out HS.out b HNb.out
  unfold whatV at hwb
  go_wp2_with fail
  refine hwb.mono ?_
  rintro e W3 ⟨rfl, hb⟩
  clear hwb
  have hX3 : (W3.alloc (place 0 0 0)).heap[W2.heap.size]? = some (place 1 x 0) := blk_alloc (blk_below HX2.out hb) (place 0 0 0)
  obtain ⟨x0, x1, x2⟩ := place_cells hX3
  obtain ⟨y0, y1, y2⟩ := place_cells (heap_alloc_new W3 (place 0 0 0))
  have HP3 := Lib.hid (blk_alloc (blk_below HP2.out hb) (place 0 0 0))
  have HB3 := Lib.hid (below_alloc (below_then HB2.out HB2.out.size hb) (place 0 0 0))
  unfold place at HP3 HB3 x0 x1 x2 y0 y1 y2
  clear hb HB2 HP2 HX2 hX3
  have hwo := words_of HP3.out HT.out HS.out
  go_wp2_with fail
  refine hwo.mono ?_
  rintro e w' ⟨rfl, m, rfl⟩
  clear hwo
  have hwo := words_of (blk_drewN HP3.out m) HT.out HS.out
  go_wp2_with fail
  refine hwo.mono ?_
  rintro e w' ⟨rfl, m2, rfl⟩
  clear hwo
  have hcall := active_of (blk_drewN HP3.out (m + m2)) HT.out x
  rw [HV.out] at hcall
  go_wp2_with fail
  refine hcall.mono ?_
  rintro e w' ⟨rfl, rfl⟩
  clear hcall
  go_wp2_with fail
  refine (lives_calls _).mono ?_
  rintro e W9 ⟨rfl, hb⟩
  have HB9 := Lib.hid (below_then (pw_below_drewN HB3.out _) (by have := HB3.out.size; simpa using this) hb)
  clear hb HB3
  go_wp2
  go_ret
  exact ⟨rfl, HB9.out⟩

set_option maxRecDepth 100000 in
set_option maxHeartbeats 4000000 in
theorem apart_1E {t s : Nat} {n a : Int} (w : World) (h : MayC t s n) (ha : 0 ≤ a ∧ a < 3 + 8 * (t : Int) + 7 * s) {x : Int} (h7 : 0 ≤ x ∧ a = 3 + 8 * x ∧ a < 3 + 8 * t) (hw : whatN t a = (1, x, 0)) : Goal t s n a a w := by
  have hu1 := Try.underlying44
  have hu2 := Try.underlying61
  have hn := fun W => new_yes (w := W) h
  have ht : 1 ≤ (t : Int) ∧ (t : Int) ≤ 6 := h.1
  have hs : 7 ≤ (s : Int) ∧ (s : Int) ≤ 250 := h.2.1
  have ca0 : decide (0 ≤ a) = true := decide_eq_true (by omega)
  have ca1 : decide (a < 3 + 8 * (t : Int) + 7 * s) = true := decide_eq_true (by omega)
  have hval : ownN t x 0 = a := by unfold ownN; (repeat' split) <;> omega
  have HV := Lib.hid hval
  clear hval
  have HIa := Lib.hid ha
  have HW := Lib.hid hw
  clear ha hw
  clear h7
  have HT := Lib.hid ht
  have HS := Lib.hid hs
  have hB0 := below_alloc (Below.refl w.heap.size w) (confBox t s n)
  unfold confBox at hB0
  have HB0 := Lib.hid hB0
  clear hB0 ht hs h
  go_enter Try.func7, Try.ntmps7
  go_wp2_with fail
  refine (hn _).mono ?_
  rintro e W1 ⟨g, rfl, hg, hp, hb⟩
  have HP1 := Lib.hid hp
  have HB1 := Lib.hid (below_then HB0.out HB0.out.size hb)
  clear hb HB0 hp hg hn
  have hwa := what_in HP1.out HT.out HS.out a HIa.out.1 HIa.out.2
  rw [HW.out] at hwa
  unfold whatV at hwa
  go_wp2_with fail
  refine hwa.mono ?_
  rintro e W2 ⟨rfl, hb⟩
  clear hwa
  have HP2 := Lib.hid (blk_alloc (blk_below HP1.out hb) (place 1 x 0))
  have HX2 := Lib.hid (heap_alloc_new W2 (place 1 x 0))
  have HB2 := Lib.hid (below_alloc (below_then HB1.out HB1.out.size hb) (place 1 x 0))
  unfold place at HP2 HB2 HX2
  clear hb HB1 HP1
  have hwb := what_in HP2.out HT.out HS.out a HIa.out.1 HIa.out.2
  rw [HW.out] at hwb
  unfold whatV at hwb
  go_wp2_with fail
  refine hwb.mono ?_
  rintro e W3 ⟨rfl, hb⟩
  clear hwb
  have hX3 : (W3.alloc (place 1 x 0)).heap[W2.heap.size]? = some (place 1 x 0) := blk_alloc (blk_below HX2.out hb) (place 1 x 0)
  obtain ⟨x0, x1, x2⟩ := place_cells hX3
  obtain ⟨y0, y1, y2⟩ := place_cells (heap_alloc_new W3 (place 1 x 0))
  have HP3 := Lib.hid (blk_alloc (blk_below HP2.out hb) (place 1 x 0))
  have HB3 := Lib.hid (below_alloc (below_then HB2.out HB2.out.size hb) (place 1 x 0))
  unfold place at HP3 HB3 x0 x1 x2 y0 y1 y2
  clear hb HB2 HP2 HX2 hX3
  have hwo := words_of HP3.out HT.out HS.out
  go_wp2_with fail
  refine hwo.mono ?_
  rintro e w' ⟨rfl, m, rfl⟩
  clear hwo
  have hwo := words_of (blk_drewN HP3.out m) HT.out HS.out
  go_wp2_with fail
  refine hwo.mono ?_
  rintro e w' ⟨rfl, m2, rfl⟩
  clear hwo
  have hcall := active_of (blk_drewN HP3.out (m + m2)) HT.out x
  rw [HV.out] at hcall
  go_wp2_with fail
  refine hcall.mono ?_
  rintro e w' ⟨rfl, rfl⟩
  clear hcall
  go_wp2_with fail
  refine (lives_calls _).mono ?_
  rintro e W9 ⟨rfl, hb⟩
  have HB9 := Lib.hid (below_then (pw_below_drewN HB3.out _) (by have := HB3.out.size; simpa using this) hb)
  clear hb HB3
  go_wp2
  go_ret
  exact ⟨rfl, HB9.out⟩

set_option maxRecDepth 100000 in
set_option maxHeartbeats 4000000 in
theorem apart_1N1 {t s : Nat} {n a b : Int} (w : World) (h : MayC t s n) (ha : 0 ≤ a ∧ a < 3 + 8 * (t : Int) + 7 * s) {x : Int} (h7 : 0 ≤ x ∧ a = 3 + 8 * x ∧ a < 3 + 8 * t) (hw : whatN t a = (1, x, 0)) (hb : 0 ≤ b ∧ b < 3 + 8 * (t : Int) + 7 * s) {p q r : Int} (hwb : whatN t b = (p, q, r)) (hd : ¬ 1 = p) (hne : a ≠ b) : Goal t s n a b w := by
  have hu1 := Try.underlying44
  have hu2 := Try.underlying61
  have hn := fun W => new_yes (w := W) h
  have ht : 1 ≤ (t : Int) ∧ (t : Int) ≤ 6 := h.1
  have hs : 7 ≤ (s : Int) ∧ (s : Int) ≤ 250 := h.2.1
  have ca0 : decide (0 ≤ a) = true := decide_eq_true (by omega)
  have ca1 : decide (a < 3 + 8 * (t : Int) + 7 * s) = true := decide_eq_true (by omega)
  have hval : ownN t x 0 = a := by unfold ownN; (repeat' split) <;> omega
  have HV := Lib.hid hval
  clear hval
  have HIa := Lib.hid ha
  have HW := Lib.hid hw
  have cb0 : decide (0 ≤ b) = true := decide_eq_true (by omega)
  have cb1 : decide (b < 3 + 8 * (t : Int) + 7 * s) = true := decide_eq_true (by omega)
  have hab : (a == b) = false := beq_eq_false_iff_ne.2 hne
  have HQb := Lib.hid hwb
  have HIb := Lib.hid hb
  clear hwb hne hb
  clear ha hw
  clear h7
  have HT := Lib.hid ht
  have HS := Lib.hid hs
  have hB0 := below_alloc (Below.refl w.heap.size w) (confBox t s n)
  unfold confBox at hB0
  have HB0 := Lib.hid hB0
  clear hB0 ht hs h
  go_enter Try.func7, Try.ntmps7
  go_wp2_with fail
  refine (hn _).mono ?_
  rintro e W1 ⟨g, rfl, hg, hp, hb⟩
  have HP1 := Lib.hid hp
  have HB1 := Lib.hid (below_then HB0.out HB0.out.size hb)
  clear hb HB0 hp hg hn
  have hwa := what_in HP1.out HT.out HS.out a HIa.out.1 HIa.out.2
  rw [HW.out] at hwa
  unfold whatV at hwa
  go_wp2_with fail
  refine hwa.mono ?_
  rintro e W2 ⟨rfl, hb⟩
  clear hwa
  have HP2 := Lib.hid (blk_alloc (blk_below HP1.out hb) (place 1 x 0))
  have HX2 := Lib.hid (heap_alloc_new W2 (place 1 x 0))
  have HB2 := Lib.hid (below_alloc (below_then HB1.out HB1.out.size hb) (place 1 x 0))
  unfold place at HP2 HB2 HX2
  clear hb HB1 HP1
  have hwb := what_in HP2.out HT.out HS.out b HIb.out.1 HIb.out.2
  rw [HQb.out] at hwb
  unfold whatV at hwb
  go_wp2_with fail
  refine hwb.mono ?_
  rintro e W3 ⟨rfl, hb⟩
  clear hwb
  have hX3 : (W3.alloc (place p q r)).heap[W2.heap.size]? = some (place 1 x 0) := blk_alloc (blk_below HX2.out hb) (place p q r)
  obtain ⟨x0, x1, x2⟩ := place_cells hX3
  obtain ⟨y0, y1, y2⟩ := place_cells (heap_alloc_new W3 (place p q r))
  have HP3 := Lib.hid (blk_alloc (blk_below HP2.out hb) (place p q r))
  have HB3 := Lib.hid (below_alloc (below_then HB2.out HB2.out.size hb) (place p q r))
  unfold place at HP3 HB3 x0 x1 x2 y0 y1 y2
  clear hb HB2 HP2 HX2 hX3
  have hwo := words_of HP3.out HT.out HS.out
  go_wp2_with fail
  refine hwo.mono ?_
  rintro e w' ⟨rfl, m, rfl⟩
  clear hwo
  have hwo := words_of (blk_drewN HP3.out m) HT.out HS.out
  go_wp2_with fail
  refine hwo.mono ?_
  rintro e w' ⟨rfl, m2, rfl⟩
  clear hwo
  have hcall := active_of (blk_drewN HP3.out (m + m2)) HT.out x
  rw [HV.out] at hcall
  go_wp2_with fail
  refine hcall.mono ?_
  rintro e w' ⟨rfl, rfl⟩
  clear hcall
  go_wp2_with fail
  refine (lives_calls _).mono ?_
  rintro e W9 ⟨rfl, hb⟩
  have HB9 := Lib.hid (below_then (pw_below_drewN HB3.out _) (by have := HB3.out.size; simpa using this) hb)
  clear hb HB3
  go_wp2
  go_ret
  exact ⟨rfl, HB9.out⟩

set_option maxRecDepth 100000 in
set_option maxHeartbeats 4000000 in
theorem apart_1N2 {t s : Nat} {n a b : Int} (w : World) (h : MayC t s n) (ha : 0 ≤ a ∧ a < 3 + 8 * (t : Int) + 7 * s) {x : Int} (h7 : 0 ≤ x ∧ a = 3 + 8 * x ∧ a < 3 + 8 * t) (hw : whatN t a = (1, x, 0)) (hb : 0 ≤ b ∧ b < 3 + 8 * (t : Int) + 7 * s) {p q r : Int} (hwb : whatN t b = (1, q, r)) (hd : ¬ x = q) (hne : a ≠ b) : Goal t s n a b w := by
  have hu1 := Try.underlying44
  have hu2 := Try.underlying61
  have hn := fun W => new_yes (w := W) h
  have ht : 1 ≤ (t : Int) ∧ (t : Int) ≤ 6 := h.1
  have hs : 7 ≤ (s : Int) ∧ (s : Int) ≤ 250 := h.2.1
  have ca0 : decide (0 ≤ a) = true := decide_eq_true (by omega)
  have ca1 : decide (a < 3 + 8 * (t : Int) + 7 * s) = true := decide_eq_true (by omega)
  have hval : ownN t x 0 = a := by unfold ownN; (repeat' split) <;> omega
  have HV := Lib.hid hval
  clear hval
  have HIa := Lib.hid ha
  have HW := Lib.hid hw
  have cb0 : decide (0 ≤ b) = true := decide_eq_true (by omega)
  have cb1 : decide (b < 3 + 8 * (t : Int) + 7 * s) = true := decide_eq_true (by omega)
  have hab : (a == b) = false := beq_eq_false_iff_ne.2 hne
  have HQb := Lib.hid hwb
  have HIb := Lib.hid hb
  clear hwb hne hb
  clear ha hw
  clear h7
  have HT := Lib.hid ht
  have HS := Lib.hid hs
  have hB0 := below_alloc (Below.refl w.heap.size w) (confBox t s n)
  unfold confBox at hB0
  have HB0 := Lib.hid hB0
  clear hB0 ht hs h
  go_enter Try.func7, Try.ntmps7
  go_wp2_with fail
  refine (hn _).mono ?_
  rintro e W1 ⟨g, rfl, hg, hp, hb⟩
  have HP1 := Lib.hid hp
  have HB1 := Lib.hid (below_then HB0.out HB0.out.size hb)
  clear hb HB0 hp hg hn
  have hwa := what_in HP1.out HT.out HS.out a HIa.out.1 HIa.out.2
  rw [HW.out] at hwa
  unfold whatV at hwa
  go_wp2_with fail
  refine hwa.mono ?_
  rintro e W2 ⟨rfl, hb⟩
  clear hwa
  have HP2 := Lib.hid (blk_alloc (blk_below HP1.out hb) (place 1 x 0))
  have HX2 := Lib.hid (heap_alloc_new W2 (place 1 x 0))
  have HB2 := Lib.hid (below_alloc (below_then HB1.out HB1.out.size hb) (place 1 x 0))
  unfold place at HP2 HB2 HX2
  clear hb HB1 HP1
  have hwb := what_in HP2.out HT.out HS.out b HIb.out.1 HIb.out.2
  rw [HQb.out] at hwb
  unfold whatV at hwb
  go_wp2_with fail
  refine hwb.mono ?_
  rintro e W3 ⟨rfl, hb⟩
  clear hwb
  have hX3 : (W3.alloc (place 1 q r)).heap[W2.heap.size]? = some (place 1 x 0) := blk_alloc (blk_below HX2.out hb) (place 1 q r)
  obtain ⟨x0, x1, x2⟩ := place_cells hX3
  obtain ⟨y0, y1, y2⟩ := place_cells (heap_alloc_new W3 (place 1 q r))
  have HP3 := Lib.hid (blk_alloc (blk_below HP2.out hb) (place 1 q r))
  have HB3 := Lib.hid (below_alloc (below_then HB2.out HB2.out.size hb) (place 1 q r))
  unfold place at HP3 HB3 x0 x1 x2 y0 y1 y2
  clear hb HB2 HP2 HX2 hX3
  have hwo := words_of HP3.out HT.out HS.out
  go_wp2_with fail
  refine hwo.mono ?_
  rintro e w' ⟨rfl, m, rfl⟩
  clear hwo
  have hwo := words_of (blk_drewN HP3.out m) HT.out HS.out
  go_wp2_with fail
  refine hwo.mono ?_
  rintro e w' ⟨rfl, m2, rfl⟩
  clear hwo
  have hcall := active_of (blk_drewN HP3.out (m + m2)) HT.out x
  rw [HV.out] at hcall
  go_wp2_with fail
  refine hcall.mono ?_
  rintro e w' ⟨rfl, rfl⟩
  clear hcall
  go_wp2_with fail
  refine (lives_calls _).mono ?_
  rintro e W9 ⟨rfl, hb⟩
  have HB9 := Lib.hid (below_then (pw_below_drewN HB3.out _) (by have := HB3.out.size; simpa using this) hb)
  clear hb HB3
  go_wp2
  go_ret
  exact ⟨rfl, HB9.out⟩

set_option maxRecDepth 100000 in
set_option maxHeartbeats 4000000 in
theorem apart_1N3 {t s : Nat} {n a b : Int} (w : World) (h : MayC t s n) (ha : 0 ≤ a ∧ a < 3 + 8 * (t : Int) + 7 * s) {x : Int} (h7 : 0 ≤ x ∧ a = 3 + 8 * x ∧ a < 3 + 8 * t) (hw : whatN t a = (1, x, 0)) (hb : 0 ≤ b ∧ b < 3 + 8 * (t : Int) + 7 * s) {p q r : Int} (hwb : whatN t b = (1, x, r)) (hd : ¬ 0 = r) (hne : a ≠ b) : Goal t s n a b w := by
  have hu1 := Try.underlying44
  have hu2 := Try.underlying61
  have hn := fun W => new_yes (w := W) h
  have ht : 1 ≤ (t : Int) ∧ (t : Int) ≤ 6 := h.1
  have hs : 7 ≤ (s : Int) ∧ (s : Int) ≤ 250 := h.2.1
  have ca0 : decide (0 ≤ a) = true := decide_eq_true (by omega)
  have ca1 : decide (a < 3 + 8 * (t : Int) + 7 * s) = true := decide_eq_true (by omega)
  have hval : ownN t x 0 = a := by unfold ownN; (repeat' split) <;> omega
  have HV := Lib.hid hval
  clear hval
  have HIa := Lib.hid ha
  have HW := Lib.hid hw
  have cb0 : decide (0 ≤ b) = true := decide_eq_true (by omega)
  have cb1 : decide (b < 3 + 8 * (t : Int) + 7 * s) = true := decide_eq_true (by omega)
  have hab : (a == b) = false := beq_eq_false_iff_ne.2 hne
  have HQb := Lib.hid hwb
  have HIb := Lib.hid hb
  clear hwb hne hb
  clear ha hw
  clear h7
  have HT := Lib.hid ht
  have HS := Lib.hid hs
  have hB0 := below_alloc (Below.refl w.heap.size w) (confBox t s n)
  unfold confBox at hB0
  have HB0 := Lib.hid hB0
  clear hB0 ht hs h
  go_enter Try.func7, Try.ntmps7
  go_wp2_with fail
  refine (hn _).mono ?_
  rintro e W1 ⟨g, rfl, hg, hp, hb⟩
  have HP1 := Lib.hid hp
  have HB1 := Lib.hid (below_then HB0.out HB0.out.size hb)
  clear hb HB0 hp hg hn
  have hwa := what_in HP1.out HT.out HS.out a HIa.out.1 HIa.out.2
  rw [HW.out] at hwa
  unfold whatV at hwa
  go_wp2_with fail
  refine hwa.mono ?_
  rintro e W2 ⟨rfl, hb⟩
  clear hwa
  have HP2 := Lib.hid (blk_alloc (blk_below HP1.out hb) (place 1 x 0))
  have HX2 := Lib.hid (heap_alloc_new W2 (place 1 x 0))
  have HB2 := Lib.hid (below_alloc (below_then HB1.out HB1.out.size hb) (place 1 x 0))
  unfold place at HP2 HB2 HX2
  clear hb HB1 HP1
  have hwb := what_in HP2.out HT.out HS.out b HIb.out.1 HIb.out.2
  rw [HQb.out] at hwb
  unfold whatV at hwb
  go_wp2_with fail
  refine hwb.mono ?_
  rintro e W3 ⟨rfl, hb⟩
  clear hwb
  have hX3 : (W3.alloc (place 1 x r)).heap[W2.heap.size]? = some (place 1 x 0) := blk_alloc (blk_below HX2.out hb) (place 1 x r)
  obtain ⟨x0, x1, x2⟩ := place_cells hX3
  obtain ⟨y0, y1, y2⟩ := place_cells (heap_alloc_new W3 (place 1 x r))
  have HP3 := Lib.hid (blk_alloc (blk_below HP2.out hb) (place 1 x r))
  have HB3 := Lib.hid (below_alloc (below_then HB2.out HB2.out.size hb) (place 1 x r))
  unfold place at HP3 HB3 x0 x1 x2 y0 y1 y2
  clear hb HB2 HP2 HX2 hX3
  have hwo := words_of HP3.out HT.out HS.out
  go_wp2_with fail
  refine hwo.mono ?_
  rintro e w' ⟨rfl, m, rfl⟩
  clear hwo
  have hwo := words_of (blk_drewN HP3.out m) HT.out HS.out
  go_wp2_with fail
  refine hwo.mono ?_
  rintro e w' ⟨rfl, m2, rfl⟩
  clear hwo
  have hcall := active_of (blk_drewN HP3.out (m + m2)) HT.out x
  rw [HV.out] at hcall
  go_wp2_with fail
  refine hcall.mono ?_
  rintro e w' ⟨rfl, rfl⟩
  clear hcall
  go_wp2_with fail
  refine (lives_calls _).mono ?_
  rintro e W9 ⟨rfl, hb⟩
  have HB9 := Lib.hid (below_then (pw_below_drewN HB3.out _) (by have := HB3.out.size; simpa using this) hb)
  clear hb HB3
  go_wp2
  go_ret
  exact ⟨rfl, HB9.out⟩

set_option maxRecDepth 100000 in
set_option maxHeartbeats 4000000 in
theorem apart_2L {t s : Nat} {n a b : Int} (w : World) (h : MayC t s n) (ha : 0 ≤ a ∧ a < 3 + 8 * (t : Int) + 7 * s) {x : Int} (h7 : 0 ≤ x ∧ a = 3 + 8 * x + 1 ∧ a < 3 + 8 * t) (hw : whatN t a = (2, x, 0)) (hb : b < 0) : Goal t s n a b w := by
  have hu1 := Try.underlying44
  have hu2 := Try.underlying61
  have hn := fun W => new_yes (w := W) h
  have ht : 1 ≤ (t : Int) ∧ (t : Int) ≤ 6 := h.1
  have hs : 7 ≤ (s : Int) ∧ (s : Int) ≤ 250 := h.2.1
  have ca0 : decide (0 ≤ a) = true := decide_eq_true (by omega)
  have ca1 : decide (a < 3 + 8 * (t : Int) + 7 * s) = true := decide_eq_true (by omega)
  have hval : ownN t x 1 = a := by unfold ownN; (repeat' split) <;> omega
  have HV := Lib.hid hval
  clear hval
  have HIa := Lib.hid ha
  have HW := Lib.hid hw
  have cb0 : decide (0 ≤ b) = false := decide_eq_false (by omega)
  have HNb : Hid (¬ (0 ≤ b ∧ b < 3 + 8 * (t : Int) + 7 * s)) := Lib.hid (by omega)
  clear hb
  clear ha hw
  clear h7
  have HT := Lib.hid ht
  have HS := Lib.hid hs
  have hB0 := below_alloc (Below.refl w.heap.size w) (confBox t s n)
  unfold confBox at hB0
  have HB0 := Lib.hid hB0
  clear hB0 ht hs h
  go_enter Try.func7, Try.ntmps7
  go_wp2_with fail
  refine (hn _).mono ?_
  rintro e W1 ⟨g, rfl, hg, hp, hb⟩
  have HP1 := Lib.hid hp
  have HB1 := Lib.hid (below_then HB0.out HB0.out.size hb)
  clear hb HB0 hp hg hn
  have hwa := what_in HP1.out HT.out HS.out a HIa.out.1 HIa.out.2
  rw [HW.out] at hwa
  unfold whatV at hwa
  go_wp2_with fail
  refine hwa.mono ?_
  rintro e W2 ⟨rfl, hb⟩
  clear hwa
  have HP2 := Lib.hid (blk_alloc (blk_below HP1.out hb) (place 2 x 0))
  have HX2 := Lib.hid (heap_alloc_new W2 (place 2 x 0))
  have HB2 := Lib.hid (below_alloc (below_then HB1.out HB1.out.size hb) (place 2 x 0))
  unfold place at HP2 HB2 HX2
  clear hb HB1 HP1
  have hwb := what_out HP2.out HT.out HS.out b HNb.out
  unfold whatV at hwb
  go_wp2_with fail
  refine hwb.mono ?_
  rintro e W3 ⟨rfl, hb⟩
  clear hwb
  have hX3 : (W3.alloc (place 0 0 0)).heap[W2.heap.size]? = some (place 2 x 0) := blk_alloc (blk_below HX2.out hb) (place 0 0 0)
  obtain ⟨x0, x1, x2⟩ := place_cells hX3
  obtain ⟨y0, y1, y2⟩ := place_cells (heap_alloc_new W3 (place 0 0 0))
  have HP3 := Lib.hid (blk_alloc (blk_below HP2.out hb) (place 0 0 0))
  have HB3 := Lib.hid (below_alloc (below_then HB2.out HB2.out.size hb) (place 0 0 0))
  unfold place at HP3 HB3 x0 x1 x2 y0 y1 y2
  clear hb HB2 HP2 HX2 hX3
  have hwo := words_of HP3.out HT.out HS.out
  go_wp2_with fail
  refine hwo.mono ?_
  rintro e w' ⟨rfl, m, rfl⟩
  clear hwo
  have hcall := victim_of (blk_drewN HP3.out m) HT.out x
  rw [HV.out] at hcall
  go_wp2_with fail
  refine hcall.mono ?_
  rintro e w' ⟨rfl, rfl⟩
  clear hcall
  go_wp2_with fail
  refine (lives_calls _).mono ?_
  rintro e W9 ⟨rfl, hb⟩
  have HB9 := Lib.hid (below_then (pw_below_drewN HB3.out _) (by have := HB3.out.size; simpa using this) hb)
  clear hb HB3
  go_wp2
  go_ret
  exact ⟨rfl, HB9.out⟩

set_option maxRecDepth 100000 in
set_option maxHeartbeats 4000000 in
theorem apart_2H {t s : Nat} {n a b : Int} (w : World) (h : MayC t s n) (ha : 0 ≤ a ∧ a < 3 + 8 * (t : Int) + 7 * s) {x : Int} (h7 : 0 ≤ x ∧ a = 3 + 8 * x + 1 ∧ a < 3 + 8 * t) (hw : whatN t a = (2, x, 0)) (hb : 3 + 8 * (t : Int) + 7 * s ≤ b) : Goal t s n a b w := by
  have hu1 := Try.underlying44
  have hu2 := Try.underlying61
  have hn := fun W => new_yes (w := W) h
  have ht : 1 ≤ (t : Int) ∧ (t : Int) ≤ 6 := h.1
  have hs : 7 ≤ (s : Int) ∧ (s : Int) ≤ 250 := h.2.1
  have ca0 : decide (0 ≤ a) = true := decide_eq_true (by omega)
  have ca1 : decide (a < 3 + 8 * (t : Int) + 7 * s) = true := decide_eq_true (by omega)
  have hval : ownN t x 1 = a := by unfold ownN; (repeat' split) <;> omega
  have HV := Lib.hid hval
  clear hval
  have HIa := Lib.hid ha
  have HW := Lib.hid hw
  have cb0 : decide (0 ≤ b) = true := decide_eq_true (by omega)
  have cb1 : decide (b < 3 + 8 * (t : Int) + 7 * s) = false := decide_eq_false (by omega)
  have HNb : Hid (¬ (0 ≤ b ∧ b < 3 + 8 * (t : Int) + 7 * s)) := Lib.hid (by omega)
  clear hb
  clear ha hw
  clear h7
  have HT := Lib.hid ht
  have HS := Lib.hid hs
  have hB0 := below_alloc (Below.refl w.heap.size w) (confBox t s n)
  unfold confBox at hB0
  have HB0 := Lib.hid hB0
  clear hB0 ht hs h
  go_enter Try.func7, Try.ntmps7
  go_wp2_with fail
  refine (hn _).mono ?_
  rintro e W1 ⟨g, rfl, hg, hp, hb⟩
  have HP1 := Lib.hid hp
  have HB1 := Lib.hid (below_then HB0.out HB0.out.size hb)
  clear hb HB0 hp hg hn
  have hwa := what_in HP1.out HT.out HS.out a HIa.out.1 HIa.out.2
  rw [HW.out] at hwa
  unfold whatV at hwa
  go_wp2_with fail
  refine hwa.mono ?_
  rintro e W2 ⟨rfl, hb⟩
  clear hwa
  have HP2 := Lib.hid (blk_alloc (blk_below HP1.out hb) (place 2 x 0))
  have HX2 := Lib.hid (heap_alloc_new W2 (place 2 x 0))
  have HB2 := Lib.hid (below_alloc (below_then HB1.out HB1.out.size hb) (place 2 x 0))
  unfold place at HP2 HB2 HX2
  clear hb HB1 HP1
  have hwb := what_out HP2.out HT.out HS.out b HNb.out
  unfold whatV at hwb
  go_wp2_with fail
  refine hwb.mono ?_
  rintro e W3 ⟨rfl, hb⟩
  clear hwb
  have hX3 : (W3.alloc (place 0 0 0)).heap[W2.heap.size]? = some (place 2 x 0) := blk_alloc (blk_below HX2.out hb) (place 0 0 0)
  obtain ⟨x0, x1, x2⟩ := place_cells hX3
  obtain ⟨y0, y1, y2⟩ := place_cells (heap_alloc_new W3 (place 0 0 0))
  have HP3 := Lib.hid (blk_alloc (blk_below HP2.out hb) (place 0 0 0))
  have HB3 := Lib.hid (below_alloc (below_then HB2.out HB2.out.size hb) (place 0 0 0))
  unfold place at HP3 HB3 x0 x1 x2 y0 y1 y2
  clear hb HB2 HP2 HX2 hX3
  have hwo := words_of HP3.out HT.out HS.out
  go_wp2_with fail
  refine hwo.mono ?_
  rintro e w' ⟨rfl, m, rfl⟩
  clear hwo
  have hwo := words_of (blk_drewN HP3.out m) HT.out HS.out
  go_wp2_with fail
  refine hwo.mono ?_
  rintro e w' ⟨rfl, m2, rfl⟩
  clear hwo
  have hcall := victim_of (blk_drewN HP3.out (m + m2)) HT.out x
  rw [HV.out] at hcall
  go_wp2_with fail
  refine hcall.mono ?_
  rintro e w' ⟨rfl, rfl⟩
  clear hcall
  go_wp2_with fail
  refine (lives_calls _).mono ?_
  rintro e W9 ⟨rfl, hb⟩
  have HB9 := Lib.hid (below_then (pw_below_drewN HB3.out _) (by have := HB3.out.size; simpa using this) hb)
  clear hb HB3
  go_wp2
  go_ret
  exact ⟨rfl, HB9.out⟩

set_option maxRecDepth 100000 in
set_option maxHeartbeats 4000000 in
theorem apart_2E {t s : Nat} {n a : Int} (w : World) (h : MayC t s n) (ha : 0 ≤ a ∧ a < 3 + 8 * (t : Int) + 7 * s) {x : Int} (h7 : 0 ≤ x ∧ a = 3 + 8 * x + 1 ∧ a < 3 + 8 * t) (hw : whatN t a = (2, x, 0)) : Goal t s n a a w := by
  have hu1 := Try.underlying44
  have hu2 := Try.underlying61
  have hn := fun W => new_yes (w := W) h
  have ht : 1 ≤ (t : Int) ∧ (t : Int) ≤ 6 := h.1
  have hs : 7 ≤ (s : Int) ∧ (s : Int) ≤ 250 := h.2.1
  have ca0 : decide (0 ≤ a) = true := decide_eq_true (by omega)
  have ca1 : decide (a < 3 + 8 * (t : Int) + 7 * s) = true := decide_eq_true (by omega)
  have hval : ownN t x 1 = a := by unfold ownN; (repeat' split) <;> omega
  have HV := Lib.hid hval
  clear hval
  have HIa := Lib.hid ha
  have HW := Lib.hid hw
  clear ha hw
  clear h7
  have HT := Lib.hid ht
  have HS := Lib.hid hs
  have hB0 := below_alloc (Below.refl w.heap.size w) (confBox t s n)
  unfold confBox at hB0
  have HB0 := Lib.hid hB0
  clear hB0 ht hs h
  go_enter Try.func7, Try.ntmps7
  go_wp2_with fail
  refine (hn _).mono ?_
  rintro e W1 ⟨g, rfl, hg, hp, hb⟩
  have HP1 := Lib.hid hp
  have HB1 := Lib.hid (below_then HB0.out HB0.out.size hb)
  clear hb HB0 hp hg hn
  have hwa := what_in HP1.out HT.out HS.out a HIa.out.1 HIa.out.2
  rw [HW.out] at hwa
  unfold whatV at hwa
  go_wp2_with fail
  refine hwa.mono ?_
  rintro e W2 ⟨rfl, hb⟩
  clear hwa
  have HP2 := Lib.hid (blk_alloc (blk_below HP1.out hb) (place 2 x 0))
  have HX2 := Lib.hid (heap_alloc_new W2 (place 2 x 0))
  have HB2 := Lib.hid (below_alloc (below_then HB1.out HB1.out.size hb) (place 2 x 0))
  unfold place at HP2 HB2 HX2
  clear hb HB1 HP1
  have hwb := what_in HP2.out HT.out HS.out a HIa.out.1 HIa.out.2
  rw [HW.out] at hwb
  unfold whatV at hwb
  go_wp2_with fail
  refine hwb.mono ?_
  rintro e W3 ⟨rfl, hb⟩
  clear hwb
  have hX3 : (W3.alloc (place 2 x 0)).heap[W2.heap.size]? = some (place 2 x 0) := blk_alloc (blk_below HX2.out hb) (place 2 x 0)
  obtain ⟨x0, x1, x2⟩ := place_cells hX3
  obtain ⟨y0, y1, y2⟩ := place_cells (heap_alloc_new W3 (place 2 x 0))
  have HP3 := Lib.hid (blk_alloc (blk_below HP2.out hb) (place 2 x 0))
  have HB3 := Lib.hid (below_alloc (below_then HB2.out HB2.out.size hb) (place 2 x 0))
  unfold place at HP3 HB3 x0 x1 x2 y0 y1 y2
  clear hb HB2 HP2 HX2 hX3
  have hwo := words_of HP3.out HT.out HS.out
  go_wp2_with fail
  refine hwo.mono ?_
  rintro e w' ⟨rfl, m, rfl⟩
  clear hwo
  have hwo := words_of (blk_drewN HP3.out m) HT.out HS.out
  go_wp2_with fail
  refine hwo.mono ?_
  rintro e w' ⟨rfl, m2, rfl⟩
  clear hwo
  have hcall := victim_of (blk_drewN HP3.out (m + m2)) HT.out x
  rw [HV.out] at hcall
  go_wp2_with fail
  refine hcall.mono ?_
  rintro e w' ⟨rfl, rfl⟩
  clear hcall
  go_wp2_with fail
  refine (lives_calls _).mono ?_
  rintro e W9 ⟨rfl, hb⟩
  have HB9 := Lib.hid (below_then (pw_below_drewN HB3.out _) (by have := HB3.out.size; simpa using this) hb)
  clear hb HB3
  go_wp2
  go_ret
  exact ⟨rfl, HB9.out⟩

set_option maxRecDepth 100000 in
set_option maxHeartbeats 4000000 in
theorem apart_2N1 {t s : Nat} {n a b : Int} (w : World) (h : MayC t s n) (ha : 0 ≤ a ∧ a < 3 + 8 * (t : Int) + 7 * s) {x : Int} (h7 : 0 ≤ x ∧ a = 3 + 8 * x + 1 ∧ a < 3 + 8 * t) (hw : whatN t a = (2, x, 0)) (hb : 0 ≤ b ∧ b < 3 + 8 * (t : Int) + 7 * s) {p q r : Int} (hwb : whatN t b = (p, q, r)) (hd : ¬ 2 = p) (hne : a ≠ b) : Goal t s n a b w := by
  have hu1 := Try.underlying44
  have hu2 := Try.underlying61
  have hn := fun W => new_yes (w := W) h
  have ht : 1 ≤ (t : Int) ∧ (t : Int) ≤ 6 := h.1
  have hs : 7 ≤ (s : Int) ∧ (s : Int) ≤ 250 := h.2.1
  have ca0 : decide (0 ≤ a) = true := decide_eq_true (by omega)
  have ca1 : decide (a < 3 + 8 * (t : Int) + 7 * s) = true := decide_eq_true (by omega)
  have hval : ownN t x 1 = a := by unfold ownN; (repeat' split) <;> omega
  have HV := Lib.hid hval
  clear hval
  have HIa := Lib.hid ha
  have HW := Lib.hid hw
  have cb0 : decide (0 ≤ b) = true := decide_eq_true (by omega)
  have cb1 : decide (b < 3 + 8 * (t : Int) + 7 * s) = true := decide_eq_true (by omega)
  have hab : (a == b) = false := beq_eq_false_iff_ne.2 hne
  have HQb := Lib.hid hwb
  have HIb := Lib.hid hb
  clear hwb hne hb
  clear ha hw
  clear h7
  have HT := Lib.hid ht
  have HS := Lib.hid hs
  have hB0 := below_alloc (Below.refl w.heap.size w) (confBox t s n)
  unfold confBox at hB0
  have HB0 := Lib.hid hB0
  clear hB0 ht hs h
  go_enter Try.func7, Try.ntmps7
  go_wp2_with fail
  refine (hn _).mono ?_
  rintro e W1 ⟨g, rfl, hg, hp, hb⟩
  have HP1 := Lib.hid hp
  have HB1 := Lib.hid (below_then HB0.out HB0.out.size hb)
  clear hb HB0 hp hg hn
  have hwa := what_in HP1.out HT.out HS.out a HIa.out.1 HIa.out.2
  rw [HW.out] at hwa
  unfold whatV at hwa
  go_wp2_with fail
  refine hwa.mono ?_
  rintro e W2 ⟨rfl, hb⟩
  clear hwa
  have HP2 := Lib.hid (blk_alloc (blk_below HP1.out hb) (place 2 x 0))
  have HX2 := Lib.hid (heap_alloc_new W2 (place 2 x 0))
  have HB2 := Lib.hid (below_alloc (below_then HB1.out HB1.out.size hb) (place 2 x 0))
  unfold place at HP2 HB2 HX2
  clear hb HB1 HP1
  have hwb := what_in HP2.out HT.out HS.out b HIb.out.1 HIb.out.2
  rw [HQb.out] at hwb
  unfold whatV at hwb
  go_wp2_with fail
  refine hwb.mono ?_
  rintro e W3 ⟨rfl, hb⟩
  clear hwb
  have hX3 : (W3.alloc (place p q r)).heap[W2.heap.size]? = some (place 2 x 0) := blk_alloc (blk_below HX2.out hb) (place p q r)
  obtain ⟨x0, x1, x2⟩ := place_cells hX3
  obtain ⟨y0, y1, y2⟩ := place_cells (heap_alloc_new W3 (place p q r))
  have HP3 := Lib.hid (blk_alloc (blk_below HP2.out hb) (place p q r))
  have HB3 := Lib.hid (below_alloc (below_then HB2.out HB2.out.size hb) (place p q r))
  unfold place at HP3 HB3 x0 x1 x2 y0 y1 y2
  clear hb HB2 HP2 HX2 hX3
  have hwo := words_of HP3.out HT.out HS.out
  go_wp2_with fail
  refine hwo.mono ?_
  rintro e w' ⟨rfl, m, rfl⟩
  clear hwo
  have hwo := words_of (blk_drewN HP3.out m) HT.out HS.out
  go_wp2_with fail
  refine hwo.mono ?_
  rintro e w' ⟨rfl, m2, rfl⟩
  clear hwo
  have hcall := victim_of (blk_drewN HP3.out (m + m2)) HT.out x
  rw [HV.out] at hcall
  go_wp2_with fail
  refine hcall.mono ?_
  rintro e w' ⟨rfl, rfl⟩
  clear hcall
  go_wp2_with fail
  refine (lives_calls _).mono ?_
  rintro e W9 ⟨rfl, hb⟩
  have HB9 := Lib.hid (below_then (pw_below_drewN HB3.out _) (by have := HB3.out.size; simpa using this) hb)
  clear hb HB3
  go_wp2
  go_ret
  exact ⟨rfl, HB9.out⟩

set_option maxRecDepth 100000 in
set_option maxHeartbeats 4000000 in
theorem apart_2N2 {t s : Nat} {n a b : Int} (w : World) (h : MayC t s n) (ha : 0 ≤ a ∧ a < 3 + 8 * (t : Int) + 7 * s) {x : Int} (h7 : 0 ≤ x ∧ a = 3 + 8 * x + 1 ∧ a < 3 + 8 * t) (hw : whatN t a = (2, x, 0)) (hb : 0 ≤ b ∧ b < 3 + 8 * (t : Int) + 7 * s) {p q r : Int} (hwb : whatN t b = (2, q, r)) (hd : ¬ x = q) (hne : a ≠ b) : Goal t s n a b w := by
  have hu1 := Try.underlying44
  have hu2 := Try.underlying61
  have hn := fun W => new_yes (w := W) h
  have ht : 1 ≤ (t : Int) ∧ (t : Int) ≤ 6 := h.1
  have hs : 7 ≤ (s : Int) ∧ (s : Int) ≤ 250 := h.2.1
  have ca0 : decide (0 ≤ a) = true := decide_eq_true (by omega)
  have ca1 : decide (a < 3 + 8 * (t : Int) + 7 * s) = true := decide_eq_true (by omega)
  have hval : ownN t x 1 = a := by unfold ownN; (repeat' split) <;> omega
  have HV := Lib.hid hval
  clear hval
  have HIa := Lib.hid ha
  have HW := Lib.hid hw
  have cb0 : decide (0 ≤ b) = true := decide_eq_true (by omega)
  have cb1 : decide (b < 3 + 8 * (t : Int) + 7 * s) = true := decide_eq_true (by omega)
  have hab : (a == b) = false := beq_eq_false_iff_ne.2 hne
  have HQb := Lib.hid hwb
  have HIb := Lib.hid hb
  clear hwb hne hb
  clear ha hw
  clear h7
  have HT := Lib.hid ht
  have HS := Lib.hid hs
  have hB0 := below_alloc (Below.refl w.heap.size w) (confBox t s n)
  unfold confBox at hB0
  have HB0 := Lib.hid hB0
  clear hB0 ht hs h
  go_enter Try.func7, Try.ntmps7
  go_wp2_with fail
  refine (hn _).mono ?_
  rintro e W1 ⟨g, rfl, hg, hp, hb⟩
  have HP1 := Lib.hid hp
  have HB1 := Lib.hid (below_then HB0.out HB0.out.size hb)
  clear hb HB0 hp hg hn
  have hwa := what_in HP1.out HT.out HS.out a HIa.out.1 HIa.out.2
  rw [HW.out] at hwa
  unfold whatV at hwa
  go_wp2_with fail
  refine hwa.mono ?_
  rintro e W2 ⟨rfl, hb⟩
  clear hwa
  have HP2 := Lib.hid (blk_alloc (blk_below HP1.out hb) (place 2 x 0))
  have HX2 := Lib.hid (heap_alloc_new W2 (place 2 x 0))
  have HB2 := Lib.hid (below_alloc (below_then HB1.out HB1.out.size hb) (place 2 x 0))
  unfold place at HP2 HB2 HX2
  clear hb HB1 HP1
  have hwb := what_in HP2.out HT.out HS.out b HIb.out.1 HIb.out.2
  rw [HQb.out] at hwb
  unfold whatV at hwb
  go_wp2_with fail
  refine hwb.mono ?_
  rintro e W3 ⟨rfl, hb⟩
  clear hwb
  have hX3 : (W3.alloc (place 2 q r)).heap[W2.heap.size]? = some (place 2 x 0) := blk_alloc (blk_below HX2.out hb) (place 2 q r)
  obtain ⟨x0, x1, x2⟩ := place_cells hX3
  obtain ⟨y0, y1, y2⟩ := place_cells (heap_alloc_new W3 (place 2 q r))
  have HP3 := Lib.hid (blk_alloc (blk_below HP2.out hb) (place 2 q r))
  have HB3 := Lib.hid (below_alloc (below_then HB2.out HB2.out.size hb) (place 2 q r))
  unfold place at HP3 HB3 x0 x1 x2 y0 y1 y2
  clear hb HB2 HP2 HX2 hX3
  have hwo := words_of HP3.out HT.out HS.out
  go_wp2_with fail
  refine hwo.mono ?_
  rintro e w' ⟨rfl, m, rfl⟩
  clear hwo
  have hwo := words_of (blk_drewN HP3.out m) HT.out HS.out
  go_wp2_with fail
  refine hwo.mono ?_
  rintro e w' ⟨rfl, m2, rfl⟩
  clear hwo
  have hcall := victim_of (blk_drewN HP3.out (m + m2)) HT.out x
  rw [HV.out] at hcall
  go_wp2_with fail
  refine hcall.mono ?_
  rintro e w' ⟨rfl, rfl⟩
  clear hcall
  go_wp2_with fail
  refine (lives_calls _).mono ?_
  rintro e W9 ⟨rfl, hb⟩
  have HB9 := Lib.hid (below_then (pw_below_drewN HB3.out _) (by have := HB3.out.size; simpa using this) hb)
  clear hb HB3
  go_wp2
  go_ret
  exact ⟨rfl, HB9.out⟩

set_option maxRecDepth 100000 in
set_option maxHeartbeats 4000000 in
theorem apart_2N3 {t s : Nat} {n a b : Int} (w : World) (h : MayC t s n) (ha : 0 ≤ a ∧ a < 3 + 8 * (t : Int) + 7 * s) {x : Int} (h7 : 0 ≤ x ∧ a = 3 + 8 * x + 1 ∧ a < 3 + 8 * t) (hw : whatN t a = (2, x, 0)) (hb : 0 ≤ b ∧ b < 3 + 8 * (t : Int) + 7 * s) {p q r : Int} (hwb : whatN t b = (2, x, r)) (hd : ¬ 0 = r) (hne : a ≠ b) : Goal t s n a b w := by
  have hu1 := Try.underlying44
  have hu2 := Try.underlying61
  have hn := fun W => new_yes (w := W) h
  have ht : 1 ≤ (t : Int) ∧ (t : Int) ≤ 6 := h.1
  have hs : 7 ≤ (s : Int) ∧ (s : Int) ≤ 250 := h.2.1
  have ca0 : decide (0 ≤ a) = true := decide_eq_true (by omega)
  have ca1 : decide (a < 3 + 8 * (t : Int) + 7 * s) = true := decide_eq_true (by omega)
  have hval : ownN t x 1 = a := by unfold ownN; (repeat' split) <;> omega
  have HV := Lib.hid hval
  clear hval
  have HIa := Lib.hid ha
  have HW := Lib.hid hw
  have cb0 : decide (0 ≤ b) = true := decide_eq_true (by omega)
  have cb1 : decide (b < 3 + 8 * (t : Int) + 7 * s) = true := decide_eq_true (by omega)
  have hab : (a == b) = false := beq_eq_false_iff_ne.2 hne
  have HQb := Lib.hid hwb
  have HIb := Lib.hid hb
  clear hwb hne hb
  clear ha hw
  clear h7
  have HT := Lib.hid ht
  have HS := Lib.hid hs
  have hB0 := below_alloc (Below.refl w.heap.size w) (confBox t s n)
  unfold confBox at hB0
  have HB0 := Lib.hid hB0
  clear hB0 ht hs h
  go_enter Try.func7, Try.ntmps7
  go_wp2_with fail
  refine (hn _).mono ?_
  rintro e W1 ⟨g, rfl, hg, hp, hb⟩
  have HP1 := Lib.hid hp
  have HB1 := Lib.hid (below_then HB0.out HB0.out.size hb)
  clear hb HB0 hp hg hn
  have hwa := what_in HP1.out HT.out HS.out a HIa.out.1 HIa.out.2
  rw [HW.out] at hwa
  unfold whatV at hwa
  go_wp2_with fail
  refine hwa.mono ?_
  rintro e W2 ⟨rfl, hb⟩
  clear hwa
  have HP2 := Lib.hid (blk_alloc (blk_below HP1.out hb) (place 2 x 0))
  have HX2 := Lib.hid (heap_alloc_new W2 (place 2 x 0))
  have HB2 := Lib.hid (below_alloc (below_then HB1.out HB1.out.size hb) (place 2 x 0))
  unfold place at HP2 HB2 HX2
  clear hb HB1 HP1
  have hwb := what_in HP2.out HT.out HS.out b HIb.out.1 HIb.out.2
  rw [HQb.out] at hwb
  unfold whatV at hwb
  go_wp2_with fail
  refine hwb.mono ?_
  rintro e W3 ⟨rfl, hb⟩
  clear hwb
  have hX3 : (W3.alloc (place 2 x r)).heap[W2.heap.size]? = some (place 2 x 0) := blk_alloc (blk_below HX2.out hb) (place 2 x r)
  obtain ⟨x0, x1, x2⟩ := place_cells hX3
  obtain ⟨y0, y1, y2⟩ := place_cells (heap_alloc_new W3 (place 2 x r))
  have HP3 := Lib.hid (blk_alloc (blk_below HP2.out hb) (place 2 x r))
  have HB3 := Lib.hid (below_alloc (below_then HB2.out HB2.out.size hb) (place 2 x r))
  unfold place at HP3 HB3 x0 x1 x2 y0 y1 y2
  clear hb HB2 HP2 HX2 hX3
  have hwo := words_of HP3.out HT.out HS.out
  go_wp2_with fail
  refine hwo.mono ?_
  rintro e w' ⟨rfl, m, rfl⟩
  clear hwo
  have hwo := words_of (blk_drewN HP3.out m) HT.out HS.out
  go_wp2_with fail
  refine hwo.mono ?_
  rintro e w' ⟨rfl, m2, rfl⟩
  clear hwo
  have hcall := victim_of (blk_drewN HP3.out (m + m2)) HT.out x
  rw [HV.out] at hcall
  go_wp2_with fail
  refine hcall.mono ?_
  rintro e w' ⟨rfl, rfl⟩
  clear hcall
  go_wp2_with fail
  refine (lives_calls _).mono ?_
  rintro e W9 ⟨rfl, hb⟩
  have HB9 := Lib.hid (below_then (pw_below_drewN HB3.out _) (by have := HB3.out.size; simpa using this) hb)
  clear hb HB3
  go_wp2
  go_ret
  exact ⟨rfl, HB9.out⟩

theorem planApart_walk (t s n a b : Int) (w : World) (_ : (Lit.int .i64 t).wf = true ∧ (Lit.int .i64 s).wf = true ∧ (Lit.int .u64 n).wf = true) (_ : (Lit.int .i64 a).wf = true) (_ : (Lit.int .i64 b).wf = true) : Goal t s n a b w := by
  by_cases h : MayC t s n
  · obtain ⟨t, rfl⟩ : ∃ t' : Nat, t = t' := ⟨t.toNat, by have := h.1; omega⟩
    obtain ⟨s, rfl⟩ : ∃ s' : Nat, s = s' := ⟨s.toNat, by have := h.2.1; omega⟩
    by_cases b1 : b < 0
    · by_cases a1 : a < 0
      · exact apart_LL w h a1 b1
      · by_cases a2 : 3 + 8 * (t : Int) + 7 * s ≤ a
        · exact apart_HL w h a2 b1
        · have ha : 0 ≤ a ∧ a < 3 + 8 * (t : Int) + 7 * s := by omega
          rcases what_cases t a ha.1 with ⟨e, h1⟩ | ⟨h1, h2, x, y, e, h3⟩ | ⟨h1, h2, x, y, h3, h4, h5, h6, ⟨h7, e⟩ | ⟨h7, h8, e⟩ | ⟨h7, e⟩⟩
          · exact apart_0L w h ha h1 e b1
          · exact apart_5L w h ha h3 e b1
          · exact apart_4L w h ha ⟨h3, h4, h5, h6, h7, h2⟩ e b1
          · exact apart_3L w h ha ⟨h3, h4, h5, h6, h7, h8, h2⟩ e b1
          · rcases (by omega : y = 0 ∨ y = 1) with rfl | rfl
            · exact apart_1L w h ha ⟨h3, by omega, h2⟩ e b1
            · exact apart_2L w h ha ⟨h3, by omega, h2⟩ e b1
    · by_cases b2 : 3 + 8 * (t : Int) + 7 * s ≤ b
      · by_cases a1 : a < 0
        · exact apart_LH w h a1 b2
        · by_cases a2 : 3 + 8 * (t : Int) + 7 * s ≤ a
          · exact apart_HH w h a2 b2
          · have ha : 0 ≤ a ∧ a < 3 + 8 * (t : Int) + 7 * s := by omega
            rcases what_cases t a ha.1 with ⟨e, h1⟩ | ⟨h1, h2, x, y, e, h3⟩ | ⟨h1, h2, x, y, h3, h4, h5, h6, ⟨h7, e⟩ | ⟨h7, h8, e⟩ | ⟨h7, e⟩⟩
            · exact apart_0H w h ha h1 e b2
            · exact apart_5H w h ha h3 e b2
            · exact apart_4H w h ha ⟨h3, h4, h5, h6, h7, h2⟩ e b2
            · exact apart_3H w h ha ⟨h3, h4, h5, h6, h7, h8, h2⟩ e b2
            · rcases (by omega : y = 0 ∨ y = 1) with rfl | rfl
              · exact apart_1H w h ha ⟨h3, by omega, h2⟩ e b2
              · exact apart_2H w h ha ⟨h3, by omega, h2⟩ e b2
      · have hb : 0 ≤ b ∧ b < 3 + 8 * (t : Int) + 7 * s := by omega
        by_cases a1 : a < 0
        · exact apart_LI w h a1 hb
        · by_cases a2 : 3 + 8 * (t : Int) + 7 * s ≤ a
          · exact apart_HI w h a2 hb
          · have ha : 0 ≤ a ∧ a < 3 + 8 * (t : Int) + 7 * s := by omega
            by_cases hab : a = b
            · subst hab
              rcases what_cases t a ha.1 with ⟨e, h1⟩ | ⟨h1, h2, x, y, e, h3⟩ | ⟨h1, h2, x, y, h3, h4, h5, h6, ⟨h7, e⟩ | ⟨h7, h8, e⟩ | ⟨h7, e⟩⟩
              · exact apart_0E w h ha h1 e
              · exact apart_5E w h ha h3 e
              · exact apart_4E w h ha ⟨h3, h4, h5, h6, h7, h2⟩ e
              · exact apart_3E w h ha ⟨h3, h4, h5, h6, h7, h8, h2⟩ e
              · rcases (by omega : y = 0 ∨ y = 1) with rfl | rfl
                · exact apart_1E w h ha ⟨h3, by omega, h2⟩ e
                · exact apart_2E w h ha ⟨h3, by omega, h2⟩ e
            · rcases what_cases t a ha.1 with ⟨e, h1⟩ | ⟨h1, h2, x, y, e, h3⟩ | ⟨h1, h2, x, y, h3, h4, h5, h6, ⟨h7, e⟩ | ⟨h7, h8, e⟩ | ⟨h7, e⟩⟩
              · rcases hq : whatN t b with ⟨p, q, r⟩
                by_cases d1 : (0 : Int) = p
                · subst d1
                  by_cases d2 : a = q
                  · subst d2
                    by_cases d3 : (0 : Int) = r
                    · subst d3
                      exact absurd (what_inj ha.1 hb.1 (e.trans hq.symm)) hab
                    · exact apart_0N3 (p := 0) (q := 0) w h ha h1 e hb hq d3 hab
                  · exact apart_0N2 (p := 0) w h ha h1 e hb hq d2 hab
                · exact apart_0N1 w h ha h1 e hb hq d1 hab
              · rcases hq : whatN t b with ⟨p, q, r⟩
                by_cases d1 : (5 : Int) = p
                · subst d1
                  by_cases d2 : (1 + x) = q
                  · subst d2
                    by_cases d3 : y = r
                    · subst d3
                      exact absurd (what_inj ha.1 hb.1 (e.trans hq.symm)) hab
                    · exact apart_5N3 (p := 0) (q := 0) w h ha h3 e hb hq d3 hab
                  · exact apart_5N2 (p := 0) w h ha h3 e hb hq d2 hab
                · exact apart_5N1 w h ha h3 e hb hq d1 hab
              · rcases hq : whatN t b with ⟨p, q, r⟩
                by_cases d1 : (4 : Int) = p
                · subst d1
                  by_cases d2 : x = q
                  · subst d2
                    by_cases d3 : (y - 5) = r
                    · subst d3
                      exact absurd (what_inj ha.1 hb.1 (e.trans hq.symm)) hab
                    · exact apart_4N3 (p := 0) (q := 0) w h ha ⟨h3, h4, h5, h6, h7, h2⟩ e hb hq d3 hab
                  · exact apart_4N2 (p := 0) w h ha ⟨h3, h4, h5, h6, h7, h2⟩ e hb hq d2 hab
                · exact apart_4N1 w h ha ⟨h3, h4, h5, h6, h7, h2⟩ e hb hq d1 hab
              · rcases hq : whatN t b with ⟨p, q, r⟩
                by_cases d1 : (3 : Int) = p
                · subst d1
                  by_cases d2 : x = q
                  · subst d2
                    by_cases d3 : (y - 2) = r
                    · subst d3
                      exact absurd (what_inj ha.1 hb.1 (e.trans hq.symm)) hab
                    · exact apart_3N3 (p := 0) (q := 0) w h ha ⟨h3, h4, h5, h6, h7, h8, h2⟩ e hb hq d3 hab
                  · exact apart_3N2 (p := 0) w h ha ⟨h3, h4, h5, h6, h7, h8, h2⟩ e hb hq d2 hab
                · exact apart_3N1 w h ha ⟨h3, h4, h5, h6, h7, h8, h2⟩ e hb hq d1 hab
              · rcases (by omega : y = 0 ∨ y = 1) with rfl | rfl
                · rcases hq : whatN t b with ⟨p, q, r⟩
                  by_cases d1 : (1 : Int) = p
                  · subst d1
                    by_cases d2 : x = q
                    · subst d2
                      by_cases d3 : (0 : Int) = r
                      · subst d3
                        exact absurd (what_inj ha.1 hb.1 (e.trans hq.symm)) hab
                      · exact apart_1N3 (p := 0) (q := 0) w h ha ⟨h3, by omega, h2⟩ e hb hq d3 hab
                    · exact apart_1N2 (p := 0) w h ha ⟨h3, by omega, h2⟩ e hb hq d2 hab
                  · exact apart_1N1 w h ha ⟨h3, by omega, h2⟩ e hb hq d1 hab
                · rcases hq : whatN t b with ⟨p, q, r⟩
                  by_cases d1 : (2 : Int) = p
                  · subst d1
                    by_cases d2 : x = q
                    · subst d2
                      by_cases d3 : (0 : Int) = r
                      · subst d3
                        exact absurd (what_inj ha.1 hb.1 (e.trans hq.symm)) hab
                      · exact apart_2N3 (p := 0) (q := 0) w h ha ⟨h3, by omega, h2⟩ e hb hq d3 hab
                    · exact apart_2N2 (p := 0) w h ha ⟨h3, by omega, h2⟩ e hb hq d2 hab
                  · exact apart_2N1 w h ha ⟨h3, by omega, h2⟩ e hb hq d1 hab
  · exact apart_no w h

end Go.Proofs.Ytacajonkkfmibaa.PlanA
