/- Whether any configuration may be, how many words it has, and where any of a thread's, or of a slot's, is, is the document's: the walk. -/
import Derived.Test.YtacajonkkfmibaaPlanLives
import Derived.Test.YtacajonkkfmibaaPlanList
set_option linter.unusedVariables false
set_option linter.unusedSimpArgs false
namespace Go.Proofs.Ytacajonkkfmibaa.Plan
open Go Go.RowKit Go.Proofs.YtacajonkkfmibaaW.PrintWords Go.Proofs.YtacajonkkfmibaaW.PrintLast Go.Proofs.YtacajonkkfmibaaW.PrintMore Go.Proofs.Ytacajonkkfmibaa.PPlanWords
/-- The configuration's box. -/
def confBox (t s n : Int) : Obj := .cells #[.int .i64 t, .int .i64 s, .int .u64 n] 44 (0, 0)
theorem conf_cells {t s n : Int} {gb : Nat} {W : World} (hb : W.heap[gb]? = some (confBox t s n)) : W.cell? ⟨gb, 0, none⟩ = some (.int .i64 t) ∧ W.cell? ⟨gb, 1, none⟩ = some (.int .i64 s) ∧ W.cell? ⟨gb, 2, none⟩ = some (.int .u64 n) :=
  ⟨(blk_cell hb 0).trans rfl, (blk_cell hb 1).trans rfl, (blk_cell hb 2).trans rfl⟩
theorem words_no {t s n i j : Int} (w : World) (h : ¬ MayC t s n) : Calls Try.prog 5 #[.agg #[.int .i64 t, .int .i64 s, .int .u64 n], .int .i64 i, .int .i64 j] w fun e w' => e = .returned (.bool true) ∧ Below w.heap.size w w' := by
  have hu1 := Try.underlying44
  have hn := fun W => new_no (w := W) h
  have hr := fun W => deadwoodref05_May.calls t s n false W (rmay_no h)
  have hm := fun W => plan_May.calls t s n false W (pmay_no h)
  have hl := fun W => lives_calls W
  have hbox0 := heap_alloc_new w (confBox t s n)
  have hB0 := below_alloc (Below.refl w.heap.size w) (confBox t s n)
  unfold confBox at hB0
  have HB0 := Lib.hid hB0
  have HX0 := Lib.hid hbox0
  clear hB0 hbox0 h
  go_enter Try.func5, Try.ntmps5
  go_wp2_with fail
  refine (hn _).mono ?_
  rintro e W1 ⟨rfl, hb⟩
  have HX1 := Lib.hid (blk_below HX0.out hb)
  have HB1 := Lib.hid (below_then HB0.out HB0.out.size hb)
  obtain ⟨c10, c11, c12⟩ := conf_cells HX1.out
  clear hb HX0 HB0
  go_wp2_with fail
  refine (hr _).mono ?_
  rintro e W2 ⟨rfl, hb⟩
  have HX2 := Lib.hid (blk_below HX1.out hb)
  have HB2 := Lib.hid (below_then HB1.out HB1.out.size hb)
  obtain ⟨c20, c21, c22⟩ := conf_cells HX2.out
  clear hb HX1 HB1 c10 c11 c12
  go_wp2_with fail
  refine (hm _).mono ?_
  rintro e W3 ⟨rfl, hb⟩
  have HB3 := Lib.hid (below_then HB2.out HB2.out.size hb)
  clear hb HX2 HB2 c20 c21 c22
  go_wp2_with fail
  refine (hl _).mono ?_
  rintro e W4 ⟨rfl, hb⟩
  have HB4 := Lib.hid (below_then HB3.out HB3.out.size hb)
  clear hb HB3
  go_wp2
  go_ret
  exact ⟨rfl, HB4.out⟩
/-- What the last statement needs of a world. -/
structure Rest (w : World) (g A_ : Nat) (A : Option Addr) (l : List S54) (t s n : Int) (W : World) : Prop where
  box : W.heap[A_]? = some (confBox t s n)
  plan : W.heap[g]? = some (planCells t s n)
  list : Kd.C k54 W A l.length l
  below : Below w.heap.size w W
section
variable {w : World} {g gb : Nat} {A : Option Addr} {l : List S54} {t s n : Int} {W W' : World}
theorem Rest.next (hb : Below W.heap.size W W') (h : Rest w g gb A l t s n W) : Rest w g gb A l t s n W' :=
  ⟨blk_below h.box hb, blk_below h.plan hb, Kd.C_below h.list hb, below_then h.below h.below.size hb⟩
theorem Rest.drawn (h : Rest w g gb A l t s n W) (m : Nat) : Rest w g gb A l t s n (W.drewN m) :=
  ⟨blk_drewN h.box m, blk_drewN h.plan m, Kd.C_drewN h.list m, pw_below_drewN h.below m⟩
theorem Rest.cells (h : Rest w g gb A l t s n W) : W.cell? ⟨gb, 0, none⟩ = some (.int .i64 t) ∧ W.cell? ⟨gb, 1, none⟩ = some (.int .i64 s) ∧ W.cell? ⟨gb, 2, none⟩ = some (.int .u64 n) ∧ Rest w g gb A l t s n W :=
  ⟨(conf_cells h.box).1, (conf_cells h.box).2.1, (conf_cells h.box).2.2, h⟩
end
/-- The same, with the cells that are loaded. -/
abbrev Held (w : World) (g gb : Nat) (A : Option Addr) (l : List S54) (t s n : Int) (W : World) : Prop :=
  W.cell? ⟨gb, 0, none⟩ = some (.int .i64 t) ∧ W.cell? ⟨gb, 1, none⟩ = some (.int .i64 s) ∧ W.cell? ⟨gb, 2, none⟩ = some (.int .u64 n) ∧ Rest w g gb A l t s n W
theorem Held.below_of {w : World} {g gb : Nat} {A : Option Addr} {l : List S54} {t s n : Int} {W : World} (h : Held w g gb A l t s n W) : Below w.heap.size w W := h.2.2.2.below
theorem Held.next {w : World} {g gb : Nat} {A : Option Addr} {l : List S54} {t s n : Int} {W W' : World} (hb : Below W.heap.size W W') (h : Held w g gb A l t s n W) : Held w g gb A l t s n W' := (h.2.2.2.next hb).cells
set_option maxRecDepth 100000 in
set_option maxHeartbeats 4000000 in
theorem words_yes {t s : Nat} {n i j : Int} (w : World) (h : MayC t s n) : Calls Try.prog 5 #[.agg #[.int .i64 t, .int .i64 s, .int .u64 n], .int .i64 i, .int .i64 j] w fun e w' => e = .returned (.bool true) ∧ Below w.heap.size w w' := by
  have hu1 := Try.underlying44
  have hu2 := Try.underlying54
  have hn := fun W => new_yes (w := W) h
  have hr := fun W => deadwoodref05_May.calls t s n true W (rmay_yes h)
  have hm := fun W => plan_May.calls t s n true W (pmay_yes h)
  have hw := fun W => deadwoodref05_Words.calls 10000 t s n _ W (words_eq n (by have := h.1; omega) (by have := h.2.1; omega) (by have := h.1; have := h.2.1; omega))
  have hlen := L_len t (3 + 8 * t + 7 * s)
  have ht : 1 ≤ (t : Int) ∧ (t : Int) ≤ 6 := h.1
  have hs : 7 ≤ (s : Int) ∧ (s : Int) ≤ 250 := h.2.1
  have ht' : 1 ≤ t ∧ t ≤ 6 := by omega
  have hs' : s ≤ 250 := by omega
  have hk : 3 + 8 * t + 7 * s < 10000 := by omega
  have a1 := at_own ht' hs' hk i 0 (.inl rfl)
  have a2 := at_own ht' hs' hk i 1 (.inr rfl)
  have a3 := at_bag ht' hs' hk i j 2 3 (.inl ⟨rfl, rfl⟩)
  have a4 := at_bag ht' hs' hk i j 5 4 (.inr ⟨rfl, rfl⟩)
  have a5 := at_node ht' hs' hk i j
  have a6 : ((L t (3 + 8 * t + 7 * s)).length : Int) = 3 + 8 * t + 7 * s := by rw [hlen]; omega
  clear hlen
  generalize L t (3 + 8 * t + 7 * s) = l at *
  have HT := Lib.hid ht
  have HS := Lib.hid hs
  have A1 := Lib.hid a1
  have A2 := Lib.hid a2
  have A3 := Lib.hid a3
  have A4 := Lib.hid a4
  have A5 := Lib.hid a5
  have A6 := Lib.hid a6
  clear a1 a2 a3 a4 a5 a6 ht hs ht' hs' hk h
  have hbox0 := heap_alloc_new w (confBox t s n)
  have hB0 := below_alloc (Below.refl w.heap.size w) (confBox t s n)
  unfold confBox at hB0
  have HB0 := Lib.hid hB0
  have HX0 := Lib.hid hbox0
  clear hB0 hbox0
  go_enter Try.func5, Try.ntmps5
  go_wp2_with fail
  refine (hn _).mono ?_
  rintro e W1 ⟨g, rfl, hg, hp, hb⟩
  have HX := Lib.hid (blk_below HX0.out hb)
  have HB := Lib.hid (below_then HB0.out HB0.out.size hb)
  have HP := Lib.hid hp
  obtain ⟨c10, c11, c12⟩ := conf_cells HX.out
  clear hb HX0 HB0 hp hn hg
  go_wp2_with fail
  refine (hr _).mono ?_
  rintro e W2 ⟨rfl, hb⟩
  have HX2 := Lib.hid (blk_below HX.out hb)
  have HP2 := Lib.hid (blk_below HP.out hb)
  have HB2 := Lib.hid (below_then HB.out HB.out.size hb)
  obtain ⟨c20, c21, c22⟩ := conf_cells HX2.out
  clear hb HX HB HP c10 c11 c12 hr
  go_wp2_with fail
  refine (hm _).mono ?_
  rintro e W3 ⟨rfl, hb⟩
  have HX3 := Lib.hid (blk_below HX2.out hb)
  have HP3 := Lib.hid (blk_below HP2.out hb)
  have HB3 := Lib.hid (below_then HB2.out HB2.out.size hb)
  obtain ⟨c30, c31, c32⟩ := conf_cells HX3.out
  clear hb HX2 HB2 HP2 c20 c21 c22 hm
  go_wp2_with fail
  refine (hw _).mono ?_
  rintro e W4 ⟨v, rfl, hR, hb⟩
  have HX4 := Lib.hid (blk_below HX3.out hb)
  have HP4 := Lib.hid (blk_below HP3.out hb)
  have HB4 := Lib.hid (below_then HB3.out HB3.out.size hb)
  obtain ⟨c40, c41, c42⟩ := conf_cells HX4.out
  obtain ⟨A, c, rfl⟩ := Kd.R_slice hR
  obtain ⟨_, hlc, hC⟩ := Kd.R_reads' hR
  have HLC := Lib.hid hlc
  have HC4 := Lib.hid hC
  clear hb HX3 HB3 HP3 c30 c31 c32 hw hR hlc hC
  -- two places by the list
  have ha := deadwoodref05_At.calls 10000 A c l (1 + 0) i 0 _ W4 HC4.out HLC.out A1.out
  go_wp2_with fail
  refine ha.mono ?_
  rintro e W5 ⟨rfl, hb⟩
  have HX5 := Lib.hid (blk_below HX4.out hb)
  have HP5 := Lib.hid (blk_below HP4.out hb)
  have HB5 := Lib.hid (below_then HB4.out HB4.out.size hb)
  have HC5 := Lib.hid (Kd.C_below HC4.out hb)
  clear hb HX4 HB4 HP4 HC4 ha c40 c41 c42
  have ha := deadwoodref05_At.calls 10000 A c l (1 + 1) i 0 _ W5 HC5.out HLC.out A2.out
  go_wp2_with fail
  refine ha.mono ?_
  rintro e W6 ⟨rfl, hb⟩
  have HX6 := Lib.hid (blk_below HX5.out hb)
  have HP6 := Lib.hid (blk_below HP5.out hb)
  have HB6 := Lib.hid (below_then HB5.out HB5.out.size hb)
  have HC6 := Lib.hid (Kd.C_below HC5.out hb)
  clear hb HX5 HB5 HP5 HC5 ha
  -- the plan's own
  have hp1 := active_of HP6.out HT.out i
  have hp2 := victim_of HP6.out HT.out i
  have hp3 := stamp_of HP6.out HT.out i j
  have k4 : ∀ W : World, W.heap[g]? = some (planCells t s n) → Calls Try.prog 31 #[.pointer (some ⟨g, 0, none⟩), .int .i64 i, .int .i64 j] W fun e w' => e = .returned (.int .i64 (bagN t i j 5)) ∧ W = w' := fun W h => bag_of h HT.out i j
  have k5 : ∀ W : World, Held w g w.heap.size A l t s n W → Calls Try.prog 32 #[.pointer (some ⟨g, 0, none⟩), .int .i64 i, .int .i64 j] W fun e w' => e = .returned (.int .i64 (nodeN t s i j)) ∧ W = w' := fun W h => node_of h.2.2.2.plan HT.out HS.out i j
  have k6 : ∀ W : World, Held w g w.heap.size A l t s n W → Calls Try.prog 27 #[.slice A l.length c, .agg #[.int .i64 5, .int .i64 i, .int .i64 j]] W fun e w' => e = .returned (.int .i64 (nodeN t s i j)) ∧ Below W.heap.size W w' := fun W h => deadwoodref05_At.calls 10000 A c l 5 i j _ W h.2.2.2.list HLC.out A5.out
  have k7 : ∀ W : World, Held w g w.heap.size A l t s n W → Calls Try.prog 33 #[.pointer (some ⟨g, 0, none⟩)] W fun e w' => e = .returned (.int .i64 (l.length : Int)) ∧ Below W.heap.size W w' := fun W h => (words_of h.2.2.2.plan HT.out HS.out).mono fun e w' ⟨he, m, hm⟩ => ⟨by rw [he, A6.out], by rw [hm]; exact pw_below_drewN (Below.refl _ _) m⟩
  have k8 : ∀ W : World, Held w g w.heap.size A l t s n W → Calls Try.prog 34 #[.pointer (some ⟨g, 0, none⟩)] W fun e w' => e = .returned (.agg #[.int .i64 t, .int .i64 s, .int .u64 n]) ∧ Below W.heap.size W w' := fun W h => conf_of h.2.2.2.plan
  have K4 := Lib.hid k4
  have K5 := Lib.hid k5
  have K6 := Lib.hid k6
  have K7 := Lib.hid k7
  have K8 := Lib.hid k8
  clear k4 k5 k6 k7 k8
  generalize ownN t i 0 = r1 at *
  generalize ownN t i 1 = r2 at *
  generalize bagN t i j 2 = r3 at *
  generalize bagN t i j 5 = r4 at *
  generalize nodeN t s i j = r5 at *
  go_wp2_with fail
  refine hp1.mono ?_
  rintro e w' ⟨rfl, rfl⟩
  go_wp2_with fail
  refine hp2.mono ?_
  rintro e w' ⟨rfl, rfl⟩
  go_wp2_with fail
  refine hp3.mono ?_
  rintro e w' ⟨rfl, rfl⟩
  clear hp1 hp2 hp3
  have ha := deadwoodref05_At.calls 10000 A c l 3 i j _ W6 HC6.out HLC.out A3.out
  go_wp2_with fail
  refine ha.mono ?_
  rintro e W7 ⟨rfl, hb⟩
  have HX7 := Lib.hid (blk_below HX6.out hb)
  have HP7 := Lib.hid (blk_below HP6.out hb)
  have HB7 := Lib.hid (below_then HB6.out HB6.out.size hb)
  have HC7 := Lib.hid (Kd.C_below HC6.out hb)
  clear hb HX6 HB6 HP6 HC6 ha
  have hp4 := K4.out _ HP7.out
  go_wp2_with fail
  refine hp4.mono ?_
  rintro e w' ⟨rfl, rfl⟩
  have ha := deadwoodref05_At.calls 10000 A c l 4 i j _ W7 HC7.out HLC.out A4.out
  go_wp2_with fail
  refine ha.mono ?_
  rintro e W8 ⟨rfl, hb⟩
  have HR : Hid (Rest w g w.heap.size A l t s n W8) := Lib.hid ⟨blk_below HX7.out hb, blk_below HP7.out hb, Kd.C_below HC7.out hb, below_then HB7.out HB7.out.size hb⟩
  clear hb HX7 HB7 HP7 HC7 ha hp4
  go_wp2_with fail
  go_region_held3 (fun W' => W'.cell? ⟨w.heap.size, 0, none⟩ = some (.int .i64 t) ∧ W'.cell? ⟨w.heap.size, 1, none⟩ = some (.int .i64 s) ∧ W'.cell? ⟨w.heap.size, 2, none⟩ = some (.int .u64 n) ∧ Rest w g w.heap.size A l t s n W')
    (first
      | exact (HR.out.drawn 1).cells
      | assumption
      | exact (Held.next (by assumption) (by assumption)))
    (first
      | (go_at_call 32; refine (K5.out _ (by assumption)).mono ?_; rintro e w' ⟨rfl, rfl⟩)
      | (go_at_call 27; refine (K6.out _ (by assumption)).mono ?_; rintro e w' ⟨rfl, hb⟩)
      | (go_at_call 33; refine (K7.out _ (by assumption)).mono ?_; rintro e w' ⟨rfl, hb⟩)
      | (go_at_call 34; refine (K8.out _ (by assumption)).mono ?_; rintro e w' ⟨rfl, hb⟩)
      | (go_at_call 25; refine (lives_calls _).mono ?_; rintro e w' ⟨rfl, hb⟩))
  go_wp2
  go_ret
  exact ⟨rfl, Held.below_of (by assumption)⟩
theorem planWords_walk (t s n i j : Int) (w : World) (_ : (Lit.int .i64 t).wf = true ∧ (Lit.int .i64 s).wf = true ∧ (Lit.int .u64 n).wf = true) (_ : (Lit.int .i64 i).wf = true) (_ : (Lit.int .i64 j).wf = true) : Calls Try.prog 5 #[.agg #[.int .i64 t, .int .i64 s, .int .u64 n], .int .i64 i, .int .i64 j] w fun e w' => e = .returned (.bool true) ∧ Below w.heap.size w w' := by
  by_cases h : MayC t s n
  · obtain ⟨t, rfl⟩ : ∃ t' : Nat, t = t' := ⟨t.toNat, by have := h.1; omega⟩
    obtain ⟨s, rfl⟩ : ∃ s' : Nat, s = s' := ⟨s.toNat, by have := h.2.1; omega⟩
    exact words_yes w h
  · exact words_no w h
end Go.Proofs.Ytacajonkkfmibaa.Plan
