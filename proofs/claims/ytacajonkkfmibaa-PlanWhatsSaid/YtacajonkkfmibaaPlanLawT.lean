/- What any word is, or that there is none, is the document's; a plan that isn't there has none: the walk. -/
import Derived.Test.YtacajonkkfmibaaPlanLives
import Derived.Test.YtacajonkkfmibaaPlanList
set_option linter.unusedVariables false
set_option linter.unusedSimpArgs false
namespace Go.Proofs.Ytacajonkkfmibaa.PlanT
open Go Go.RowKit Go.Proofs.YtacajonkkfmibaaW.PrintWords Go.Proofs.YtacajonkkfmibaaW.PrintLast Go.Proofs.YtacajonkkfmibaaW.PrintMore Go.Proofs.Ytacajonkkfmibaa.PPlanWords Go.Proofs.Ytacajonkkfmibaa.Plan
def confBox (t s n : Int) : Obj := .cells #[.int .i64 t, .int .i64 s, .int .u64 n] 44 (0, 0)
theorem conf_cells {t s n : Int} {gb : Nat} {W : World} (hb : W.heap[gb]? = some (confBox t s n)) : W.cell? ⟨gb, 0, none⟩ = some (.int .i64 t) ∧ W.cell? ⟨gb, 1, none⟩ = some (.int .i64 s) ∧ W.cell? ⟨gb, 2, none⟩ = some (.int .u64 n) :=
  ⟨(blk_cell hb 0).trans rfl, (blk_cell hb 1).trans rfl, (blk_cell hb 2).trans rfl⟩
theorem cell_alloc_old {W : World} {a : Addr} {v : Value} (h : W.cell? a = some v) (o : Obj) : (W.alloc o).cell? a = some v := pw_cell_below (below_alloc (Below.refl _ _) o) h
theorem keep6 {w W W' : World} {a b c d e f : Addr} {u v x y z q : Value} (hb : Below W.heap.size W W')
    (h : W.cell? a = some u ∧ W.cell? b = some v ∧ W.cell? c = some x ∧ W.cell? d = some y ∧ W.cell? e = some z ∧ W.cell? f = some q ∧ Below w.heap.size w W) :
    W'.cell? a = some u ∧ W'.cell? b = some v ∧ W'.cell? c = some x ∧ W'.cell? d = some y ∧ W'.cell? e = some z ∧ W'.cell? f = some q ∧ Below w.heap.size w W' :=
  ⟨pw_cell_below hb h.1, pw_cell_below hb h.2.1, pw_cell_below hb h.2.2.1, pw_cell_below hb h.2.2.2.1, pw_cell_below hb h.2.2.2.2.1, pw_cell_below hb h.2.2.2.2.2.1, below_then h.2.2.2.2.2.2 h.2.2.2.2.2.2.size hb⟩
theorem below6 {w W : World} {a b c d e f : Addr} {u v x y z q : Value} (h : W.cell? a = some u ∧ W.cell? b = some v ∧ W.cell? c = some x ∧ W.cell? d = some y ∧ W.cell? e = some z ∧ W.cell? f = some q ∧ Below w.heap.size w W) : Below w.heap.size w W := h.2.2.2.2.2.2
set_option maxRecDepth 100000 in
set_option maxHeartbeats 4000000 in
theorem whats_no {t s n a : Int} (w : World) (h : ¬ MayC t s n) : Calls Try.prog 8 #[.agg #[.int .i64 t, .int .i64 s, .int .u64 n], .int .i64 a] w fun e w' => e = .returned (.bool true) ∧ Below w.heap.size w w' := by
  have hu1 := Try.underlying44
  have hu2 := Try.underlying61
  have hr := fun W => deadwoodref05_May.calls t s n false W (rmay_no h)
  have hbox0 := heap_alloc_new w (confBox t s n)
  have hB0 := below_alloc (Below.refl w.heap.size w) (confBox t s n)
  unfold confBox at hB0
  have HB0 := Lib.hid hB0
  have HX0 := Lib.hid hbox0
  clear hB0 hbox0 h
  go_enter Try.func8, Try.ntmps8
  go_wp2_with fail
  refine (what_nil _).mono ?_
  rintro e W1 ⟨rfl, hb⟩
  have HX1 := Lib.hid (blk_below HX0.out hb)
  have HB1 := Lib.hid (below_then HB0.out HB0.out.size hb)
  clear hb HX0 HB0
  unfold whatV
  go_wp2_with fail
  refine words_nil.mono ?_
  rintro e w' ⟨rfl, rfl⟩
  go_wp2_with fail
  refine conf_nil.mono ?_
  rintro e W2 ⟨rfl, hb⟩
  have HX2 := Lib.hid (blk_below (blk_alloc HX1.out _) hb)
  have HB2 := Lib.hid (below_then (below_alloc HB1.out _) (by have := HB1.out.size; simp; omega) hb)
  obtain ⟨c20, c21, c22⟩ := conf_cells HX2.out
  clear hb HX1 HB1
  go_wp2_with fail
  refine (active_nil _).mono ?_
  rintro e w' ⟨rfl, rfl⟩
  go_wp2_with fail
  refine (victim_nil _).mono ?_
  rintro e w' ⟨rfl, rfl⟩
  go_wp2_with fail
  refine (stamp_nil0 _).mono ?_
  rintro e w' ⟨rfl, rfl⟩
  go_wp2_with fail
  refine (bag_nil0 _).mono ?_
  rintro e w' ⟨rfl, rfl⟩
  go_wp2_with fail
  refine (node_nil _ _).mono ?_
  rintro e w' ⟨rfl, rfl⟩
  go_wp2_with fail
  refine (hr _).mono ?_
  rintro e W3 ⟨rfl, hb⟩
  have HB3 := Lib.hid (below_then HB2.out HB2.out.size hb)
  clear hb HX2 HB2 c20 c21 c22
  go_wp2_with fail
  refine (lives_calls _).mono ?_
  rintro e W4 ⟨rfl, hb⟩
  have HB4 := Lib.hid (below_then HB3.out HB3.out.size hb)
  clear hb HB3
  go_wp2
  go_ret
  exact ⟨rfl, HB4.out⟩
set_option maxRecDepth 100000 in
set_option maxHeartbeats 4000000 in
theorem whats_yes {t s : Nat} {n a : Int} (w : World) (h : MayC t s n) : Calls Try.prog 8 #[.agg #[.int .i64 t, .int .i64 s, .int .u64 n], .int .i64 a] w fun e w' => e = .returned (.bool true) ∧ Below w.heap.size w w' := by
  have hu1 := Try.underlying44
  have hu2 := Try.underlying61
  have hr := fun W => deadwoodref05_May.calls t s n true W (rmay_yes h)
  have hbox0 := heap_alloc_new w (confBox t s n)
  have hB0 := below_alloc (Below.refl w.heap.size w) (confBox t s n)
  unfold confBox at hB0
  have HB0 := Lib.hid hB0
  have HX0 := Lib.hid hbox0
  have hn := fun W => new_yes (w := W) h
  have hw := fun W => deadwoodref05_Words.calls 10000 t s n _ W (words_eq n (by have := h.1; omega) (by have := h.2.1; omega) (by have := h.1; have := h.2.1; omega))
  have hlen := L_len t (3 + 8 * t + 7 * s)
  have hget := L_get t (3 + 8 * t + 7 * s)
  have ht : 1 ≤ (t : Int) ∧ (t : Int) ≤ 6 := h.1
  have hs : 7 ≤ (s : Int) ∧ (s : Int) ≤ 250 := h.2.1
  generalize L t (3 + 8 * t + 7 * s) = l at *
  have HT := Lib.hid ht
  have HS := Lib.hid hs
  have HL := Lib.hid hlen
  have HG := Lib.hid hget
  have HN := Lib.hid hn
  have HW := Lib.hid hw
  clear hB0 hbox0 h ht hs hlen hget hn hw
  go_enter Try.func8, Try.ntmps8
  go_wp2_with fail
  refine (what_nil _).mono ?_
  rintro e W1 ⟨rfl, hb⟩
  have HX1 := Lib.hid (blk_below HX0.out hb)
  have HB1 := Lib.hid (below_then HB0.out HB0.out.size hb)
  clear hb HX0 HB0
  unfold whatV
  go_wp2_with fail
  refine words_nil.mono ?_
  rintro e w' ⟨rfl, rfl⟩
  go_wp2_with fail
  refine conf_nil.mono ?_
  rintro e W2 ⟨rfl, hb⟩
  have HX2 := Lib.hid (blk_below (blk_alloc HX1.out _) hb)
  have HB2 := Lib.hid (below_then (below_alloc HB1.out _) (by have := HB1.out.size; simp; omega) hb)
  obtain ⟨c20, c21, c22⟩ := conf_cells HX2.out
  clear hb HX1 HB1
  go_wp2_with fail
  refine (active_nil _).mono ?_
  rintro e w' ⟨rfl, rfl⟩
  go_wp2_with fail
  refine (victim_nil _).mono ?_
  rintro e w' ⟨rfl, rfl⟩
  go_wp2_with fail
  refine (stamp_nil0 _).mono ?_
  rintro e w' ⟨rfl, rfl⟩
  go_wp2_with fail
  refine (bag_nil0 _).mono ?_
  rintro e w' ⟨rfl, rfl⟩
  go_wp2_with fail
  refine (node_nil _ _).mono ?_
  rintro e w' ⟨rfl, rfl⟩
  go_wp2_with fail
  refine (hr _).mono ?_
  rintro e W3 ⟨rfl, hb⟩
  have HX3 := Lib.hid (blk_below HX2.out hb)
  have HB3 := Lib.hid (below_then HB2.out HB2.out.size hb)
  obtain ⟨c30, c31, c32⟩ := conf_cells HX3.out
  clear hb HX2 HB2 c20 c21 c22
  go_wp2_with fail
  refine (HN.out _).mono ?_
  rintro e W4 ⟨g, rfl, hg, hp, hb⟩
  have HX4 := Lib.hid (blk_below HX3.out hb)
  have HB4 := Lib.hid (below_then HB3.out HB3.out.size hb)
  have HP4 := Lib.hid hp
  obtain ⟨c40, c41, c42⟩ := conf_cells HX4.out
  clear hb HX3 HB3 hp hg HN c30 c31 c32
  go_wp2_with fail
  refine (HW.out _).mono ?_
  rintro e W5 ⟨v, rfl, hR, hb⟩
  have HP5 := Lib.hid (blk_below HP4.out hb)
  have HB5 := Lib.hid (below_then HB4.out HB4.out.size hb)
  obtain ⟨A, c, rfl⟩ := Kd.R_slice hR
  obtain ⟨_, hlc, hC⟩ := Kd.R_reads' hR
  have HLC := Lib.hid hlc
  have HC5 := Lib.hid hC
  clear hb HX4 HB4 HP4 c40 c41 c42 hR hlc hC
  have HU3 := Try.underlying54
  by_cases hin : 0 ≤ a ∧ a < 3 + 8 * t + 7 * s
  · have hwh := what_in HP5.out HT.out HS.out a hin.1 hin.2
    have hrd : rd_T54 l a = ⟨(whatN t a).1, (whatN t a).2.1, (whatN t a).2.2⟩ := by
      have hlt : a.toNat < l.length := by rw [HL.out]; omega
      have h1 := HG.out a.toNat hlt
      unfold rd_T54
      rw [List.getD_eq_getElem?_getD, List.getElem?_eq_getElem hlt, Option.getD_some, h1]
      unfold el
      rw [Int.toNat_of_nonneg hin.1]
    obtain ⟨ad, hA, e0, e1, e2⟩ := at_T54 HC5.out a hin.1 (by rw [HL.out]; omega)
    rw [hrd] at e0 e1 e2
    have HI := Lib.hid hin
    clear hin hrd
    unfold whatV at hwh
    rcases hq : whatN t a with ⟨x, y, z⟩
    rw [hq] at hwh e0 e1 e2
    have HQ := Lib.hid hq
    have HE0 := Lib.hid e0
    have HE1 := Lib.hid e1
    have HE2 := Lib.hid e2
    clear hq e0 e1 e2
    subst hA
    go_wp2_with fail
    refine hwh.mono ?_
    rintro e W6 ⟨rfl, hb⟩
    clear hwh
    have HB6 := Lib.hid (below_then HB5.out HB5.out.size hb)
    have e0 := cell_alloc_old (pw_cell_below hb HE0.out) (.cells #[.int .i64 x, .int .i64 y, .int .i64 z] 61 (0, 0))
    have e1 := cell_alloc_old (pw_cell_below hb HE1.out) (.cells #[.int .i64 x, .int .i64 y, .int .i64 z] 61 (0, 0))
    have e2 := cell_alloc_old (pw_cell_below hb HE2.out) (.cells #[.int .i64 x, .int .i64 y, .int .i64 z] 61 (0, 0))
    have HE := Lib.hid (And.intro e0 (And.intro e1 e2))
    have HI' := HI.out
    have HLL := HL.out
    have c1 : decide (a < 0) = false := decide_eq_false (by omega)
    have c2 : decide ((l.length : Int) ≤ a) = false := decide_eq_false (by omega)
    have i0 : 0 ≤ a := HI'.1
    have i1 : a < (l.length : Int) := by omega
    clear hb HB5 HP5 HC5 HE0 HE1 HE2 HLL HI' e0 e1 e2
    go_wp2_with fail
    generalize hW : W6.alloc (.cells #[.int .i64 x, .int .i64 y, .int .i64 z] 61 (0, 0)) = W7
    have f0 : W7.cell? ⟨W6.heap.size, 0, none⟩ = some (.int .i64 x) := by rw [← hW]; exact (blk_cell (heap_alloc_new W6 _) 0).trans rfl
    have f1 : W7.cell? ⟨W6.heap.size, 1, none⟩ = some (.int .i64 y) := by rw [← hW]; exact (blk_cell (heap_alloc_new W6 _) 1).trans rfl
    have f2 : W7.cell? ⟨W6.heap.size, 2, none⟩ = some (.int .i64 z) := by rw [← hW]; exact (blk_cell (heap_alloc_new W6 _) 2).trans rfl
    have HB7 : Hid (Below w.heap.size w W7) := Lib.hid (by rw [← hW]; exact below_alloc HB6.out _)
    have HE7 := HE.out
    rw [hW] at HE7
    obtain ⟨g0, g1, g2⟩ := HE7
    clear hW HE HB6
    go_region_held3 (fun W' => W'.cell? ⟨W6.heap.size, 0, none⟩ = some (.int .i64 x) ∧ W'.cell? ⟨W6.heap.size, 1, none⟩ = some (.int .i64 y) ∧ W'.cell? ⟨W6.heap.size, 2, none⟩ = some (.int .i64 z) ∧
        W'.cell? (ad.add (a.toNat * 3)) = some (.int .i64 x) ∧ W'.cell? ⟨(ad.add (a.toNat * 3)).block, (ad.add (a.toNat * 3)).off + 1, none⟩ = some (.int .i64 y) ∧ W'.cell? ⟨(ad.add (a.toNat * 3)).block, (ad.add (a.toNat * 3)).off + 2, none⟩ = some (.int .i64 z) ∧ Below w.heap.size w W')
      (first
        | exact ⟨f0, f1, f2, g0, g1, g2, below_drew1 HB7.out⟩
        | assumption
        | exact keep6 (by assumption) (by assumption))
      (first
        | (go_at_call 25; refine (lives_calls _).mono ?_; rintro e w' ⟨rfl, hb⟩))
    go_wp2
    go_ret
    exact ⟨rfl, below6 (by assumption)⟩
  · have hwh := what_out HP5.out HT.out HS.out a hin
    have hout : a < 0 ∨ (l.length : Int) ≤ a := by rw [HL.out]; omega
    unfold whatV at hwh
    clear hin HC5 HLC
    rcases hout with hout | hout
    · have c1 : decide (a < 0) = true := decide_eq_true hout
      clear hout
      go_wp2_with fail
      refine hwh.mono ?_
      rintro e W6 ⟨rfl, hb⟩
      clear hwh
      have HB6 := Lib.hid (below_then HB5.out HB5.out.size hb)
      clear hb HB5 HP5
      go_wp2_with fail
      refine (lives_calls _).mono ?_
      rintro e W7 ⟨rfl, hb⟩
      have HB7 := Lib.hid (below_then (below_alloc HB6.out _) (by have := HB6.out.size; simp; omega) hb)
      clear hb HB6
      go_wp2
      go_ret
      exact ⟨rfl, HB7.out⟩
    · by_cases h0 : a < 0
      · have c1 : decide (a < 0) = true := decide_eq_true h0
        clear hout h0
        go_wp2_with fail
        refine hwh.mono ?_
        rintro e W6 ⟨rfl, hb⟩
        clear hwh
        have HB6 := Lib.hid (below_then HB5.out HB5.out.size hb)
        clear hb HB5 HP5
        go_wp2_with fail
        refine (lives_calls _).mono ?_
        rintro e W7 ⟨rfl, hb⟩
        have HB7 := Lib.hid (below_then (below_alloc HB6.out _) (by have := HB6.out.size; simp; omega) hb)
        clear hb HB6
        go_wp2
        go_ret
        exact ⟨rfl, HB7.out⟩
      · have c1 : decide (a < 0) = false := decide_eq_false h0
        have c2 : decide ((l.length : Int) ≤ a) = true := decide_eq_true hout
        clear hout h0
        go_wp2_with fail
        refine hwh.mono ?_
        rintro e W6 ⟨rfl, hb⟩
        clear hwh
        have HB6 := Lib.hid (below_then HB5.out HB5.out.size hb)
        clear hb HB5 HP5
        go_wp2_with fail
        refine (lives_calls _).mono ?_
        rintro e W7 ⟨rfl, hb⟩
        have HB7 := Lib.hid (below_then (below_alloc HB6.out _) (by have := HB6.out.size; simp; omega) hb)
        clear hb HB6
        go_wp2
        go_ret
        exact ⟨rfl, HB7.out⟩
theorem planWhats_walk (t s n a : Int) (w : World) (_ : (Lit.int .i64 t).wf = true ∧ (Lit.int .i64 s).wf = true ∧ (Lit.int .u64 n).wf = true) (_ : (Lit.int .i64 a).wf = true) : Calls Try.prog 8 #[.agg #[.int .i64 t, .int .i64 s, .int .u64 n], .int .i64 a] w fun e w' => e = .returned (.bool true) ∧ Below w.heap.size w w' := by
  by_cases h : MayC t s n
  · obtain ⟨t, rfl⟩ : ∃ t' : Nat, t = t' := ⟨t.toNat, by have := h.1; omega⟩
    obtain ⟨s, rfl⟩ : ∃ s' : Nat, s = s' := ⟨s.toNat, by have := h.2.1; omega⟩
    exact whats_yes w h
  · exact whats_no w h
end Go.Proofs.Ytacajonkkfmibaa.PlanT
