/- What may be told: the document's. -/
import Derived.Test.YtkkneaefjahihaaZModT
set_option linter.unusedVariables false
set_option linter.unusedSimpArgs false
namespace Go.Proofs.Ytkkneaefjahihaa.ModT
open Go Go.RowKit Go.Proofs.YtkkneaefjahihaaW.PrintWords Go.Proofs.YtkkneaefjahihaaW.PrintLast Go.Proofs.YtkkneaefjahihaaW.PrintMore Go.Proofs.Ytkkneaefjahihaa.PModelTold Go.Proofs.Ytkkneaefjahihaa.GRow Go.Proofs.Ytkkneaefjahihaa.ModRec Go.Proofs.Ytkkneaefjahihaa.Num Go.Proofs.Ytkkneaefjahihaa.Bxs Go.Proofs.Ytkkneaefjahihaa.ModW Go.Proofs.Ytkkneaefjahihaa.ModR Go.Proofs.Ytkkneaefjahihaa.Pure Go.Proofs.Ytkkneaefjahihaa.ModL
set_option maxHeartbeats 4000000 in
set_option maxRecDepth 100000 in
theorem rtold {k : Nat} {okx oka : Nat → Prop} {A0 A1 A3 : Option Addr} {c0 c1 c3 : Nat} {l r1 r7 a4 : Prs} {ts r2 : List S61} {t q0 q1 q2 q3 q4 r3 r4 r5 r6 a0 a1 a2 a3 : Int} {w : World} (h0 : Kd.V k49 49 w w.heap.size okx (.slice A0 l.length c0) l) (h1 : Kd.V k61 61 w w.heap.size okx (.slice A1 ts.length c1) ts) (h3 : Kd.V k49 49 w w.heap.size oka (.slice A3 a4.length c3) a4) (ha : a4.length ≤ 1000000) (h : rdo k l ts t q0 q1 q2 q3 q4 = some (r1, r2, r3, r4, r5, r6, r7)) :
    Calls Try.prog 17 #[.agg #[.slice A0 l.length c0, .slice A1 ts.length c1], .int .i64 t, .agg #[.int .i64 q0, .int .i64 q1, .int .i64 q2, .int .i64 q3, .int .i64 q4], .agg #[.int .i64 a0, .int .i64 a1, .int .i64 a2, .int .i64 a3, .slice A3 a4.length c3]] w fun e w' => ∃ v0_ v1_ : Value, e = .returned (.tuple #[.agg #[v0_, v1_], .bool (toldB q0 a0 a1 a2 a3 a4 r3 r4 r5 r6 r7)]) ∧ Kd.V k49 49 w' 0 (fun k_ => okx k_ ∨ w.heap.size ≤ k_) v0_ (sel (sameA a0 a1 a2 a3 a4 r3 r4 r5 r6 r7) r1 l) ∧ Kd.V k61 61 w' 0 (fun k_ => okx k_ ∨ w.heap.size ≤ k_) v1_ (sel (sameA a0 a1 a2 a3 a4 r3 r4 r5 r6 r7) r2 ts) ∧ Below w.heap.size w w' := by
  have hu27 := Try.underlying27
  have hu31 := Try.underlying31
  have hu38 := Try.underlying38
  have hu34 := Try.underlying34
  have DD := Aside0.mk h
  have H0 := Aside0.mk (Kd.V_bound h0)
  have H1 := Aside0.mk (Kd.V_bound h1)
  have H3 := Aside0.mk (Kd.V_bound h3)
  have HA := Aside0.mk ha
  clear h h0 h1 h3 ha
  go_enter Try.func17, Try.ntmps17
  go_upto_region 1 with (fail)
  refine bx_gens (four w _ _ _ _ 31 38 34 31) ?_
  intro wr M SZ
  simp only [World.size_alloc] at SZ
  have B0 := Aside0.mk M
  have SZ0 := Aside0.mk SZ
  have DW := Aside0.mk (cx_do (okx := fun k => okx k ∧ k < w.heap.size) (rb (Kd.V_below H0.out M.b)) (rb (Kd.V_below H1.out M.b)) DD.out)
  clear SZ
  have a_0 := (M.cell 1 0 rfl).trans rfl
  have a_1 := (M.cell 1 1 rfl).trans rfl
  have a_2 := (M.cell 1 2 rfl).trans rfl
  have a_3 := (M.cell 1 3 rfl).trans rfl
  have a_4 := (M.cell 1 4 rfl).trans rfl
  have q_0 := (M.cell 2 0 rfl).trans rfl
  have q_1 := (M.cell 2 1 rfl).trans rfl
  have q_2 := (M.cell 2 2 rfl).trans rfl
  have q_3 := (M.cell 2 3 rfl).trans rfl
  have q_4 := (M.cell 2 4 rfl).trans rfl
  have s0 := (M.cell 3 0 rfl).trans rfl
  have s1 := (M.cell 3 1 rfl).trans rfl
  clear M
  go_wp2_with fail
  refine DW.out.mono ?_
  rintro e w1 ⟨v0, v1, v6, rfl, V0, V1, V6, hb⟩
  obtain ⟨A8, c8, rfl⟩ := Kd.V_slice V0
  obtain ⟨A9, c9, rfl⟩ := Kd.V_slice V1
  obtain ⟨A6, c6, rfl⟩ := Kd.V_slice V6
  have N0 := Aside0.mk V0
  have N1 := Aside0.mk V1
  have N6 := Aside0.mk V6
  have B1 := Aside0.mk (B0.out.below hb)
  have Z1 := Aside0.mk (show w.heap.size + 4 ≤ w1.heap.size by have := hb.size; have := SZ0.out; omega)
  have HB := Aside0.mk hb
  clear V0 V1 V6 hb a_0 a_1 a_2 a_3 a_4 q_0 q_1 q_2 q_3 q_4 s0 s1
  go_upto_region 2 with (fail)
  refine gen2 (Φ := fun X => Bxs w X ([((w.heap.size + 1 + 1 + 1), #[.slice none 0 0, .slice none 0 0], 31), (w.heap.size + 1 + 1, #[.int .i64 a0, .int .i64 a1, .int .i64 a2, .int .i64 a3, .slice A3 a4.length c3], 34), (w.heap.size + 1, #[.int .i64 q0, .int .i64 q1, .int .i64 q2, .int .i64 q3, .int .i64 q4], 38), (w.heap.size, #[.slice A0 l.length c0, .slice A1 ts.length c1], 31), (w1.heap.size + 1, #[.int .i64 r3, .int .i64 r4, .int .i64 r5, .int .i64 r6, .slice A6 r7.length c6], 34), (w1.heap.size, #[.slice A8 r1.length c8, .slice A9 r2.length c9], 31)] : List Box) ∧ Below w1.heap.size w1 X) ⟨rot (rot ((B1.out.box _ 31 rfl).box _ 34 (n := w1.heap.size + 1) (by simp))), below_alloc (below_alloc (Below.refl _ _) _) _⟩ ?_
  rintro x2 ⟨M, hb⟩
  have B2 := Aside0.mk M
  have X0 := Aside0.mk (Kd.V_below N0.out hb)
  have X1 := Aside0.mk (Kd.V_below N1.out hb)
  have X6 := Aside0.mk (Kd.V_below N6.out hb)
  have Y0 := Aside0.mk (Kd.V_below H0.out M.b)
  have Y1 := Aside0.mk (Kd.V_below H1.out M.b)
  have Y3 := Aside0.mk (Kd.V_below H3.out M.b)
  have Z2 := Aside0.mk (show w.heap.size + 4 ≤ w1.heap.size ∧ w1.heap.size + 2 ≤ x2.heap.size from ⟨Z1.out, by have := M.lt 4 rfl; omega⟩)
  clear hb N0 N1 N6
  have ng1 : ¬ w1.heap.size + 1 = (w.heap.size + 1 + 1 + 1) := by have := Z1.out; omega
  have ng2 : ¬ (w.heap.size + 1 + 1 + 1) = w1.heap.size + 1 := by have := Z1.out; omega
  have EQS1 := Aside0.mk (show deadwoodref09_Same.f 1000001 a0 a1 a2 a3 a4 r3 r4 r5 r6 r7 = some (sameA a0 a1 a2 a3 a4 r3 r4 r5 r6 r7) from rsameA_eq a0 a1 a2 a3 r3 r4 r5 r6 a4 r7 HA.out)
  have a_0 := (M.cell 1 0 rfl).trans rfl
  have a_1 := (M.cell 1 1 rfl).trans rfl
  have a_2 := (M.cell 1 2 rfl).trans rfl
  have a_3 := (M.cell 1 3 rfl).trans rfl
  have a_4 := (M.cell 1 4 rfl).trans rfl
  have q_0 := (M.cell 2 0 rfl).trans rfl
  have q_1 := (M.cell 2 1 rfl).trans rfl
  have q_2 := (M.cell 2 2 rfl).trans rfl
  have q_3 := (M.cell 2 3 rfl).trans rfl
  have q_4 := (M.cell 2 4 rfl).trans rfl
  have s0 := (M.cell 3 0 rfl).trans rfl
  have s1 := (M.cell 3 1 rfl).trans rfl
  have r_0 := (M.cell 4 0 rfl).trans rfl
  have r_1 := (M.cell 4 1 rfl).trans rfl
  have r_2 := (M.cell 4 2 rfl).trans rfl
  have r_3 := (M.cell 4 3 rfl).trans rfl
  have r_4 := (M.cell 4 4 rfl).trans rfl
  have n_0 := (M.cell 5 0 rfl).trans rfl
  have n_1 := (M.cell 5 1 rfl).trans rfl
  have z0 := (M.cell 0 0 rfl).trans rfl
  have zf0 := M.frz 0 0 rfl
  have z1 := (M.cell 0 1 rfl).trans rfl
  have zf1 := M.frz 0 1 rfl
  clear M
  go_wp2_with fail
  refine (deadwoodref09_Same.calls 1000001 a0 a1 a2 a3 A3 c3 a4 r3 r4 r5 r6 A6 c6 r7 (sameA a0 a1 a2 a3 a4 r3 r4 r5 r6 r7) x2 (Kd.V_reads' Y3.out).2.2 (Kd.V_reads' Y3.out).2.1 (Kd.V_reads' X6.out).2.2 (Kd.V_reads' X6.out).2.1 (EQS1.out)).mono ?_
  rintro e x3 ⟨rfl, hb⟩
  have B3 := Aside0.mk (B2.out.below hb)
  have X0_ := Aside0.mk (Kd.V_below X0.out hb)
  have X1_ := Aside0.mk (Kd.V_below X1.out hb)
  have Y0_ := Aside0.mk (Kd.V_below Y0.out hb)
  have Y1_ := Aside0.mk (Kd.V_below Y1.out hb)
  have Y3_ := Aside0.mk (Kd.V_below Y3.out hb)
  have Z2_ := Aside0.mk (show w.heap.size + 4 ≤ w1.heap.size ∧ w1.heap.size + 2 ≤ x3.heap.size from ⟨Z2.out.1, Nat.le_trans Z2.out.2 hb.size⟩)
  clear X0 X1 Y0 Y1 Y3 Z2 hb a_0 q_0 r_0 a_1 q_1 r_1 a_2 q_2 r_2 a_3 q_3 r_3 a_4 q_4 r_4 s0 s1 n_0 n_1 z0 z1 zf0 zf1
  have X0 := X0_
  have X1 := X1_
  have Y0 := Y0_
  have Y1 := Y1_
  have Y3 := Y3_
  have Z2 := Z2_
  clear X0_ X1_ Y0_ Y1_ Y3_ Z2_
  have M := B3.out
  have a_0 := (M.cell 1 0 rfl).trans rfl
  have a_1 := (M.cell 1 1 rfl).trans rfl
  have a_2 := (M.cell 1 2 rfl).trans rfl
  have a_3 := (M.cell 1 3 rfl).trans rfl
  have a_4 := (M.cell 1 4 rfl).trans rfl
  have q_0 := (M.cell 2 0 rfl).trans rfl
  have q_1 := (M.cell 2 1 rfl).trans rfl
  have q_2 := (M.cell 2 2 rfl).trans rfl
  have q_3 := (M.cell 2 3 rfl).trans rfl
  have q_4 := (M.cell 2 4 rfl).trans rfl
  have s0 := (M.cell 3 0 rfl).trans rfl
  have s1 := (M.cell 3 1 rfl).trans rfl
  have r_0 := (M.cell 4 0 rfl).trans rfl
  have r_1 := (M.cell 4 1 rfl).trans rfl
  have r_2 := (M.cell 4 2 rfl).trans rfl
  have r_3 := (M.cell 4 3 rfl).trans rfl
  have r_4 := (M.cell 4 4 rfl).trans rfl
  have n_0 := (M.cell 5 0 rfl).trans rfl
  have n_1 := (M.cell 5 1 rfl).trans rfl
  have z0 := (M.cell 0 0 rfl).trans rfl
  have zf0 := M.frz 0 0 rfl
  have z1 := (M.cell 0 1 rfl).trans rfl
  have zf1 := M.frz 0 1 rfl
  clear M
  cases hs1 : sameA a0 a1 a2 a3 a4 r3 r4 r5 r6 r7 with
  | true =>
    have T1 := Aside0.mk hs1
    clear hs1
    go_wp2
    all_goals first | refine fin2 (i := 0) (hi := w.heap.size + 4) B3.out rfl (by omega) ?_ | refine fin2d (i := 0) (hi := w.heap.size + 4) B3.out rfl (by omega) ?_ | refine fin2n (i := 0) (hi := w.heap.size + 4) B3.out rfl (by omega) ?_
    all_goals
      intro Wf MF OF
      have MF2 := Aside0.mk MF
      have OF2 := Aside0.mk OF
      clear MF OF
      go_wp2
      refine bodyPost_ret (results_ct rfl _ _ (w.heap.size + 1 + 1 + 1) 31 _ (0, 0) _ rfl (MF2.out.get 0 rfl) Try.underlying31 rfl (by kernel_rfl)) rfl ?_
      rw [show toldB q0 a0 a1 a2 a3 a4 r3 r4 r5 r6 r7 = true by unfold toldB; rw [T1.out, if_pos rfl], T1.out, sel_t, sel_t]
      exact ⟨_, _, rfl, Kd.V_mono (OF2.out.V X0.out (fun k hk => by rcases hk with h | h; exact .inl h.2; exact .inr (by have := Z1.out; have := HB.out.size; have := SZ0.out; omega))) (fun k hk => by rcases hk with h | h; exact .inl h.1; exact .inr (by have := SZ0.out; omega)), Kd.V_mono (OF2.out.V X1.out (fun k hk => by rcases hk with h | h; exact .inl h.2; exact .inr (by have := Z1.out; have := HB.out.size; have := SZ0.out; omega))) (fun k hk => by rcases hk with h | h; exact .inl h.1; exact .inr (by have := SZ0.out; omega)), MF2.out.b⟩
  | false =>
    have T1 := Aside0.mk hs1
    clear hs1
    go_upto_region 4 with (fail)
    go_cut [12] (fun v12 wc => v12 = .bool (bareB a1 a2 a3 a4) ∧ Aside0 (x3 = wc))
    case first =>
      by_cases g1 : a1 = 0
      · have e1 : (a1 == 0) = true := beq_iff_eq.2 g1
        by_cases g2 : a2 = 0
        · have e2 : (a2 == 0) = true := beq_iff_eq.2 g2
          by_cases g3 : a3 = 0
          · have e3 : (a3 == 0) = true := beq_iff_eq.2 g3
            by_cases g4 : a4.length = 0
            · have TB := Aside0.mk (show bareB a1 a2 a3 a4 = true from decide_eq_true ⟨g1, g2, g3, g4⟩)
              have e4 : ((a4.length : Int) == 0) = true := by simpa using g4
              clear g1 g2 g3 g4
              go_wp2
              go_meet
              exact ⟨by rw [TB.out], ⟨rfl⟩⟩
            · have TB := Aside0.mk (show bareB a1 a2 a3 a4 = false from decide_eq_false (fun h => g4 h.2.2.2))
              have e4 : ((a4.length : Int) == 0) = false := by rw [beq_eq_false_iff_ne]; omega
              clear g1 g2 g3 g4
              go_wp2
              go_meet
              exact ⟨by rw [TB.out], ⟨rfl⟩⟩
          · have e3 : (a3 == 0) = false := beq_eq_false_iff_ne.2 g3
            have TB := Aside0.mk (show bareB a1 a2 a3 a4 = false from decide_eq_false (fun h => g3 h.2.2.1))
            clear g1 g2 g3
            go_wp2
            go_meet
            exact ⟨by rw [TB.out], ⟨rfl⟩⟩
        · have e2 : (a2 == 0) = false := beq_eq_false_iff_ne.2 g2
          have TB := Aside0.mk (show bareB a1 a2 a3 a4 = false from decide_eq_false (fun h => g2 h.2.1))
          clear g1 g2
          go_wp2
          go_meet
          exact ⟨by rw [TB.out], ⟨rfl⟩⟩
      · have e1 : (a1 == 0) = false := beq_eq_false_iff_ne.2 g1
        have TB := Aside0.mk (show bareB a1 a2 a3 a4 = false from decide_eq_false (fun h => g1 h.1))
        clear g1
        go_wp2
        go_meet
        exact ⟨by rw [TB.out], ⟨rfl⟩⟩
    case rest =>
      obtain ⟨rfl, ⟨rfl⟩⟩ := hcut
      cases hba : bareB a1 a2 a3 a4 with
      | false =>
        have TB := Aside0.mk (show toldB q0 a0 a1 a2 a3 a4 r3 r4 r5 r6 r7 = false by rw [told_bare, T1.out, if_neg (by decide)]; rw [hba]; rfl)
        clear hba
        go_upto_region 7 with (fail)
        have mixed : Try.prog.follows Departure.mixedOrders = true := by kernel_rfl
        have k0 : x3.drew.cell? ⟨w.heap.size, 0, none⟩ = some (.slice A0 l.length c0) := (B3.out.cell 3 0 rfl).trans rfl
        have k1 : x3.drew.cell? ⟨w.heap.size, 1, none⟩ = some (.slice A1 ts.length c1) := (B3.out.cell 3 1 rfl).trans rfl
        have k2 : x3.drew.cell? ⟨w.heap.size + 1, 0, none⟩ = some (.int .i64 q0) := (B3.out.cell 2 0 rfl).trans rfl
        have k3 : x3.drew.cell? ⟨w.heap.size + 1 + 1, 0, none⟩ = some (.int .i64 a0) := (B3.out.cell 1 0 rfl).trans rfl
        have BD := Aside0.mk B3.out.drew
        have YD0 := Aside0.mk (Kd.V_drew Y0.out)
        have YD1 := Aside0.mk (Kd.V_drew Y1.out)
        clear a_0 q_0 r_0 a_1 q_1 r_1 a_2 q_2 r_2 a_3 q_3 r_3 a_4 q_4 r_4 s0 s1 n_0 n_1 z0 z1 zf0 zf1
        refine start_ (n := 19) (S := fun W' => W'.cell? ⟨w.heap.size, 0, none⟩ = some (.slice A0 l.length c0) ∧ W'.cell? ⟨w.heap.size, 1, none⟩ = some (.slice A1 ts.length c1) ∧ W'.cell? ⟨w.heap.size + 1, 0, none⟩ = some (.int .i64 q0) ∧ W'.cell? ⟨w.heap.size + 1 + 1, 0, none⟩ = some (.int .i64 a0)) (ds := [17]) #[false, false, false, false, false, false, false, false, false, false, false, false, false, false, false, false, false, false, false] (by kernel_rfl) rfl rfl ⟨k0, k1, k2, k3⟩ (fun hHeld => ?_); refine with_tabW rt7_tab rt7_bits (fun HT_ HW_ => ?_)
        generalize x3.drew = wd_ at k0 k1 k2 k3 BD YD0 YD1 hHeld ⊢
        have zz := BD.out
        have z0 := (zz.cell 0 0 rfl).trans rfl
        have z1 := (zz.cell 0 1 rfl).trans rfl
        have zf0 := zz.frz 0 0 rfl
        have zf1 := zz.frz 0 1 rfl
        clear zz
        refine pure_ (i := 1) (N := some 61) (v := ?_) (a' := ?_) #[false, true, false, false, false, false, false, false, false, false, false, false, false, false, false, false, false, false, false] rfl rfl (any_of HT_.out (by kernel_rfl)) (fun _ _ _ h => h) (Or.inl ⟨by rfl, ?_⟩) ?_ ?_
        rotate_left
        · intro w'
          go_simp
          with_reducible rfl
        rotate_left
        · simp only [Act.put, List.setIfInBounds_toArray, List.set_cons_zero, List.set_cons_succ]
          rfl
        refine pure_ (i := 2) (N := some 62) (v := ?_) (a' := ?_) #[false, true, true, false, false, false, false, false, false, false, false, false, false, false, false, false, false, false, false] rfl rfl (any_of HT_.out (by kernel_rfl)) (fun _ _ _ h => h) (Or.inl ⟨by rfl, ?_⟩) ?_ ?_
        rotate_left
        · intro w'
          go_simp
          with_reducible rfl
        rotate_left
        · simp only [Act.put, List.setIfInBounds_toArray, List.set_cons_zero, List.set_cons_succ]
          rfl
        refine pure_ (i := 3) (N := some 63) (v := undef) (a' := ?_) #[false, true, true, true, false, false, false, false, false, false, false, false, false, false, false, false, false, false, false] rfl rfl (any_of HT_.out (by kernel_rfl)) (fun _ _ _ h => h) (Or.inr ⟨by rfl, rfl⟩) ?_ ?_
        rotate_left
        · simp only [Act.put, List.setIfInBounds_toArray, List.set_cons_zero, List.set_cons_succ]
          rfl
        refine pure_ (i := 4) (N := some 64) (v := undef) (a' := ?_) #[false, true, true, true, true, false, false, false, false, false, false, false, false, false, false, false, false, false, false] rfl rfl (any_of HT_.out (by kernel_rfl)) (fun _ _ _ h => h) (Or.inr ⟨by rfl, rfl⟩) ?_ ?_
        rotate_left
        · simp only [Act.put, List.setIfInBounds_toArray, List.set_cons_zero, List.set_cons_succ]
          rfl
        refine pure_ (i := 5) (N := some 65) (v := undef) (a' := ?_) #[false, true, true, true, true, true, false, false, false, false, false, false, false, false, false, false, false, false, false] rfl rfl (any_of HT_.out (by kernel_rfl)) (fun _ _ _ h => h) (Or.inr ⟨by rfl, rfl⟩) ?_ ?_
        rotate_left
        · simp only [Act.put, List.setIfInBounds_toArray, List.set_cons_zero, List.set_cons_succ]
          rfl
        refine pure_ (i := 6) (N := some 66) (v := ?_) (a' := ?_) #[false, true, true, true, true, true, true, false, false, false, false, false, false, false, false, false, false, false, false] rfl rfl (any_of HT_.out (by kernel_rfl)) (fun _ _ _ h => h) (Or.inl ⟨by rfl, ?_⟩) ?_ ?_
        rotate_left
        · intro w'
          go_simp
          with_reducible rfl
        rotate_left
        · simp only [Act.put, List.setIfInBounds_toArray, List.set_cons_zero, List.set_cons_succ]
          rfl
        refine pure_ (i := 7) (N := some 67) (v := ?_) (a' := ?_) #[false, true, true, true, true, true, true, true, false, false, false, false, false, false, false, false, false, false, false] rfl rfl (any_of HT_.out (by kernel_rfl)) (fun _ _ _ h => h) (Or.inl ⟨by rfl, ?_⟩) ?_ ?_
        rotate_left
        · intro w'
          go_simp
          with_reducible rfl
        rotate_left
        · simp only [Act.put, List.setIfInBounds_toArray, List.set_cons_zero, List.set_cons_succ]
          rfl
        refine pure_ (i := 8) (N := some 68) (v := undef) (a' := ?_) #[false, true, true, true, true, true, true, true, true, false, false, false, false, false, false, false, false, false, false] rfl rfl (any_of HT_.out (by kernel_rfl)) (fun _ _ _ h => h) (Or.inr ⟨by rfl, rfl⟩) ?_ ?_
        rotate_left
        · simp only [Act.put, List.setIfInBounds_toArray, List.set_cons_zero, List.set_cons_succ]
          rfl
        refine pure_ (i := 9) (N := some 69) (v := undef) (a' := ?_) #[false, true, true, true, true, true, true, true, true, true, false, false, false, false, false, false, false, false, false] rfl rfl (any_of HT_.out (by kernel_rfl)) (fun _ _ _ h => h) (Or.inr ⟨by rfl, rfl⟩) ?_ ?_
        rotate_left
        · simp only [Act.put, List.setIfInBounds_toArray, List.set_cons_zero, List.set_cons_succ]
          rfl
        refine pure_ (i := 10) (N := some 70) (v := undef) (a' := ?_) #[false, true, true, true, true, true, true, true, true, true, true, false, false, false, false, false, false, false, false] rfl rfl (any_of HT_.out (by kernel_rfl)) (fun _ _ _ h => h) (Or.inr ⟨by rfl, rfl⟩) ?_ ?_
        rotate_left
        · simp only [Act.put, List.setIfInBounds_toArray, List.set_cons_zero, List.set_cons_succ]
          rfl
        refine pure_ (i := 11) (N := some 71) (v := ?_) (a' := ?_) #[false, true, true, true, true, true, true, true, true, true, true, true, false, false, false, false, false, false, false] rfl rfl (any_of HT_.out (by kernel_rfl)) (fun _ _ _ h => h) (Or.inl ⟨by rfl, ?_⟩) ?_ ?_
        rotate_left
        · intro w'
          go_simp
          with_reducible rfl
        rotate_left
        · simp only [Act.put, List.setIfInBounds_toArray, List.set_cons_zero, List.set_cons_succ]
          rfl
        refine pure_ (i := 12) (N := some 72) (v := ?_) (a' := ?_) #[false, true, true, true, true, true, true, true, true, true, true, true, true, false, false, false, false, false, false] rfl rfl (any_of HT_.out (by kernel_rfl)) (fun _ _ _ h => h) (Or.inl ⟨by rfl, ?_⟩) ?_ ?_
        rotate_left
        · intro w'
          go_simp
          with_reducible rfl
        rotate_left
        · simp only [Act.put, List.setIfInBounds_toArray, List.set_cons_zero, List.set_cons_succ]
          rfl
        refine pure_ (i := 13) (N := some 73) (v := undef) (a' := ?_) #[false, true, true, true, true, true, true, true, true, true, true, true, true, true, false, false, false, false, false] rfl rfl (any_of HT_.out (by kernel_rfl)) (fun _ _ _ h => h) (Or.inr ⟨by rfl, rfl⟩) ?_ ?_
        rotate_left
        · simp only [Act.put, List.setIfInBounds_toArray, List.set_cons_zero, List.set_cons_succ]
          rfl
        refine pure_ (i := 14) (N := some 74) (v := undef) (a' := ?_) #[false, true, true, true, true, true, true, true, true, true, true, true, true, true, true, false, false, false, false] rfl rfl (any_of HT_.out (by kernel_rfl)) (fun _ _ _ h => h) (Or.inr ⟨by rfl, rfl⟩) ?_ ?_
        rotate_left
        · simp only [Act.put, List.setIfInBounds_toArray, List.set_cons_zero, List.set_cons_succ]
          rfl
        refine pure_ (i := 15) (N := some 75) (v := undef) (a' := ?_) #[false, true, true, true, true, true, true, true, true, true, true, true, true, true, true, true, false, false, false] rfl rfl (any_of HT_.out (by kernel_rfl)) (fun _ _ _ h => h) (Or.inr ⟨by rfl, rfl⟩) ?_ ?_
        rotate_left
        · simp only [Act.put, List.setIfInBounds_toArray, List.set_cons_zero, List.set_cons_succ]
          rfl
        refine pure_ (i := 16) (N := some 76) (v := ?_) (a' := ?_) #[false, true, true, true, true, true, true, true, true, true, true, true, true, true, true, true, true, false, false] rfl rfl (any_of HT_.out (by kernel_rfl)) (fun _ _ _ h => h) (Or.inl ⟨by rfl, ?_⟩) ?_ ?_
        rotate_left
        · intro w'
          go_simp
          with_reducible rfl
        rotate_left
        · simp only [Act.put, List.setIfInBounds_toArray, List.set_cons_zero, List.set_cons_succ]
          rfl
        refine take_ (i := 0) (N := some 60) (v := ?_) (a' := ?_) #[true, true, true, true, true, true, true, true, true, true, true, true, true, true, true, true, true, false, false] rfl rfl (take_ofW HT_.out HW_.out (by kernel_rfl)) (fun _ _ _ h => h) (Or.inl ⟨by rfl, ?_⟩) hHeld ?_ ?_
        rotate_left
        · rintro w' ⟨s0, s1, s2, s3⟩
          go_simp
          with_reducible rfl
        rotate_left
        · simp only [Act.put, List.setIfInBounds_toArray, List.set_cons_zero, List.set_cons_succ]
          rfl
        refine last_ (i := 17) (N := none) #[true, true, true, true, true, true, true, true, true, true, true, true, true, true, true, true, true, true, false] rfl rfl (one_of HT_.out (by kernel_rfl)) (by decide) (fun K hK => ?_)
        refine skip_ (w1 := ?_) (by rfl) rfl ?_ ?_
        rotate_left
        · go_simp
          with_reducible rfl
        refine hK.out _ _ ?_
        clear hK K
        refine pure_ (i := 18) (N := some 9) (v := ?_) (a' := ?_) #[true, true, true, true, true, true, true, true, true, true, true, true, true, true, true, true, true, true, true] rfl rfl (any_of HT_.out (by kernel_rfl)) (fun _ _ _ h => h) (Or.inl ⟨by rfl, ?_⟩) ?_ ?_
        rotate_left
        · intro w'
          go_simp
          with_reducible rfl
        rotate_left
        · simp only [Act.put, List.setIfInBounds_toArray, List.set_cons_zero, List.set_cons_succ]
          rfl
        refine done_ (done_of HT_.out (by kernel_rfl)) ?_
        go_wp2
        all_goals first | refine fin2 (i := 0) (hi := w.heap.size + 4) BD.out rfl (by omega) ?_ | refine fin2d (i := 0) (hi := w.heap.size + 4) BD.out rfl (by omega) ?_ | refine fin2n (i := 0) (hi := w.heap.size + 4) BD.out rfl (by omega) ?_
        all_goals
          intro Wf MF OF
          have MF2 := Aside0.mk MF
          have OF2 := Aside0.mk OF
          clear MF OF
          go_wp2
          refine bodyPost_ret (results_ct rfl _ _ (w.heap.size + 1 + 1 + 1) 31 _ (0, 0) _ rfl (MF2.out.get 0 rfl) Try.underlying31 rfl (by kernel_rfl)) rfl ?_
          rw [TB.out, T1.out, sel_f, sel_f]
          exact ⟨_, _, rfl, Kd.V_mono (OF2.out.V YD0.out (fun k hk => .inl hk.2)) (fun k hk => .inl hk.1), Kd.V_mono (OF2.out.V YD1.out (fun k hk => .inl hk.2)) (fun k hk => .inl hk.1), MF2.out.b⟩
      | true =>
        by_cases g6 : a0 = 6
        · have e6 : (a0 == 6) = true := beq_iff_eq.2 g6
          have e7 : (a0 == 7) = false := beq_eq_false_iff_ne.2 (by omega)
          by_cases g0 : q0 = 0
          · have e0 : (q0 == 0) = true := beq_iff_eq.2 g0
            by_cases g3 : r3 = 0
            · have e3 : (r3 == 0) = true := beq_iff_eq.2 g3
              have TB := Aside0.mk (show toldB q0 a0 a1 a2 a3 a4 r3 r4 r5 r6 r7 = true by rw [told_bare, T1.out, if_neg (by decide)]; rw [hba, if_pos rfl, if_pos g6, decide_eq_true g0, decide_eq_true g3]; rfl)
              clear hba g6 g0 g3
              go_wp2
              all_goals first | refine fin2 (i := 0) (hi := w.heap.size + 4) B3.out rfl (by omega) ?_ | refine fin2d (i := 0) (hi := w.heap.size + 4) B3.out rfl (by omega) ?_ | refine fin2n (i := 0) (hi := w.heap.size + 4) B3.out rfl (by omega) ?_
              all_goals
                intro Wf MF OF
                have MF2 := Aside0.mk MF
                have OF2 := Aside0.mk OF
                clear MF OF
                go_wp2
                refine bodyPost_ret (results_ct rfl _ _ (w.heap.size + 1 + 1 + 1) 31 _ (0, 0) _ rfl (MF2.out.get 0 rfl) Try.underlying31 rfl (by kernel_rfl)) rfl ?_
                rw [TB.out, T1.out, sel_f, sel_f]
                exact ⟨_, _, rfl, Kd.V_mono (OF2.out.V Y0.out (fun k hk => .inl hk.2)) (fun k hk => .inl hk.1), Kd.V_mono (OF2.out.V Y1.out (fun k hk => .inl hk.2)) (fun k hk => .inl hk.1), MF2.out.b⟩
            · have e3 : (r3 == 0) = false := beq_eq_false_iff_ne.2 g3
              have TB := Aside0.mk (show toldB q0 a0 a1 a2 a3 a4 r3 r4 r5 r6 r7 = false by rw [told_bare, T1.out, if_neg (by decide)]; rw [hba, if_pos rfl, if_pos g6, decide_eq_true g0, decide_eq_false g3]; rfl)
              clear hba g6 g0 g3
              go_upto_region 7 with (fail)
              have mixed : Try.prog.follows Departure.mixedOrders = true := by kernel_rfl
              have k0 : x3.drew.cell? ⟨w.heap.size, 0, none⟩ = some (.slice A0 l.length c0) := (B3.out.cell 3 0 rfl).trans rfl
              have k1 : x3.drew.cell? ⟨w.heap.size, 1, none⟩ = some (.slice A1 ts.length c1) := (B3.out.cell 3 1 rfl).trans rfl
              have k2 : x3.drew.cell? ⟨w.heap.size + 1, 0, none⟩ = some (.int .i64 q0) := (B3.out.cell 2 0 rfl).trans rfl
              have k3 : x3.drew.cell? ⟨w.heap.size + 1 + 1, 0, none⟩ = some (.int .i64 a0) := (B3.out.cell 1 0 rfl).trans rfl
              have BD := Aside0.mk B3.out.drew
              have YD0 := Aside0.mk (Kd.V_drew Y0.out)
              have YD1 := Aside0.mk (Kd.V_drew Y1.out)
              clear a_0 q_0 r_0 a_1 q_1 r_1 a_2 q_2 r_2 a_3 q_3 r_3 a_4 q_4 r_4 s0 s1 n_0 n_1 z0 z1 zf0 zf1
              refine start_ (n := 19) (S := fun W' => W'.cell? ⟨w.heap.size, 0, none⟩ = some (.slice A0 l.length c0) ∧ W'.cell? ⟨w.heap.size, 1, none⟩ = some (.slice A1 ts.length c1) ∧ W'.cell? ⟨w.heap.size + 1, 0, none⟩ = some (.int .i64 q0) ∧ W'.cell? ⟨w.heap.size + 1 + 1, 0, none⟩ = some (.int .i64 a0)) (ds := [17]) #[false, false, false, false, false, false, false, false, false, false, false, false, false, false, false, false, false, false, false] (by kernel_rfl) rfl rfl ⟨k0, k1, k2, k3⟩ (fun hHeld => ?_); refine with_tabW rt7_tab rt7_bits (fun HT_ HW_ => ?_)
              generalize x3.drew = wd_ at k0 k1 k2 k3 BD YD0 YD1 hHeld ⊢
              have zz := BD.out
              have z0 := (zz.cell 0 0 rfl).trans rfl
              have z1 := (zz.cell 0 1 rfl).trans rfl
              have zf0 := zz.frz 0 0 rfl
              have zf1 := zz.frz 0 1 rfl
              clear zz
              refine pure_ (i := 1) (N := some 61) (v := ?_) (a' := ?_) #[false, true, false, false, false, false, false, false, false, false, false, false, false, false, false, false, false, false, false] rfl rfl (any_of HT_.out (by kernel_rfl)) (fun _ _ _ h => h) (Or.inl ⟨by rfl, ?_⟩) ?_ ?_
              rotate_left
              · intro w'
                go_simp
                with_reducible rfl
              rotate_left
              · simp only [Act.put, List.setIfInBounds_toArray, List.set_cons_zero, List.set_cons_succ]
                rfl
              refine pure_ (i := 2) (N := some 62) (v := ?_) (a' := ?_) #[false, true, true, false, false, false, false, false, false, false, false, false, false, false, false, false, false, false, false] rfl rfl (any_of HT_.out (by kernel_rfl)) (fun _ _ _ h => h) (Or.inl ⟨by rfl, ?_⟩) ?_ ?_
              rotate_left
              · intro w'
                go_simp
                with_reducible rfl
              rotate_left
              · simp only [Act.put, List.setIfInBounds_toArray, List.set_cons_zero, List.set_cons_succ]
                rfl
              refine pure_ (i := 3) (N := some 63) (v := ?_) (a' := ?_) #[false, true, true, true, false, false, false, false, false, false, false, false, false, false, false, false, false, false, false] rfl rfl (any_of HT_.out (by kernel_rfl)) (fun _ _ _ h => h) (Or.inl ⟨by rfl, ?_⟩) ?_ ?_
              rotate_left
              · intro w'
                go_simp
                with_reducible rfl
              rotate_left
              · simp only [Act.put, List.setIfInBounds_toArray, List.set_cons_zero, List.set_cons_succ]
                rfl
              refine take_ (i := 0) (N := some 60) (v := ?_) (a' := ?_) #[true, true, true, true, false, false, false, false, false, false, false, false, false, false, false, false, false, false, false] rfl rfl (take_ofW HT_.out HW_.out (by kernel_rfl)) (fun _ _ _ h => h) (Or.inl ⟨by rfl, ?_⟩) hHeld ?_ ?_
              rotate_left
              · rintro w' ⟨s0, s1, s2, s3⟩
                go_simp
                with_reducible rfl
              rotate_left
              · simp only [Act.put, List.setIfInBounds_toArray, List.set_cons_zero, List.set_cons_succ]
                rfl
              refine take_ (i := 4) (N := some 64) (v := ?_) (a' := ?_) #[true, true, true, true, true, false, false, false, false, false, false, false, false, false, false, false, false, false, false] rfl rfl (take_ofW HT_.out HW_.out (by kernel_rfl)) (fun _ _ _ h => h) (Or.inl ⟨by rfl, ?_⟩) hHeld ?_ ?_
              rotate_left
              · rintro w' ⟨s0, s1, s2, s3⟩
                go_simp
                with_reducible rfl
              rotate_left
              · simp only [Act.put, List.setIfInBounds_toArray, List.set_cons_zero, List.set_cons_succ]
                rfl
              refine pure_ (i := 5) (N := some 65) (v := ?_) (a' := ?_) #[true, true, true, true, true, true, false, false, false, false, false, false, false, false, false, false, false, false, false] rfl rfl (any_of HT_.out (by kernel_rfl)) (fun _ _ _ h => h) (Or.inl ⟨by rfl, ?_⟩) ?_ ?_
              rotate_left
              · intro w'
                go_simp
                with_reducible rfl
              rotate_left
              · simp only [Act.put, List.setIfInBounds_toArray, List.set_cons_zero, List.set_cons_succ]
                rfl
              refine pure_ (i := 6) (N := some 66) (v := ?_) (a' := ?_) #[true, true, true, true, true, true, true, false, false, false, false, false, false, false, false, false, false, false, false] rfl rfl (any_of HT_.out (by kernel_rfl)) (fun _ _ _ h => h) (Or.inl ⟨by rfl, ?_⟩) ?_ ?_
              rotate_left
              · intro w'
                go_simp
                with_reducible rfl
              rotate_left
              · simp only [Act.put, List.setIfInBounds_toArray, List.set_cons_zero, List.set_cons_succ]
                rfl
              refine pure_ (i := 7) (N := some 67) (v := ?_) (a' := ?_) #[true, true, true, true, true, true, true, true, false, false, false, false, false, false, false, false, false, false, false] rfl rfl (any_of HT_.out (by kernel_rfl)) (fun _ _ _ h => h) (Or.inl ⟨by rfl, ?_⟩) ?_ ?_
              rotate_left
              · intro w'
                go_simp
                with_reducible rfl
              rotate_left
              · simp only [Act.put, List.setIfInBounds_toArray, List.set_cons_zero, List.set_cons_succ]
                rfl
              refine pure_ (i := 8) (N := some 68) (v := undef) (a' := ?_) #[true, true, true, true, true, true, true, true, true, false, false, false, false, false, false, false, false, false, false] rfl rfl (any_of HT_.out (by kernel_rfl)) (fun _ _ _ h => h) (Or.inr ⟨by rfl, rfl⟩) ?_ ?_
              rotate_left
              · simp only [Act.put, List.setIfInBounds_toArray, List.set_cons_zero, List.set_cons_succ]
                rfl
              refine pure_ (i := 9) (N := some 69) (v := undef) (a' := ?_) #[true, true, true, true, true, true, true, true, true, true, false, false, false, false, false, false, false, false, false] rfl rfl (any_of HT_.out (by kernel_rfl)) (fun _ _ _ h => h) (Or.inr ⟨by rfl, rfl⟩) ?_ ?_
              rotate_left
              · simp only [Act.put, List.setIfInBounds_toArray, List.set_cons_zero, List.set_cons_succ]
                rfl
              refine pure_ (i := 10) (N := some 70) (v := undef) (a' := ?_) #[true, true, true, true, true, true, true, true, true, true, true, false, false, false, false, false, false, false, false] rfl rfl (any_of HT_.out (by kernel_rfl)) (fun _ _ _ h => h) (Or.inr ⟨by rfl, rfl⟩) ?_ ?_
              rotate_left
              · simp only [Act.put, List.setIfInBounds_toArray, List.set_cons_zero, List.set_cons_succ]
                rfl
              refine pure_ (i := 11) (N := some 71) (v := ?_) (a' := ?_) #[true, true, true, true, true, true, true, true, true, true, true, true, false, false, false, false, false, false, false] rfl rfl (any_of HT_.out (by kernel_rfl)) (fun _ _ _ h => h) (Or.inl ⟨by rfl, ?_⟩) ?_ ?_
              rotate_left
              · intro w'
                go_simp
                with_reducible rfl
              rotate_left
              · simp only [Act.put, List.setIfInBounds_toArray, List.set_cons_zero, List.set_cons_succ]
                rfl
              refine pure_ (i := 12) (N := some 72) (v := ?_) (a' := ?_) #[true, true, true, true, true, true, true, true, true, true, true, true, true, false, false, false, false, false, false] rfl rfl (any_of HT_.out (by kernel_rfl)) (fun _ _ _ h => h) (Or.inl ⟨by rfl, ?_⟩) ?_ ?_
              rotate_left
              · intro w'
                go_simp
                with_reducible rfl
              rotate_left
              · simp only [Act.put, List.setIfInBounds_toArray, List.set_cons_zero, List.set_cons_succ]
                rfl
              refine pure_ (i := 13) (N := some 73) (v := undef) (a' := ?_) #[true, true, true, true, true, true, true, true, true, true, true, true, true, true, false, false, false, false, false] rfl rfl (any_of HT_.out (by kernel_rfl)) (fun _ _ _ h => h) (Or.inr ⟨by rfl, rfl⟩) ?_ ?_
              rotate_left
              · simp only [Act.put, List.setIfInBounds_toArray, List.set_cons_zero, List.set_cons_succ]
                rfl
              refine pure_ (i := 14) (N := some 74) (v := undef) (a' := ?_) #[true, true, true, true, true, true, true, true, true, true, true, true, true, true, true, false, false, false, false] rfl rfl (any_of HT_.out (by kernel_rfl)) (fun _ _ _ h => h) (Or.inr ⟨by rfl, rfl⟩) ?_ ?_
              rotate_left
              · simp only [Act.put, List.setIfInBounds_toArray, List.set_cons_zero, List.set_cons_succ]
                rfl
              refine pure_ (i := 15) (N := some 75) (v := undef) (a' := ?_) #[true, true, true, true, true, true, true, true, true, true, true, true, true, true, true, true, false, false, false] rfl rfl (any_of HT_.out (by kernel_rfl)) (fun _ _ _ h => h) (Or.inr ⟨by rfl, rfl⟩) ?_ ?_
              rotate_left
              · simp only [Act.put, List.setIfInBounds_toArray, List.set_cons_zero, List.set_cons_succ]
                rfl
              refine pure_ (i := 16) (N := some 76) (v := ?_) (a' := ?_) #[true, true, true, true, true, true, true, true, true, true, true, true, true, true, true, true, true, false, false] rfl rfl (any_of HT_.out (by kernel_rfl)) (fun _ _ _ h => h) (Or.inl ⟨by rfl, ?_⟩) ?_ ?_
              rotate_left
              · intro w'
                go_simp
                with_reducible rfl
              rotate_left
              · simp only [Act.put, List.setIfInBounds_toArray, List.set_cons_zero, List.set_cons_succ]
                rfl
              refine last_ (i := 17) (N := none) #[true, true, true, true, true, true, true, true, true, true, true, true, true, true, true, true, true, true, false] rfl rfl (one_of HT_.out (by kernel_rfl)) (by decide) (fun K hK => ?_)
              refine skip_ (w1 := ?_) (by rfl) rfl ?_ ?_
              rotate_left
              · go_simp
                with_reducible rfl
              refine hK.out _ _ ?_
              clear hK K
              refine pure_ (i := 18) (N := some 9) (v := ?_) (a' := ?_) #[true, true, true, true, true, true, true, true, true, true, true, true, true, true, true, true, true, true, true] rfl rfl (any_of HT_.out (by kernel_rfl)) (fun _ _ _ h => h) (Or.inl ⟨by rfl, ?_⟩) ?_ ?_
              rotate_left
              · intro w'
                go_simp
                with_reducible rfl
              rotate_left
              · simp only [Act.put, List.setIfInBounds_toArray, List.set_cons_zero, List.set_cons_succ]
                rfl
              refine done_ (done_of HT_.out (by kernel_rfl)) ?_
              go_wp2
              all_goals first | refine fin2 (i := 0) (hi := w.heap.size + 4) BD.out rfl (by omega) ?_ | refine fin2d (i := 0) (hi := w.heap.size + 4) BD.out rfl (by omega) ?_ | refine fin2n (i := 0) (hi := w.heap.size + 4) BD.out rfl (by omega) ?_
              all_goals
                intro Wf MF OF
                have MF2 := Aside0.mk MF
                have OF2 := Aside0.mk OF
                clear MF OF
                go_wp2
                refine bodyPost_ret (results_ct rfl _ _ (w.heap.size + 1 + 1 + 1) 31 _ (0, 0) _ rfl (MF2.out.get 0 rfl) Try.underlying31 rfl (by kernel_rfl)) rfl ?_
                rw [TB.out, T1.out, sel_f, sel_f]
                exact ⟨_, _, rfl, Kd.V_mono (OF2.out.V YD0.out (fun k hk => .inl hk.2)) (fun k hk => .inl hk.1), Kd.V_mono (OF2.out.V YD1.out (fun k hk => .inl hk.2)) (fun k hk => .inl hk.1), MF2.out.b⟩
          · have e0 : (q0 == 0) = false := beq_eq_false_iff_ne.2 g0
            have TB := Aside0.mk (show toldB q0 a0 a1 a2 a3 a4 r3 r4 r5 r6 r7 = false by rw [told_bare, T1.out, if_neg (by decide)]; rw [hba, if_pos rfl, if_pos g6, decide_eq_false g0]; rfl)
            clear hba g6 g0
            go_upto_region 7 with (fail)
            have mixed : Try.prog.follows Departure.mixedOrders = true := by kernel_rfl
            have k0 : x3.drew.cell? ⟨w.heap.size, 0, none⟩ = some (.slice A0 l.length c0) := (B3.out.cell 3 0 rfl).trans rfl
            have k1 : x3.drew.cell? ⟨w.heap.size, 1, none⟩ = some (.slice A1 ts.length c1) := (B3.out.cell 3 1 rfl).trans rfl
            have k2 : x3.drew.cell? ⟨w.heap.size + 1, 0, none⟩ = some (.int .i64 q0) := (B3.out.cell 2 0 rfl).trans rfl
            have k3 : x3.drew.cell? ⟨w.heap.size + 1 + 1, 0, none⟩ = some (.int .i64 a0) := (B3.out.cell 1 0 rfl).trans rfl
            have BD := Aside0.mk B3.out.drew
            have YD0 := Aside0.mk (Kd.V_drew Y0.out)
            have YD1 := Aside0.mk (Kd.V_drew Y1.out)
            clear a_0 q_0 r_0 a_1 q_1 r_1 a_2 q_2 r_2 a_3 q_3 r_3 a_4 q_4 r_4 s0 s1 n_0 n_1 z0 z1 zf0 zf1
            refine start_ (n := 19) (S := fun W' => W'.cell? ⟨w.heap.size, 0, none⟩ = some (.slice A0 l.length c0) ∧ W'.cell? ⟨w.heap.size, 1, none⟩ = some (.slice A1 ts.length c1) ∧ W'.cell? ⟨w.heap.size + 1, 0, none⟩ = some (.int .i64 q0) ∧ W'.cell? ⟨w.heap.size + 1 + 1, 0, none⟩ = some (.int .i64 a0)) (ds := [17]) #[false, false, false, false, false, false, false, false, false, false, false, false, false, false, false, false, false, false, false] (by kernel_rfl) rfl rfl ⟨k0, k1, k2, k3⟩ (fun hHeld => ?_); refine with_tabW rt7_tab rt7_bits (fun HT_ HW_ => ?_)
            generalize x3.drew = wd_ at k0 k1 k2 k3 BD YD0 YD1 hHeld ⊢
            have zz := BD.out
            have z0 := (zz.cell 0 0 rfl).trans rfl
            have z1 := (zz.cell 0 1 rfl).trans rfl
            have zf0 := zz.frz 0 0 rfl
            have zf1 := zz.frz 0 1 rfl
            clear zz
            refine pure_ (i := 1) (N := some 61) (v := ?_) (a' := ?_) #[false, true, false, false, false, false, false, false, false, false, false, false, false, false, false, false, false, false, false] rfl rfl (any_of HT_.out (by kernel_rfl)) (fun _ _ _ h => h) (Or.inl ⟨by rfl, ?_⟩) ?_ ?_
            rotate_left
            · intro w'
              go_simp
              with_reducible rfl
            rotate_left
            · simp only [Act.put, List.setIfInBounds_toArray, List.set_cons_zero, List.set_cons_succ]
              rfl
            refine pure_ (i := 2) (N := some 62) (v := ?_) (a' := ?_) #[false, true, true, false, false, false, false, false, false, false, false, false, false, false, false, false, false, false, false] rfl rfl (any_of HT_.out (by kernel_rfl)) (fun _ _ _ h => h) (Or.inl ⟨by rfl, ?_⟩) ?_ ?_
            rotate_left
            · intro w'
              go_simp
              with_reducible rfl
            rotate_left
            · simp only [Act.put, List.setIfInBounds_toArray, List.set_cons_zero, List.set_cons_succ]
              rfl
            refine pure_ (i := 3) (N := some 63) (v := ?_) (a' := ?_) #[false, true, true, true, false, false, false, false, false, false, false, false, false, false, false, false, false, false, false] rfl rfl (any_of HT_.out (by kernel_rfl)) (fun _ _ _ h => h) (Or.inl ⟨by rfl, ?_⟩) ?_ ?_
            rotate_left
            · intro w'
              go_simp
              with_reducible rfl
            rotate_left
            · simp only [Act.put, List.setIfInBounds_toArray, List.set_cons_zero, List.set_cons_succ]
              rfl
            refine take_ (i := 0) (N := some 60) (v := ?_) (a' := ?_) #[true, true, true, true, false, false, false, false, false, false, false, false, false, false, false, false, false, false, false] rfl rfl (take_ofW HT_.out HW_.out (by kernel_rfl)) (fun _ _ _ h => h) (Or.inl ⟨by rfl, ?_⟩) hHeld ?_ ?_
            rotate_left
            · rintro w' ⟨s0, s1, s2, s3⟩
              go_simp
              with_reducible rfl
            rotate_left
            · simp only [Act.put, List.setIfInBounds_toArray, List.set_cons_zero, List.set_cons_succ]
              rfl
            refine take_ (i := 4) (N := some 64) (v := ?_) (a' := ?_) #[true, true, true, true, true, false, false, false, false, false, false, false, false, false, false, false, false, false, false] rfl rfl (take_ofW HT_.out HW_.out (by kernel_rfl)) (fun _ _ _ h => h) (Or.inl ⟨by rfl, ?_⟩) hHeld ?_ ?_
            rotate_left
            · rintro w' ⟨s0, s1, s2, s3⟩
              go_simp
              with_reducible rfl
            rotate_left
            · simp only [Act.put, List.setIfInBounds_toArray, List.set_cons_zero, List.set_cons_succ]
              rfl
            refine pure_ (i := 5) (N := some 65) (v := ?_) (a' := ?_) #[true, true, true, true, true, true, false, false, false, false, false, false, false, false, false, false, false, false, false] rfl rfl (any_of HT_.out (by kernel_rfl)) (fun _ _ _ h => h) (Or.inl ⟨by rfl, ?_⟩) ?_ ?_
            rotate_left
            · intro w'
              go_simp
              with_reducible rfl
            rotate_left
            · simp only [Act.put, List.setIfInBounds_toArray, List.set_cons_zero, List.set_cons_succ]
              rfl
            refine pure_ (i := 6) (N := some 66) (v := ?_) (a' := ?_) #[true, true, true, true, true, true, true, false, false, false, false, false, false, false, false, false, false, false, false] rfl rfl (any_of HT_.out (by kernel_rfl)) (fun _ _ _ h => h) (Or.inl ⟨by rfl, ?_⟩) ?_ ?_
            rotate_left
            · intro w'
              go_simp
              with_reducible rfl
            rotate_left
            · simp only [Act.put, List.setIfInBounds_toArray, List.set_cons_zero, List.set_cons_succ]
              rfl
            refine pure_ (i := 7) (N := some 67) (v := ?_) (a' := ?_) #[true, true, true, true, true, true, true, true, false, false, false, false, false, false, false, false, false, false, false] rfl rfl (any_of HT_.out (by kernel_rfl)) (fun _ _ _ h => h) (Or.inl ⟨by rfl, ?_⟩) ?_ ?_
            rotate_left
            · intro w'
              go_simp
              with_reducible rfl
            rotate_left
            · simp only [Act.put, List.setIfInBounds_toArray, List.set_cons_zero, List.set_cons_succ]
              rfl
            refine pure_ (i := 8) (N := some 68) (v := undef) (a' := ?_) #[true, true, true, true, true, true, true, true, true, false, false, false, false, false, false, false, false, false, false] rfl rfl (any_of HT_.out (by kernel_rfl)) (fun _ _ _ h => h) (Or.inr ⟨by rfl, rfl⟩) ?_ ?_
            rotate_left
            · simp only [Act.put, List.setIfInBounds_toArray, List.set_cons_zero, List.set_cons_succ]
              rfl
            refine pure_ (i := 9) (N := some 69) (v := undef) (a' := ?_) #[true, true, true, true, true, true, true, true, true, true, false, false, false, false, false, false, false, false, false] rfl rfl (any_of HT_.out (by kernel_rfl)) (fun _ _ _ h => h) (Or.inr ⟨by rfl, rfl⟩) ?_ ?_
            rotate_left
            · simp only [Act.put, List.setIfInBounds_toArray, List.set_cons_zero, List.set_cons_succ]
              rfl
            refine pure_ (i := 10) (N := some 70) (v := undef) (a' := ?_) #[true, true, true, true, true, true, true, true, true, true, true, false, false, false, false, false, false, false, false] rfl rfl (any_of HT_.out (by kernel_rfl)) (fun _ _ _ h => h) (Or.inr ⟨by rfl, rfl⟩) ?_ ?_
            rotate_left
            · simp only [Act.put, List.setIfInBounds_toArray, List.set_cons_zero, List.set_cons_succ]
              rfl
            refine pure_ (i := 11) (N := some 71) (v := ?_) (a' := ?_) #[true, true, true, true, true, true, true, true, true, true, true, true, false, false, false, false, false, false, false] rfl rfl (any_of HT_.out (by kernel_rfl)) (fun _ _ _ h => h) (Or.inl ⟨by rfl, ?_⟩) ?_ ?_
            rotate_left
            · intro w'
              go_simp
              with_reducible rfl
            rotate_left
            · simp only [Act.put, List.setIfInBounds_toArray, List.set_cons_zero, List.set_cons_succ]
              rfl
            refine pure_ (i := 12) (N := some 72) (v := ?_) (a' := ?_) #[true, true, true, true, true, true, true, true, true, true, true, true, true, false, false, false, false, false, false] rfl rfl (any_of HT_.out (by kernel_rfl)) (fun _ _ _ h => h) (Or.inl ⟨by rfl, ?_⟩) ?_ ?_
            rotate_left
            · intro w'
              go_simp
              with_reducible rfl
            rotate_left
            · simp only [Act.put, List.setIfInBounds_toArray, List.set_cons_zero, List.set_cons_succ]
              rfl
            refine pure_ (i := 13) (N := some 73) (v := undef) (a' := ?_) #[true, true, true, true, true, true, true, true, true, true, true, true, true, true, false, false, false, false, false] rfl rfl (any_of HT_.out (by kernel_rfl)) (fun _ _ _ h => h) (Or.inr ⟨by rfl, rfl⟩) ?_ ?_
            rotate_left
            · simp only [Act.put, List.setIfInBounds_toArray, List.set_cons_zero, List.set_cons_succ]
              rfl
            refine pure_ (i := 14) (N := some 74) (v := undef) (a' := ?_) #[true, true, true, true, true, true, true, true, true, true, true, true, true, true, true, false, false, false, false] rfl rfl (any_of HT_.out (by kernel_rfl)) (fun _ _ _ h => h) (Or.inr ⟨by rfl, rfl⟩) ?_ ?_
            rotate_left
            · simp only [Act.put, List.setIfInBounds_toArray, List.set_cons_zero, List.set_cons_succ]
              rfl
            refine pure_ (i := 15) (N := some 75) (v := undef) (a' := ?_) #[true, true, true, true, true, true, true, true, true, true, true, true, true, true, true, true, false, false, false] rfl rfl (any_of HT_.out (by kernel_rfl)) (fun _ _ _ h => h) (Or.inr ⟨by rfl, rfl⟩) ?_ ?_
            rotate_left
            · simp only [Act.put, List.setIfInBounds_toArray, List.set_cons_zero, List.set_cons_succ]
              rfl
            refine pure_ (i := 16) (N := some 76) (v := ?_) (a' := ?_) #[true, true, true, true, true, true, true, true, true, true, true, true, true, true, true, true, true, false, false] rfl rfl (any_of HT_.out (by kernel_rfl)) (fun _ _ _ h => h) (Or.inl ⟨by rfl, ?_⟩) ?_ ?_
            rotate_left
            · intro w'
              go_simp
              with_reducible rfl
            rotate_left
            · simp only [Act.put, List.setIfInBounds_toArray, List.set_cons_zero, List.set_cons_succ]
              rfl
            refine last_ (i := 17) (N := none) #[true, true, true, true, true, true, true, true, true, true, true, true, true, true, true, true, true, true, false] rfl rfl (one_of HT_.out (by kernel_rfl)) (by decide) (fun K hK => ?_)
            refine skip_ (w1 := ?_) (by rfl) rfl ?_ ?_
            rotate_left
            · go_simp
              with_reducible rfl
            refine hK.out _ _ ?_
            clear hK K
            refine pure_ (i := 18) (N := some 9) (v := ?_) (a' := ?_) #[true, true, true, true, true, true, true, true, true, true, true, true, true, true, true, true, true, true, true] rfl rfl (any_of HT_.out (by kernel_rfl)) (fun _ _ _ h => h) (Or.inl ⟨by rfl, ?_⟩) ?_ ?_
            rotate_left
            · intro w'
              go_simp
              with_reducible rfl
            rotate_left
            · simp only [Act.put, List.setIfInBounds_toArray, List.set_cons_zero, List.set_cons_succ]
              rfl
            refine done_ (done_of HT_.out (by kernel_rfl)) ?_
            go_wp2
            all_goals first | refine fin2 (i := 0) (hi := w.heap.size + 4) BD.out rfl (by omega) ?_ | refine fin2d (i := 0) (hi := w.heap.size + 4) BD.out rfl (by omega) ?_ | refine fin2n (i := 0) (hi := w.heap.size + 4) BD.out rfl (by omega) ?_
            all_goals
              intro Wf MF OF
              have MF2 := Aside0.mk MF
              have OF2 := Aside0.mk OF
              clear MF OF
              go_wp2
              refine bodyPost_ret (results_ct rfl _ _ (w.heap.size + 1 + 1 + 1) 31 _ (0, 0) _ rfl (MF2.out.get 0 rfl) Try.underlying31 rfl (by kernel_rfl)) rfl ?_
              rw [TB.out, T1.out, sel_f, sel_f]
              exact ⟨_, _, rfl, Kd.V_mono (OF2.out.V YD0.out (fun k hk => .inl hk.2)) (fun k hk => .inl hk.1), Kd.V_mono (OF2.out.V YD1.out (fun k hk => .inl hk.2)) (fun k hk => .inl hk.1), MF2.out.b⟩
        · have e6 : (a0 == 6) = false := beq_eq_false_iff_ne.2 g6
          by_cases g7 : a0 = 7
          · have e7 : (a0 == 7) = true := beq_iff_eq.2 g7
            have RQ := Aside0.mk (rreads_eq q0)
            cases hr : readsB q0 with
            | false =>
              rw [hr] at RQ
              have TB := Aside0.mk (show toldB q0 a0 a1 a2 a3 a4 r3 r4 r5 r6 r7 = false by rw [told_bare, T1.out, if_neg (by decide)]; rw [hba, if_pos rfl, if_neg g6, if_pos g7, hr]; rfl)
              clear hba g6 g7 hr
              go_upto_region 7 with (fail)
              have mixed : Try.prog.follows Departure.mixedOrders = true := by kernel_rfl
              have k0 : x3.drew.cell? ⟨w.heap.size, 0, none⟩ = some (.slice A0 l.length c0) := (B3.out.cell 3 0 rfl).trans rfl
              have k1 : x3.drew.cell? ⟨w.heap.size, 1, none⟩ = some (.slice A1 ts.length c1) := (B3.out.cell 3 1 rfl).trans rfl
              have k2 : x3.drew.cell? ⟨w.heap.size + 1, 0, none⟩ = some (.int .i64 q0) := (B3.out.cell 2 0 rfl).trans rfl
              have k3 : x3.drew.cell? ⟨w.heap.size + 1 + 1, 0, none⟩ = some (.int .i64 a0) := (B3.out.cell 1 0 rfl).trans rfl
              have BD := Aside0.mk B3.out.drew
              have YD0 := Aside0.mk (Kd.V_drew Y0.out)
              have YD1 := Aside0.mk (Kd.V_drew Y1.out)
              clear a_0 q_0 r_0 a_1 q_1 r_1 a_2 q_2 r_2 a_3 q_3 r_3 a_4 q_4 r_4 s0 s1 n_0 n_1 z0 z1 zf0 zf1
              refine start_ (n := 19) (S := fun W' => W'.cell? ⟨w.heap.size, 0, none⟩ = some (.slice A0 l.length c0) ∧ W'.cell? ⟨w.heap.size, 1, none⟩ = some (.slice A1 ts.length c1) ∧ W'.cell? ⟨w.heap.size + 1, 0, none⟩ = some (.int .i64 q0) ∧ W'.cell? ⟨w.heap.size + 1 + 1, 0, none⟩ = some (.int .i64 a0)) (ds := [17]) #[false, false, false, false, false, false, false, false, false, false, false, false, false, false, false, false, false, false, false] (by kernel_rfl) rfl rfl ⟨k0, k1, k2, k3⟩ (fun hHeld => ?_); refine with_tabW rt7_tab rt7_bits (fun HT_ HW_ => ?_)
              generalize x3.drew = wd_ at k0 k1 k2 k3 BD YD0 YD1 hHeld ⊢
              refine pure_ (i := 1) (N := some 61) (v := ?_) (a' := ?_) #[false, true, false, false, false, false, false, false, false, false, false, false, false, false, false, false, false, false, false] rfl rfl (any_of HT_.out (by kernel_rfl)) (fun _ _ _ h => h) (Or.inl ⟨by rfl, ?_⟩) ?_ ?_
              rotate_left
              · intro w'
                go_simp
                with_reducible rfl
              rotate_left
              · simp only [Act.put, List.setIfInBounds_toArray, List.set_cons_zero, List.set_cons_succ]
                rfl
              refine pure_ (i := 2) (N := some 62) (v := ?_) (a' := ?_) #[false, true, true, false, false, false, false, false, false, false, false, false, false, false, false, false, false, false, false] rfl rfl (any_of HT_.out (by kernel_rfl)) (fun _ _ _ h => h) (Or.inl ⟨by rfl, ?_⟩) ?_ ?_
              rotate_left
              · intro w'
                go_simp
                with_reducible rfl
              rotate_left
              · simp only [Act.put, List.setIfInBounds_toArray, List.set_cons_zero, List.set_cons_succ]
                rfl
              refine pure_ (i := 3) (N := some 63) (v := ?_) (a' := ?_) #[false, true, true, true, false, false, false, false, false, false, false, false, false, false, false, false, false, false, false] rfl rfl (any_of HT_.out (by kernel_rfl)) (fun _ _ _ h => h) (Or.inl ⟨by rfl, ?_⟩) ?_ ?_
              rotate_left
              · intro w'
                go_simp
                with_reducible rfl
              rotate_left
              · simp only [Act.put, List.setIfInBounds_toArray, List.set_cons_zero, List.set_cons_succ]
                rfl
              refine take_ (i := 0) (N := some 60) (v := ?_) (a' := ?_) #[true, true, true, true, false, false, false, false, false, false, false, false, false, false, false, false, false, false, false] rfl rfl (take_ofW HT_.out HW_.out (by kernel_rfl)) (fun _ _ _ h => h) (Or.inl ⟨by rfl, ?_⟩) hHeld ?_ ?_
              rotate_left
              · rintro w' ⟨s0, s1, s2, s3⟩
                go_simp
                with_reducible rfl
              rotate_left
              · simp only [Act.put, List.setIfInBounds_toArray, List.set_cons_zero, List.set_cons_succ]
                rfl
              refine take_ (i := 4) (N := some 64) (v := ?_) (a' := ?_) #[true, true, true, true, true, false, false, false, false, false, false, false, false, false, false, false, false, false, false] rfl rfl (take_ofW HT_.out HW_.out (by kernel_rfl)) (fun _ _ _ h => h) (Or.inl ⟨by rfl, ?_⟩) hHeld ?_ ?_
              rotate_left
              · rintro w' ⟨s0, s1, s2, s3⟩
                go_simp
                with_reducible rfl
              rotate_left
              · simp only [Act.put, List.setIfInBounds_toArray, List.set_cons_zero, List.set_cons_succ]
                rfl
              refine pure_ (i := 5) (N := some 65) (v := ?_) (a' := ?_) #[true, true, true, true, true, true, false, false, false, false, false, false, false, false, false, false, false, false, false] rfl rfl (any_of HT_.out (by kernel_rfl)) (fun _ _ _ h => h) (Or.inl ⟨by rfl, ?_⟩) ?_ ?_
              rotate_left
              · intro w'
                go_simp
                with_reducible rfl
              rotate_left
              · simp only [Act.put, List.setIfInBounds_toArray, List.set_cons_zero, List.set_cons_succ]
                rfl
              refine pure_ (i := 6) (N := some 66) (v := ?_) (a' := ?_) #[true, true, true, true, true, true, true, false, false, false, false, false, false, false, false, false, false, false, false] rfl rfl (any_of HT_.out (by kernel_rfl)) (fun _ _ _ h => h) (Or.inl ⟨by rfl, ?_⟩) ?_ ?_
              rotate_left
              · intro w'
                go_simp
                with_reducible rfl
              rotate_left
              · simp only [Act.put, List.setIfInBounds_toArray, List.set_cons_zero, List.set_cons_succ]
                rfl
              refine pure_ (i := 7) (N := some 67) (v := ?_) (a' := ?_) #[true, true, true, true, true, true, true, true, false, false, false, false, false, false, false, false, false, false, false] rfl rfl (any_of HT_.out (by kernel_rfl)) (fun _ _ _ h => h) (Or.inl ⟨by rfl, ?_⟩) ?_ ?_
              rotate_left
              · intro w'
                go_simp
                with_reducible rfl
              rotate_left
              · simp only [Act.put, List.setIfInBounds_toArray, List.set_cons_zero, List.set_cons_succ]
                rfl
              refine pure_ (i := 8) (N := some 68) (v := ?_) (a' := ?_) #[true, true, true, true, true, true, true, true, true, false, false, false, false, false, false, false, false, false, false] rfl rfl (any_of HT_.out (by kernel_rfl)) (fun _ _ _ h => h) (Or.inl ⟨by rfl, ?_⟩) ?_ ?_
              rotate_left
              · intro w'
                go_simp
                with_reducible rfl
              rotate_left
              · simp only [Act.put, List.setIfInBounds_toArray, List.set_cons_zero, List.set_cons_succ]
                rfl
              refine take_ (i := 9) (N := some 69) (v := ?_) (a' := ?_) #[true, true, true, true, true, true, true, true, true, true, false, false, false, false, false, false, false, false, false] rfl rfl (take_ofW HT_.out HW_.out (by kernel_rfl)) (fun _ _ _ h => h) (Or.inl ⟨by rfl, ?_⟩) hHeld ?_ ?_
              rotate_left
              · rintro w' ⟨s0, s1, s2, s3⟩
                go_simp
                with_reducible rfl
              rotate_left
              · simp only [Act.put, List.setIfInBounds_toArray, List.set_cons_zero, List.set_cons_succ]
                rfl
              refine one_ (i := 10) (N := some 70) #[true, true, true, true, true, true, true, true, true, true, true, false, false, false, false, false, false, false, false] rfl rfl (one_of HT_.out (by kernel_rfl)) (by decide) (fun K hK => ?_)
              refine goes_ Try.func35 (by kernel_rfl) rfl #[.int .i64 q0] (by rfl) rfl rfl (by (try simp only [List.map_toArray, List.map_cons, List.map_nil]); first | done | rfl) ?_
              refine (deadwoodref09_Reads.calls q0 false _ RQ.out).mono ?_
              rintro e_ wq1 ⟨rfl, hd_⟩
              have hb : Below wd_.heap.size wd_ wq1 := by obtain ⟨n_, rfl⟩ := hd_.out; exact pw_below_drewN (Below.refl _ _) n_
              have hHeld2 := hHeld
              obtain ⟨t0, t1, t2, t3⟩ := hHeld2
              have HS0_ := pw_cell_below hb t0
              have HS1_ := pw_cell_below hb t1
              have HS2_ := pw_cell_below hb t2
              have HS3_ := pw_cell_below hb t3
              have BW := Aside0.mk (BD.out.below hb)
              have YW0 := Aside0.mk (Kd.V_below YD0.out hb)
              have YW1 := Aside0.mk (Kd.V_below YD1.out hb)
              have zz := BW.out
              have z0 := (zz.cell 0 0 rfl).trans rfl
              have z1 := (zz.cell 0 1 rfl).trans rfl
              have zf0 := zz.frz 0 0 rfl
              have zf1 := zz.frz 0 1 rfl
              clear zz
              clear hd_
              refine ⟨_, rfl, ?_⟩
              refine hK.out _ _ ⟨HS0_, HS1_, HS2_, HS3_⟩ (fun hHeld => ?_)
              clear hK K
              refine norm_ (a' := ?_) ?_ ?_
              rotate_left
              · show Act.put _ (some 70) _ = _
                simp only [Act.put, List.setIfInBounds_toArray, List.set_cons_zero, List.set_cons_succ]
                rfl
              refine pure_ (i := 11) (N := some 71) (v := ?_) (a' := ?_) #[true, true, true, true, true, true, true, true, true, true, true, true, false, false, false, false, false, false, false] rfl rfl (any_of HT_.out (by kernel_rfl)) (fun _ _ _ h => h) (Or.inl ⟨by rfl, ?_⟩) ?_ ?_
              rotate_left
              · intro w'
                go_simp
                with_reducible rfl
              rotate_left
              · simp only [Act.put, List.setIfInBounds_toArray, List.set_cons_zero, List.set_cons_succ]
                rfl
              refine pure_ (i := 12) (N := some 72) (v := ?_) (a' := ?_) #[true, true, true, true, true, true, true, true, true, true, true, true, true, false, false, false, false, false, false] rfl rfl (any_of HT_.out (by kernel_rfl)) (fun _ _ _ h => h) (Or.inl ⟨by rfl, ?_⟩) ?_ ?_
              rotate_left
              · intro w'
                go_simp
                with_reducible rfl
              rotate_left
              · simp only [Act.put, List.setIfInBounds_toArray, List.set_cons_zero, List.set_cons_succ]
                rfl
              refine pure_ (i := 13) (N := some 73) (v := undef) (a' := ?_) #[true, true, true, true, true, true, true, true, true, true, true, true, true, true, false, false, false, false, false] rfl rfl (any_of HT_.out (by kernel_rfl)) (fun _ _ _ h => h) (Or.inr ⟨by rfl, rfl⟩) ?_ ?_
              rotate_left
              · simp only [Act.put, List.setIfInBounds_toArray, List.set_cons_zero, List.set_cons_succ]
                rfl
              refine pure_ (i := 14) (N := some 74) (v := undef) (a' := ?_) #[true, true, true, true, true, true, true, true, true, true, true, true, true, true, true, false, false, false, false] rfl rfl (any_of HT_.out (by kernel_rfl)) (fun _ _ _ h => h) (Or.inr ⟨by rfl, rfl⟩) ?_ ?_
              rotate_left
              · simp only [Act.put, List.setIfInBounds_toArray, List.set_cons_zero, List.set_cons_succ]
                rfl
              refine pure_ (i := 15) (N := some 75) (v := undef) (a' := ?_) #[true, true, true, true, true, true, true, true, true, true, true, true, true, true, true, true, false, false, false] rfl rfl (any_of HT_.out (by kernel_rfl)) (fun _ _ _ h => h) (Or.inr ⟨by rfl, rfl⟩) ?_ ?_
              rotate_left
              · simp only [Act.put, List.setIfInBounds_toArray, List.set_cons_zero, List.set_cons_succ]
                rfl
              refine pure_ (i := 16) (N := some 76) (v := ?_) (a' := ?_) #[true, true, true, true, true, true, true, true, true, true, true, true, true, true, true, true, true, false, false] rfl rfl (any_of HT_.out (by kernel_rfl)) (fun _ _ _ h => h) (Or.inl ⟨by rfl, ?_⟩) ?_ ?_
              rotate_left
              · intro w'
                go_simp
                with_reducible rfl
              rotate_left
              · simp only [Act.put, List.setIfInBounds_toArray, List.set_cons_zero, List.set_cons_succ]
                rfl
              refine last_ (i := 17) (N := none) #[true, true, true, true, true, true, true, true, true, true, true, true, true, true, true, true, true, true, false] rfl rfl (one_of HT_.out (by kernel_rfl)) (by decide) (fun K hK => ?_)
              refine skip_ (w1 := ?_) (by rfl) rfl ?_ ?_
              rotate_left
              · go_simp
                with_reducible rfl
              refine hK.out _ _ ?_
              clear hK K
              refine pure_ (i := 18) (N := some 9) (v := ?_) (a' := ?_) #[true, true, true, true, true, true, true, true, true, true, true, true, true, true, true, true, true, true, true] rfl rfl (any_of HT_.out (by kernel_rfl)) (fun _ _ _ h => h) (Or.inl ⟨by rfl, ?_⟩) ?_ ?_
              rotate_left
              · intro w'
                go_simp
                with_reducible rfl
              rotate_left
              · simp only [Act.put, List.setIfInBounds_toArray, List.set_cons_zero, List.set_cons_succ]
                rfl
              refine done_ (done_of HT_.out (by kernel_rfl)) ?_
              go_wp2
              all_goals first | refine fin2 (i := 0) (hi := w.heap.size + 4) BW.out rfl (by omega) ?_ | refine fin2d (i := 0) (hi := w.heap.size + 4) BW.out rfl (by omega) ?_ | refine fin2n (i := 0) (hi := w.heap.size + 4) BW.out rfl (by omega) ?_
              all_goals
                intro Wf MF OF
                have MF2 := Aside0.mk MF
                have OF2 := Aside0.mk OF
                clear MF OF
                go_wp2
                refine bodyPost_ret (results_ct rfl _ _ (w.heap.size + 1 + 1 + 1) 31 _ (0, 0) _ rfl (MF2.out.get 0 rfl) Try.underlying31 rfl (by kernel_rfl)) rfl ?_
                rw [TB.out, T1.out, sel_f, sel_f]
                exact ⟨_, _, rfl, Kd.V_mono (OF2.out.V YW0.out (fun k hk => .inl hk.2)) (fun k hk => .inl hk.1), Kd.V_mono (OF2.out.V YW1.out (fun k hk => .inl hk.2)) (fun k hk => .inl hk.1), MF2.out.b⟩
            | true =>
              rw [hr] at RQ
              by_cases g8 : r3 = 8
              · have e8 : (r3 != 8) = false := bne_eq_false_iff_eq.2 g8
                have e8b : (r3 == 8) = true := beq_iff_eq.2 g8
                have TB := Aside0.mk (show toldB q0 a0 a1 a2 a3 a4 r3 r4 r5 r6 r7 = false by rw [told_bare, T1.out, if_neg (by decide)]; rw [hba, if_pos rfl, if_neg g6, if_pos g7, hr, decide_eq_false (fun h => h g8)]; rfl)
                clear hba g6 g7 hr g8
                go_upto_region 7 with (fail)
                go_region_law (go_simp; go_at_call 35; refine (deadwoodref09_Reads.calls q0 true _ RQ.out).mono ?_; rintro e w5 ⟨rfl, n5, rfl⟩)
                all_goals first | refine fin2 (i := 0) (hi := w.heap.size + 4) (B3.out.below (pw_below_drewN (Below.refl _ _) (1 + n5))) rfl (by omega) ?_ | refine fin2d (i := 0) (hi := w.heap.size + 4) (B3.out.below (pw_below_drewN (Below.refl _ _) (1 + n5))) rfl (by omega) ?_ | refine fin2n (i := 0) (hi := w.heap.size + 4) (B3.out.below (pw_below_drewN (Below.refl _ _) (1 + n5))) rfl (by omega) ?_
                all_goals
                  intro Wf MF OF
                  have MF2 := Aside0.mk MF
                  have OF2 := Aside0.mk OF
                  clear MF OF
                  go_wp2
                  refine bodyPost_ret (results_ct rfl _ _ (w.heap.size + 1 + 1 + 1) 31 _ (0, 0) _ rfl (MF2.out.get 0 rfl) Try.underlying31 rfl (by kernel_rfl)) rfl ?_
                  rw [TB.out, T1.out, sel_f, sel_f]
                  exact ⟨_, _, rfl, Kd.V_mono (OF2.out.V (Kd.V_drewN Y0.out _) (fun k hk => .inl hk.2)) (fun k hk => .inl hk.1), Kd.V_mono (OF2.out.V (Kd.V_drewN Y1.out _) (fun k hk => .inl hk.2)) (fun k hk => .inl hk.1), MF2.out.b⟩
              · have e8 : (r3 != 8) = true := by simpa using g8
                have e8b : (r3 == 8) = false := beq_eq_false_iff_ne.2 g8
                have TB := Aside0.mk (show toldB q0 a0 a1 a2 a3 a4 r3 r4 r5 r6 r7 = true by rw [told_bare, T1.out, if_neg (by decide)]; rw [hba, if_pos rfl, if_neg g6, if_pos g7, hr, decide_eq_true g8]; rfl)
                clear hba g6 g7 hr g8
                go_upto_region 7 with (fail)
                go_region_law (go_simp; go_at_call 35; refine (deadwoodref09_Reads.calls q0 true _ RQ.out).mono ?_; rintro e w5 ⟨rfl, n5, rfl⟩)
                all_goals first | refine fin2 (i := 0) (hi := w.heap.size + 4) (B3.out.below (pw_below_drewN (Below.refl _ _) (1 + n5))) rfl (by omega) ?_ | refine fin2d (i := 0) (hi := w.heap.size + 4) (B3.out.below (pw_below_drewN (Below.refl _ _) (1 + n5))) rfl (by omega) ?_ | refine fin2n (i := 0) (hi := w.heap.size + 4) (B3.out.below (pw_below_drewN (Below.refl _ _) (1 + n5))) rfl (by omega) ?_
                all_goals
                  intro Wf MF OF
                  have MF2 := Aside0.mk MF
                  have OF2 := Aside0.mk OF
                  clear MF OF
                  go_wp2
                  refine bodyPost_ret (results_ct rfl _ _ (w.heap.size + 1 + 1 + 1) 31 _ (0, 0) _ rfl (MF2.out.get 0 rfl) Try.underlying31 rfl (by kernel_rfl)) rfl ?_
                  rw [TB.out, T1.out, sel_f, sel_f]
                  exact ⟨_, _, rfl, Kd.V_mono (OF2.out.V (Kd.V_drewN Y0.out _) (fun k hk => .inl hk.2)) (fun k hk => .inl hk.1), Kd.V_mono (OF2.out.V (Kd.V_drewN Y1.out _) (fun k hk => .inl hk.2)) (fun k hk => .inl hk.1), MF2.out.b⟩
          · have e7 : (a0 == 7) = false := beq_eq_false_iff_ne.2 g7
            have TB := Aside0.mk (show toldB q0 a0 a1 a2 a3 a4 r3 r4 r5 r6 r7 = false by rw [told_bare, T1.out, if_neg (by decide)]; rw [hba, if_pos rfl, if_neg g6, if_neg g7])
            clear hba g6 g7
            go_upto_region 7 with (fail)
            have mixed : Try.prog.follows Departure.mixedOrders = true := by kernel_rfl
            have k0 : x3.drew.cell? ⟨w.heap.size, 0, none⟩ = some (.slice A0 l.length c0) := (B3.out.cell 3 0 rfl).trans rfl
            have k1 : x3.drew.cell? ⟨w.heap.size, 1, none⟩ = some (.slice A1 ts.length c1) := (B3.out.cell 3 1 rfl).trans rfl
            have k2 : x3.drew.cell? ⟨w.heap.size + 1, 0, none⟩ = some (.int .i64 q0) := (B3.out.cell 2 0 rfl).trans rfl
            have k3 : x3.drew.cell? ⟨w.heap.size + 1 + 1, 0, none⟩ = some (.int .i64 a0) := (B3.out.cell 1 0 rfl).trans rfl
            have BD := Aside0.mk B3.out.drew
            have YD0 := Aside0.mk (Kd.V_drew Y0.out)
            have YD1 := Aside0.mk (Kd.V_drew Y1.out)
            clear a_0 q_0 r_0 a_1 q_1 r_1 a_2 q_2 r_2 a_3 q_3 r_3 a_4 q_4 r_4 s0 s1 n_0 n_1 z0 z1 zf0 zf1
            refine start_ (n := 19) (S := fun W' => W'.cell? ⟨w.heap.size, 0, none⟩ = some (.slice A0 l.length c0) ∧ W'.cell? ⟨w.heap.size, 1, none⟩ = some (.slice A1 ts.length c1) ∧ W'.cell? ⟨w.heap.size + 1, 0, none⟩ = some (.int .i64 q0) ∧ W'.cell? ⟨w.heap.size + 1 + 1, 0, none⟩ = some (.int .i64 a0)) (ds := [17]) #[false, false, false, false, false, false, false, false, false, false, false, false, false, false, false, false, false, false, false] (by kernel_rfl) rfl rfl ⟨k0, k1, k2, k3⟩ (fun hHeld => ?_); refine with_tabW rt7_tab rt7_bits (fun HT_ HW_ => ?_)
            generalize x3.drew = wd_ at k0 k1 k2 k3 BD YD0 YD1 hHeld ⊢
            have zz := BD.out
            have z0 := (zz.cell 0 0 rfl).trans rfl
            have z1 := (zz.cell 0 1 rfl).trans rfl
            have zf0 := zz.frz 0 0 rfl
            have zf1 := zz.frz 0 1 rfl
            clear zz
            refine pure_ (i := 1) (N := some 61) (v := ?_) (a' := ?_) #[false, true, false, false, false, false, false, false, false, false, false, false, false, false, false, false, false, false, false] rfl rfl (any_of HT_.out (by kernel_rfl)) (fun _ _ _ h => h) (Or.inl ⟨by rfl, ?_⟩) ?_ ?_
            rotate_left
            · intro w'
              go_simp
              with_reducible rfl
            rotate_left
            · simp only [Act.put, List.setIfInBounds_toArray, List.set_cons_zero, List.set_cons_succ]
              rfl
            refine pure_ (i := 2) (N := some 62) (v := ?_) (a' := ?_) #[false, true, true, false, false, false, false, false, false, false, false, false, false, false, false, false, false, false, false] rfl rfl (any_of HT_.out (by kernel_rfl)) (fun _ _ _ h => h) (Or.inl ⟨by rfl, ?_⟩) ?_ ?_
            rotate_left
            · intro w'
              go_simp
              with_reducible rfl
            rotate_left
            · simp only [Act.put, List.setIfInBounds_toArray, List.set_cons_zero, List.set_cons_succ]
              rfl
            refine pure_ (i := 3) (N := some 63) (v := ?_) (a' := ?_) #[false, true, true, true, false, false, false, false, false, false, false, false, false, false, false, false, false, false, false] rfl rfl (any_of HT_.out (by kernel_rfl)) (fun _ _ _ h => h) (Or.inl ⟨by rfl, ?_⟩) ?_ ?_
            rotate_left
            · intro w'
              go_simp
              with_reducible rfl
            rotate_left
            · simp only [Act.put, List.setIfInBounds_toArray, List.set_cons_zero, List.set_cons_succ]
              rfl
            refine take_ (i := 0) (N := some 60) (v := ?_) (a' := ?_) #[true, true, true, true, false, false, false, false, false, false, false, false, false, false, false, false, false, false, false] rfl rfl (take_ofW HT_.out HW_.out (by kernel_rfl)) (fun _ _ _ h => h) (Or.inl ⟨by rfl, ?_⟩) hHeld ?_ ?_
            rotate_left
            · rintro w' ⟨s0, s1, s2, s3⟩
              go_simp
              with_reducible rfl
            rotate_left
            · simp only [Act.put, List.setIfInBounds_toArray, List.set_cons_zero, List.set_cons_succ]
              rfl
            refine take_ (i := 4) (N := some 64) (v := ?_) (a' := ?_) #[true, true, true, true, true, false, false, false, false, false, false, false, false, false, false, false, false, false, false] rfl rfl (take_ofW HT_.out HW_.out (by kernel_rfl)) (fun _ _ _ h => h) (Or.inl ⟨by rfl, ?_⟩) hHeld ?_ ?_
            rotate_left
            · rintro w' ⟨s0, s1, s2, s3⟩
              go_simp
              with_reducible rfl
            rotate_left
            · simp only [Act.put, List.setIfInBounds_toArray, List.set_cons_zero, List.set_cons_succ]
              rfl
            refine pure_ (i := 5) (N := some 65) (v := ?_) (a' := ?_) #[true, true, true, true, true, true, false, false, false, false, false, false, false, false, false, false, false, false, false] rfl rfl (any_of HT_.out (by kernel_rfl)) (fun _ _ _ h => h) (Or.inl ⟨by rfl, ?_⟩) ?_ ?_
            rotate_left
            · intro w'
              go_simp
              with_reducible rfl
            rotate_left
            · simp only [Act.put, List.setIfInBounds_toArray, List.set_cons_zero, List.set_cons_succ]
              rfl
            refine pure_ (i := 6) (N := some 66) (v := ?_) (a' := ?_) #[true, true, true, true, true, true, true, false, false, false, false, false, false, false, false, false, false, false, false] rfl rfl (any_of HT_.out (by kernel_rfl)) (fun _ _ _ h => h) (Or.inl ⟨by rfl, ?_⟩) ?_ ?_
            rotate_left
            · intro w'
              go_simp
              with_reducible rfl
            rotate_left
            · simp only [Act.put, List.setIfInBounds_toArray, List.set_cons_zero, List.set_cons_succ]
              rfl
            refine pure_ (i := 7) (N := some 67) (v := ?_) (a' := ?_) #[true, true, true, true, true, true, true, true, false, false, false, false, false, false, false, false, false, false, false] rfl rfl (any_of HT_.out (by kernel_rfl)) (fun _ _ _ h => h) (Or.inl ⟨by rfl, ?_⟩) ?_ ?_
            rotate_left
            · intro w'
              go_simp
              with_reducible rfl
            rotate_left
            · simp only [Act.put, List.setIfInBounds_toArray, List.set_cons_zero, List.set_cons_succ]
              rfl
            refine pure_ (i := 8) (N := some 68) (v := undef) (a' := ?_) #[true, true, true, true, true, true, true, true, true, false, false, false, false, false, false, false, false, false, false] rfl rfl (any_of HT_.out (by kernel_rfl)) (fun _ _ _ h => h) (Or.inr ⟨by rfl, rfl⟩) ?_ ?_
            rotate_left
            · simp only [Act.put, List.setIfInBounds_toArray, List.set_cons_zero, List.set_cons_succ]
              rfl
            refine pure_ (i := 9) (N := some 69) (v := undef) (a' := ?_) #[true, true, true, true, true, true, true, true, true, true, false, false, false, false, false, false, false, false, false] rfl rfl (any_of HT_.out (by kernel_rfl)) (fun _ _ _ h => h) (Or.inr ⟨by rfl, rfl⟩) ?_ ?_
            rotate_left
            · simp only [Act.put, List.setIfInBounds_toArray, List.set_cons_zero, List.set_cons_succ]
              rfl
            refine pure_ (i := 10) (N := some 70) (v := undef) (a' := ?_) #[true, true, true, true, true, true, true, true, true, true, true, false, false, false, false, false, false, false, false] rfl rfl (any_of HT_.out (by kernel_rfl)) (fun _ _ _ h => h) (Or.inr ⟨by rfl, rfl⟩) ?_ ?_
            rotate_left
            · simp only [Act.put, List.setIfInBounds_toArray, List.set_cons_zero, List.set_cons_succ]
              rfl
            refine pure_ (i := 11) (N := some 71) (v := ?_) (a' := ?_) #[true, true, true, true, true, true, true, true, true, true, true, true, false, false, false, false, false, false, false] rfl rfl (any_of HT_.out (by kernel_rfl)) (fun _ _ _ h => h) (Or.inl ⟨by rfl, ?_⟩) ?_ ?_
            rotate_left
            · intro w'
              go_simp
              with_reducible rfl
            rotate_left
            · simp only [Act.put, List.setIfInBounds_toArray, List.set_cons_zero, List.set_cons_succ]
              rfl
            refine pure_ (i := 12) (N := some 72) (v := ?_) (a' := ?_) #[true, true, true, true, true, true, true, true, true, true, true, true, true, false, false, false, false, false, false] rfl rfl (any_of HT_.out (by kernel_rfl)) (fun _ _ _ h => h) (Or.inl ⟨by rfl, ?_⟩) ?_ ?_
            rotate_left
            · intro w'
              go_simp
              with_reducible rfl
            rotate_left
            · simp only [Act.put, List.setIfInBounds_toArray, List.set_cons_zero, List.set_cons_succ]
              rfl
            refine pure_ (i := 13) (N := some 73) (v := undef) (a' := ?_) #[true, true, true, true, true, true, true, true, true, true, true, true, true, true, false, false, false, false, false] rfl rfl (any_of HT_.out (by kernel_rfl)) (fun _ _ _ h => h) (Or.inr ⟨by rfl, rfl⟩) ?_ ?_
            rotate_left
            · simp only [Act.put, List.setIfInBounds_toArray, List.set_cons_zero, List.set_cons_succ]
              rfl
            refine pure_ (i := 14) (N := some 74) (v := undef) (a' := ?_) #[true, true, true, true, true, true, true, true, true, true, true, true, true, true, true, false, false, false, false] rfl rfl (any_of HT_.out (by kernel_rfl)) (fun _ _ _ h => h) (Or.inr ⟨by rfl, rfl⟩) ?_ ?_
            rotate_left
            · simp only [Act.put, List.setIfInBounds_toArray, List.set_cons_zero, List.set_cons_succ]
              rfl
            refine pure_ (i := 15) (N := some 75) (v := undef) (a' := ?_) #[true, true, true, true, true, true, true, true, true, true, true, true, true, true, true, true, false, false, false] rfl rfl (any_of HT_.out (by kernel_rfl)) (fun _ _ _ h => h) (Or.inr ⟨by rfl, rfl⟩) ?_ ?_
            rotate_left
            · simp only [Act.put, List.setIfInBounds_toArray, List.set_cons_zero, List.set_cons_succ]
              rfl
            refine pure_ (i := 16) (N := some 76) (v := ?_) (a' := ?_) #[true, true, true, true, true, true, true, true, true, true, true, true, true, true, true, true, true, false, false] rfl rfl (any_of HT_.out (by kernel_rfl)) (fun _ _ _ h => h) (Or.inl ⟨by rfl, ?_⟩) ?_ ?_
            rotate_left
            · intro w'
              go_simp
              with_reducible rfl
            rotate_left
            · simp only [Act.put, List.setIfInBounds_toArray, List.set_cons_zero, List.set_cons_succ]
              rfl
            refine last_ (i := 17) (N := none) #[true, true, true, true, true, true, true, true, true, true, true, true, true, true, true, true, true, true, false] rfl rfl (one_of HT_.out (by kernel_rfl)) (by decide) (fun K hK => ?_)
            refine skip_ (w1 := ?_) (by rfl) rfl ?_ ?_
            rotate_left
            · go_simp
              with_reducible rfl
            refine hK.out _ _ ?_
            clear hK K
            refine pure_ (i := 18) (N := some 9) (v := ?_) (a' := ?_) #[true, true, true, true, true, true, true, true, true, true, true, true, true, true, true, true, true, true, true] rfl rfl (any_of HT_.out (by kernel_rfl)) (fun _ _ _ h => h) (Or.inl ⟨by rfl, ?_⟩) ?_ ?_
            rotate_left
            · intro w'
              go_simp
              with_reducible rfl
            rotate_left
            · simp only [Act.put, List.setIfInBounds_toArray, List.set_cons_zero, List.set_cons_succ]
              rfl
            refine done_ (done_of HT_.out (by kernel_rfl)) ?_
            go_wp2
            all_goals first | refine fin2 (i := 0) (hi := w.heap.size + 4) BD.out rfl (by omega) ?_ | refine fin2d (i := 0) (hi := w.heap.size + 4) BD.out rfl (by omega) ?_ | refine fin2n (i := 0) (hi := w.heap.size + 4) BD.out rfl (by omega) ?_
            all_goals
              intro Wf MF OF
              have MF2 := Aside0.mk MF
              have OF2 := Aside0.mk OF
              clear MF OF
              go_wp2
              refine bodyPost_ret (results_ct rfl _ _ (w.heap.size + 1 + 1 + 1) 31 _ (0, 0) _ rfl (MF2.out.get 0 rfl) Try.underlying31 rfl (by kernel_rfl)) rfl ?_
              rw [TB.out, T1.out, sel_f, sel_f]
              exact ⟨_, _, rfl, Kd.V_mono (OF2.out.V YD0.out (fun k hk => .inl hk.2)) (fun k hk => .inl hk.1), Kd.V_mono (OF2.out.V YD1.out (fun k hk => .inl hk.2)) (fun k hk => .inl hk.1), MF2.out.b⟩
end Go.Proofs.Ytkkneaefjahihaa.ModT
