/- What any calls of any threads are answered, one behind the other, and the state behind each, is the document's: the law's walk. -/
import Derived.Test.YtkkneaefjahihaaZPureMod
set_option linter.unusedVariables false
set_option linter.unusedSimpArgs false
namespace Go.Proofs.Ytkkneaefjahihaa.ModL
open Go Go.RowKit Go.Proofs.YtkkneaefjahihaaW.PrintWords Go.Proofs.YtkkneaefjahihaaW.PrintLast Go.Proofs.YtkkneaefjahihaaW.PrintMore Go.Proofs.Ytkkneaefjahihaa.PModelTold Go.Proofs.Ytkkneaefjahihaa.GRow Go.Proofs.Ytkkneaefjahihaa.ModRec Go.Proofs.Ytkkneaefjahihaa.Num Go.Proofs.Ytkkneaefjahihaa.Bxs Go.Proofs.Ytkkneaefjahihaa.ModW Go.Proofs.Ytkkneaefjahihaa.ModR Go.Proofs.Ytkkneaefjahihaa.Pure
section
variable {α : Type} {d : Kd α} {e b b' : Nat} {W : World} {ok : Nat → Prop} {v : Value} {xs : List α}
theorem rb (h : Kd.V d e W b ok v xs) : Kd.V d e W b' ok v xs := h
end
theorem new_one (w : World) : Calls Try.prog 8 #[.int .i64 1] w fun e w' => ∃ v0_ v1_ : Value, e = .returned (.agg #[v0_, v1_]) ∧ Kd.V k49 49 w' w.heap.size (fun k_ => (w.heap.size ≤ k_)) v0_ [] ∧ Kd.V k62 62 w' w.heap.size (fun k_ => (w.heap.size ≤ k_)) v1_ [z62] ∧ Below w.heap.size w w' := new_calls 1 w
set_option maxHeartbeats 4000000 in
set_option maxRecDepth 100000 in
theorem lives_true (w : World) : Calls Try.prog 7 #[] w fun e w' => e = .returned (.bool true) ∧ Below w.heap.size w w' := by
  have hu27 := Try.underlying27
  have hu38 := Try.underlying38
  have hu34 := Try.underlying34
  have D1 := Aside0.mk (show model_State_Do.f 5000 [] [z62] 0 13 0 0 0 0 = some ([], [⟨true, false, [], 0⟩], 0, 0, 0, 0, []) by kernel_rfl)
  have D2 := Aside0.mk (show model_State_Do.f 5000 [] [⟨true, false, [], 0⟩] 0 0 5 1 0 0 = some ([⟨5, 1⟩], [⟨true, false, [], 0⟩], 0, 0, 0, 0, []) by kernel_rfl)
  have D3 := Aside0.mk (show model_State_Do.f 5000 [⟨5, 1⟩] [⟨true, false, [], 0⟩] 0 2 5 0 0 0 = some ([⟨5, 1⟩], [⟨true, false, [], 0⟩], 1, 5, 1, 0, []) by kernel_rfl)
  generalize ([⟨true, false, [], 0⟩] : List S62) = t1 at D1 D2 D3
  generalize ([⟨5, 1⟩] : List S49) = l2 at D2 D3
  generalize hz : ([z62] : List S62) = t0 at D1
  generalize hl : ([] : List S49) = l0 at D1 D2 D3
  go_enter Try.func7, Try.ntmps7
  go_wp2_with fail
  refine (new_one w).mono ?_
  rintro e w1 ⟨v0, v1, rfl, V0, V1, hb1⟩
  rw [hl] at V0
  rw [hz] at V1
  have HZ := Aside0.mk hz
  have HL := Aside0.mk hl
  clear hz hl
  obtain ⟨A0, c0, rfl⟩ := Kd.V_slice V0
  obtain ⟨A1, c1, rfl⟩ := Kd.V_slice V1
  have N0 := Aside0.mk V0
  have N1 := Aside0.mk V1
  have B1 := Aside0.mk hb1
  clear V0 V1 hb1
  go_wp2_with fail
  refine (mdo_calls 5000 _ A0 c0 l0 _ A1 c1 t0 0 13 0 0 0 0 _ _ _ _ _ _ _ _ (rb N0.out) (rb N1.out) D1.out).mono ?_
  rintro e w2 ⟨v0, v1, v6, rfl, V0, V1, V6, hb⟩
  obtain ⟨A2, c2, rfl⟩ := Kd.V_slice V0
  obtain ⟨A3, c3, rfl⟩ := Kd.V_slice V1
  obtain ⟨C0, d0, rfl⟩ := Kd.V_slice V6
  have N2 := Aside0.mk V0
  have N3 := Aside0.mk V1
  have HB0 := Aside0.mk hb
  clear V0 V1 V6 hb
  go_upto_region 2 with (fail)
  refine gen2 (Φ := fun X => (X.heap[w2.heap.size]? = some (.cells #[.slice A2 l0.length c2, .slice A3 t1.length c3] 27 (0, 0)) ∧ X.heap[w2.heap.size + 1]? = some (.cells #[.int .i64 0, .int .i64 0, .int .i64 0, .int .i64 0, .slice C0 l0.length d0] 34 (0, 0))) ∧ Below w2.heap.size w2 X) ⟨⟨blk_alloc (heap_alloc_new _ _) _, by have := heap_alloc_new (w2.alloc (.cells #[.slice A2 l0.length c2, .slice A3 t1.length c3] 27 (0, 0))) (.cells #[.int .i64 0, .int .i64 0, .int .i64 0, .int .i64 0, .slice C0 l0.length d0] 34 (0, 0)); rw [World.size_alloc] at this; exact this⟩, below_alloc (below_alloc (Below.refl _ _) _) _⟩ ?_
  rintro x2 ⟨⟨hs, ha⟩, hb⟩
  have S0 := Aside0.mk hs
  have Q0 := Aside0.mk ha
  have NB0 := Aside0.mk hb
  have M2 := Aside0.mk (Kd.V_below N2.out hb)
  have M3 := Aside0.mk (Kd.V_below N3.out hb)
  have s0 := (blk_cell hs 0).trans rfl
  have s1 := (blk_cell hs 1).trans rfl
  clear hs ha hb
  go_wp2_with fail
  refine (mdo_calls 5000 _ A2 c2 l0 _ A3 c3 t1 0 0 5 1 0 0 _ _ _ _ _ _ _ _ (rb M2.out) (rb M3.out) D2.out).mono ?_
  rintro e w3 ⟨v0, v1, v6, rfl, V0, V1, V6, hb⟩
  obtain ⟨A4, c4, rfl⟩ := Kd.V_slice V0
  obtain ⟨A5, c5, rfl⟩ := Kd.V_slice V1
  obtain ⟨C1, d1, rfl⟩ := Kd.V_slice V6
  have N4 := Aside0.mk V0
  have N5 := Aside0.mk V1
  have HB1 := Aside0.mk hb
  clear V0 V1 V6 hb
  clear s0 s1
  go_upto_region 3 with (fail)
  refine gen2 (Φ := fun X => (X.heap[w3.heap.size]? = some (.cells #[.slice A4 l2.length c4, .slice A5 t1.length c5] 27 (0, 0)) ∧ X.heap[w3.heap.size + 1]? = some (.cells #[.int .i64 0, .int .i64 0, .int .i64 0, .int .i64 0, .slice C1 l0.length d1] 34 (0, 0))) ∧ Below w3.heap.size w3 X) ⟨⟨blk_alloc (heap_alloc_new _ _) _, by have := heap_alloc_new (w3.alloc (.cells #[.slice A4 l2.length c4, .slice A5 t1.length c5] 27 (0, 0))) (.cells #[.int .i64 0, .int .i64 0, .int .i64 0, .int .i64 0, .slice C1 l0.length d1] 34 (0, 0)); rw [World.size_alloc] at this; exact this⟩, below_alloc (below_alloc (Below.refl _ _) _) _⟩ ?_
  rintro x3 ⟨⟨hs, ha⟩, hb⟩
  have S1 := Aside0.mk hs
  have Q1 := Aside0.mk ha
  have NB1 := Aside0.mk hb
  have M4 := Aside0.mk (Kd.V_below N4.out hb)
  have M5 := Aside0.mk (Kd.V_below N5.out hb)
  have s0 := (blk_cell hs 0).trans rfl
  have s1 := (blk_cell hs 1).trans rfl
  clear hs ha hb
  go_wp2_with fail
  refine (mdo_calls 5000 _ A4 c4 l2 _ A5 c5 t1 0 2 5 0 0 0 _ _ _ _ _ _ _ _ (rb M4.out) (rb M5.out) D3.out).mono ?_
  rintro e w4 ⟨v0, v1, v6, rfl, V0, V1, V6, hb⟩
  obtain ⟨A6, c6, rfl⟩ := Kd.V_slice V0
  obtain ⟨A7, c7, rfl⟩ := Kd.V_slice V1
  obtain ⟨C2, d2, rfl⟩ := Kd.V_slice V6
  have N6 := Aside0.mk V0
  have N7 := Aside0.mk V1
  have HB2 := Aside0.mk hb
  clear V0 V1 V6 hb
  clear s0 s1
  go_upto_region 4 with (fail)
  refine gen2 (Φ := fun X => (X.heap[w4.heap.size]? = some (.cells #[.slice A6 l2.length c6, .slice A7 t1.length c7] 27 (0, 0)) ∧ X.heap[w4.heap.size + 1]? = some (.cells #[.int .i64 1, .int .i64 5, .int .i64 1, .int .i64 0, .slice C2 l0.length d2] 34 (0, 0))) ∧ Below w4.heap.size w4 X) ⟨⟨blk_alloc (heap_alloc_new _ _) _, by have := heap_alloc_new (w4.alloc (.cells #[.slice A6 l2.length c6, .slice A7 t1.length c7] 27 (0, 0))) (.cells #[.int .i64 1, .int .i64 5, .int .i64 1, .int .i64 0, .slice C2 l0.length d2] 34 (0, 0)); rw [World.size_alloc] at this; exact this⟩, below_alloc (below_alloc (Below.refl _ _) _) _⟩ ?_
  rintro x4 ⟨⟨hs, ha⟩, hb⟩
  have S2 := Aside0.mk hs
  have Q2 := Aside0.mk ha
  have NB2 := Aside0.mk hb
  have M6 := Aside0.mk (Kd.V_below N6.out hb)
  have M7 := Aside0.mk (Kd.V_below N7.out hb)
  have s0 := (blk_cell hs 0).trans rfl
  have s1 := (blk_cell hs 1).trans rfl
  clear hs ha hb
  have F1 := blk_below (blk_below (blk_below (blk_below Q0.out HB1.out) NB1.out) HB2.out) NB2.out
  have F2 := blk_below (blk_below Q1.out HB2.out) NB2.out
  have k0 := (blk_cell F1 0).trans rfl
  have k1 := (blk_cell F2 0).trans rfl
  have k2 := (blk_cell Q2.out 0).trans rfl
  have k3 := (blk_cell Q2.out 1).trans rfl
  have k4 := (blk_cell Q2.out 2).trans rfl
  have BF := Aside0.mk (below_then (below_then (below_then (below_then (below_then (below_then B1.out B1.out.size HB0.out) (Nat.le_trans B1.out.size HB0.out.size) NB0.out) (Nat.le_trans (Nat.le_trans B1.out.size HB0.out.size) NB0.out.size) HB1.out) (Nat.le_trans (Nat.le_trans (Nat.le_trans B1.out.size HB0.out.size) NB0.out.size) HB1.out.size) NB1.out) (Nat.le_trans (Nat.le_trans (Nat.le_trans (Nat.le_trans B1.out.size HB0.out.size) NB0.out.size) HB1.out.size) NB1.out.size) HB2.out) (Nat.le_trans (Nat.le_trans (Nat.le_trans (Nat.le_trans (Nat.le_trans B1.out.size HB0.out.size) NB0.out.size) HB1.out.size) NB1.out.size) HB2.out.size) NB2.out)
  clear F1 F2 s0 s1
  go_wp2
  go_ret
  exact ⟨rfl, BF.out⟩
end Go.Proofs.Ytkkneaefjahihaa.ModL
