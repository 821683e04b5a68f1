/- What may be told: the map's, and the document's. -/
import Derived.Test.YtkkneaefjahihaaZModLd
set_option linter.unusedVariables false
set_option linter.unusedSimpArgs false
namespace Go.Proofs.Ytkkneaefjahihaa.ModT
open Go Go.RowKit Go.Proofs.YtkkneaefjahihaaW.PrintWords Go.Proofs.YtkkneaefjahihaaW.PrintLast Go.Proofs.YtkkneaefjahihaaW.PrintMore Go.Proofs.Ytkkneaefjahihaa.PModelTold Go.Proofs.Ytkkneaefjahihaa.GRow Go.Proofs.Ytkkneaefjahihaa.ModRec Go.Proofs.Ytkkneaefjahihaa.Num Go.Proofs.Ytkkneaefjahihaa.Bxs Go.Proofs.Ytkkneaefjahihaa.ModW Go.Proofs.Ytkkneaefjahihaa.ModR Go.Proofs.Ytkkneaefjahihaa.Pure Go.Proofs.Ytkkneaefjahihaa.ModL
abbrev Prs := List S49
def sameA (a0 a1 a2 a3 : Int) (a4 : Prs) (b0 b1 b2 b3 : Int) (b4 : Prs) : Bool := decide (a0 = b0 ∧ a1 = b1 ∧ a2 = b2 ∧ a3 = b3) && sameP a4 b4
def readsB (q0 : Int) : Bool := decide (3 ≤ q0 ∧ q0 ≤ 9)
/-- What may be told, of what was answered. -/
def toldB (q0 a0 a1 a2 a3 : Int) (a4 : Prs) (r3 r4 r5 r6 : Int) (r7 : Prs) : Bool :=
  if sameA a0 a1 a2 a3 a4 r3 r4 r5 r6 r7 = true then true else if sameA a0 a1 a2 a3 a4 6 0 0 0 [] = true then decide (q0 = 0) && decide (r3 = 0) else if sameA a0 a1 a2 a3 a4 7 0 0 0 [] = true then readsB q0 && decide (r3 ≠ 8) else false
def sel {α : Type} (b : Bool) (x y : α) : α := if b = true then x else y
theorem sel_t {α : Type} (x y : α) : sel true x y = x := rfl
theorem sel_f {α : Type} (x y : α) : sel false x y = y := rfl
theorem reads_eq (q0 : Int) : call_Reads.f q0 = some (readsB q0) := by
  unfold call_Reads.f readsB
  by_cases h : q0 ≥ 3
  · rw [if_pos h]; refine congrArg some ?_; rw [decide_eq_decide]; omega
  · rw [if_neg h]; exact congrArg some (decide_eq_false (by omega)).symm
theorem rreads_eq (q0 : Int) : deadwoodref09_Reads.f q0 = some (readsB q0) := by
  unfold deadwoodref09_Reads.f readsB
  by_cases h : q0 > 2
  · rw [if_pos h]; refine congrArg some ?_; rw [decide_eq_decide]; omega
  · rw [if_neg h]; exact congrArg some (decide_eq_false (by omega)).symm
theorem rsameA_eq (a0 a1 a2 a3 b0 b1 b2 b3 : Int) (l m : Prs) (hl : l.length ≤ 1000000) : deadwoodref09_Same.f 1000001 a0 a1 a2 a3 l b0 b1 b2 b3 m = some (sameA a0 a1 a2 a3 l b0 b1 b2 b3 m) := by
  unfold deadwoodref09_Same.f sameA
  by_cases h0 : a0 = b0
  · by_cases h1 : a1 = b1
    · by_cases h2 : a2 = b2
      · by_cases h3 : a3 = b3
        · rw [if_pos h0, if_pos h1, if_pos h2, if_pos h3, rsame_eq l m hl (by omega), Option.bind_some, decide_eq_true ⟨h0, h1, h2, h3⟩, Bool.true_and]
        · rw [if_pos h0, if_pos h1, if_pos h2, if_neg h3, decide_eq_false (fun h => h3 h.2.2.2), Bool.false_and]
      · rw [if_pos h0, if_pos h1, if_neg h2, decide_eq_false (fun h => h2 h.2.2.1), Bool.false_and]
    · rw [if_pos h0, if_neg h1, decide_eq_false (fun h => h1 h.2.1), Bool.false_and]
  · rw [if_neg h0, decide_eq_false (fun h => h0 h.1), Bool.false_and]
def bareB (a1 a2 a3 : Int) (a4 : Prs) : Bool := decide (a1 = 0 ∧ a2 = 0 ∧ a3 = 0 ∧ a4.length = 0)
theorem same_bare (a0 a1 a2 a3 c : Int) (a4 : Prs) : sameA a0 a1 a2 a3 a4 c 0 0 0 [] = (bareB a1 a2 a3 a4 && decide (a0 = c)) := by
  unfold sameA bareB
  cases a4 with
  | nil => simp [sameP]; by_cases h : a0 = c <;> simp [h]
  | cons x a4 => simp [sameP]
theorem told_bare (q0 a0 a1 a2 a3 : Int) (a4 : Prs) (r3 r4 r5 r6 : Int) (r7 : Prs) : toldB q0 a0 a1 a2 a3 a4 r3 r4 r5 r6 r7 = if sameA a0 a1 a2 a3 a4 r3 r4 r5 r6 r7 = true then true else if bareB a1 a2 a3 a4 = true then (if a0 = 6 then decide (q0 = 0) && decide (r3 = 0) else if a0 = 7 then readsB q0 && decide (r3 ≠ 8) else false) else false := by
  unfold toldB
  rw [same_bare, same_bare]
  cases bareB a1 a2 a3 a4 <;> simp
section
variable {R : Exit → Act → World → Prop} {e : Exit} {act : Act} {w W : World} {T b8 : Nat} {c : Array Value} {L : List Box} {u0 u1 : Value}
theorem fin2 {hi i : Nat} (M : Bxs w W L) (hj : L[i]? = some (b8, c, T)) (h8 : b8 < hi) (k : ∀ Wf, Bxs w Wf (L.set i (b8, (c.setIfInBounds 0 u0).setIfInBounds 1 u1, T)) → Out w.heap.size hi W Wf → R e act Wf) :
    R e act ((W.setCell ⟨b8, 0, none⟩ u0).setCell ⟨b8, 1, none⟩ u1) := by
  have g8 := M.ge _ (mem_of hj)
  have hl := (List.getElem?_eq_some_iff.1 hj).1
  refine k _ ((M.set i 0 u0 hj rfl).set i 1 u1 (by rw [List.getElem?_set_self hl]) ?_) (((Out.refl _ _ W).set (p := ⟨b8, 0, none⟩) u0 g8 h8).set (p := ⟨b8, 1, none⟩) u1 g8 h8)
  rw [List.set_set]
theorem fin2d {hi i : Nat} (M : Bxs w W L) (hj : L[i]? = some (b8, c, T)) (h8 : b8 < hi) (k : ∀ Wf, Bxs w Wf (L.set i (b8, (c.setIfInBounds 0 u0).setIfInBounds 1 u1, T)) → Out w.heap.size hi W Wf → R e act Wf) :
    R e act ((W.setCell ⟨b8, 0, none⟩ u0).setCell ⟨b8, 1, none⟩ u1).drew := fin2 (R := fun e a W => R e a W.drew) M hj h8 (fun Wf hB hO => k Wf.drew hB.drew hO)
theorem fin2n {hi i n : Nat} (M : Bxs w W L) (hj : L[i]? = some (b8, c, T)) (h8 : b8 < hi) (k : ∀ Wf, Bxs w Wf (L.set i (b8, (c.setIfInBounds 0 u0).setIfInBounds 1 u1, T)) → Out w.heap.size hi W Wf → R e act Wf) :
    R e act (((W.setCell ⟨b8, 0, none⟩ u0).setCell ⟨b8, 1, none⟩ u1).drew.drewN n) := fin2 (R := fun e a W => R e a (W.drew.drewN n)) M hj h8 (fun Wf hB hO => k (Wf.drew.drewN n) (hB.drew.below (pw_below_drewN (Below.refl _ _) n)) hO)
end
def rt7_T : Bool × List (List Nat × List Nat) := (true, [([], []), ([], []), ([1], [1]), ([2], [2]), ([3, 2], [2, 3]), ([4, 2], [2, 4]), ([2, 5], [2, 5]), ([6, 2], [6]), ([7], [7]), ([8, 7], [7, 8]), ([9, 7, 7], [7, 9]), ([7, 10], [7, 10]), ([11, 10], [11]), ([12], [12]), ([13, 12], [12, 13]), ([14, 12], [12, 14]), ([12, 15], [12, 15]), ([0, 12, 0], [0]), ([16, 17, 0, 1, 2, 3, 4, 5, 6, 7, 8, 9, 10, 11, 12, 13, 14, 15, 16, 17], [16])])
def rt7_B : List Nat := [0, 0, 2, 6, 14, 30, 62, 126, 254, 510, 1022, 2046, 4094, 8190, 16382, 32766, 65534, 8191, 262143]
theorem rt7_tab : rtab .any (opsOf Try.f17 7) = rt7_T := by kernel_rfl
theorem rt7_bits : waitsOk rt7_T.2 rt7_B = true := by kernel_rfl
def mt7_T : Bool × List (List Nat × List Nat) := (true, [([], []), ([], []), ([1], [1]), ([2], [2]), ([3, 3], [3]), ([4], [4]), ([5, 4], [4, 5]), ([6, 4], [4, 6]), ([4, 7], [4, 7]), ([0, 4, 0], [0]), ([8, 9, 0, 1, 2, 3, 4, 5, 6, 7, 8, 9], [8])])
def mt7_B : List Nat := [0, 0, 2, 6, 14, 30, 62, 126, 254, 31, 1023]
theorem mt7_tab : rtab .any (opsOf Try.f16 7) = mt7_T := by kernel_rfl
theorem mt7_bits : waitsOk mt7_T.2 mt7_B = true := by kernel_rfl
set_option maxHeartbeats 4000000 in
set_option maxRecDepth 100000 in
theorem mtold {k : Nat} {okx oka : Nat → Prop} {A0 A1 A3 : Option Addr} {c0 c1 c3 : Nat} {l r1 r7 a4 : Prs} {ts r2 : List S62} {t q0 q1 q2 q3 q4 r3 r4 r5 r6 a0 a1 a2 a3 : Int} {w : World} (h0 : Kd.V k49 49 w w.heap.size okx (.slice A0 l.length c0) l) (h1 : Kd.V k62 62 w w.heap.size okx (.slice A1 ts.length c1) ts) (h3 : Kd.V k49 49 w w.heap.size oka (.slice A3 a4.length c3) a4) (ha : a4.length ≤ 1000000) (h : model_State_Do.f k l ts t q0 q1 q2 q3 q4 = some (r1, r2, r3, r4, r5, r6, r7)) :
    Calls Try.prog 16 #[.agg #[.slice A0 l.length c0, .slice A1 ts.length c1], .int .i64 t, .agg #[.int .i64 q0, .int .i64 q1, .int .i64 q2, .int .i64 q3, .int .i64 q4], .agg #[.int .i64 a0, .int .i64 a1, .int .i64 a2, .int .i64 a3, .slice A3 a4.length c3]] w fun e w' => ∃ v0_ v1_ : Value, e = .returned (.tuple #[.agg #[v0_, v1_], .bool (toldB q0 a0 a1 a2 a3 a4 r3 r4 r5 r6 r7)]) ∧ Kd.V k49 49 w' 0 (fun k_ => okx k_ ∨ w.heap.size ≤ k_) v0_ (sel (sameA a0 a1 a2 a3 a4 r3 r4 r5 r6 r7) r1 l) ∧ Kd.V k62 62 w' 0 (fun k_ => okx k_ ∨ w.heap.size ≤ k_) v1_ (sel (sameA a0 a1 a2 a3 a4 r3 r4 r5 r6 r7) r2 ts) ∧ Below w.heap.size w w' := by
  have hu27 := Try.underlying27
  have hu31 := Try.underlying31
  have hu38 := Try.underlying38
  have hu34 := Try.underlying34
  have DD := Aside0.mk h
  have H0 := Aside0.mk (Kd.V_bound h0)
  have H1 := Aside0.mk (Kd.V_bound h1)
  have H3 := Aside0.mk (Kd.V_bound h3)
  have HA := Aside0.mk ha
  clear h h0 h1 h3 ha
  go_enter Try.func16, Try.ntmps16
  go_upto_region 1 with (fail)
  refine bx_gens (four w _ _ _ _ 27 38 34 27) ?_
  intro wr M SZ
  simp only [World.size_alloc] at SZ
  have B0 := Aside0.mk M
  have SZ0 := Aside0.mk SZ
  have DW := Aside0.mk (cw_do (okx := fun k => okx k ∧ k < w.heap.size) (rb (Kd.V_below H0.out M.b)) (rb (Kd.V_below H1.out M.b)) DD.out)
  clear SZ
  have a_0 := (M.cell 1 0 rfl).trans rfl
  have a_1 := (M.cell 1 1 rfl).trans rfl
  have a_2 := (M.cell 1 2 rfl).trans rfl
  have a_3 := (M.cell 1 3 rfl).trans rfl
  have a_4 := (M.cell 1 4 rfl).trans rfl
  have q_0 := (M.cell 2 0 rfl).trans rfl
  have q_1 := (M.cell 2 1 rfl).trans rfl
  have q_2 := (M.cell 2 2 rfl).trans rfl
  have q_3 := (M.cell 2 3 rfl).trans rfl
  have q_4 := (M.cell 2 4 rfl).trans rfl
  have s0 := (M.cell 3 0 rfl).trans rfl
  have s1 := (M.cell 3 1 rfl).trans rfl
  clear M
  go_wp2_with fail
  refine DW.out.mono ?_
  rintro e w1 ⟨v0, v1, v6, rfl, V0, V1, V6, hb⟩
  obtain ⟨A8, c8, rfl⟩ := Kd.V_slice V0
  obtain ⟨A9, c9, rfl⟩ := Kd.V_slice V1
  obtain ⟨A6, c6, rfl⟩ := Kd.V_slice V6
  have N0 := Aside0.mk V0
  have N1 := Aside0.mk V1
  have N6 := Aside0.mk V6
  have B1 := Aside0.mk (B0.out.below hb)
  have Z1 := Aside0.mk (show w.heap.size + 4 ≤ w1.heap.size by have := hb.size; have := SZ0.out; omega)
  have HB := Aside0.mk hb
  clear V0 V1 V6 hb a_0 a_1 a_2 a_3 a_4 q_0 q_1 q_2 q_3 q_4 s0 s1
  go_upto_region 2 with (fail)
  refine gen2 (Φ := fun X => Bxs w X ([((w.heap.size + 1 + 1 + 1), #[.slice none 0 0, .slice none 0 0], 27), (w.heap.size + 1 + 1, #[.int .i64 a0, .int .i64 a1, .int .i64 a2, .int .i64 a3, .slice A3 a4.length c3], 34), (w.heap.size + 1, #[.int .i64 q0, .int .i64 q1, .int .i64 q2, .int .i64 q3, .int .i64 q4], 38), (w.heap.size, #[.slice A0 l.length c0, .slice A1 ts.length c1], 27), (w1.heap.size + 1, #[.int .i64 r3, .int .i64 r4, .int .i64 r5, .int .i64 r6, .slice A6 r7.length c6], 34), (w1.heap.size, #[.slice A8 r1.length c8, .slice A9 r2.length c9], 27)] : List Box) ∧ Below w1.heap.size w1 X) ⟨rot (rot ((B1.out.box _ 27 rfl).box _ 34 (n := w1.heap.size + 1) (by simp))), below_alloc (below_alloc (Below.refl _ _) _) _⟩ ?_
  rintro x2 ⟨M, hb⟩
  have B2 := Aside0.mk M
  have X0 := Aside0.mk (Kd.V_below N0.out hb)
  have X1 := Aside0.mk (Kd.V_below N1.out hb)
  have X6 := Aside0.mk (Kd.V_below N6.out hb)
  have Y0 := Aside0.mk (Kd.V_below H0.out M.b)
  have Y1 := Aside0.mk (Kd.V_below H1.out M.b)
  have Y3 := Aside0.mk (Kd.V_below H3.out M.b)
  have Z2 := Aside0.mk (show w.heap.size + 4 ≤ w1.heap.size ∧ w1.heap.size + 2 ≤ x2.heap.size from ⟨Z1.out, by have := M.lt 4 rfl; omega⟩)
  clear hb N0 N1 N6
  have ng1 : ¬ w1.heap.size + 1 = (w.heap.size + 1 + 1 + 1) := by have := Z1.out; omega
  have ng2 : ¬ (w.heap.size + 1 + 1 + 1) = w1.heap.size + 1 := by have := Z1.out; omega
  have EQS1 := Aside0.mk (show call_Same.f 1000001 a0 a1 a2 a3 a4 r3 r4 r5 r6 r7 = some (sameA a0 a1 a2 a3 a4 r3 r4 r5 r6 r7) from csame_eq a0 a1 a2 a3 r3 r4 r5 r6 a4 r7 HA.out (by have := HA.out; omega))
  have EQS2 := Aside0.mk (show call_Same.f 1000001 a0 a1 a2 a3 a4 6 0 0 0 [] = some (sameA a0 a1 a2 a3 a4 6 0 0 0 []) from csame_eq a0 a1 a2 a3 6 0 0 0 a4 [] HA.out (by have := HA.out; omega))
  have EQS3 := Aside0.mk (show call_Same.f 1000001 a0 a1 a2 a3 a4 7 0 0 0 [] = some (sameA a0 a1 a2 a3 a4 7 0 0 0 []) from csame_eq a0 a1 a2 a3 7 0 0 0 a4 [] HA.out (by have := HA.out; omega))
  have a_0 := (M.cell 1 0 rfl).trans rfl
  have a_1 := (M.cell 1 1 rfl).trans rfl
  have a_2 := (M.cell 1 2 rfl).trans rfl
  have a_3 := (M.cell 1 3 rfl).trans rfl
  have a_4 := (M.cell 1 4 rfl).trans rfl
  have q_0 := (M.cell 2 0 rfl).trans rfl
  have q_1 := (M.cell 2 1 rfl).trans rfl
  have q_2 := (M.cell 2 2 rfl).trans rfl
  have q_3 := (M.cell 2 3 rfl).trans rfl
  have q_4 := (M.cell 2 4 rfl).trans rfl
  have s0 := (M.cell 3 0 rfl).trans rfl
  have s1 := (M.cell 3 1 rfl).trans rfl
  have r_0 := (M.cell 4 0 rfl).trans rfl
  have r_1 := (M.cell 4 1 rfl).trans rfl
  have r_2 := (M.cell 4 2 rfl).trans rfl
  have r_3 := (M.cell 4 3 rfl).trans rfl
  have r_4 := (M.cell 4 4 rfl).trans rfl
  have n_0 := (M.cell 5 0 rfl).trans rfl
  have n_1 := (M.cell 5 1 rfl).trans rfl
  have z0 := (M.cell 0 0 rfl).trans rfl
  have zf0 := M.frz 0 0 rfl
  have z1 := (M.cell 0 1 rfl).trans rfl
  have zf1 := M.frz 0 1 rfl
  clear M
  go_wp2_with fail
  refine (call_Same.calls 1000001 a0 a1 a2 a3 A3 c3 a4 r3 r4 r5 r6 A6 c6 r7 (sameA a0 a1 a2 a3 a4 r3 r4 r5 r6 r7) x2 (Kd.V_reads' Y3.out).2.2 (Kd.V_reads' Y3.out).2.1 (Kd.V_reads' X6.out).2.2 (Kd.V_reads' X6.out).2.1 (EQS1.out)).mono ?_
  rintro e x3 ⟨rfl, hb⟩
  have B3 := Aside0.mk (B2.out.below hb)
  have X0_ := Aside0.mk (Kd.V_below X0.out hb)
  have X1_ := Aside0.mk (Kd.V_below X1.out hb)
  have Y0_ := Aside0.mk (Kd.V_below Y0.out hb)
  have Y1_ := Aside0.mk (Kd.V_below Y1.out hb)
  have Y3_ := Aside0.mk (Kd.V_below Y3.out hb)
  have Z2_ := Aside0.mk (show w.heap.size + 4 ≤ w1.heap.size ∧ w1.heap.size + 2 ≤ x3.heap.size from ⟨Z2.out.1, Nat.le_trans Z2.out.2 hb.size⟩)
  clear X0 X1 Y0 Y1 Y3 Z2 hb a_0 q_0 r_0 a_1 q_1 r_1 a_2 q_2 r_2 a_3 q_3 r_3 a_4 q_4 r_4 s0 s1 n_0 n_1 z0 z1 zf0 zf1
  have X0 := X0_
  have X1 := X1_
  have Y0 := Y0_
  have Y1 := Y1_
  have Y3 := Y3_
  have Z2 := Z2_
  clear X0_ X1_ Y0_ Y1_ Y3_ Z2_
  have M := B3.out
  have a_0 := (M.cell 1 0 rfl).trans rfl
  have a_1 := (M.cell 1 1 rfl).trans rfl
  have a_2 := (M.cell 1 2 rfl).trans rfl
  have a_3 := (M.cell 1 3 rfl).trans rfl
  have a_4 := (M.cell 1 4 rfl).trans rfl
  have q_0 := (M.cell 2 0 rfl).trans rfl
  have q_1 := (M.cell 2 1 rfl).trans rfl
  have q_2 := (M.cell 2 2 rfl).trans rfl
  have q_3 := (M.cell 2 3 rfl).trans rfl
  have q_4 := (M.cell 2 4 rfl).trans rfl
  have s0 := (M.cell 3 0 rfl).trans rfl
  have s1 := (M.cell 3 1 rfl).trans rfl
  have r_0 := (M.cell 4 0 rfl).trans rfl
  have r_1 := (M.cell 4 1 rfl).trans rfl
  have r_2 := (M.cell 4 2 rfl).trans rfl
  have r_3 := (M.cell 4 3 rfl).trans rfl
  have r_4 := (M.cell 4 4 rfl).trans rfl
  have n_0 := (M.cell 5 0 rfl).trans rfl
  have n_1 := (M.cell 5 1 rfl).trans rfl
  have z0 := (M.cell 0 0 rfl).trans rfl
  have zf0 := M.frz 0 0 rfl
  have z1 := (M.cell 0 1 rfl).trans rfl
  have zf1 := M.frz 0 1 rfl
  clear M
  cases hs1 : sameA a0 a1 a2 a3 a4 r3 r4 r5 r6 r7 with
  | true =>
    have T1 := Aside0.mk hs1
    clear hs1
    go_wp2
    all_goals first | refine fin2 (i := 0) (hi := w.heap.size + 4) B3.out rfl (by omega) ?_ | refine fin2d (i := 0) (hi := w.heap.size + 4) B3.out rfl (by omega) ?_ | refine fin2n (i := 0) (hi := w.heap.size + 4) B3.out rfl (by omega) ?_
    all_goals
      intro Wf MF OF
      have MF2 := Aside0.mk MF
      have OF2 := Aside0.mk OF
      clear MF OF
      go_wp2
      refine bodyPost_ret (results_ct rfl _ _ (w.heap.size + 1 + 1 + 1) 27 _ (0, 0) _ rfl (MF2.out.get 0 rfl) Try.underlying27 rfl (by kernel_rfl)) rfl ?_
      rw [show toldB q0 a0 a1 a2 a3 a4 r3 r4 r5 r6 r7 = true by unfold toldB; rw [T1.out, if_pos rfl], T1.out, sel_t, sel_t]
      exact ⟨_, _, rfl, Kd.V_mono (OF2.out.V X0.out (fun k hk => by rcases hk with h | h; exact .inl h.2; exact .inr (by have := Z1.out; have := HB.out.size; have := SZ0.out; omega))) (fun k hk => by rcases hk with h | h; exact .inl h.1; exact .inr (by have := SZ0.out; omega)), Kd.V_mono (OF2.out.V X1.out (fun k hk => by rcases hk with h | h; exact .inl h.2; exact .inr (by have := Z1.out; have := HB.out.size; have := SZ0.out; omega))) (fun k hk => by rcases hk with h | h; exact .inl h.1; exact .inr (by have := SZ0.out; omega)), MF2.out.b⟩
  | false =>
    have T1 := Aside0.mk hs1
    clear hs1
    go_wp2_with fail
    refine (call_Same.calls 1000001 a0 a1 a2 a3 A3 c3 a4 6 0 0 0 none 0 ([] : Prs) (sameA a0 a1 a2 a3 a4 6 0 0 0 ([] : Prs)) x3 (Kd.V_reads' Y3.out).2.2 (Kd.V_reads' Y3.out).2.1 (Kd.C_nil _ _) (Nat.le_refl 0) (EQS2.out)).mono ?_
    rintro e x4 ⟨rfl, hb⟩
    have B4 := Aside0.mk (B3.out.below hb)
    have X0_ := Aside0.mk (Kd.V_below X0.out hb)
    have X1_ := Aside0.mk (Kd.V_below X1.out hb)
    have Y0_ := Aside0.mk (Kd.V_below Y0.out hb)
    have Y1_ := Aside0.mk (Kd.V_below Y1.out hb)
    have Y3_ := Aside0.mk (Kd.V_below Y3.out hb)
    have Z2_ := Aside0.mk (show w.heap.size + 4 ≤ w1.heap.size ∧ w1.heap.size + 2 ≤ x4.heap.size from ⟨Z2.out.1, Nat.le_trans Z2.out.2 hb.size⟩)
    clear X0 X1 Y0 Y1 Y3 Z2 hb a_0 q_0 r_0 a_1 q_1 r_1 a_2 q_2 r_2 a_3 q_3 r_3 a_4 q_4 r_4 s0 s1 n_0 n_1 z0 z1 zf0 zf1
    have X0 := X0_
    have X1 := X1_
    have Y0 := Y0_
    have Y1 := Y1_
    have Y3 := Y3_
    have Z2 := Z2_
    clear X0_ X1_ Y0_ Y1_ Y3_ Z2_
    have M := B4.out
    have a_0 := (M.cell 1 0 rfl).trans rfl
    have a_1 := (M.cell 1 1 rfl).trans rfl
    have a_2 := (M.cell 1 2 rfl).trans rfl
    have a_3 := (M.cell 1 3 rfl).trans rfl
    have a_4 := (M.cell 1 4 rfl).trans rfl
    have q_0 := (M.cell 2 0 rfl).trans rfl
    have q_1 := (M.cell 2 1 rfl).trans rfl
    have q_2 := (M.cell 2 2 rfl).trans rfl
    have q_3 := (M.cell 2 3 rfl).trans rfl
    have q_4 := (M.cell 2 4 rfl).trans rfl
    have s0 := (M.cell 3 0 rfl).trans rfl
    have s1 := (M.cell 3 1 rfl).trans rfl
    have r_0 := (M.cell 4 0 rfl).trans rfl
    have r_1 := (M.cell 4 1 rfl).trans rfl
    have r_2 := (M.cell 4 2 rfl).trans rfl
    have r_3 := (M.cell 4 3 rfl).trans rfl
    have r_4 := (M.cell 4 4 rfl).trans rfl
    have n_0 := (M.cell 5 0 rfl).trans rfl
    have n_1 := (M.cell 5 1 rfl).trans rfl
    have z0 := (M.cell 0 0 rfl).trans rfl
    have zf0 := M.frz 0 0 rfl
    have z1 := (M.cell 0 1 rfl).trans rfl
    have zf1 := M.frz 0 1 rfl
    clear M
    cases hs2 : sameA a0 a1 a2 a3 a4 6 0 0 0 [] with
    | true =>
      have T2 := Aside0.mk hs2
      clear hs2
      by_cases g0 : q0 = 0
      · have e0 : (q0 == 0) = true := beq_iff_eq.2 g0
        by_cases g3 : r3 = 0
        · have e3 : (r3 == 0) = true := beq_iff_eq.2 g3
          have TB := Aside0.mk (show toldB q0 a0 a1 a2 a3 a4 r3 r4 r5 r6 r7 = true by unfold toldB; rw [T1.out, T2.out, if_neg (by decide), if_pos rfl, decide_eq_true g0, decide_eq_true g3]; rfl)
          clear g0 g3
          go_upto_region 5 with (fail)
          go_region
          all_goals first | refine fin2 (i := 0) (hi := w.heap.size + 4) B4.out rfl (by omega) ?_ | refine fin2d (i := 0) (hi := w.heap.size + 4) B4.out rfl (by omega) ?_ | refine fin2n (i := 0) (hi := w.heap.size + 4) B4.out rfl (by omega) ?_
          all_goals
            intro Wf MF OF
            have MF2 := Aside0.mk MF
            have OF2 := Aside0.mk OF
            clear MF OF
            go_wp2
            refine bodyPost_ret (results_ct rfl _ _ (w.heap.size + 1 + 1 + 1) 27 _ (0, 0) _ rfl (MF2.out.get 0 rfl) Try.underlying27 rfl (by kernel_rfl)) rfl ?_
            rw [TB.out, T1.out, sel_f, sel_f]
            exact ⟨_, _, rfl, Kd.V_mono (OF2.out.V Y0.out (fun k hk => .inl hk.2)) (fun k hk => .inl hk.1), Kd.V_mono (OF2.out.V Y1.out (fun k hk => .inl hk.2)) (fun k hk => .inl hk.1), MF2.out.b⟩
        · have e3 : (r3 == 0) = false := beq_eq_false_iff_ne.2 g3
          have TB := Aside0.mk (show toldB q0 a0 a1 a2 a3 a4 r3 r4 r5 r6 r7 = false by unfold toldB; rw [T1.out, T2.out, if_neg (by decide), if_pos rfl, decide_eq_true g0, decide_eq_false g3]; rfl)
          clear g0 g3
          go_upto_region 5 with (fail)
          go_region
          all_goals first | refine fin2 (i := 0) (hi := w.heap.size + 4) B4.out rfl (by omega) ?_ | refine fin2d (i := 0) (hi := w.heap.size + 4) B4.out rfl (by omega) ?_ | refine fin2n (i := 0) (hi := w.heap.size + 4) B4.out rfl (by omega) ?_
          all_goals
            intro Wf MF OF
            have MF2 := Aside0.mk MF
            have OF2 := Aside0.mk OF
            clear MF OF
            go_wp2
            refine bodyPost_ret (results_ct rfl _ _ (w.heap.size + 1 + 1 + 1) 27 _ (0, 0) _ rfl (MF2.out.get 0 rfl) Try.underlying27 rfl (by kernel_rfl)) rfl ?_
            rw [TB.out, T1.out, sel_f, sel_f]
            exact ⟨_, _, rfl, Kd.V_mono (OF2.out.V Y0.out (fun k hk => .inl hk.2)) (fun k hk => .inl hk.1), Kd.V_mono (OF2.out.V Y1.out (fun k hk => .inl hk.2)) (fun k hk => .inl hk.1), MF2.out.b⟩
      · have e0 : (q0 == 0) = false := beq_eq_false_iff_ne.2 g0
        have TB := Aside0.mk (show toldB q0 a0 a1 a2 a3 a4 r3 r4 r5 r6 r7 = false by unfold toldB; rw [T1.out, T2.out, if_neg (by decide), if_pos rfl, decide_eq_false g0]; rfl)
        clear g0
        go_upto_region 5 with (fail)
        go_region
        all_goals first | refine fin2 (i := 0) (hi := w.heap.size + 4) B4.out rfl (by omega) ?_ | refine fin2d (i := 0) (hi := w.heap.size + 4) B4.out rfl (by omega) ?_ | refine fin2n (i := 0) (hi := w.heap.size + 4) B4.out rfl (by omega) ?_
        all_goals
          intro Wf MF OF
          have MF2 := Aside0.mk MF
          have OF2 := Aside0.mk OF
          clear MF OF
          go_wp2
          refine bodyPost_ret (results_ct rfl _ _ (w.heap.size + 1 + 1 + 1) 27 _ (0, 0) _ rfl (MF2.out.get 0 rfl) Try.underlying27 rfl (by kernel_rfl)) rfl ?_
          rw [TB.out, T1.out, sel_f, sel_f]
          exact ⟨_, _, rfl, Kd.V_mono (OF2.out.V Y0.out (fun k hk => .inl hk.2)) (fun k hk => .inl hk.1), Kd.V_mono (OF2.out.V Y1.out (fun k hk => .inl hk.2)) (fun k hk => .inl hk.1), MF2.out.b⟩
    | false =>
      have T2 := Aside0.mk hs2
      clear hs2
      go_wp2_with fail
      refine (call_Same.calls 1000001 a0 a1 a2 a3 A3 c3 a4 7 0 0 0 none 0 ([] : Prs) (sameA a0 a1 a2 a3 a4 7 0 0 0 ([] : Prs)) x4 (Kd.V_reads' Y3.out).2.2 (Kd.V_reads' Y3.out).2.1 (Kd.C_nil _ _) (Nat.le_refl 0) (EQS3.out)).mono ?_
      rintro e x5 ⟨rfl, hb⟩
      have B5 := Aside0.mk (B4.out.below hb)
      have X0_ := Aside0.mk (Kd.V_below X0.out hb)
      have X1_ := Aside0.mk (Kd.V_below X1.out hb)
      have Y0_ := Aside0.mk (Kd.V_below Y0.out hb)
      have Y1_ := Aside0.mk (Kd.V_below Y1.out hb)
      have Y3_ := Aside0.mk (Kd.V_below Y3.out hb)
      have Z2_ := Aside0.mk (show w.heap.size + 4 ≤ w1.heap.size ∧ w1.heap.size + 2 ≤ x5.heap.size from ⟨Z2.out.1, Nat.le_trans Z2.out.2 hb.size⟩)
      clear X0 X1 Y0 Y1 Y3 Z2 hb a_0 q_0 r_0 a_1 q_1 r_1 a_2 q_2 r_2 a_3 q_3 r_3 a_4 q_4 r_4 s0 s1 n_0 n_1 z0 z1 zf0 zf1
      have X0 := X0_
      have X1 := X1_
      have Y0 := Y0_
      have Y1 := Y1_
      have Y3 := Y3_
      have Z2 := Z2_
      clear X0_ X1_ Y0_ Y1_ Y3_ Z2_
      have M := B5.out
      have a_0 := (M.cell 1 0 rfl).trans rfl
      have a_1 := (M.cell 1 1 rfl).trans rfl
      have a_2 := (M.cell 1 2 rfl).trans rfl
      have a_3 := (M.cell 1 3 rfl).trans rfl
      have a_4 := (M.cell 1 4 rfl).trans rfl
      have q_0 := (M.cell 2 0 rfl).trans rfl
      have q_1 := (M.cell 2 1 rfl).trans rfl
      have q_2 := (M.cell 2 2 rfl).trans rfl
      have q_3 := (M.cell 2 3 rfl).trans rfl
      have q_4 := (M.cell 2 4 rfl).trans rfl
      have s0 := (M.cell 3 0 rfl).trans rfl
      have s1 := (M.cell 3 1 rfl).trans rfl
      have r_0 := (M.cell 4 0 rfl).trans rfl
      have r_1 := (M.cell 4 1 rfl).trans rfl
      have r_2 := (M.cell 4 2 rfl).trans rfl
      have r_3 := (M.cell 4 3 rfl).trans rfl
      have r_4 := (M.cell 4 4 rfl).trans rfl
      have n_0 := (M.cell 5 0 rfl).trans rfl
      have n_1 := (M.cell 5 1 rfl).trans rfl
      have z0 := (M.cell 0 0 rfl).trans rfl
      have zf0 := M.frz 0 0 rfl
      have z1 := (M.cell 0 1 rfl).trans rfl
      have zf1 := M.frz 0 1 rfl
      clear M
      cases hs3 : sameA a0 a1 a2 a3 a4 7 0 0 0 [] with
      | false =>
        have TB := Aside0.mk (show toldB q0 a0 a1 a2 a3 a4 r3 r4 r5 r6 r7 = false by unfold toldB; rw [T1.out, T2.out, hs3, if_neg (by decide), if_neg (by decide), if_neg (by decide)])
        have T3 := Aside0.mk hs3
        clear hs3
        go_wp2
        all_goals first | refine fin2 (i := 0) (hi := w.heap.size + 4) B5.out rfl (by omega) ?_ | refine fin2d (i := 0) (hi := w.heap.size + 4) B5.out rfl (by omega) ?_ | refine fin2n (i := 0) (hi := w.heap.size + 4) B5.out rfl (by omega) ?_
        all_goals
          intro Wf MF OF
          have MF2 := Aside0.mk MF
          have OF2 := Aside0.mk OF
          clear MF OF
          go_wp2
          refine bodyPost_ret (results_ct rfl _ _ (w.heap.size + 1 + 1 + 1) 27 _ (0, 0) _ rfl (MF2.out.get 0 rfl) Try.underlying27 rfl (by kernel_rfl)) rfl ?_
          rw [TB.out, T1.out, sel_f, sel_f]
          exact ⟨_, _, rfl, Kd.V_mono (OF2.out.V Y0.out (fun k hk => .inl hk.2)) (fun k hk => .inl hk.1), Kd.V_mono (OF2.out.V Y1.out (fun k hk => .inl hk.2)) (fun k hk => .inl hk.1), MF2.out.b⟩
      | true =>
        have RQ := Aside0.mk (reads_eq q0)
        have T3 := Aside0.mk hs3
        clear hs3
        cases hr : readsB q0 with
        | false =>
          have TB := Aside0.mk (show toldB q0 a0 a1 a2 a3 a4 r3 r4 r5 r6 r7 = false by unfold toldB; rw [T1.out, T2.out, T3.out, if_neg (by decide), if_neg (by decide), if_pos rfl, hr]; rfl)
          rw [hr] at RQ
          clear hr
          have mixed : Try.prog.follows Departure.mixedOrders = true := by kernel_rfl
          have k0 : x5.drew.cell? ⟨w.heap.size, 0, none⟩ = some (.slice A0 l.length c0) := (B5.out.cell 3 0 rfl).trans rfl
          have k1 : x5.drew.cell? ⟨w.heap.size, 1, none⟩ = some (.slice A1 ts.length c1) := (B5.out.cell 3 1 rfl).trans rfl
          have k2 : x5.drew.cell? ⟨w.heap.size + 1, 0, none⟩ = some (.int .i64 q0) := (B5.out.cell 2 0 rfl).trans rfl
          have BD := Aside0.mk B5.out.drew
          have YD0 := Aside0.mk (Kd.V_drew Y0.out)
          have YD1 := Aside0.mk (Kd.V_drew Y1.out)
          clear a_0 q_0 r_0 a_1 q_1 r_1 a_2 q_2 r_2 a_3 q_3 r_3 a_4 q_4 r_4 s0 s1 n_0 n_1 z0 z1 zf0 zf1
          go_upto_region 7 with (fail)
          refine start_ (n := 11) (S := fun W' => W'.cell? ⟨w.heap.size, 0, none⟩ = some (.slice A0 l.length c0) ∧ W'.cell? ⟨w.heap.size, 1, none⟩ = some (.slice A1 ts.length c1) ∧ W'.cell? ⟨w.heap.size + 1, 0, none⟩ = some (.int .i64 q0)) (ds := [9]) #[false, false, false, false, false, false, false, false, false, false, false] (by kernel_rfl) rfl rfl ⟨k0, k1, k2⟩ (fun hHeld => ?_); refine with_tabW mt7_tab mt7_bits (fun HT_ HW_ => ?_)
          generalize x5.drew = wd_ at k0 k1 k2 BD YD0 YD1 hHeld ⊢
          refine pure_ (i := 1) (N := some 42) (v := ?_) (a' := ?_) #[false, true, false, false, false, false, false, false, false, false, false] rfl rfl (any_of HT_.out (by kernel_rfl)) (fun _ _ _ h => h) (Or.inl ⟨by rfl, ?_⟩) ?_ ?_
          rotate_left
          · intro w'
            go_simp
            with_reducible rfl
          rotate_left
          · simp only [Act.put, List.setIfInBounds_toArray, List.set_cons_zero, List.set_cons_succ]
            rfl
          refine take_ (i := 0) (N := some 41) (v := ?_) (a' := ?_) #[true, true, false, false, false, false, false, false, false, false, false] rfl rfl (take_ofW HT_.out HW_.out (by kernel_rfl)) (fun _ _ _ h => h) (Or.inl ⟨by rfl, ?_⟩) hHeld ?_ ?_
          rotate_left
          · rintro w' ⟨s0, s1, s2⟩
            go_simp
            with_reducible rfl
          rotate_left
          · simp only [Act.put, List.setIfInBounds_toArray, List.set_cons_zero, List.set_cons_succ]
            rfl
          refine take_ (i := 2) (N := some 43) (v := ?_) (a' := ?_) #[true, true, true, false, false, false, false, false, false, false, false] rfl rfl (take_ofW HT_.out HW_.out (by kernel_rfl)) (fun _ _ _ h => h) (Or.inl ⟨by rfl, ?_⟩) hHeld ?_ ?_
          rotate_left
          · rintro w' ⟨s0, s1, s2⟩
            go_simp
            with_reducible rfl
          rotate_left
          · simp only [Act.put, List.setIfInBounds_toArray, List.set_cons_zero, List.set_cons_succ]
            rfl
          refine one_ (i := 3) (N := some 44) #[true, true, true, true, false, false, false, false, false, false, false] rfl rfl (one_of HT_.out (by kernel_rfl)) (by decide) (fun K hK => ?_)
          refine goes_ Try.func25 (by kernel_rfl) rfl #[.int .i64 q0] (by rfl) rfl rfl (by (try simp only [List.map_toArray, List.map_cons, List.map_nil]); first | done | rfl) ?_
          refine (call_Reads.calls q0 false _ RQ.out).mono ?_
          rintro e_ wq1 ⟨rfl, hd_⟩
          have hb : Below wd_.heap.size wd_ wq1 := by obtain ⟨n_, rfl⟩ := hd_.out; exact pw_below_drewN (Below.refl _ _) n_
          have hHeld2 := hHeld
          obtain ⟨t0, t1, t2⟩ := hHeld2
          have HS0_ := pw_cell_below hb t0
          have HS1_ := pw_cell_below hb t1
          have HS2_ := pw_cell_below hb t2
          have BW := Aside0.mk (BD.out.below hb)
          have YW0 := Aside0.mk (Kd.V_below YD0.out hb)
          have YW1 := Aside0.mk (Kd.V_below YD1.out hb)
          have zz := BW.out
          have z0 := (zz.cell 0 0 rfl).trans rfl
          have z1 := (zz.cell 0 1 rfl).trans rfl
          have zf0 := zz.frz 0 0 rfl
          have zf1 := zz.frz 0 1 rfl
          clear hd_ zz
          refine ⟨_, rfl, ?_⟩
          refine hK.out _ _ ⟨HS0_, HS1_, HS2_⟩ (fun hHeld => ?_)
          clear hK K
          refine norm_ (a' := ?_) ?_ ?_
          rotate_left
          · show Act.put _ (some 44) _ = _
            simp only [Act.put, List.setIfInBounds_toArray, List.set_cons_zero, List.set_cons_succ]
            rfl
          refine pure_ (i := 4) (N := some 45) (v := ?_) (a' := ?_) #[true, true, true, true, true, false, false, false, false, false, false] rfl rfl (any_of HT_.out (by kernel_rfl)) (fun _ _ _ h => h) (Or.inl ⟨by rfl, ?_⟩) ?_ ?_
          rotate_left
          · intro w'
            go_simp
            with_reducible rfl
          rotate_left
          · simp only [Act.put, List.setIfInBounds_toArray, List.set_cons_zero, List.set_cons_succ]
            rfl
          refine pure_ (i := 5) (N := some 46) (v := undef) (a' := ?_) #[true, true, true, true, true, true, false, false, false, false, false] rfl rfl (any_of HT_.out (by kernel_rfl)) (fun _ _ _ h => h) (Or.inr ⟨by rfl, rfl⟩) ?_ ?_
          rotate_left
          · simp only [Act.put, List.setIfInBounds_toArray, List.set_cons_zero, List.set_cons_succ]
            rfl
          refine pure_ (i := 6) (N := some 47) (v := undef) (a' := ?_) #[true, true, true, true, true, true, true, false, false, false, false] rfl rfl (any_of HT_.out (by kernel_rfl)) (fun _ _ _ h => h) (Or.inr ⟨by rfl, rfl⟩) ?_ ?_
          rotate_left
          · simp only [Act.put, List.setIfInBounds_toArray, List.set_cons_zero, List.set_cons_succ]
            rfl
          refine pure_ (i := 7) (N := some 48) (v := undef) (a' := ?_) #[true, true, true, true, true, true, true, true, false, false, false] rfl rfl (any_of HT_.out (by kernel_rfl)) (fun _ _ _ h => h) (Or.inr ⟨by rfl, rfl⟩) ?_ ?_
          rotate_left
          · simp only [Act.put, List.setIfInBounds_toArray, List.set_cons_zero, List.set_cons_succ]
            rfl
          refine pure_ (i := 8) (N := some 49) (v := ?_) (a' := ?_) #[true, true, true, true, true, true, true, true, true, false, false] rfl rfl (any_of HT_.out (by kernel_rfl)) (fun _ _ _ h => h) (Or.inl ⟨by rfl, ?_⟩) ?_ ?_
          rotate_left
          · intro w'
            go_simp
            with_reducible rfl
          rotate_left
          · simp only [Act.put, List.setIfInBounds_toArray, List.set_cons_zero, List.set_cons_succ]
            rfl
          refine last_ (i := 9) (N := none) #[true, true, true, true, true, true, true, true, true, true, false] rfl rfl (one_of HT_.out (by kernel_rfl)) (by decide) (fun K hK => ?_)
          refine skip_ (w1 := ?_) (by rfl) rfl ?_ ?_
          rotate_left
          · go_simp
            with_reducible rfl
          refine hK.out _ _ ?_
          clear hK K
          refine pure_ (i := 10) (N := some 9) (v := ?_) (a' := ?_) #[true, true, true, true, true, true, true, true, true, true, true] rfl rfl (any_of HT_.out (by kernel_rfl)) (fun _ _ _ h => h) (Or.inl ⟨by rfl, ?_⟩) ?_ ?_
          rotate_left
          · intro w'
            go_simp
            with_reducible rfl
          rotate_left
          · simp only [Act.put, List.setIfInBounds_toArray, List.set_cons_zero, List.set_cons_succ]
            rfl
          refine done_ (done_of HT_.out (by kernel_rfl)) ?_
          go_wp2
          all_goals first | refine fin2 (i := 0) (hi := w.heap.size + 4) BW.out rfl (by omega) ?_ | refine fin2d (i := 0) (hi := w.heap.size + 4) BW.out rfl (by omega) ?_ | refine fin2n (i := 0) (hi := w.heap.size + 4) BW.out rfl (by omega) ?_
          all_goals
            intro Wf MF OF
            have MF2 := Aside0.mk MF
            have OF2 := Aside0.mk OF
            clear MF OF
            go_wp2
            refine bodyPost_ret (results_ct rfl _ _ (w.heap.size + 1 + 1 + 1) 27 _ (0, 0) _ rfl (MF2.out.get 0 rfl) Try.underlying27 rfl (by kernel_rfl)) rfl ?_
            rw [TB.out, T1.out, sel_f, sel_f]
            exact ⟨_, _, rfl, Kd.V_mono (OF2.out.V YW0.out (fun k hk => .inl hk.2)) (fun k hk => .inl hk.1), Kd.V_mono (OF2.out.V YW1.out (fun k hk => .inl hk.2)) (fun k hk => .inl hk.1), MF2.out.b⟩
        | true =>
          rw [hr] at RQ
          by_cases g8 : r3 = 8
          · have e8 : (r3 != 8) = false := bne_eq_false_iff_eq.2 g8
            have e8b : (r3 == 8) = true := beq_iff_eq.2 g8
            have TB := Aside0.mk (show toldB q0 a0 a1 a2 a3 a4 r3 r4 r5 r6 r7 = false by unfold toldB; rw [T1.out, T2.out, T3.out, if_neg (by decide), if_neg (by decide), if_pos rfl, hr, decide_eq_false (fun h => h g8)]; rfl)
            clear hr g8
            go_upto_region 7 with (fail)
            go_region_law (go_simp; go_at_call 25; refine (call_Reads.calls q0 true _ RQ.out).mono ?_; rintro e w5 ⟨rfl, n5, rfl⟩)
            all_goals first | refine fin2 (i := 0) (hi := w.heap.size + 4) (B5.out.below (pw_below_drewN (Below.refl _ _) (1 + n5))) rfl (by omega) ?_ | refine fin2d (i := 0) (hi := w.heap.size + 4) (B5.out.below (pw_below_drewN (Below.refl _ _) (1 + n5))) rfl (by omega) ?_ | refine fin2n (i := 0) (hi := w.heap.size + 4) (B5.out.below (pw_below_drewN (Below.refl _ _) (1 + n5))) rfl (by omega) ?_
            all_goals
              intro Wf MF OF
              have MF2 := Aside0.mk MF
              have OF2 := Aside0.mk OF
              clear MF OF
              go_wp2
              refine bodyPost_ret (results_ct rfl _ _ (w.heap.size + 1 + 1 + 1) 27 _ (0, 0) _ rfl (MF2.out.get 0 rfl) Try.underlying27 rfl (by kernel_rfl)) rfl ?_
              rw [TB.out, T1.out, sel_f, sel_f]
              exact ⟨_, _, rfl, Kd.V_mono (OF2.out.V (Kd.V_drewN Y0.out _) (fun k hk => .inl hk.2)) (fun k hk => .inl hk.1), Kd.V_mono (OF2.out.V (Kd.V_drewN Y1.out _) (fun k hk => .inl hk.2)) (fun k hk => .inl hk.1), MF2.out.b⟩
          · have e8 : (r3 != 8) = true := by simpa using g8
            have e8b : (r3 == 8) = false := beq_eq_false_iff_ne.2 g8
            have TB := Aside0.mk (show toldB q0 a0 a1 a2 a3 a4 r3 r4 r5 r6 r7 = true by unfold toldB; rw [T1.out, T2.out, T3.out, if_neg (by decide), if_neg (by decide), if_pos rfl, hr, decide_eq_true g8]; rfl)
            clear hr g8
            go_upto_region 7 with (fail)
            go_region_law (go_simp; go_at_call 25; refine (call_Reads.calls q0 true _ RQ.out).mono ?_; rintro e w5 ⟨rfl, n5, rfl⟩)
            all_goals first | refine fin2 (i := 0) (hi := w.heap.size + 4) (B5.out.below (pw_below_drewN (Below.refl _ _) (1 + n5))) rfl (by omega) ?_ | refine fin2d (i := 0) (hi := w.heap.size + 4) (B5.out.below (pw_below_drewN (Below.refl _ _) (1 + n5))) rfl (by omega) ?_ | refine fin2n (i := 0) (hi := w.heap.size + 4) (B5.out.below (pw_below_drewN (Below.refl _ _) (1 + n5))) rfl (by omega) ?_
            all_goals
              intro Wf MF OF
              have MF2 := Aside0.mk MF
              have OF2 := Aside0.mk OF
              clear MF OF
              go_wp2
              refine bodyPost_ret (results_ct rfl _ _ (w.heap.size + 1 + 1 + 1) 27 _ (0, 0) _ rfl (MF2.out.get 0 rfl) Try.underlying27 rfl (by kernel_rfl)) rfl ?_
              rw [TB.out, T1.out, sel_f, sel_f]
              exact ⟨_, _, rfl, Kd.V_mono (OF2.out.V (Kd.V_drewN Y0.out _) (fun k hk => .inl hk.2)) (fun k hk => .inl hk.1), Kd.V_mono (OF2.out.V (Kd.V_drewN Y1.out _) (fun k hk => .inl hk.2)) (fun k hk => .inl hk.1), MF2.out.b⟩
end Go.Proofs.Ytkkneaefjahihaa.ModT
