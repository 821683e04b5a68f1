-- Printed by a program of this session (mkprint.py) out of the translation; Lean checks it.
import Derived.Test.YtkkneaefjahihaaZPModelToldx3
import Derived.Test.YtkkneaefjahihaaZBxs
import Derived.Test.YtkkneaefjahihaaZModW
import Derived.Test.YtkkneaefjahihaaZPModelToldx0
import Derived.Test.YtkkneaefjahihaaZPModelToldx1
import Derived.Test.YtkkneaefjahihaaZPModelToldx2
import Derived.Test.YtkkneaefjahihaaZPModelToldx4
import Derived.Test.YtkkneaefjahihaaZPModelToldx5
import Derived.Test.YtkkneaefjahihaaZPModelToldx6
namespace Go.Proofs.Ytkkneaefjahihaa.PModelTold
open Go.RowKit Go.Proofs.YtkkneaefjahihaaW.PrintWords Go.Proofs.YtkkneaefjahihaaW.PrintLast Go.Proofs.YtkkneaefjahihaaW.PrintMore
attribute [local go_sem] max2_int min2_int max_two min_two max_three min_three max_four min_four   -- for this text's walks alone
set_option linter.unusedVariables false
set_option linter.unusedSimpArgs false

attribute [local go_sem high] eqA49
/-! ### model_State_Do: function 10 : a hand text -/
def model_State_Do.f (k : Nat) (l0_0 : List (S49)) (l0_1 : List (S62)) (a1 : Int) (a2_0 : Int) (a2_1 : Int) (a2_2 : Int) (a2_3 : Int) (a2_4 : Int) : Option ((List (S49)) × (List (S62)) × Int × Int × Int × Int × (List (S49))) := (model_State_bad.f k l0_0 l0_1 a1 a2_0 a2_1 a2_2 a2_3 a2_4).bind fun t335 => (if t335 = true then (some (l0_0, l0_1, 8, 0, 0, 0, ([] : List (S49)))) else (if a2_0 ≥ 9 then ((model_State_own.f k l0_0 l0_1 a1 a2_0 a2_1 a2_2 a2_3 a2_4).bind fun bt336 => (some (bt336.1, bt336.2.1, bt336.2.2.1, bt336.2.2.2.1, bt336.2.2.2.2.1, bt336.2.2.2.2.2.1, bt336.2.2.2.2.2.2))) else ((call_Reads.f a2_0).bind fun t349 => (if t349 = true then ((model_State_read.f k l0_0 l0_1 a2_0 a2_1 a2_2 a2_3 a2_4).bind fun bt350 => (some (l0_0, l0_1, bt350.1, bt350.2.1, bt350.2.2.1, bt350.2.2.2.1, bt350.2.2.2.2))) else ((model_State_change.f k l0_0 l0_1 a2_0 a2_1 a2_2 a2_3 a2_4).bind fun bt357 => (some (bt357.1, bt357.2.1, bt357.2.2.1, bt357.2.2.2.1, bt357.2.2.2.2.1, bt357.2.2.2.2.2.1, bt357.2.2.2.2.2.2)))))))
theorem model_State_Do.mono : ∀ a0 a1 a2 a3 a4 a5 a6 a7 k, LeO (model_State_Do.f k a0 a1 a2 a3 a4 a5 a6 a7) (model_State_Do.f (k + 1) a0 a1 a2 a3 a4 a5 a6 a7) := by
  intro a0 a1 a2 a3 a4 a5 a6 a7 k
  unfold model_State_Do.f
  repeat' first
      | (with_reducible exact model_State_bad.mono _ _ _ _ _ _ _ _ _)
      | (with_reducible exact model_State_change.mono _ _ _ _ _ _ _ _)
      | (with_reducible exact model_State_own.mono _ _ _ _ _ _ _ _ _)
      | (with_reducible exact model_State_read.mono _ _ _ _ _ _ _ _)
      | (with_reducible exact LeO.refl _)
      | (with_reducible exact LeO.none _)
      | (with_reducible refine LeO.ite ?_ ?_)
      | (with_reducible refine LeO.bind ?_ (fun _ => ?_))
      | exact model_State_bad.mono _ _ _ _ _ _ _ _ _
      | exact model_State_change.mono _ _ _ _ _ _ _ _
      | exact model_State_own.mono _ _ _ _ _ _ _ _ _
      | exact model_State_read.mono _ _ _ _ _ _ _ _
      | exact LeO.none _
      | refine LeO.ite ?_ ?_
      | refine LeO.bind ?_ (fun _ => ?_)
namespace DoWalk
open Go.Proofs.Ytkkneaefjahihaa.Bxs
/-- What came back, behind the stores into the boxes of the results. -/
theorem endV {α : Type} {d : Kd α} {e n : Nat} {w W W' : World} {base base' : Nat} {ok1 ok2 : Nat → Prop} {v : Value} {xs : List α} {y : Option Nat} (h : Kd.V d e W base (fun k => (((ok1 k ∧ k < w.heap.size) ∨ (ok2 k ∧ k < w.heap.size)) ∨ n ≤ k) ∧ some k ≠ y) v xs) (hn : w.heap.size + 4 ≤ n) (ho : Out w.heap.size (w.heap.size + 4) W W') :
    Kd.V d e W' base' (fun k => ((ok1 k ∨ ok2 k) ∨ w.heap.size ≤ k) ∧ some k ≠ y) v xs :=
  Kd.V_mono (ho.V h (fun k hk => by rcases hk.1 with (h | h) | h; exact .inl h.2; exact .inl h.2; exact .inr (by omega))) (fun k hk2 => ⟨by rcases hk2.1 with (h | h) | h; exact .inl (.inl h.1); exact .inl (.inr h.1); exact .inr (by omega), hk2.2⟩)
end DoWalk
set_option maxHeartbeats 4000000 in
set_option maxRecDepth 100000 in
theorem model_State_Do.calls (k : Nat) (P0_0_ : Nat → Prop) (A0_0 : Option Addr) (c0_0 : Nat) (l0_0 : List (S49)) (P0_1_ : Nat → Prop) (A0_1 : Option Addr) (c0_1 : Nat) (l0_1 : List (S62)) (a1 : Int) (a2_0 : Int) (a2_1 : Int) (a2_2 : Int) (a2_3 : Int) (a2_4 : Int) (r1 : List (S49)) (r2 : List (S62)) (r3 : Int) (r4 : Int) (r5 : Int) (r6 : Int) (r7 : List (S49)) (w : World) (hs0_0 : Kd.V k49 49 w w.heap.size (fun k_ => P0_0_ k_) (.slice A0_0 l0_0.length c0_0) l0_0) (hs0_1 : Kd.V k62 62 w w.heap.size (fun k_ => P0_1_ k_) (.slice A0_1 l0_1.length c0_1) l0_1) (h : model_State_Do.f k l0_0 l0_1 a1 a2_0 a2_1 a2_2 a2_3 a2_4 = some (r1, r2, r3, r4, r5, r6, r7)) :
    Calls Try.prog 10 #[.agg #[.slice A0_0 l0_0.length c0_0, .slice A0_1 l0_1.length c0_1], .int .i64 a1, .agg #[.int .i64 a2_0, .int .i64 a2_1, .int .i64 a2_2, .int .i64 a2_3, .int .i64 a2_4]] w fun e w' => ∃ v0_ v1_ v6_ : Value, e = .returned (.tuple #[.agg #[v0_, v1_], .agg #[.int .i64 r3, .int .i64 r4, .int .i64 r5, .int .i64 r6, v6_]]) ∧ Kd.V k49 49 w' w.heap.size (fun k_ => ((P0_0_ k_ ∨ P0_1_ k_) ∨ w.heap.size ≤ k_) ∧ some k_ ≠ (v6_ : Value).ownBlock) v0_ r1 ∧ Kd.V k62 62 w' w.heap.size (fun k_ => ((P0_0_ k_ ∨ P0_1_ k_) ∨ w.heap.size ≤ k_) ∧ some k_ ≠ (v6_ : Value).ownBlock) v1_ r2 ∧ Kd.R k49 49 w' w.heap.size (fun k_ => (w.heap.size ≤ k_)) v6_ r7 ∧ Below w.heap.size w w' := by
  have hu27 := Try.underlying27
  have hu38 := Try.underlying38
  have hu34 := Try.underlying34
  have HQ := Aside0.mk h
  have H0 := Aside0.mk (Kd.V_bound hs0_0)
  have H1 := Aside0.mk (Kd.V_bound hs0_1)
  clear h hs0_0 hs0_1
  go_enter Try.func10, Try.ntmps10
  go_upto_region 1 with (fail)
  refine Bxs.bx_gens (Bxs.four w _ _ _ _ 27 38 27 34) ?_
  intro wr M SZ
  simp only [World.size_alloc] at SZ
  have B0 := Aside0.mk M
  have SZ0 := Aside0.mk SZ
  have V0 := Aside0.mk (Kd.V_below H0.out M.b)
  have V1 := Aside0.mk (Kd.V_below H1.out M.b)
  clear SZ
  have y0 := (M.cell 0 0 rfl).trans rfl
  have yf0 := M.frz 0 0 rfl
  have y1 := (M.cell 0 1 rfl).trans rfl
  have yf1 := M.frz 0 1 rfl
  have y2 := (M.cell 0 2 rfl).trans rfl
  have yf2 := M.frz 0 2 rfl
  have y3 := (M.cell 0 3 rfl).trans rfl
  have yf3 := M.frz 0 3 rfl
  have y4 := (M.cell 0 4 rfl).trans rfl
  have yf4 := M.frz 0 4 rfl
  have z0 := (M.cell 1 0 rfl).trans rfl
  have zf0 := M.frz 1 0 rfl
  have z1 := (M.cell 1 1 rfl).trans rfl
  have zf1 := M.frz 1 1 rfl
  have q_0 := (M.cell 2 0 rfl).trans rfl
  have q_1 := (M.cell 2 1 rfl).trans rfl
  have q_2 := (M.cell 2 2 rfl).trans rfl
  have q_3 := (M.cell 2 3 rfl).trans rfl
  have q_4 := (M.cell 2 4 rfl).trans rfl
  have s0 := (M.cell 3 0 rfl).trans rfl
  have s1 := (M.cell 3 1 rfl).trans rfl
  clear M
  have H := HQ.out
  unfold model_State_Do.f at H
  replace H := Option.bind_eq_some_iff.mp H
  obtain ⟨b, hb, H⟩ := H
  have HB := Aside0.mk hb
  have HH := Aside0.mk H
  clear hb H HQ
  go_wp2_with fail
  refine (model_State_bad.calls k A0_0 c0_0 l0_0 A0_1 c0_1 l0_1 a1 a2_0 a2_1 a2_2 a2_3 a2_4 b wr (Kd.V_reads' V0.out).2.2 (Kd.V_reads' V0.out).2.1 (Kd.V_reads' V1.out).2.2 (Kd.V_reads' V1.out).2.1 HB.out).mono ?_
  rintro e w1 ⟨rfl, hb1⟩
  have M1 := B0.out.below hb1
  have B1 := Aside0.mk M1
  have X0 := Aside0.mk (Kd.V_below V0.out hb1)
  have X1 := Aside0.mk (Kd.V_below V1.out hb1)
  have Z1 := Aside0.mk (show w.heap.size + 4 ≤ w1.heap.size by have := hb1.size; have := SZ0.out; omega)
  clear y0 yf0 y1 yf1 y2 yf2 y3 yf3 y4 yf4 z0 zf0 z1 zf1 q_0 q_1 q_2 q_3 q_4 s0 s1
  have y0 := (M1.cell 0 0 rfl).trans rfl
  have yf0 := M1.frz 0 0 rfl
  have y1 := (M1.cell 0 1 rfl).trans rfl
  have yf1 := M1.frz 0 1 rfl
  have y2 := (M1.cell 0 2 rfl).trans rfl
  have yf2 := M1.frz 0 2 rfl
  have y3 := (M1.cell 0 3 rfl).trans rfl
  have yf3 := M1.frz 0 3 rfl
  have y4 := (M1.cell 0 4 rfl).trans rfl
  have yf4 := M1.frz 0 4 rfl
  have z0 := (M1.cell 1 0 rfl).trans rfl
  have zf0 := M1.frz 1 0 rfl
  have z1 := (M1.cell 1 1 rfl).trans rfl
  have zf1 := M1.frz 1 1 rfl
  have q_0 := (M1.cell 2 0 rfl).trans rfl
  have q_1 := (M1.cell 2 1 rfl).trans rfl
  have q_2 := (M1.cell 2 2 rfl).trans rfl
  have q_3 := (M1.cell 2 3 rfl).trans rfl
  have q_4 := (M1.cell 2 4 rfl).trans rfl
  have s0 := (M1.cell 3 0 rfl).trans rfl
  have s1 := (M1.cell 3 1 rfl).trans rfl
  clear M1 hb1
  cases b with
  | true =>
    have H := HH.out
    simp only [if_true, Option.some.injEq, Prod.mk.injEq] at H
    obtain ⟨rfl, rfl, rfl, rfl, rfl, rfl, rfl⟩ := H
    clear HH
    go_wp2
    refine Bxs.fin67 B1.out Z1.out (by omega) (by omega) ?_
    all_goals
      intro Wf MF OF
      have MF2 := Aside0.mk MF
      have OF2 := Aside0.mk OF
      clear MF OF
      go_wp2
      refine bodyPost_ret (results_cc rfl _ _ (w.heap.size + 1 + 1) (w.heap.size + 1 + 1 + 1) 27 34 _ _ (0, 0) (0, 0) _ _ rfl (MF2.out.get 1 rfl) Try.underlying27 rfl (by kernel_rfl) rfl (MF2.out.get 0 rfl) Try.underlying34 rfl (by kernel_rfl)) rfl ?_
      refine ⟨_, _, _, rfl, Kd.V_mono (OF2.out.V X0.out (fun k hk => .inl hk.2)) (fun k hk => ⟨.inl (.inl hk.1), fun h => by cases h⟩), Kd.V_mono (OF2.out.V X1.out (fun k hk => .inl hk.2)) (fun k hk => ⟨.inl (.inr hk.1), fun h => by cases h⟩), Kd.R_nil _ _ _ _ _, MF2.out.b⟩
  | false =>
    have H := HH.out
    simp only [Bool.false_eq_true, if_false] at H
    by_cases h9 : a2_0 ≥ 9
    · have e9 : decide (a2_0 ≥ 9) = true := decide_eq_true h9
      have e9b : decide (9 ≤ a2_0) = true := decide_eq_true h9
      rw [if_pos h9] at H
      replace H := Option.bind_eq_some_iff.mp H
      obtain ⟨⟨o1, o2, o3, o4, o5, o6, o7⟩, ho, H⟩ := H
      simp only [Option.some.injEq, Prod.mk.injEq] at H
      obtain ⟨rfl, rfl, rfl, rfl, rfl, rfl, rfl⟩ := H
      have HO := Aside0.mk ho
      clear HH ho h9
      go_wp2_with fail
      refine (model_State_own.calls k (fun k_ => P0_0_ k_ ∧ k_ < w.heap.size) A0_0 c0_0 l0_0 (fun k_ => P0_1_ k_ ∧ k_ < w.heap.size) A0_1 c0_1 l0_1 a1 a2_0 a2_1 a2_2 a2_3 a2_4 o1 o2 o3 o4 o5 o6 o7 w1 X0.out X1.out HO.out).mono ?_
      rintro e w2 ⟨v0, v1, v6, rfl, Y0, Y1, YR, hb2⟩
      obtain ⟨A8, c8, rfl⟩ := Kd.V_slice Y0
      obtain ⟨A9, c9, rfl⟩ := Kd.V_slice Y1
      obtain ⟨A6, c6, rfl⟩ := Kd.R_slice YR
      have U0 := Aside0.mk Y0
      have U1 := Aside0.mk Y1
      have UR := Aside0.mk YR
      have M2 := B1.out.below hb2
      have B2 := Aside0.mk M2
      have Z2 := Aside0.mk (show w.heap.size + 4 ≤ w2.heap.size by have := hb2.size; have := Z1.out; omega)
      clear y0 yf0 y1 yf1 y2 yf2 y3 yf3 y4 yf4 z0 zf0 z1 zf1 q_0 q_1 q_2 q_3 q_4 s0 s1
      have y0 := (M2.cell 0 0 rfl).trans rfl
      have yf0 := M2.frz 0 0 rfl
      have y1 := (M2.cell 0 1 rfl).trans rfl
      have yf1 := M2.frz 0 1 rfl
      have y2 := (M2.cell 0 2 rfl).trans rfl
      have yf2 := M2.frz 0 2 rfl
      have y3 := (M2.cell 0 3 rfl).trans rfl
      have yf3 := M2.frz 0 3 rfl
      have y4 := (M2.cell 0 4 rfl).trans rfl
      have yf4 := M2.frz 0 4 rfl
      have z0 := (M2.cell 1 0 rfl).trans rfl
      have zf0 := M2.frz 1 0 rfl
      have z1 := (M2.cell 1 1 rfl).trans rfl
      have zf1 := M2.frz 1 1 rfl
      clear M2 hb2 Y0 Y1 YR
      go_wp2
      refine Bxs.fin67 B2.out Z2.out (by omega) (by omega) ?_
      all_goals
        intro Wf MF OF
        have MF2 := Aside0.mk MF
        have OF2 := Aside0.mk OF
        clear MF OF
        go_wp2
        refine bodyPost_ret (results_cc rfl _ _ (w.heap.size + 1 + 1) (w.heap.size + 1 + 1 + 1) 27 34 _ _ (0, 0) (0, 0) _ _ rfl (MF2.out.get 1 rfl) Try.underlying27 rfl (by kernel_rfl) rfl (MF2.out.get 0 rfl) Try.underlying34 rfl (by kernel_rfl)) rfl ?_
        refine ⟨_, _, _, rfl, DoWalk.endV U0.out Z1.out OF2.out, DoWalk.endV U1.out Z1.out OF2.out, Kd.R_mono (Kd.R_step (Kd.R_bound (Kd.R_lower UR.out (by have := Z1.out; simp; omega))) (fun k hk hl => OF2.out k (.inr (by have h1 := hk.1; have := Z1.out; first | omega | (simp at h1; omega))) hl)) (fun k hk => hk.2.1), MF2.out.b⟩
    · have e9 : decide (a2_0 ≥ 9) = false := decide_eq_false h9
      have e9b : decide (9 ≤ a2_0) = false := decide_eq_false h9
      rw [if_neg h9] at H
      replace H := Option.bind_eq_some_iff.mp H
      obtain ⟨b, hb, H⟩ := H
      have HB2 := Aside0.mk hb
      have HH := Aside0.mk H
      clear hb H h9
      go_wp2_with fail
      refine (call_Reads.calls a2_0 b _ HB2.out).mono ?_
      rintro e w2 ⟨rfl, n2, rfl⟩
      cases b with
      | true =>
        have H := HH.out
        simp only [if_true] at H
        replace H := Option.bind_eq_some_iff.mp H
        obtain ⟨⟨o3, o4, o5, o6, o7⟩, ho, H⟩ := H
        simp only [Option.some.injEq, Prod.mk.injEq] at H
        obtain ⟨rfl, rfl, rfl, rfl, rfl, rfl, rfl⟩ := H
        have HO := Aside0.mk ho
        clear HH ho
        go_upto_region 6 with (fail)
        have XD0 := Aside0.mk (Kd.V_drewN X0.out n2)
        have XD1 := Aside0.mk (Kd.V_drewN X1.out n2)
        have MD := B1.out.below (pw_below_drewN (Below.refl _ _) n2)
        have BD := Aside0.mk MD
        have ZD := Aside0.mk (show w.heap.size + 4 ≤ (w1.drewN n2).heap.size from Z1.out)
        generalize w1.drewN n2 = w2 at XD0 XD1 BD MD ZD ⊢
        clear y0 yf0 y1 yf1 y2 yf2 y3 yf3 y4 yf4 z0 zf0 z1 zf1 q_0 q_1 q_2 q_3 q_4 s0 s1
        have y0 := (MD.cell 0 0 rfl).trans rfl
        have yf0 := MD.frz 0 0 rfl
        have y1 := (MD.cell 0 1 rfl).trans rfl
        have yf1 := MD.frz 0 1 rfl
        have y2 := (MD.cell 0 2 rfl).trans rfl
        have yf2 := MD.frz 0 2 rfl
        have y3 := (MD.cell 0 3 rfl).trans rfl
        have yf3 := MD.frz 0 3 rfl
        have y4 := (MD.cell 0 4 rfl).trans rfl
        have yf4 := MD.frz 0 4 rfl
        have z0 := (MD.cell 1 0 rfl).trans rfl
        have zf0 := MD.frz 1 0 rfl
        have z1 := (MD.cell 1 1 rfl).trans rfl
        have zf1 := MD.frz 1 1 rfl
        have q_0 := (MD.cell 2 0 rfl).trans rfl
        have q_1 := (MD.cell 2 1 rfl).trans rfl
        have q_2 := (MD.cell 2 2 rfl).trans rfl
        have q_3 := (MD.cell 2 3 rfl).trans rfl
        have q_4 := (MD.cell 2 4 rfl).trans rfl
        have s0 := (MD.cell 3 0 rfl).trans rfl
        have s1 := (MD.cell 3 1 rfl).trans rfl
        clear MD
        have RC := Aside0.mk (fun W (hO : Bxs.Out w.heap.size (w.heap.size + 4) w2 W) => model_State_read.calls k A0_0 c0_0 l0_0 A0_1 c0_1 l0_1 a2_0 a2_1 a2_2 a2_3 a2_4 o3 o4 o5 o6 o7 W (Kd.V_reads' (hO.V (base' := 0) XD0.out (fun k hk => .inl hk.2))).2.2 (Kd.V_reads' XD0.out).2.1 (Kd.V_reads' (hO.V (base' := 0) XD1.out (fun k hk => .inl hk.2))).2.2 (Kd.V_reads' XD1.out).2.1 HO.out)
        have OD := Aside0.mk (Bxs.Out.drew (Bxs.Out.refl w.heap.size (w.heap.size + 4) w2))
        have OS := Aside0.mk ((OD.out.set (p := ⟨(w.heap.size + 1 + 1), 0, none⟩) (.slice A0_0 l0_0.length c0_0) (by show w.heap.size ≤ (w.heap.size + 1 + 1); omega) (by show (w.heap.size + 1 + 1) < w.heap.size + 4; omega)).set (p := ⟨(w.heap.size + 1 + 1), 1, none⟩) (.slice A0_1 l0_1.length c0_1) (by show w.heap.size ≤ (w.heap.size + 1 + 1); omega) (by show (w.heap.size + 1 + 1) < w.heap.size + 4; omega))
        have BE := Aside0.mk BD.out.drew
        have BS := Aside0.mk (show Bxs.Bxs w _ [((w.heap.size + 1 + 1 + 1), #[.int .i64 0, .int .i64 0, .int .i64 0, .int .i64 0, .slice none 0 0], 34), ((w.heap.size + 1 + 1), #[.slice A0_0 l0_0.length c0_0, .slice A0_1 l0_1.length c0_1], 27), (w.heap.size + 1, #[.int .i64 a2_0, .int .i64 a2_1, .int .i64 a2_2, .int .i64 a2_3, .int .i64 a2_4], 38), (w.heap.size, #[.slice A0_0 l0_0.length c0_0, .slice A0_1 l0_1.length c0_1], 27)] from (BE.out.set 1 0 (.slice A0_0 l0_0.length c0_0) rfl rfl).set 1 1 (.slice A0_1 l0_1.length c0_1) rfl rfl)
        go_region_with (first | (go_at_call 26; refine (RC.out _ OD.out).mono ?_; rintro e w5 ⟨v4, rfl, YR, hb5⟩; obtain ⟨A6, c6, rfl⟩ := Kd.R_slice YR; have UR := Aside0.mk YR; have M5 := BE.out.below hb5; have B5 := Aside0.mk M5; have O5 := Aside0.mk (OD.out.below (by simp) hb5); have Z5 := Aside0.mk (show w2.heap.size ≤ w5.heap.size by have h1 := hb5.size; simp at h1; exact h1); clear YR hb5; have y0 := (M5.cell 0 0 rfl).trans rfl; have yf0 := M5.frz 0 0 rfl; have y1 := (M5.cell 0 1 rfl).trans rfl; have yf1 := M5.frz 0 1 rfl; have y2 := (M5.cell 0 2 rfl).trans rfl; have yf2 := M5.frz 0 2 rfl; have y3 := (M5.cell 0 3 rfl).trans rfl; have yf3 := M5.frz 0 3 rfl; have y4 := (M5.cell 0 4 rfl).trans rfl; have yf4 := M5.frz 0 4 rfl; have z0 := (M5.cell 1 0 rfl).trans rfl; have zf0 := M5.frz 1 0 rfl; have z1 := (M5.cell 1 1 rfl).trans rfl; have zf1 := M5.frz 1 1 rfl; have s0 := (M5.cell 3 0 rfl).trans rfl; have s1 := (M5.cell 3 1 rfl).trans rfl; clear M5) | (go_at_call 26; refine (RC.out _ OS.out).mono ?_; rintro e w5 ⟨v4, rfl, YR, hb5⟩; obtain ⟨A6, c6, rfl⟩ := Kd.R_slice YR; have UR := Aside0.mk YR; have M5 := BS.out.below hb5; have B5 := Aside0.mk M5; have O5 := Aside0.mk (OS.out.below (by simp) hb5); have Z5 := Aside0.mk (show w2.heap.size ≤ w5.heap.size by have h1 := hb5.size; simp at h1; exact h1); clear YR hb5; have y0 := (M5.cell 0 0 rfl).trans rfl; have yf0 := M5.frz 0 0 rfl; have y1 := (M5.cell 0 1 rfl).trans rfl; have yf1 := M5.frz 0 1 rfl; have y2 := (M5.cell 0 2 rfl).trans rfl; have yf2 := M5.frz 0 2 rfl; have y3 := (M5.cell 0 3 rfl).trans rfl; have yf3 := M5.frz 0 3 rfl; have y4 := (M5.cell 0 4 rfl).trans rfl; have yf4 := M5.frz 0 4 rfl; have z0 := (M5.cell 1 0 rfl).trans rfl; have zf0 := M5.frz 1 0 rfl; have z1 := (M5.cell 1 1 rfl).trans rfl; have zf1 := M5.frz 1 1 rfl; clear M5))
        all_goals have Z6 := Aside0.mk (Nat.le_trans ZD.out Z5.out)
        all_goals first | refine Bxs.fin67 B5.out Z6.out (by omega) (by omega) ?_ | refine Bxs.fin76 B5.out Z6.out (by omega) (by omega) ?_ | refine Bxs.fin7 B5.out Z6.out (by omega) ?_
        all_goals
          intro Wf MF OF
          have MF2 := Aside0.mk MF
          have OF2 := Aside0.mk OF
          clear MF OF
          go_wp2
          refine bodyPost_ret (results_cc rfl _ _ (w.heap.size + 1 + 1) (w.heap.size + 1 + 1 + 1) 27 34 _ _ (0, 0) (0, 0) _ _ rfl (MF2.out.get 1 rfl) Try.underlying27 rfl (by kernel_rfl) rfl (MF2.out.get 0 rfl) Try.underlying34 rfl (by kernel_rfl)) rfl ?_
          have RB := Kd.R_mono (Kd.R_lower (base' := w.heap.size) (Kd.R_bound UR.out) (by have := ZD.out; simp; omega)) (ok' := fun k => w.heap.size + 4 ≤ k) (fun k hk => by have h1 := hk.2.1; have := ZD.out; simp at h1; omega)
          have hnb : ∀ k, k < w.heap.size → ¬ some k = (Value.slice A6 o7.length c6).ownBlock := fun k hk h => by have h1 := RB.1 k h.symm; omega
          refine ⟨_, _, _, rfl, Kd.V_mono (OF2.out.V (O5.out.V (base' := 0) XD0.out (fun k hk => .inl hk.2)) (fun k hk => .inl hk.2)) (fun k hk => ⟨.inl (.inl hk.1), fun h => hnb k hk.2 h⟩), Kd.V_mono (OF2.out.V (O5.out.V (base' := 0) XD1.out (fun k hk => .inl hk.2)) (fun k hk => .inl hk.2)) (fun k hk => ⟨.inl (.inr hk.1), fun h => hnb k hk.2 h⟩), Kd.R_mono (Kd.R_step RB (fun k hk hl => OF2.out k (.inr (by omega)) hl)) (fun k hk => by omega), MF2.out.b⟩
      | false =>
        have H := HH.out
        simp only [Bool.false_eq_true, if_false] at H
        replace H := Option.bind_eq_some_iff.mp H
        obtain ⟨⟨o1, o2, o3, o4, o5, o6, o7⟩, ho, H⟩ := H
        simp only [Option.some.injEq, Prod.mk.injEq] at H
        obtain ⟨rfl, rfl, rfl, rfl, rfl, rfl, rfl⟩ := H
        have HO := Aside0.mk ho
        clear HH ho
        have XD0 := Aside0.mk (Kd.V_drewN X0.out n2)
        have XD1 := Aside0.mk (Kd.V_drewN X1.out n2)
        go_wp2_with fail
        refine (model_State_change.calls k (fun k_ => P0_0_ k_ ∧ k_ < w.heap.size) A0_0 c0_0 l0_0 (fun k_ => P0_1_ k_ ∧ k_ < w.heap.size) A0_1 c0_1 l0_1 a2_0 a2_1 a2_2 a2_3 a2_4 o1 o2 o3 o4 o5 o6 o7 _ XD0.out XD1.out HO.out).mono ?_
        rintro e w3 ⟨v0, v1, v6, rfl, Y0, Y1, YR, hb2⟩
        obtain ⟨A8, c8, rfl⟩ := Kd.V_slice Y0
        obtain ⟨A9, c9, rfl⟩ := Kd.V_slice Y1
        obtain ⟨A6, c6, rfl⟩ := Kd.R_slice YR
        have U0 := Aside0.mk Y0
        have U1 := Aside0.mk Y1
        have UR := Aside0.mk YR
        have M2 := (B1.out.below (pw_below_drewN (Below.refl _ _) n2)).below hb2
        have B2 := Aside0.mk M2
        have Z2 := Aside0.mk (show w.heap.size + 4 ≤ w3.heap.size by have h1 := hb2.size; have := Z1.out; simp at h1; omega)
        clear y0 yf0 y1 yf1 y2 yf2 y3 yf3 y4 yf4 z0 zf0 z1 zf1 q_0 q_1 q_2 q_3 q_4 s0 s1
        have y0 := (M2.cell 0 0 rfl).trans rfl
        have yf0 := M2.frz 0 0 rfl
        have y1 := (M2.cell 0 1 rfl).trans rfl
        have yf1 := M2.frz 0 1 rfl
        have y2 := (M2.cell 0 2 rfl).trans rfl
        have yf2 := M2.frz 0 2 rfl
        have y3 := (M2.cell 0 3 rfl).trans rfl
        have yf3 := M2.frz 0 3 rfl
        have y4 := (M2.cell 0 4 rfl).trans rfl
        have yf4 := M2.frz 0 4 rfl
        have z0 := (M2.cell 1 0 rfl).trans rfl
        have zf0 := M2.frz 1 0 rfl
        have z1 := (M2.cell 1 1 rfl).trans rfl
        have zf1 := M2.frz 1 1 rfl
        clear M2 hb2 Y0 Y1 YR
        go_wp2
        refine Bxs.fin67 B2.out Z2.out (by omega) (by omega) ?_
        all_goals
          intro Wf MF OF
          have MF2 := Aside0.mk MF
          have OF2 := Aside0.mk OF
          clear MF OF
          go_wp2
          refine bodyPost_ret (results_cc rfl _ _ (w.heap.size + 1 + 1) (w.heap.size + 1 + 1 + 1) 27 34 _ _ (0, 0) (0, 0) _ _ rfl (MF2.out.get 1 rfl) Try.underlying27 rfl (by kernel_rfl) rfl (MF2.out.get 0 rfl) Try.underlying34 rfl (by kernel_rfl)) rfl ?_
          refine ⟨_, _, _, rfl, DoWalk.endV U0.out Z1.out OF2.out, DoWalk.endV U1.out Z1.out OF2.out, Kd.R_mono (Kd.R_step (Kd.R_bound (Kd.R_lower UR.out (by have := Z1.out; simp; omega))) (fun k hk hl => OF2.out k (.inr (by have h1 := hk.1; have := Z1.out; first | omega | (simp at h1; omega))) hl)) (fun k hk => hk.2.1), MF2.out.b⟩

/-! ### deadwoodlaw10_lives : by hand, elsewhere -/

/-! ### deadwoodref10_New : by hand, elsewhere -/

/-! ### deadwoodref08_Same: function 33 -/
def deadwoodref08_Same.l0 : Nat → List (S49) → List (S49) → Int → Option (Bool)
  | 0, _, _, _ => none
  | k + 1, x0, x1, x5 => if x5 < (x0.length : Int) then (if 0 ≤ x5 then (if x5 < (x1.length : Int) then (if (!(((rd_T49 x0 x5).f0) == ((rd_T49 x1 x5).f0)) || (!(((rd_T49 x0 x5).f1) == ((rd_T49 x1 x5).f1)))) = true then (some false) else (deadwoodref08_Same.l0 k x0 x1 (wrap64 (x5 + 1)))) else (none)) else (none)) else (some true)
def deadwoodref08_Same.f (k : Nat) (l0 : List (S49)) (l1 : List (S49)) : Option (Bool) := if (l0.length : Int) = (l1.length : Int) then (deadwoodref08_Same.l0 k l0 l1 0) else (some false)
theorem deadwoodref08_Same.mono_l : ∀ k, (∀ y0 y1 y2, LeO (deadwoodref08_Same.l0 k y0 y1 y2) (deadwoodref08_Same.l0 (k + 1) y0 y1 y2))
  | 0 => fun _ _ _ r h => by simp [deadwoodref08_Same.l0] at h
  | k + 1 => by
    have ih0 := deadwoodref08_Same.mono_l k
    · intro y0 y1 y2
      unfold deadwoodref08_Same.l0
      repeat' first
      | (with_reducible exact ih0 _ _ _)
      | (with_reducible exact LeO.refl _)
      | (with_reducible exact LeO.none _)
      | (with_reducible refine LeO.ite ?_ ?_)
      | (with_reducible refine LeO.bind ?_ (fun _ => ?_))
      | exact ih0 _ _ _
      | exact LeO.none _
      | refine LeO.ite ?_ ?_
      | refine LeO.bind ?_ (fun _ => ?_)
theorem deadwoodref08_Same.mono : ∀ a0 a1 k, LeO (deadwoodref08_Same.f k a0 a1) (deadwoodref08_Same.f (k + 1) a0 a1) := by
  intro a0 a1 k
  have ih0 := deadwoodref08_Same.mono_l k
  unfold deadwoodref08_Same.f
  repeat' first
      | (with_reducible exact ih0 _ _ _)
      | (with_reducible exact LeO.refl _)
      | (with_reducible exact LeO.none _)
      | (with_reducible refine LeO.ite ?_ ?_)
      | (with_reducible refine LeO.bind ?_ (fun _ => ?_))
      | exact ih0 _ _ _
      | exact LeO.none _
      | refine LeO.ite ?_ ?_
      | refine LeO.bind ?_ (fun _ => ?_)
set_option maxHeartbeats 8000000 in
set_option maxRecDepth 100000 in
theorem deadwoodref08_Same.calls (k : Nat) (A0 : Option Addr) (c0 : Nat) (l0 : List (S49)) (A1 : Option Addr) (c1 : Nat) (l1 : List (S49)) (r : Bool) (w : World) (hr0 : Kd.C k49 w A0 l0.length l0) (hc0 : l0.length ≤ c0) (hr1 : Kd.C k49 w A1 l1.length l1) (hc1 : l1.length ≤ c1) (h : deadwoodref08_Same.f k l0 l1 = some r) :
    Calls Try.prog 33 #[.slice A0 l0.length c0, .slice A1 l1.length c1] w fun e w' => e = .returned (.bool r) ∧ Drawn0 w w' := by
  have hu49 := Try.underlying49
  have HR0 := Aside0.mk hr0
  have HC0 := Aside0.mk hc0
  clear hr0 hc0
  have HR1 := Aside0.mk hr1
  have HC1 := Aside0.mk hc1
  clear hr1 hc1
  have H : (if (l0.length : Int) = (l1.length : Int) then (deadwoodref08_Same.l0 k l0 l1 0) else (some false)) = some r := h
  clear h
  by_cases c3 : (l0.length : Int) = (l1.length : Int)
  · rw [if_pos c3] at H
    have c3b0 : ((l0.length : Int) == (l1.length : Int)) = true := beq_iff_eq.mpr c3
    have c3b1 : ((l0.length : Int) != (l1.length : Int)) = false := bne_eq_false_iff_eq.mpr c3
    have c3b2 : (l0.length == l1.length) = true := by first | simpa using c3 | (simp at c3 ⊢; omega)
    clear c3
    have H' := Aside0.mk H
    clear H
    go_enter Try.func33, Try.ntmps33
    go_wp2
    repeat (go_quiet (fail); try go_wp2)
    go_loopg [5] k (fun kq v5 w' => ∃ (x5_1 : Int), v5 = .int .i64 x5_1 ∧ Aside0 (deadwoodref08_Same.l0 kq l0 l1 x5_1 = some r) ∧ Aside0 (kq ≤ k) ∧ Drawn0 w w')
    case atStart => exact ⟨(0), (by first | rfl | (simp; done) | (simp [*]; done)), H', ⟨Nat.le_refl _⟩, by repeat (first | exact Drawn0.refl _ | apply Drawn0.step)⟩
    case round =>
      clear H'
      try clear c1
      try clear p2
      try clear c3
      try clear c3b0
      try clear c3b1
      try clear c3b2
      obtain ⟨x5_1, rfl, HA, HK1, ⟨m1, rfl⟩⟩ := hrel
      cases gk with
      | zero => exact absurd HA.out (by simp [deadwoodref08_Same.l0])
      | succ k1 =>
        have H := HA.out
        clear HA
        simp only [deadwoodref08_Same.l0] at H
        by_cases c4 : x5_1 < (l0.length : Int)
        · rw [if_pos c4] at H
          have c4b0 : decide (x5_1 < (l0.length : Int)) = true := decide_eq_true c4
          clear c4
          by_cases c5 : 0 ≤ x5_1
          · rw [if_pos c5] at H
            have c5b0 : decide (0 ≤ x5_1) = true := decide_eq_true c5
            clear c5
            by_cases c6 : x5_1 < (l1.length : Int)
            · rw [if_pos c6] at H
              have c6b0 : decide (x5_1 < (l1.length : Int)) = true := decide_eq_true c6
              clear c6
              by_cases c7 : (!(((rd_T49 l0 x5_1).f0) == ((rd_T49 l1 x5_1).f0)) || (!(((rd_T49 l0 x5_1).f1) == ((rd_T49 l1 x5_1).f1)))) = true
              · rw [if_pos c7] at H
                have c7b0 : (!(((rd_T49 l0 x5_1).f0) == ((rd_T49 l1 x5_1).f0)) || (!(((rd_T49 l0 x5_1).f1) == ((rd_T49 l1 x5_1).f1)))) = true := c7
                clear c7
                obtain rfl := Option.some.inj H
                have p371 : 0 ≤ (x5_1 : Int) := of_decide_eq_true (by first | (with_reducible assumption) | assumption)
                have q371 : x5_1 < (l0.length : Int) := of_decide_eq_true (by first | (with_reducible assumption) | assumption)
                obtain ⟨ad371, e371, hx371_0, hx371_1⟩ := at_T49 HR0.out x5_1 p371 q371
                cases e371
                replace p371 := eq_true p371
                replace q371 := eq_true q371
                have p372 : 0 ≤ (x5_1 : Int) := of_decide_eq_true (by first | (with_reducible assumption) | assumption)
                have q372 : x5_1 < (l1.length : Int) := of_decide_eq_true (by first | (with_reducible assumption) | assumption)
                obtain ⟨ad372, e372, hx372_0, hx372_1⟩ := at_T49 HR1.out x5_1 p372 q372
                cases e372
                replace p372 := eq_true p372
                replace q372 := eq_true q372
                go_wp2
                repeat (go_quiet (fail); try go_wp2)
                go_ret
                exact ⟨by first | rfl | (simp; done) | (simp [*]; done), by repeat (first | exact Drawn0.refl _ | apply Drawn0.step)⟩
              · rw [if_neg c7] at H
                have c7b0 : (!(((rd_T49 l0 x5_1).f0) == ((rd_T49 l1 x5_1).f0)) || (!(((rd_T49 l0 x5_1).f1) == ((rd_T49 l1 x5_1).f1)))) = false := by simpa using c7
                clear c7
                have H' := Aside0.mk H
                clear H
                have p371 : 0 ≤ (x5_1 : Int) := of_decide_eq_true (by first | (with_reducible assumption) | assumption)
                have q371 : x5_1 < (l0.length : Int) := of_decide_eq_true (by first | (with_reducible assumption) | assumption)
                obtain ⟨ad371, e371, hx371_0, hx371_1⟩ := at_T49 HR0.out x5_1 p371 q371
                cases e371
                replace p371 := eq_true p371
                replace q371 := eq_true q371
                have p372 : 0 ≤ (x5_1 : Int) := of_decide_eq_true (by first | (with_reducible assumption) | assumption)
                have q372 : x5_1 < (l1.length : Int) := of_decide_eq_true (by first | (with_reducible assumption) | assumption)
                obtain ⟨ad372, e372, hx372_0, hx372_1⟩ := at_T49 HR1.out x5_1 p372 q372
                cases e372
                replace p372 := eq_true p372
                replace q372 := eq_true q372
                go_wp2
                repeat (go_quiet (fail); try go_wp2)
                go_roundg k1
                case measure => have := HK1.out; omega
                case rel => exact ⟨(wrap64 (x5_1 + 1)), (by first | rfl | (simp; done) | (simp [*]; done)), H', ⟨by have := HK1.out; omega⟩, by repeat (first | exact Drawn0.refl _ | apply Drawn0.step)⟩
            · rw [if_neg c6] at H
              exact absurd H (by simp)
          · rw [if_neg c5] at H
            exact absurd H (by simp)
        · rw [if_neg c4] at H
          have c4b0 : decide (x5_1 < (l0.length : Int)) = false := decide_eq_false c4
          clear c4
          obtain rfl := Option.some.inj H
          go_wp2
          repeat (go_quiet (fail); try go_wp2)
          go_ret
          exact ⟨by first | rfl | (simp; done) | (simp [*]; done), by repeat (first | exact Drawn0.refl _ | apply Drawn0.step)⟩
  · rw [if_neg c3] at H
    have c3b0 : ((l0.length : Int) == (l1.length : Int)) = false := beq_eq_false_iff_ne.mpr c3
    have c3b1 : ((l0.length : Int) != (l1.length : Int)) = true := bne_iff_ne.mpr c3
    have c3b2 : (l0.length == l1.length) = false := by first | simpa using c3 | (simp at c3 ⊢; omega)
    obtain rfl := Option.some.inj H
    go_enter Try.func33, Try.ntmps33
    go_wp2
    repeat (go_quiet (fail); try go_wp2)
    go_ret
    exact ⟨by first | rfl | (simp; done) | (simp [*]; done), by repeat (first | exact Drawn0.refl _ | apply Drawn0.step)⟩

/-! ### deadwoodref10_Same : by hand, elsewhere -/

/-! ### deadwoodlaw10_as : by hand, elsewhere -/

/-! ### api_Pair: function 51 -/
def api_Pair.l0 : Nat → List (S49) → List (S49) → Int → Int → Option (Bool)
  | 0, _, _, _, _ => none
  | k + 1, x0, x1, x12, x13 => if x13 < x12 then (if 0 ≤ x13 then (if x13 < (x0.length : Int) then (if x13 < (x1.length : Int) then (if (!(((rd_T49 x0 x13).f0) == ((rd_T49 x1 x13).f0)) || (!(((rd_T49 x0 x13).f1) == ((rd_T49 x1 x13).f1)))) = true then (some false) else (api_Pair.l0 k x0 x1 x12 (wrap64 (x13 + 1)))) else (none)) else (none)) else (none)) else (some true)
def api_Pair.f (k : Nat) (l0 : List (S49)) (l1 : List (S49)) : Option (Bool) := if (l0.length : Int) = (l1.length : Int) then (api_Pair.l0 k l0 l1 (l0.length : Int) 0) else (some false)
theorem api_Pair.mono_l : ∀ k, (∀ y0 y1 y2 y3, LeO (api_Pair.l0 k y0 y1 y2 y3) (api_Pair.l0 (k + 1) y0 y1 y2 y3))
  | 0 => fun _ _ _ _ r h => by simp [api_Pair.l0] at h
  | k + 1 => by
    have ih0 := api_Pair.mono_l k
    · intro y0 y1 y2 y3
      unfold api_Pair.l0
      repeat' first
      | (with_reducible exact ih0 _ _ _ _)
      | (with_reducible exact LeO.refl _)
      | (with_reducible exact LeO.none _)
      | (with_reducible refine LeO.ite ?_ ?_)
      | (with_reducible refine LeO.bind ?_ (fun _ => ?_))
      | exact ih0 _ _ _ _
      | exact LeO.none _
      | refine LeO.ite ?_ ?_
      | refine LeO.bind ?_ (fun _ => ?_)
theorem api_Pair.mono : ∀ a0 a1 k, LeO (api_Pair.f k a0 a1) (api_Pair.f (k + 1) a0 a1) := by
  intro a0 a1 k
  have ih0 := api_Pair.mono_l k
  unfold api_Pair.f
  repeat' first
      | (with_reducible exact ih0 _ _ _ _)
      | (with_reducible exact LeO.refl _)
      | (with_reducible exact LeO.none _)
      | (with_reducible refine LeO.ite ?_ ?_)
      | (with_reducible refine LeO.bind ?_ (fun _ => ?_))
      | exact ih0 _ _ _ _
      | exact LeO.none _
      | refine LeO.ite ?_ ?_
      | refine LeO.bind ?_ (fun _ => ?_)
set_option maxHeartbeats 8000000 in
set_option maxRecDepth 100000 in
theorem api_Pair.calls (k : Nat) (A0 : Option Addr) (c0 : Nat) (l0 : List (S49)) (A1 : Option Addr) (c1 : Nat) (l1 : List (S49)) (r : Bool) (w : World) (hr0 : Kd.C k49 w A0 l0.length l0) (hc0 : l0.length ≤ c0) (hr1 : Kd.C k49 w A1 l1.length l1) (hc1 : l1.length ≤ c1) (h : api_Pair.f k l0 l1 = some r) :
    Calls Try.prog 51 #[.slice A0 l0.length c0, .slice A1 l1.length c1] w fun e w' => e = .returned (.bool r) ∧ Drawn0 w w' := by
  have hu49 := Try.underlying49
  have HR0 := Aside0.mk hr0
  have HC0 := Aside0.mk hc0
  clear hr0 hc0
  have HR1 := Aside0.mk hr1
  have HC1 := Aside0.mk hc1
  clear hr1 hc1
  have H : (if (l0.length : Int) = (l1.length : Int) then (api_Pair.l0 k l0 l1 (l0.length : Int) 0) else (some false)) = some r := h
  clear h
  by_cases c3 : (l0.length : Int) = (l1.length : Int)
  · rw [if_pos c3] at H
    have c3b0 : ((l0.length : Int) == (l1.length : Int)) = true := beq_iff_eq.mpr c3
    have c3b1 : ((l0.length : Int) != (l1.length : Int)) = false := bne_eq_false_iff_eq.mpr c3
    have c3b2 : (l0.length == l1.length) = true := by first | simpa using c3 | (simp at c3 ⊢; omega)
    clear c3
    have H' := Aside0.mk H
    clear H
    go_enter Try.func51, Try.ntmps51
    go_wp2
    repeat (go_quiet (fail); try go_wp2)
    go_loopg [13] k (fun kq v13 w' => ∃ (x13_1 : Int), v13 = .int .i64 x13_1 ∧ Aside0 (api_Pair.l0 kq l0 l1 (l0.length : Int) x13_1 = some r) ∧ Aside0 (kq ≤ k) ∧ Drawn0 w w')
    case atStart => exact ⟨(0), (by first | rfl | (simp; done) | (simp [*]; done)), H', ⟨Nat.le_refl _⟩, by repeat (first | exact Drawn0.refl _ | apply Drawn0.step)⟩
    case round =>
      clear H'
      try clear c1
      try clear p2
      try clear c3
      try clear c3b0
      try clear c3b1
      try clear c3b2
      obtain ⟨x13_1, rfl, HA, HK1, ⟨m1, rfl⟩⟩ := hrel
      cases gk with
      | zero => exact absurd HA.out (by simp [api_Pair.l0])
      | succ k1 =>
        have H := HA.out
        clear HA
        simp only [api_Pair.l0] at H
        by_cases c4 : x13_1 < (l0.length : Int)
        · rw [if_pos c4] at H
          have c4b0 : decide (x13_1 < (l0.length : Int)) = true := decide_eq_true c4
          clear c4
          by_cases c5 : 0 ≤ x13_1
          · rw [if_pos c5] at H
            have c5b0 : decide (0 ≤ x13_1) = true := decide_eq_true c5
            clear c5
            by_cases c6 : x13_1 < (l0.length : Int)
            · rw [if_pos c6] at H
              have c6b0 : decide (x13_1 < (l0.length : Int)) = true := decide_eq_true c6
              clear c6
              by_cases c7 : x13_1 < (l1.length : Int)
              · rw [if_pos c7] at H
                have c7b0 : decide (x13_1 < (l1.length : Int)) = true := decide_eq_true c7
                clear c7
                by_cases c8 : (!(((rd_T49 l0 x13_1).f0) == ((rd_T49 l1 x13_1).f0)) || (!(((rd_T49 l0 x13_1).f1) == ((rd_T49 l1 x13_1).f1)))) = true
                · rw [if_pos c8] at H
                  have c8b0 : (!(((rd_T49 l0 x13_1).f0) == ((rd_T49 l1 x13_1).f0)) || (!(((rd_T49 l0 x13_1).f1) == ((rd_T49 l1 x13_1).f1)))) = true := c8
                  clear c8
                  obtain rfl := Option.some.inj H
                  have p377 : 0 ≤ (x13_1 : Int) := of_decide_eq_true (by first | (with_reducible assumption) | assumption)
                  have q377 : x13_1 < (l0.length : Int) := of_decide_eq_true (by first | (with_reducible assumption) | assumption)
                  obtain ⟨ad377, e377, hx377_0, hx377_1⟩ := at_T49 HR0.out x13_1 p377 q377
                  cases e377
                  replace p377 := eq_true p377
                  replace q377 := eq_true q377
                  have p378 : 0 ≤ (x13_1 : Int) := of_decide_eq_true (by first | (with_reducible assumption) | assumption)
                  have q378 : x13_1 < (l1.length : Int) := of_decide_eq_true (by first | (with_reducible assumption) | assumption)
                  obtain ⟨ad378, e378, hx378_0, hx378_1⟩ := at_T49 HR1.out x13_1 p378 q378
                  cases e378
                  replace p378 := eq_true p378
                  replace q378 := eq_true q378
                  go_wp2
                  repeat (go_quiet (fail); try go_wp2)
                  go_ret
                  exact ⟨by first | rfl | (simp; done) | (simp [*]; done), by repeat (first | exact Drawn0.refl _ | apply Drawn0.step)⟩
                · rw [if_neg c8] at H
                  have c8b0 : (!(((rd_T49 l0 x13_1).f0) == ((rd_T49 l1 x13_1).f0)) || (!(((rd_T49 l0 x13_1).f1) == ((rd_T49 l1 x13_1).f1)))) = false := by simpa using c8
                  clear c8
                  have H' := Aside0.mk H
                  clear H
                  have p377 : 0 ≤ (x13_1 : Int) := of_decide_eq_true (by first | (with_reducible assumption) | assumption)
                  have q377 : x13_1 < (l0.length : Int) := of_decide_eq_true (by first | (with_reducible assumption) | assumption)
                  obtain ⟨ad377, e377, hx377_0, hx377_1⟩ := at_T49 HR0.out x13_1 p377 q377
                  cases e377
                  replace p377 := eq_true p377
                  replace q377 := eq_true q377
                  have p378 : 0 ≤ (x13_1 : Int) := of_decide_eq_true (by first | (with_reducible assumption) | assumption)
                  have q378 : x13_1 < (l1.length : Int) := of_decide_eq_true (by first | (with_reducible assumption) | assumption)
                  obtain ⟨ad378, e378, hx378_0, hx378_1⟩ := at_T49 HR1.out x13_1 p378 q378
                  cases e378
                  replace p378 := eq_true p378
                  replace q378 := eq_true q378
                  go_wp2
                  repeat (go_quiet (fail); try go_wp2)
                  go_roundg k1
                  case measure => have := HK1.out; omega
                  case rel => exact ⟨(wrap64 (x13_1 + 1)), (by first | rfl | (simp; done) | (simp [*]; done)), H', ⟨by have := HK1.out; omega⟩, by repeat (first | exact Drawn0.refl _ | apply Drawn0.step)⟩
              · rw [if_neg c7] at H
                exact absurd H (by simp)
            · rw [if_neg c6] at H
              exact absurd H (by simp)
          · rw [if_neg c5] at H
            exact absurd H (by simp)
        · rw [if_neg c4] at H
          have c4b0 : decide (x13_1 < (l0.length : Int)) = false := decide_eq_false c4
          clear c4
          obtain rfl := Option.some.inj H
          go_wp2
          repeat (go_quiet (fail); try go_wp2)
          go_ret
          exact ⟨by first | rfl | (simp; done) | (simp [*]; done), by repeat (first | exact Drawn0.refl _ | apply Drawn0.step)⟩
  · rw [if_neg c3] at H
    have c3b0 : ((l0.length : Int) == (l1.length : Int)) = false := beq_eq_false_iff_ne.mpr c3
    have c3b1 : ((l0.length : Int) != (l1.length : Int)) = true := bne_iff_ne.mpr c3
    have c3b2 : (l0.length == l1.length) = false := by first | simpa using c3 | (simp at c3 ⊢; omega)
    obtain rfl := Option.some.inj H
    go_enter Try.func51, Try.ntmps51
    go_wp2
    repeat (go_quiet (fail); try go_wp2)
    go_ret
    exact ⟨by first | rfl | (simp; done) | (simp [*]; done), by repeat (first | exact Drawn0.refl _ | apply Drawn0.step)⟩

/-! ### pairs_Same: function 34 -/
def pairs_Same.f (k : Nat) (l0 : List (S49)) (l1 : List (S49)) : Option (Bool) := (api_Pair.f k l0 l1).bind fun t379 => (some t379)
theorem pairs_Same.mono : ∀ a0 a1 k, LeO (pairs_Same.f k a0 a1) (pairs_Same.f (k + 1) a0 a1) := by
  intro a0 a1 k
  unfold pairs_Same.f
  repeat' first
      | (with_reducible exact api_Pair.mono _ _ _)
      | (with_reducible exact LeO.refl _)
      | (with_reducible exact LeO.none _)
      | (with_reducible refine LeO.ite ?_ ?_)
      | (with_reducible refine LeO.bind ?_ (fun _ => ?_))
      | exact api_Pair.mono _ _ _
      | exact LeO.none _
      | refine LeO.ite ?_ ?_
      | refine LeO.bind ?_ (fun _ => ?_)
set_option maxHeartbeats 8000000 in
set_option maxRecDepth 100000 in
theorem pairs_Same.calls (k : Nat) (A0 : Option Addr) (c0 : Nat) (l0 : List (S49)) (A1 : Option Addr) (c1 : Nat) (l1 : List (S49)) (r : Bool) (w : World) (hr0 : Kd.C k49 w A0 l0.length l0) (hc0 : l0.length ≤ c0) (hr1 : Kd.C k49 w A1 l1.length l1) (hc1 : l1.length ≤ c1) (h : pairs_Same.f k l0 l1 = some r) :
    Calls Try.prog 34 #[.slice A0 l0.length c0, .slice A1 l1.length c1] w fun e w' => e = .returned (.bool r) ∧ Drawn0 w w' := by
  have HR0 := Aside0.mk hr0
  have HC0 := Aside0.mk hc0
  clear hr0 hc0
  have HR1 := Aside0.mk hr1
  have HC1 := Aside0.mk hc1
  clear hr1 hc1
  have H : ((api_Pair.f k l0 l1).bind fun t379 => (some t379)) = some r := h
  clear h
  replace H := Option.bind_eq_some_iff.mp H
  obtain ⟨t379, A30, H⟩ := H
  replace H : (some t379) = some r := H
  have A3 := Aside0.mk A30
  clear A30
  obtain rfl := Option.some.inj H
  go_enter Try.func34, Try.ntmps34
  go_wp2_with (first | ((with_reducible refine gate_callee (f := 51) rfl ?_); refine goesL_ (some 7) rfl rfl Try.func51 (by kernel_rfl) rfl #[.slice A0 l0.length c0, .slice A1 l1.length c1] rfl (by (try simp only [List.map_toArray, List.map_cons, List.map_nil]); first | done | rfl | (simp only [List.length_drop, List.length_take]; rfl)) ?_; (with_reducible refine (api_Pair.calls k _ _ l0 _ _ l1 t379 _ ?side1 ?side2 ?side3 ?side4 A3.out).mono ?_); (case side1 => repeat (first | exact HR0.out | (with_reducible refine Kd.C_alloc ?_ _) | (with_reducible refine Kd.C_drewN ?_ _) | (with_reducible refine Kd.C_drew ?_))); (case side2 => exact HC0.out); (case side3 => repeat (first | exact HR1.out | (with_reducible refine Kd.C_alloc ?_ _) | (with_reducible refine Kd.C_drewN ?_ _) | (with_reducible refine Kd.C_drew ?_))); (case side4 => exact HC1.out); rintro e w' ⟨rfl, ⟨nd, rfl⟩⟩; refine ⟨_, rfl, ?_⟩))
  go_ret
  exact ⟨by first | rfl | (simp; done) | (simp [*]; done), by repeat (first | exact Drawn0.refl _ | apply Drawn0.step)⟩

/-! ### call_Same: function 15 -/
def call_Same.f (k : Nat) (a0_0 : Int) (a0_1 : Int) (a0_2 : Int) (a0_3 : Int) (l0_4 : List (S49)) (a1_0 : Int) (a1_1 : Int) (a1_2 : Int) (a1_3 : Int) (l1_4 : List (S49)) : Option (Bool) := if a0_0 = a1_0 then (if a0_1 = a1_1 then (if a0_2 = a1_2 then (if a0_3 = a1_3 then ((pairs_Same.f k l0_4 l1_4).bind fun t382 => (some t382)) else (some false)) else (some false)) else (some false)) else (some false)
theorem call_Same.mono : ∀ a0 a1 a2 a3 a4 a5 a6 a7 a8 a9 k, LeO (call_Same.f k a0 a1 a2 a3 a4 a5 a6 a7 a8 a9) (call_Same.f (k + 1) a0 a1 a2 a3 a4 a5 a6 a7 a8 a9) := by
  intro a0 a1 a2 a3 a4 a5 a6 a7 a8 a9 k
  unfold call_Same.f
  repeat' first
      | (with_reducible exact pairs_Same.mono _ _ _)
      | (with_reducible exact LeO.refl _)
      | (with_reducible exact LeO.none _)
      | (with_reducible refine LeO.ite ?_ ?_)
      | (with_reducible refine LeO.bind ?_ (fun _ => ?_))
      | exact pairs_Same.mono _ _ _
      | exact LeO.none _
      | refine LeO.ite ?_ ?_
      | refine LeO.bind ?_ (fun _ => ?_)
set_option maxHeartbeats 8000000 in
set_option maxRecDepth 100000 in
theorem call_Same.calls (k : Nat) (a0_0 : Int) (a0_1 : Int) (a0_2 : Int) (a0_3 : Int) (A0_4 : Option Addr) (c0_4 : Nat) (l0_4 : List (S49)) (a1_0 : Int) (a1_1 : Int) (a1_2 : Int) (a1_3 : Int) (A1_4 : Option Addr) (c1_4 : Nat) (l1_4 : List (S49)) (r : Bool) (w : World) (hr0_4 : Kd.C k49 w A0_4 l0_4.length l0_4) (hc0_4 : l0_4.length ≤ c0_4) (hr1_4 : Kd.C k49 w A1_4 l1_4.length l1_4) (hc1_4 : l1_4.length ≤ c1_4) (h : call_Same.f k a0_0 a0_1 a0_2 a0_3 l0_4 a1_0 a1_1 a1_2 a1_3 l1_4 = some r) :
    Calls Try.prog 15 #[.agg #[.int .i64 a0_0, .int .i64 a0_1, .int .i64 a0_2, .int .i64 a0_3, .slice A0_4 l0_4.length c0_4], .agg #[.int .i64 a1_0, .int .i64 a1_1, .int .i64 a1_2, .int .i64 a1_3, .slice A1_4 l1_4.length c1_4]] w fun e w' => e = .returned (.bool r) ∧ Below w.heap.size w w' := by
  have hu34 := Try.underlying34
  have HR0_4 := Aside0.mk hr0_4
  have HC0_4 := Aside0.mk hc0_4
  clear hr0_4 hc0_4
  have HR1_4 := Aside0.mk hr1_4
  have HC1_4 := Aside0.mk hc1_4
  clear hr1_4 hc1_4
  have HB := Aside0.mk (Below.refl w.heap.size w)
  have H : (if a0_0 = a1_0 then (if a0_1 = a1_1 then (if a0_2 = a1_2 then (if a0_3 = a1_3 then ((pairs_Same.f k l0_4 l1_4).bind fun t382 => (some t382)) else (some false)) else (some false)) else (some false)) else (some false)) = some r := h
  clear h
  by_cases c3 : a0_0 = a1_0
  · rw [if_pos c3] at H
    have c3b0 : (a0_0 == a1_0) = true := beq_iff_eq.mpr c3
    have c3b1 : (a0_0 != a1_0) = false := bne_eq_false_iff_eq.mpr c3
    clear c3
    by_cases c4 : a0_1 = a1_1
    · rw [if_pos c4] at H
      have c4b0 : (a0_1 == a1_1) = true := beq_iff_eq.mpr c4
      have c4b1 : (a0_1 != a1_1) = false := bne_eq_false_iff_eq.mpr c4
      clear c4
      by_cases c5 : a0_2 = a1_2
      · rw [if_pos c5] at H
        have c5b0 : (a0_2 == a1_2) = true := beq_iff_eq.mpr c5
        have c5b1 : (a0_2 != a1_2) = false := bne_eq_false_iff_eq.mpr c5
        clear c5
        by_cases c6 : a0_3 = a1_3
        · rw [if_pos c6] at H
          have c6b0 : (a0_3 == a1_3) = true := beq_iff_eq.mpr c6
          have c6b1 : (a0_3 != a1_3) = false := bne_eq_false_iff_eq.mpr c6
          clear c6
          replace H := Option.bind_eq_some_iff.mp H
          obtain ⟨t382, A70, H⟩ := H
          replace H : (some t382) = some r := H
          have A7 := Aside0.mk A70
          clear A70
          obtain rfl := Option.some.inj H
          go_enter Try.func15, Try.ntmps15
          go_wp2_with (first | ((with_reducible refine gate_dst (N := 2) rfl ?_); refine box_event ?hg (N := 2) ?hd (cs := #[.int .i64 a0_0, .int .i64 a0_1, .int .i64 a0_2, .int .i64 a0_3, .slice A0_4 l0_4.length c0_4]) (t := 34) ?hr ?_; (case hd => rfl); (case hg => rfl); (case hr => first | (go_simp; done) | (go_simp; rfl)); intro gb380 hg w8 hbox hb; have n0_ := Aside0.mk (below_step (by repeat (first | (with_reducible first | exact HB.out | apply below_alloc | apply pw_below_drewN | apply below_drew1) | exact HB.out)) hb); have n1_ := Aside0.mk (hbox); have n2_ := Aside0.mk ((by rw [hg]; exact (below_size (by repeat (first | (with_reducible first | exact HB.out | apply below_alloc | apply pw_below_drewN | apply below_drew1) | exact HB.out))) : w.heap.size ≤ gb380)); have n3_ := Aside0.mk ((by rw [hg]; exact (below_size (by repeat (first | (with_reducible first | exact HB.out | apply below_alloc | apply pw_below_drewN | apply below_drew1) | exact HB.out))) : w.heap.size ≤ gb380)); clear HB; have HB := n0_; have BK380 := n1_; have GW380 := n2_; have GE380 := n3_; clear n0_ n1_ n2_ n3_; clear hb hbox hg) | ((with_reducible refine gate_dst (N := 3) rfl ?_); refine box_event ?hg (N := 3) ?hd (cs := #[.int .i64 a1_0, .int .i64 a1_1, .int .i64 a1_2, .int .i64 a1_3, .slice A1_4 l1_4.length c1_4]) (t := 34) ?hr ?_; (case hd => rfl); (case hg => rfl); (case hr => first | (go_simp; done) | (go_simp; rfl)); intro gb381 hg w9 hbox hb; have n0_ := Aside0.mk (blk_below (g := gb380) (o := .cells #[.int .i64 a0_0, .int .i64 a0_1, .int .i64 a0_2, .int .i64 a0_3, .slice A0_4 l0_4.length c0_4] 34 (0, 0)) (by (with_reducible repeat (first | refine blk_drewN ?_ _ | refine blk_drew ?_ | refine blk_alloc ?_ _)); exact BK380.out) hb); have n1_ := Aside0.mk (below_step (by repeat (first | (with_reducible first | exact HB.out | apply below_alloc | apply pw_below_drewN | apply below_drew1 | refine below_set ?_ GE380.out) | exact HB.out)) hb); have n2_ := Aside0.mk (hbox); have n3_ := Aside0.mk ((by rw [hg]; exact (below_size (by repeat (first | (with_reducible first | exact HB.out | apply below_alloc | apply pw_below_drewN | apply below_drew1 | refine below_set ?_ GE380.out) | exact HB.out))) : w.heap.size ≤ gb381)); have n4_ := Aside0.mk ((by rw [hg]; exact (below_size (by repeat (first | (with_reducible first | exact HB.out | apply below_alloc | apply pw_below_drewN | apply below_drew1 | refine below_set ?_ GE380.out) | exact HB.out))) : w.heap.size ≤ gb381)); have n5_ := Aside0.mk ((by rw [hg]; exact Nat.ne_of_lt (blk_lt (g := gb380) (o := .cells #[.int .i64 a0_0, .int .i64 a0_1, .int .i64 a0_2, .int .i64 a0_3, .slice A0_4 l0_4.length c0_4] 34 (0, 0)) (by (with_reducible repeat (first | refine blk_drewN ?_ _ | refine blk_drew ?_ | refine blk_alloc ?_ _)); exact BK380.out)) : gb380 ≠ gb381)); have n6_ := Aside0.mk ((by rw [hg]; exact Nat.ne_of_gt (blk_lt (g := gb380) (o := .cells #[.int .i64 a0_0, .int .i64 a0_1, .int .i64 a0_2, .int .i64 a0_3, .slice A0_4 l0_4.length c0_4] 34 (0, 0)) (by (with_reducible repeat (first | refine blk_drewN ?_ _ | refine blk_drew ?_ | refine blk_alloc ?_ _)); exact BK380.out)) : gb381 ≠ gb380)); clear BK380; clear HB; have BK380 := n0_; have HB := n1_; have BK381 := n2_; have GW381 := n3_; have GE381 := n4_; have NB380_381 := n5_; have NB381_380 := n6_; clear n0_ n1_ n2_ n3_ n4_ n5_ n6_; clear hb hbox hg; have hnb10 := NB380_381.out; have hnc10 := NB381_380.out; have hcz11_0 : w9.cell? ⟨gb380, 0, none⟩ = some (.int .i64 a0_0) := (blk_cell BK380.out 0).trans rfl; have hcz11_1 : w9.cell? ⟨gb380, 1, none⟩ = some (.int .i64 a0_1) := (blk_cell BK380.out 1).trans rfl; have hcz11_2 : w9.cell? ⟨gb380, 2, none⟩ = some (.int .i64 a0_2) := (blk_cell BK380.out 2).trans rfl; have hcz11_3 : w9.cell? ⟨gb380, 3, none⟩ = some (.int .i64 a0_3) := (blk_cell BK380.out 3).trans rfl; have hcz11_4 : w9.cell? ⟨gb380, 4, none⟩ = some (.slice A0_4 l0_4.length c0_4) := (blk_cell BK380.out 4).trans rfl; have hfz11_0 := blk_frozen BK380.out 0; have hfz11_1 := blk_frozen BK380.out 1; have hfz11_2 := blk_frozen BK380.out 2; have hfz11_3 := blk_frozen BK380.out 3; have hfz11_4 := blk_frozen BK380.out 4; have hcz12_0 : w9.cell? ⟨gb381, 0, none⟩ = some (.int .i64 a1_0) := (blk_cell BK381.out 0).trans rfl; have hcz12_1 : w9.cell? ⟨gb381, 1, none⟩ = some (.int .i64 a1_1) := (blk_cell BK381.out 1).trans rfl; have hcz12_2 : w9.cell? ⟨gb381, 2, none⟩ = some (.int .i64 a1_2) := (blk_cell BK381.out 2).trans rfl; have hcz12_3 : w9.cell? ⟨gb381, 3, none⟩ = some (.int .i64 a1_3) := (blk_cell BK381.out 3).trans rfl; have hcz12_4 : w9.cell? ⟨gb381, 4, none⟩ = some (.slice A1_4 l1_4.length c1_4) := (blk_cell BK381.out 4).trans rfl; have hfz12_0 := blk_frozen BK381.out 0; have hfz12_1 := blk_frozen BK381.out 1; have hfz12_2 := blk_frozen BK381.out 2; have hfz12_3 := blk_frozen BK381.out 3; have hfz12_4 := blk_frozen BK381.out 4) | (go_at_call 34; (with_reducible refine (pairs_Same.calls k _ _ l0_4 _ _ l1_4 t382 _ ?side1 ?side2 ?side3 ?side4 A7.out).mono ?_); (case side1 => repeat (first | exact (Kd.C_below HR0_4.out HB.out) | (with_reducible refine Kd.C_alloc ?_ _) | (with_reducible refine Kd.C_drewN ?_ _) | (with_reducible refine Kd.C_drew ?_))); (case side2 => exact HC0_4.out); (case side3 => repeat (first | exact (Kd.C_below HR1_4.out HB.out) | (with_reducible refine Kd.C_alloc ?_ _) | (with_reducible refine Kd.C_drewN ?_ _) | (with_reducible refine Kd.C_drew ?_))); (case side4 => exact HC1_4.out); rintro e w' ⟨rfl, ⟨nd, rfl⟩⟩))
          go_ret
          exact ⟨by first | rfl | (simp [errW_none, errW_some] <;> rfl) | (simp [*, errW_none, errW_some] <;> rfl), by repeat (first | (with_reducible first | exact HB.out | apply below_alloc | apply pw_below_drewN | apply below_drew1 | refine below_set ?_ GE380.out | refine below_set ?_ GE381.out) | exact HB.out)⟩
        · rw [if_neg c6] at H
          have c6b0 : (a0_3 == a1_3) = false := beq_eq_false_iff_ne.mpr c6
          have c6b1 : (a0_3 != a1_3) = true := bne_iff_ne.mpr c6
          obtain rfl := Option.some.inj H
          go_enter Try.func15, Try.ntmps15
          go_wp2_with (first | ((with_reducible refine gate_dst (N := 2) rfl ?_); refine box_event ?hg (N := 2) ?hd (cs := #[.int .i64 a0_0, .int .i64 a0_1, .int .i64 a0_2, .int .i64 a0_3, .slice A0_4 l0_4.length c0_4]) (t := 34) ?hr ?_; (case hd => rfl); (case hg => rfl); (case hr => first | (go_simp; done) | (go_simp; rfl)); intro gb380 hg w13 hbox hb; have n0_ := Aside0.mk (below_step (by repeat (first | (with_reducible first | exact HB.out | apply below_alloc | apply pw_below_drewN | apply below_drew1) | exact HB.out)) hb); have n1_ := Aside0.mk (hbox); have n2_ := Aside0.mk ((by rw [hg]; exact (below_size (by repeat (first | (with_reducible first | exact HB.out | apply below_alloc | apply pw_below_drewN | apply below_drew1) | exact HB.out))) : w.heap.size ≤ gb380)); have n3_ := Aside0.mk ((by rw [hg]; exact (below_size (by repeat (first | (with_reducible first | exact HB.out | apply below_alloc | apply pw_below_drewN | apply below_drew1) | exact HB.out))) : w.heap.size ≤ gb380)); clear HB; have HB := n0_; have BK380 := n1_; have GW380 := n2_; have GE380 := n3_; clear n0_ n1_ n2_ n3_; clear hb hbox hg) | ((with_reducible refine gate_dst (N := 3) rfl ?_); refine box_event ?hg (N := 3) ?hd (cs := #[.int .i64 a1_0, .int .i64 a1_1, .int .i64 a1_2, .int .i64 a1_3, .slice A1_4 l1_4.length c1_4]) (t := 34) ?hr ?_; (case hd => rfl); (case hg => rfl); (case hr => first | (go_simp; done) | (go_simp; rfl)); intro gb381 hg w14 hbox hb; have n0_ := Aside0.mk (blk_below (g := gb380) (o := .cells #[.int .i64 a0_0, .int .i64 a0_1, .int .i64 a0_2, .int .i64 a0_3, .slice A0_4 l0_4.length c0_4] 34 (0, 0)) (by (with_reducible repeat (first | refine blk_drewN ?_ _ | refine blk_drew ?_ | refine blk_alloc ?_ _)); exact BK380.out) hb); have n1_ := Aside0.mk (below_step (by repeat (first | (with_reducible first | exact HB.out | apply below_alloc | apply pw_below_drewN | apply below_drew1 | refine below_set ?_ GE380.out) | exact HB.out)) hb); have n2_ := Aside0.mk (hbox); have n3_ := Aside0.mk ((by rw [hg]; exact (below_size (by repeat (first | (with_reducible first | exact HB.out | apply below_alloc | apply pw_below_drewN | apply below_drew1 | refine below_set ?_ GE380.out) | exact HB.out))) : w.heap.size ≤ gb381)); have n4_ := Aside0.mk ((by rw [hg]; exact (below_size (by repeat (first | (with_reducible first | exact HB.out | apply below_alloc | apply pw_below_drewN | apply below_drew1 | refine below_set ?_ GE380.out) | exact HB.out))) : w.heap.size ≤ gb381)); have n5_ := Aside0.mk ((by rw [hg]; exact Nat.ne_of_lt (blk_lt (g := gb380) (o := .cells #[.int .i64 a0_0, .int .i64 a0_1, .int .i64 a0_2, .int .i64 a0_3, .slice A0_4 l0_4.length c0_4] 34 (0, 0)) (by (with_reducible repeat (first | refine blk_drewN ?_ _ | refine blk_drew ?_ | refine blk_alloc ?_ _)); exact BK380.out)) : gb380 ≠ gb381)); have n6_ := Aside0.mk ((by rw [hg]; exact Nat.ne_of_gt (blk_lt (g := gb380) (o := .cells #[.int .i64 a0_0, .int .i64 a0_1, .int .i64 a0_2, .int .i64 a0_3, .slice A0_4 l0_4.length c0_4] 34 (0, 0)) (by (with_reducible repeat (first | refine blk_drewN ?_ _ | refine blk_drew ?_ | refine blk_alloc ?_ _)); exact BK380.out)) : gb381 ≠ gb380)); clear BK380; clear HB; have BK380 := n0_; have HB := n1_; have BK381 := n2_; have GW381 := n3_; have GE381 := n4_; have NB380_381 := n5_; have NB381_380 := n6_; clear n0_ n1_ n2_ n3_ n4_ n5_ n6_; clear hb hbox hg; have hnb15 := NB380_381.out; have hnc15 := NB381_380.out; have hcz16_0 : w14.cell? ⟨gb380, 0, none⟩ = some (.int .i64 a0_0) := (blk_cell BK380.out 0).trans rfl; have hcz16_1 : w14.cell? ⟨gb380, 1, none⟩ = some (.int .i64 a0_1) := (blk_cell BK380.out 1).trans rfl; have hcz16_2 : w14.cell? ⟨gb380, 2, none⟩ = some (.int .i64 a0_2) := (blk_cell BK380.out 2).trans rfl; have hcz16_3 : w14.cell? ⟨gb380, 3, none⟩ = some (.int .i64 a0_3) := (blk_cell BK380.out 3).trans rfl; have hcz16_4 : w14.cell? ⟨gb380, 4, none⟩ = some (.slice A0_4 l0_4.length c0_4) := (blk_cell BK380.out 4).trans rfl; have hfz16_0 := blk_frozen BK380.out 0; have hfz16_1 := blk_frozen BK380.out 1; have hfz16_2 := blk_frozen BK380.out 2; have hfz16_3 := blk_frozen BK380.out 3; have hfz16_4 := blk_frozen BK380.out 4; have hcz17_0 : w14.cell? ⟨gb381, 0, none⟩ = some (.int .i64 a1_0) := (blk_cell BK381.out 0).trans rfl; have hcz17_1 : w14.cell? ⟨gb381, 1, none⟩ = some (.int .i64 a1_1) := (blk_cell BK381.out 1).trans rfl; have hcz17_2 : w14.cell? ⟨gb381, 2, none⟩ = some (.int .i64 a1_2) := (blk_cell BK381.out 2).trans rfl; have hcz17_3 : w14.cell? ⟨gb381, 3, none⟩ = some (.int .i64 a1_3) := (blk_cell BK381.out 3).trans rfl; have hcz17_4 : w14.cell? ⟨gb381, 4, none⟩ = some (.slice A1_4 l1_4.length c1_4) := (blk_cell BK381.out 4).trans rfl; have hfz17_0 := blk_frozen BK381.out 0; have hfz17_1 := blk_frozen BK381.out 1; have hfz17_2 := blk_frozen BK381.out 2; have hfz17_3 := blk_frozen BK381.out 3; have hfz17_4 := blk_frozen BK381.out 4))
          go_ret
          exact ⟨by first | rfl | (simp [errW_none, errW_some] <;> rfl) | (simp [*, errW_none, errW_some] <;> rfl), by repeat (first | (with_reducible first | exact HB.out | apply below_alloc | apply pw_below_drewN | apply below_drew1 | refine below_set ?_ GE380.out | refine below_set ?_ GE381.out) | exact HB.out)⟩
      · rw [if_neg c5] at H
        have c5b0 : (a0_2 == a1_2) = false := beq_eq_false_iff_ne.mpr c5
        have c5b1 : (a0_2 != a1_2) = true := bne_iff_ne.mpr c5
        obtain rfl := Option.some.inj H
        go_enter Try.func15, Try.ntmps15
        go_wp2_with (first | ((with_reducible refine gate_dst (N := 2) rfl ?_); refine box_event ?hg (N := 2) ?hd (cs := #[.int .i64 a0_0, .int .i64 a0_1, .int .i64 a0_2, .int .i64 a0_3, .slice A0_4 l0_4.length c0_4]) (t := 34) ?hr ?_; (case hd => rfl); (case hg => rfl); (case hr => first | (go_simp; done) | (go_simp; rfl)); intro gb380 hg w18 hbox hb; have n0_ := Aside0.mk (below_step (by repeat (first | (with_reducible first | exact HB.out | apply below_alloc | apply pw_below_drewN | apply below_drew1) | exact HB.out)) hb); have n1_ := Aside0.mk (hbox); have n2_ := Aside0.mk ((by rw [hg]; exact (below_size (by repeat (first | (with_reducible first | exact HB.out | apply below_alloc | apply pw_below_drewN | apply below_drew1) | exact HB.out))) : w.heap.size ≤ gb380)); have n3_ := Aside0.mk ((by rw [hg]; exact (below_size (by repeat (first | (with_reducible first | exact HB.out | apply below_alloc | apply pw_below_drewN | apply below_drew1) | exact HB.out))) : w.heap.size ≤ gb380)); clear HB; have HB := n0_; have BK380 := n1_; have GW380 := n2_; have GE380 := n3_; clear n0_ n1_ n2_ n3_; clear hb hbox hg) | ((with_reducible refine gate_dst (N := 3) rfl ?_); refine box_event ?hg (N := 3) ?hd (cs := #[.int .i64 a1_0, .int .i64 a1_1, .int .i64 a1_2, .int .i64 a1_3, .slice A1_4 l1_4.length c1_4]) (t := 34) ?hr ?_; (case hd => rfl); (case hg => rfl); (case hr => first | (go_simp; done) | (go_simp; rfl)); intro gb381 hg w19 hbox hb; have n0_ := Aside0.mk (blk_below (g := gb380) (o := .cells #[.int .i64 a0_0, .int .i64 a0_1, .int .i64 a0_2, .int .i64 a0_3, .slice A0_4 l0_4.length c0_4] 34 (0, 0)) (by (with_reducible repeat (first | refine blk_drewN ?_ _ | refine blk_drew ?_ | refine blk_alloc ?_ _)); exact BK380.out) hb); have n1_ := Aside0.mk (below_step (by repeat (first | (with_reducible first | exact HB.out | apply below_alloc | apply pw_below_drewN | apply below_drew1 | refine below_set ?_ GE380.out) | exact HB.out)) hb); have n2_ := Aside0.mk (hbox); have n3_ := Aside0.mk ((by rw [hg]; exact (below_size (by repeat (first | (with_reducible first | exact HB.out | apply below_alloc | apply pw_below_drewN | apply below_drew1 | refine below_set ?_ GE380.out) | exact HB.out))) : w.heap.size ≤ gb381)); have n4_ := Aside0.mk ((by rw [hg]; exact (below_size (by repeat (first | (with_reducible first | exact HB.out | apply below_alloc | apply pw_below_drewN | apply below_drew1 | refine below_set ?_ GE380.out) | exact HB.out))) : w.heap.size ≤ gb381)); have n5_ := Aside0.mk ((by rw [hg]; exact Nat.ne_of_lt (blk_lt (g := gb380) (o := .cells #[.int .i64 a0_0, .int .i64 a0_1, .int .i64 a0_2, .int .i64 a0_3, .slice A0_4 l0_4.length c0_4] 34 (0, 0)) (by (with_reducible repeat (first | refine blk_drewN ?_ _ | refine blk_drew ?_ | refine blk_alloc ?_ _)); exact BK380.out)) : gb380 ≠ gb381)); have n6_ := Aside0.mk ((by rw [hg]; exact Nat.ne_of_gt (blk_lt (g := gb380) (o := .cells #[.int .i64 a0_0, .int .i64 a0_1, .int .i64 a0_2, .int .i64 a0_3, .slice A0_4 l0_4.length c0_4] 34 (0, 0)) (by (with_reducible repeat (first | refine blk_drewN ?_ _ | refine blk_drew ?_ | refine blk_alloc ?_ _)); exact BK380.out)) : gb381 ≠ gb380)); clear BK380; clear HB; have BK380 := n0_; have HB := n1_; have BK381 := n2_; have GW381 := n3_; have GE381 := n4_; have NB380_381 := n5_; have NB381_380 := n6_; clear n0_ n1_ n2_ n3_ n4_ n5_ n6_; clear hb hbox hg; have hnb20 := NB380_381.out; have hnc20 := NB381_380.out; have hcz21_0 : w19.cell? ⟨gb380, 0, none⟩ = some (.int .i64 a0_0) := (blk_cell BK380.out 0).trans rfl; have hcz21_1 : w19.cell? ⟨gb380, 1, none⟩ = some (.int .i64 a0_1) := (blk_cell BK380.out 1).trans rfl; have hcz21_2 : w19.cell? ⟨gb380, 2, none⟩ = some (.int .i64 a0_2) := (blk_cell BK380.out 2).trans rfl; have hcz21_3 : w19.cell? ⟨gb380, 3, none⟩ = some (.int .i64 a0_3) := (blk_cell BK380.out 3).trans rfl; have hcz21_4 : w19.cell? ⟨gb380, 4, none⟩ = some (.slice A0_4 l0_4.length c0_4) := (blk_cell BK380.out 4).trans rfl; have hfz21_0 := blk_frozen BK380.out 0; have hfz21_1 := blk_frozen BK380.out 1; have hfz21_2 := blk_frozen BK380.out 2; have hfz21_3 := blk_frozen BK380.out 3; have hfz21_4 := blk_frozen BK380.out 4; have hcz22_0 : w19.cell? ⟨gb381, 0, none⟩ = some (.int .i64 a1_0) := (blk_cell BK381.out 0).trans rfl; have hcz22_1 : w19.cell? ⟨gb381, 1, none⟩ = some (.int .i64 a1_1) := (blk_cell BK381.out 1).trans rfl; have hcz22_2 : w19.cell? ⟨gb381, 2, none⟩ = some (.int .i64 a1_2) := (blk_cell BK381.out 2).trans rfl; have hcz22_3 : w19.cell? ⟨gb381, 3, none⟩ = some (.int .i64 a1_3) := (blk_cell BK381.out 3).trans rfl; have hcz22_4 : w19.cell? ⟨gb381, 4, none⟩ = some (.slice A1_4 l1_4.length c1_4) := (blk_cell BK381.out 4).trans rfl; have hfz22_0 := blk_frozen BK381.out 0; have hfz22_1 := blk_frozen BK381.out 1; have hfz22_2 := blk_frozen BK381.out 2; have hfz22_3 := blk_frozen BK381.out 3; have hfz22_4 := blk_frozen BK381.out 4))
        go_ret
        exact ⟨by first | rfl | (simp [errW_none, errW_some] <;> rfl) | (simp [*, errW_none, errW_some] <;> rfl), by repeat (first | (with_reducible first | exact HB.out | apply below_alloc | apply pw_below_drewN | apply below_drew1 | refine below_set ?_ GE380.out | refine below_set ?_ GE381.out) | exact HB.out)⟩
    · rw [if_neg c4] at H
      have c4b0 : (a0_1 == a1_1) = false := beq_eq_false_iff_ne.mpr c4
      have c4b1 : (a0_1 != a1_1) = true := bne_iff_ne.mpr c4
      obtain rfl := Option.some.inj H
      go_enter Try.func15, Try.ntmps15
      go_wp2_with (first | ((with_reducible refine gate_dst (N := 2) rfl ?_); refine box_event ?hg (N := 2) ?hd (cs := #[.int .i64 a0_0, .int .i64 a0_1, .int .i64 a0_2, .int .i64 a0_3, .slice A0_4 l0_4.length c0_4]) (t := 34) ?hr ?_; (case hd => rfl); (case hg => rfl); (case hr => first | (go_simp; done) | (go_simp; rfl)); intro gb380 hg w23 hbox hb; have n0_ := Aside0.mk (below_step (by repeat (first | (with_reducible first | exact HB.out | apply below_alloc | apply pw_below_drewN | apply below_drew1) | exact HB.out)) hb); have n1_ := Aside0.mk (hbox); have n2_ := Aside0.mk ((by rw [hg]; exact (below_size (by repeat (first | (with_reducible first | exact HB.out | apply below_alloc | apply pw_below_drewN | apply below_drew1) | exact HB.out))) : w.heap.size ≤ gb380)); have n3_ := Aside0.mk ((by rw [hg]; exact (below_size (by repeat (first | (with_reducible first | exact HB.out | apply below_alloc | apply pw_below_drewN | apply below_drew1) | exact HB.out))) : w.heap.size ≤ gb380)); clear HB; have HB := n0_; have BK380 := n1_; have GW380 := n2_; have GE380 := n3_; clear n0_ n1_ n2_ n3_; clear hb hbox hg) | ((with_reducible refine gate_dst (N := 3) rfl ?_); refine box_event ?hg (N := 3) ?hd (cs := #[.int .i64 a1_0, .int .i64 a1_1, .int .i64 a1_2, .int .i64 a1_3, .slice A1_4 l1_4.length c1_4]) (t := 34) ?hr ?_; (case hd => rfl); (case hg => rfl); (case hr => first | (go_simp; done) | (go_simp; rfl)); intro gb381 hg w24 hbox hb; have n0_ := Aside0.mk (blk_below (g := gb380) (o := .cells #[.int .i64 a0_0, .int .i64 a0_1, .int .i64 a0_2, .int .i64 a0_3, .slice A0_4 l0_4.length c0_4] 34 (0, 0)) (by (with_reducible repeat (first | refine blk_drewN ?_ _ | refine blk_drew ?_ | refine blk_alloc ?_ _)); exact BK380.out) hb); have n1_ := Aside0.mk (below_step (by repeat (first | (with_reducible first | exact HB.out | apply below_alloc | apply pw_below_drewN | apply below_drew1 | refine below_set ?_ GE380.out) | exact HB.out)) hb); have n2_ := Aside0.mk (hbox); have n3_ := Aside0.mk ((by rw [hg]; exact (below_size (by repeat (first | (with_reducible first | exact HB.out | apply below_alloc | apply pw_below_drewN | apply below_drew1 | refine below_set ?_ GE380.out) | exact HB.out))) : w.heap.size ≤ gb381)); have n4_ := Aside0.mk ((by rw [hg]; exact (below_size (by repeat (first | (with_reducible first | exact HB.out | apply below_alloc | apply pw_below_drewN | apply below_drew1 | refine below_set ?_ GE380.out) | exact HB.out))) : w.heap.size ≤ gb381)); have n5_ := Aside0.mk ((by rw [hg]; exact Nat.ne_of_lt (blk_lt (g := gb380) (o := .cells #[.int .i64 a0_0, .int .i64 a0_1, .int .i64 a0_2, .int .i64 a0_3, .slice A0_4 l0_4.length c0_4] 34 (0, 0)) (by (with_reducible repeat (first | refine blk_drewN ?_ _ | refine blk_drew ?_ | refine blk_alloc ?_ _)); exact BK380.out)) : gb380 ≠ gb381)); have n6_ := Aside0.mk ((by rw [hg]; exact Nat.ne_of_gt (blk_lt (g := gb380) (o := .cells #[.int .i64 a0_0, .int .i64 a0_1, .int .i64 a0_2, .int .i64 a0_3, .slice A0_4 l0_4.length c0_4] 34 (0, 0)) (by (with_reducible repeat (first | refine blk_drewN ?_ _ | refine blk_drew ?_ | refine blk_alloc ?_ _)); exact BK380.out)) : gb381 ≠ gb380)); clear BK380; clear HB; have BK380 := n0_; have HB := n1_; have BK381 := n2_; have GW381 := n3_; have GE381 := n4_; have NB380_381 := n5_; have NB381_380 := n6_; clear n0_ n1_ n2_ n3_ n4_ n5_ n6_; clear hb hbox hg; have hnb25 := NB380_381.out; have hnc25 := NB381_380.out; have hcz26_0 : w24.cell? ⟨gb380, 0, none⟩ = some (.int .i64 a0_0) := (blk_cell BK380.out 0).trans rfl; have hcz26_1 : w24.cell? ⟨gb380, 1, none⟩ = some (.int .i64 a0_1) := (blk_cell BK380.out 1).trans rfl; have hcz26_2 : w24.cell? ⟨gb380, 2, none⟩ = some (.int .i64 a0_2) := (blk_cell BK380.out 2).trans rfl; have hcz26_3 : w24.cell? ⟨gb380, 3, none⟩ = some (.int .i64 a0_3) := (blk_cell BK380.out 3).trans rfl; have hcz26_4 : w24.cell? ⟨gb380, 4, none⟩ = some (.slice A0_4 l0_4.length c0_4) := (blk_cell BK380.out 4).trans rfl; have hfz26_0 := blk_frozen BK380.out 0; have hfz26_1 := blk_frozen BK380.out 1; have hfz26_2 := blk_frozen BK380.out 2; have hfz26_3 := blk_frozen BK380.out 3; have hfz26_4 := blk_frozen BK380.out 4; have hcz27_0 : w24.cell? ⟨gb381, 0, none⟩ = some (.int .i64 a1_0) := (blk_cell BK381.out 0).trans rfl; have hcz27_1 : w24.cell? ⟨gb381, 1, none⟩ = some (.int .i64 a1_1) := (blk_cell BK381.out 1).trans rfl; have hcz27_2 : w24.cell? ⟨gb381, 2, none⟩ = some (.int .i64 a1_2) := (blk_cell BK381.out 2).trans rfl; have hcz27_3 : w24.cell? ⟨gb381, 3, none⟩ = some (.int .i64 a1_3) := (blk_cell BK381.out 3).trans rfl; have hcz27_4 : w24.cell? ⟨gb381, 4, none⟩ = some (.slice A1_4 l1_4.length c1_4) := (blk_cell BK381.out 4).trans rfl; have hfz27_0 := blk_frozen BK381.out 0; have hfz27_1 := blk_frozen BK381.out 1; have hfz27_2 := blk_frozen BK381.out 2; have hfz27_3 := blk_frozen BK381.out 3; have hfz27_4 := blk_frozen BK381.out 4))
      go_ret
      exact ⟨by first | rfl | (simp [errW_none, errW_some] <;> rfl) | (simp [*, errW_none, errW_some] <;> rfl), by repeat (first | (with_reducible first | exact HB.out | apply below_alloc | apply pw_below_drewN | apply below_drew1 | refine below_set ?_ GE380.out | refine below_set ?_ GE381.out) | exact HB.out)⟩
  · rw [if_neg c3] at H
    have c3b0 : (a0_0 == a1_0) = false := beq_eq_false_iff_ne.mpr c3
    have c3b1 : (a0_0 != a1_0) = true := bne_iff_ne.mpr c3
    obtain rfl := Option.some.inj H
    go_enter Try.func15, Try.ntmps15
    go_wp2_with (first | ((with_reducible refine gate_dst (N := 2) rfl ?_); refine box_event ?hg (N := 2) ?hd (cs := #[.int .i64 a0_0, .int .i64 a0_1, .int .i64 a0_2, .int .i64 a0_3, .slice A0_4 l0_4.length c0_4]) (t := 34) ?hr ?_; (case hd => rfl); (case hg => rfl); (case hr => first | (go_simp; done) | (go_simp; rfl)); intro gb380 hg w28 hbox hb; have n0_ := Aside0.mk (below_step (by repeat (first | (with_reducible first | exact HB.out | apply below_alloc | apply pw_below_drewN | apply below_drew1) | exact HB.out)) hb); have n1_ := Aside0.mk (hbox); have n2_ := Aside0.mk ((by rw [hg]; exact (below_size (by repeat (first | (with_reducible first | exact HB.out | apply below_alloc | apply pw_below_drewN | apply below_drew1) | exact HB.out))) : w.heap.size ≤ gb380)); have n3_ := Aside0.mk ((by rw [hg]; exact (below_size (by repeat (first | (with_reducible first | exact HB.out | apply below_alloc | apply pw_below_drewN | apply below_drew1) | exact HB.out))) : w.heap.size ≤ gb380)); clear HB; have HB := n0_; have BK380 := n1_; have GW380 := n2_; have GE380 := n3_; clear n0_ n1_ n2_ n3_; clear hb hbox hg) | ((with_reducible refine gate_dst (N := 3) rfl ?_); refine box_event ?hg (N := 3) ?hd (cs := #[.int .i64 a1_0, .int .i64 a1_1, .int .i64 a1_2, .int .i64 a1_3, .slice A1_4 l1_4.length c1_4]) (t := 34) ?hr ?_; (case hd => rfl); (case hg => rfl); (case hr => first | (go_simp; done) | (go_simp; rfl)); intro gb381 hg w29 hbox hb; have n0_ := Aside0.mk (blk_below (g := gb380) (o := .cells #[.int .i64 a0_0, .int .i64 a0_1, .int .i64 a0_2, .int .i64 a0_3, .slice A0_4 l0_4.length c0_4] 34 (0, 0)) (by (with_reducible repeat (first | refine blk_drewN ?_ _ | refine blk_drew ?_ | refine blk_alloc ?_ _)); exact BK380.out) hb); have n1_ := Aside0.mk (below_step (by repeat (first | (with_reducible first | exact HB.out | apply below_alloc | apply pw_below_drewN | apply below_drew1 | refine below_set ?_ GE380.out) | exact HB.out)) hb); have n2_ := Aside0.mk (hbox); have n3_ := Aside0.mk ((by rw [hg]; exact (below_size (by repeat (first | (with_reducible first | exact HB.out | apply below_alloc | apply pw_below_drewN | apply below_drew1 | refine below_set ?_ GE380.out) | exact HB.out))) : w.heap.size ≤ gb381)); have n4_ := Aside0.mk ((by rw [hg]; exact (below_size (by repeat (first | (with_reducible first | exact HB.out | apply below_alloc | apply pw_below_drewN | apply below_drew1 | refine below_set ?_ GE380.out) | exact HB.out))) : w.heap.size ≤ gb381)); have n5_ := Aside0.mk ((by rw [hg]; exact Nat.ne_of_lt (blk_lt (g := gb380) (o := .cells #[.int .i64 a0_0, .int .i64 a0_1, .int .i64 a0_2, .int .i64 a0_3, .slice A0_4 l0_4.length c0_4] 34 (0, 0)) (by (with_reducible repeat (first | refine blk_drewN ?_ _ | refine blk_drew ?_ | refine blk_alloc ?_ _)); exact BK380.out)) : gb380 ≠ gb381)); have n6_ := Aside0.mk ((by rw [hg]; exact Nat.ne_of_gt (blk_lt (g := gb380) (o := .cells #[.int .i64 a0_0, .int .i64 a0_1, .int .i64 a0_2, .int .i64 a0_3, .slice A0_4 l0_4.length c0_4] 34 (0, 0)) (by (with_reducible repeat (first | refine blk_drewN ?_ _ | refine blk_drew ?_ | refine blk_alloc ?_ _)); exact BK380.out)) : gb381 ≠ gb380)); clear BK380; clear HB; have BK380 := n0_; have HB := n1_; have BK381 := n2_; have GW381 := n3_; have GE381 := n4_; have NB380_381 := n5_; have NB381_380 := n6_; clear n0_ n1_ n2_ n3_ n4_ n5_ n6_; clear hb hbox hg; have hnb30 := NB380_381.out; have hnc30 := NB381_380.out; have hcz31_0 : w29.cell? ⟨gb380, 0, none⟩ = some (.int .i64 a0_0) := (blk_cell BK380.out 0).trans rfl; have hcz31_1 : w29.cell? ⟨gb380, 1, none⟩ = some (.int .i64 a0_1) := (blk_cell BK380.out 1).trans rfl; have hcz31_2 : w29.cell? ⟨gb380, 2, none⟩ = some (.int .i64 a0_2) := (blk_cell BK380.out 2).trans rfl; have hcz31_3 : w29.cell? ⟨gb380, 3, none⟩ = some (.int .i64 a0_3) := (blk_cell BK380.out 3).trans rfl; have hcz31_4 : w29.cell? ⟨gb380, 4, none⟩ = some (.slice A0_4 l0_4.length c0_4) := (blk_cell BK380.out 4).trans rfl; have hfz31_0 := blk_frozen BK380.out 0; have hfz31_1 := blk_frozen BK380.out 1; have hfz31_2 := blk_frozen BK380.out 2; have hfz31_3 := blk_frozen BK380.out 3; have hfz31_4 := blk_frozen BK380.out 4; have hcz32_0 : w29.cell? ⟨gb381, 0, none⟩ = some (.int .i64 a1_0) := (blk_cell BK381.out 0).trans rfl; have hcz32_1 : w29.cell? ⟨gb381, 1, none⟩ = some (.int .i64 a1_1) := (blk_cell BK381.out 1).trans rfl; have hcz32_2 : w29.cell? ⟨gb381, 2, none⟩ = some (.int .i64 a1_2) := (blk_cell BK381.out 2).trans rfl; have hcz32_3 : w29.cell? ⟨gb381, 3, none⟩ = some (.int .i64 a1_3) := (blk_cell BK381.out 3).trans rfl; have hcz32_4 : w29.cell? ⟨gb381, 4, none⟩ = some (.slice A1_4 l1_4.length c1_4) := (blk_cell BK381.out 4).trans rfl; have hfz32_0 := blk_frozen BK381.out 0; have hfz32_1 := blk_frozen BK381.out 1; have hfz32_2 := blk_frozen BK381.out 2; have hfz32_3 := blk_frozen BK381.out 3; have hfz32_4 := blk_frozen BK381.out 4))
    go_ret
    exact ⟨by first | rfl | (simp [errW_none, errW_some] <;> rfl) | (simp [*, errW_none, errW_some] <;> rfl), by repeat (first | (with_reducible first | exact HB.out | apply below_alloc | apply pw_below_drewN | apply below_drew1 | refine below_set ?_ GE380.out | refine below_set ?_ GE381.out) | exact HB.out)⟩

/-! ### model_State_Told : by hand, elsewhere -/

end Go.Proofs.Ytkkneaefjahihaa.PModelTold
