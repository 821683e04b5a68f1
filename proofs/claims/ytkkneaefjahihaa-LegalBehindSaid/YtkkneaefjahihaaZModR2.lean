/- The document's state: a call. -/
import Derived.Test.YtkkneaefjahihaaZModR
set_option linter.unusedVariables false
set_option linter.unusedSimpArgs false
namespace Go.Proofs.Ytkkneaefjahihaa.ModR
open Go Go.RowKit Go.Proofs.YtkkneaefjahihaaW.PrintWords Go.Proofs.YtkkneaefjahihaaW.PrintLast Go.Proofs.YtkkneaefjahihaaW.PrintMore Go.Proofs.Ytkkneaefjahihaa.PModelTold Go.Proofs.Ytkkneaefjahihaa.GRow Go.Proofs.Ytkkneaefjahihaa.ModRec Go.Proofs.Ytkkneaefjahihaa.Num Go.Proofs.Ytkkneaefjahihaa.Bxs Go.Proofs.Ytkkneaefjahihaa.ModW
abbrev Ans := Int × Int × Int × Int × List S49
theorem rot {w W : World} {x : Box} {L : List Box} (h : Bxs w W (x :: L)) : Bxs w W (L ++ [x]) := h.perm (List.perm_append_singleton x L)
theorem gen2 {P : Program} {cd : Code} {Q : Exit → Act → World → Prop} {ac : Act} {W : World} {Φ : World → Prop} (h : Φ W) (k : ∀ wr, Φ wr → cd.wp P Q ac wr) : cd.wp P Q ac W := k W h
section
variable {α : Type} {d : Kd α} {e base base' : Nat} {w w1 w2 wr wr3 Wf : World} {P0 P1 : Nat → Prop} {v : Value} {xs : List α}
theorem endV0 (h : Kd.V d e w2 base (fun k => (P0 k ∧ k < w.heap.size) ∨ w1.heap.size ≤ k) v xs) (hn : w.heap.size + 4 ≤ w1.heap.size) (hb : Below w2.heap.size w2 wr) (h4 : Out w.heap.size (w.heap.size + 4) wr wr3) (h5 : Out w.heap.size (w.heap.size + 4) wr3 Wf) :
    Kd.V d e Wf base' (fun k => (P0 k ∨ P1 k) ∨ w.heap.size ≤ k) v xs := by
  have ho : ∀ k, ((P0 k ∧ k < w.heap.size) ∨ w1.heap.size ≤ k) → k < w.heap.size ∨ w.heap.size + 4 ≤ k := fun k hk => by rcases hk with h | h; exact .inl h.2; exact .inr (by omega)
  exact Kd.V_mono (Out.V h5 (h4.V (base' := 0) (Kd.V_below h hb) ho) ho) (fun k hk => by rcases hk with h | h; exact .inl (.inl h.1); exact .inr (by omega))
theorem endVo (h : Kd.V d e w2 base (fun k => P1 k ∧ k < w.heap.size) v xs) (hb : Below w2.heap.size w2 wr) (h4 : Out w.heap.size (w.heap.size + 4) wr wr3) (h5 : Out w.heap.size (w.heap.size + 4) wr3 Wf) :
    Kd.V d e Wf base' (fun k => (P0 k ∨ P1 k) ∨ w.heap.size ≤ k) v xs :=
  Kd.V_mono (Out.V h5 (h4.V (base' := 0) (Kd.V_below h hb) (fun k hk => .inl hk.2)) (fun k hk => .inl hk.2)) (fun k hk => .inl (.inr hk.1))
theorem endV6 (h : Kd.V d e w2 base (fun k => w1.heap.size ≤ k) v xs) (hn : w.heap.size + 4 ≤ w1.heap.size) (hb : Below w2.heap.size w2 wr) (h4 : Out w.heap.size (w.heap.size + 4) wr wr3) (h5 : Out w.heap.size (w.heap.size + 4) wr3 Wf) :
    Kd.V d e Wf base' (fun k => w.heap.size ≤ k) v xs :=
  Kd.V_mono (Out.V h5 (h4.V (base' := 0) (Kd.V_below h hb) (fun k hk => .inr (Nat.le_trans hn hk))) (fun k hk => .inr (Nat.le_trans hn hk))) (fun k hk => Nat.le_trans (Nat.le_trans (Nat.le_add_right _ 4) hn) hk)
end
section
variable {R : Exit → Act → World → Prop} {e : Exit} {act : Act} {w W : World} {T U b6 b7 : Nat} {L : List Box} {z0 z1 x0 x1 x2 x3 x4 u0 u1 y0 y1 y2 y3 y4 : Value}
theorem fin67d (M : Bxs w W ((b7, #[x0, x1, x2, x3, x4], U) :: (b6, #[z0, z1], T) :: L)) (hs : w.heap.size + 4 ≤ W.heap.size) (h6 : b6 < w.heap.size + 4) (h7 : b7 < w.heap.size + 4) (k : ∀ Wf, Bxs w Wf ((b7, #[y0, y1, y2, y3, y4], U) :: (b6, #[u0, u1], T) :: L) → Out w.heap.size (w.heap.size + 4) W Wf → R e act Wf) :
    R e act (((((((W.setCell ⟨b6, 0, none⟩ u0).setCell ⟨b6, 1, none⟩ u1).setCell ⟨b7, 0, none⟩ y0).setCell ⟨b7, 1, none⟩ y1).setCell ⟨b7, 2, none⟩ y2).setCell ⟨b7, 3, none⟩ y3).setCell ⟨b7, 4, none⟩ y4).drew := fin67 (R := fun e a W => R e a W.drew) M hs h6 h7 (fun Wf hB hO => k Wf.drew hB.drew hO)
theorem fin76d (M : Bxs w W ((b7, #[x0, x1, x2, x3, x4], U) :: (b6, #[z0, z1], T) :: L)) (hs : w.heap.size + 4 ≤ W.heap.size) (h6 : b6 < w.heap.size + 4) (h7 : b7 < w.heap.size + 4) (k : ∀ Wf, Bxs w Wf ((b7, #[y0, y1, y2, y3, y4], U) :: (b6, #[u0, u1], T) :: L) → Out w.heap.size (w.heap.size + 4) W Wf → R e act Wf) :
    R e act (((((((W.setCell ⟨b7, 0, none⟩ y0).setCell ⟨b7, 1, none⟩ y1).setCell ⟨b7, 2, none⟩ y2).setCell ⟨b7, 3, none⟩ y3).setCell ⟨b7, 4, none⟩ y4).setCell ⟨b6, 0, none⟩ u0).setCell ⟨b6, 1, none⟩ u1).drew := fin76 (R := fun e a W => R e a W.drew) M hs h6 h7 (fun Wf hB hO => k Wf.drew hB.drew hO)
end
section
variable {α : Type} {d : Kd α} {e base b g cg lo : Nat} {w W : World} {ok : Nat → Prop} {v : Value} {xs : List α} {recs : List (List Value)} {u0 u1 u2 u3 u4 : Value}
theorem v4 (h : Kd.V d e W base ok v xs) (hok : ∀ k, ok k → k ≠ b) : Kd.V d e ((((W.setCell ⟨b, 0, none⟩ u0).setCell ⟨b, 1, none⟩ u1).setCell ⟨b, 2, none⟩ u2).setCell ⟨b, 3, none⟩ u3) base ok v xs := Kd.V_far (Kd.V_far (Kd.V_far (Kd.V_far h hok u0) hok u1) hok u2) hok u3
theorem v5 (h : Kd.V d e W base ok v xs) (hok : ∀ k, ok k → k ≠ b) : Kd.V d e (((((W.setCell ⟨b, 0, none⟩ u0).setCell ⟨b, 1, none⟩ u1).setCell ⟨b, 2, none⟩ u2).setCell ⟨b, 3, none⟩ u3).setCell ⟨b, 4, none⟩ u4) base ok v xs := Kd.V_far (v4 h hok) hok u4
theorem g4 (h : GRow 61 4 W g cg recs) (hg : g ≠ b) : GRow 61 4 ((((W.setCell ⟨b, 0, none⟩ u0).setCell ⟨b, 1, none⟩ u1).setCell ⟨b, 2, none⟩ u2).setCell ⟨b, 3, none⟩ u3) g cg recs := (((h.far (p := ⟨b, 0, none⟩) hg u0).far (p := ⟨b, 1, none⟩) hg u1).far (p := ⟨b, 2, none⟩) hg u2).far (p := ⟨b, 3, none⟩) hg u3
theorem g5 (h : GRow 61 4 W g cg recs) (hg : g ≠ b) : GRow 61 4 (((((W.setCell ⟨b, 0, none⟩ u0).setCell ⟨b, 1, none⟩ u1).setCell ⟨b, 2, none⟩ u2).setCell ⟨b, 3, none⟩ u3).setCell ⟨b, 4, none⟩ u4) g cg recs := (g4 h hg).far (p := ⟨b, 4, none⟩) hg u4
theorem b4 (h : Below lo w W) (hb : lo ≤ b) : Below lo w ((((W.setCell ⟨b, 0, none⟩ u0).setCell ⟨b, 1, none⟩ u1).setCell ⟨b, 2, none⟩ u2).setCell ⟨b, 3, none⟩ u3) := (((h.setCell (p := ⟨b, 0, none⟩) hb u0).setCell (p := ⟨b, 1, none⟩) hb u1).setCell (p := ⟨b, 2, none⟩) hb u2).setCell (p := ⟨b, 3, none⟩) hb u3
theorem b5 (h : Below lo w W) (hb : lo ≤ b) : Below lo w (((((W.setCell ⟨b, 0, none⟩ u0).setCell ⟨b, 1, none⟩ u1).setCell ⟨b, 2, none⟩ u2).setCell ⟨b, 3, none⟩ u3).setCell ⟨b, 4, none⟩ u4) := (b4 h hb).setCell (p := ⟨b, 4, none⟩) hb u4
end
/-- What a session's call leaves ahead of the common end. -/
def ReadyR (w wc : World) (P1 : Nat → Prop) (S C : Array Value) (bx g cg : Nat) (recs : List (List Value)) (xx : S61) (o3 o4 o5 o6 : Int) (o7 : List S49) : Prop :=
  ∃ (b0 b1 : Bool) (A2 : Option Addr) (c2 : Nat) (l2 : List S49) (n3 : Int) (v6 : Value), xx = ⟨b0, b1, l2, n3⟩ ∧
    Bxs w wc ([((w.heap.size + 1 + 1 + 1), #[.int .i64 0, .int .i64 0, .int .i64 0, .int .i64 0, .slice none 0 0], 34), ((w.heap.size + 1 + 1), #[.slice none 0 0, .slice none 0 0], 31), (w.heap.size + 1, C, 38), (w.heap.size, S, 31), (bx + 1, #[.int .i64 o3, .int .i64 o4, .int .i64 o5, .int .i64 o6, v6], 34), (bx, #[.bool b0, .bool b1, .slice A2 l2.length c2, .int .i64 n3], 61)] : List Box) ∧
    Kd.V k49 49 wc 0 (fun k => (P1 k ∧ k < w.heap.size) ∨ bx + 1 < k) (.slice A2 l2.length c2) l2 ∧ Kd.V k49 49 wc 0 (fun k => bx + 1 < k) v6 o7 ∧ GRow 61 4 wc g cg recs
/-- What a session does by itself. -/
def rsess (k : Nat) (l : List S49) (y : S61) (q0 q1 q2 q3 q4 : Int) : Option (S61 × Ans) :=
  if q0 = 9 then (deadwoodref08_Cut.f k l q1 q3 l.length).bind fun c => some (⟨true, true, c, 0⟩, 0, 0, 0, 0, [])
  else if q0 = 10 then (deadwoodref10_found.f y.f2 y.f3).bind fun a => if a.1 = 1 then some (⟨y.f0, y.f1, y.f2, wrap64 (y.f3 + 1)⟩, a) else some (⟨y.f0, y.f1, y.f2, y.f3⟩, a)
  else if q0 = 11 then (deadwoodref08_At.f k y.f2 q1).bind fun n => some (⟨y.f0, y.f1, y.f2, n.1⟩, 0, 0, 0, 0, [])
  else if q0 = 12 then some (⟨true, false, [], 0⟩, 0, 0, 0, 0, [])
  else if q0 = 13 then some (⟨true, false, [], 0⟩, 0, 0, 0, 0, [])
  else some (⟨false, false, [], 0⟩, 0, 0, 0, 0, [])
def rdo (k : Nat) (l : List S49) (ts : List S61) (t q0 q1 q2 q3 q4 : Int) : Option (List S49 × List S61 × Ans) :=
  (deadwoodref10_Bad.f k l ts t q0 q1 q2 q3 q4).bind fun b =>
    if b = true then some (l, ts, 8, 0, 0, 0, [])
    else if q0 < 9 then (deadwoodref10_plain.f k l q0 q1 q2 q3 q4).bind fun m => some (m.1, ts, m.2)
    else if 0 ≤ t ∧ t < (ts.length : Int) ∧ ts.length ≤ 1000000 then (rsess k l (rd_T61 ts t) q0 q1 q2 q3 q4).bind fun m => some (l, ts.set t.toNat m.1, m.2)
    else none
theorem at_F {w : World} {ok : Nat → Prop} {A : Option Addr} {n : Nat} {xs : List S61} (h : Kd.F k61 w ok A n xs) (i : Nat) (hi : i < n) : ∃ ad, A = some ad := by
  obtain ⟨ad, c, e, _⟩ := Kd.F_get h z61 i (by omega) (by omega)
  exact ⟨ad, e⟩
/-- What came back, behind the stores into the boxes of the results. -/
theorem endV {α : Type} {d : Kd α} {e n : Nat} {w W W' : World} {base base' : Nat} {ok1 : Nat → Prop} {v : Value} {xs : List α} (h : Kd.V d e W base (fun k => (ok1 k ∧ k < w.heap.size) ∨ n ≤ k) v xs) (hn : w.heap.size + 4 ≤ n) (ho : Out w.heap.size (w.heap.size + 4) W W') :
    Kd.V d e W' base' (fun k => ok1 k ∨ w.heap.size ≤ k) v xs :=
  Kd.V_mono (ho.V h (fun k hk => by rcases hk with h | h; exact .inl h.2; exact .inr (by omega))) (fun k hk2 => by rcases hk2 with h | h; exact .inl h.1; exact .inr (by omega))
set_option maxHeartbeats 4000000 in
set_option maxRecDepth 100000 in
theorem rdo_calls (k : Nat) (P0 : Nat → Prop) (A0 : Option Addr) (c0 : Nat) (l0 : List S49) (P1 : Nat → Prop) (A1 : Option Addr) (c1 : Nat) (l1 : List S61) (a1 q0 q1 q2 q3 q4 : Int) (r1 : List S49) (r2 : List S61) (r3 r4 r5 r6 : Int) (r7 : List S49) (w : World) (h0 : Kd.V k49 49 w w.heap.size P0 (.slice A0 l0.length c0) l0) (h1 : Kd.V k61 61 w w.heap.size P1 (.slice A1 l1.length c1) l1) (h : rdo k l0 l1 a1 q0 q1 q2 q3 q4 = some (r1, r2, r3, r4, r5, r6, r7)) :
    Calls Try.prog 11 #[.agg #[.slice A0 l0.length c0, .slice A1 l1.length c1], .int .i64 a1, .agg #[.int .i64 q0, .int .i64 q1, .int .i64 q2, .int .i64 q3, .int .i64 q4]] w fun e w' => ∃ v0_ v1_ v6_ : Value, e = .returned (.tuple #[.agg #[v0_, v1_], .agg #[.int .i64 r3, .int .i64 r4, .int .i64 r5, .int .i64 r6, v6_]]) ∧ Kd.V k49 49 w' w.heap.size (fun k_ => (P0 k_ ∨ P1 k_) ∨ w.heap.size ≤ k_) v0_ r1 ∧ Kd.V k61 61 w' w.heap.size (fun k_ => (P0 k_ ∨ P1 k_) ∨ w.heap.size ≤ k_) v1_ r2 ∧ Kd.V k49 49 w' w.heap.size (fun k_ => w.heap.size ≤ k_) v6_ r7 ∧ Below w.heap.size w w' := by
  have hu27 := Try.underlying31
  have hu38 := Try.underlying38
  have hu34 := Try.underlying34
  have hu61 := Try.underlying61
  have HQ := Aside0.mk h
  have H0 := Aside0.mk (Kd.V_bound h0)
  have H1 := Aside0.mk (Kd.V_bound h1)
  clear h h0 h1
  go_enter Try.func11, Try.ntmps11
  go_upto_region 1 with (fail)
  refine bx_gens (four w _ _ _ _ 31 38 31 34) ?_
  intro wr M SZ
  simp only [World.size_alloc] at SZ
  have B0 := Aside0.mk M
  have SZ0 := Aside0.mk SZ
  have V0 := Aside0.mk (Kd.V_below H0.out M.b)
  have V1 := Aside0.mk (Kd.V_below H1.out M.b)
  clear SZ
  have y0 := (M.cell 0 0 rfl).trans rfl
  have yf0 := M.frz 0 0 rfl
  have y1 := (M.cell 0 1 rfl).trans rfl
  have yf1 := M.frz 0 1 rfl
  have y2 := (M.cell 0 2 rfl).trans rfl
  have yf2 := M.frz 0 2 rfl
  have y3 := (M.cell 0 3 rfl).trans rfl
  have yf3 := M.frz 0 3 rfl
  have y4 := (M.cell 0 4 rfl).trans rfl
  have yf4 := M.frz 0 4 rfl
  have z0 := (M.cell 1 0 rfl).trans rfl
  have zf0 := M.frz 1 0 rfl
  have z1 := (M.cell 1 1 rfl).trans rfl
  have zf1 := M.frz 1 1 rfl
  have q_0 := (M.cell 2 0 rfl).trans rfl
  have q_1 := (M.cell 2 1 rfl).trans rfl
  have q_2 := (M.cell 2 2 rfl).trans rfl
  have q_3 := (M.cell 2 3 rfl).trans rfl
  have q_4 := (M.cell 2 4 rfl).trans rfl
  have s0 := (M.cell 3 0 rfl).trans rfl
  have sf0 := M.frz 3 0 rfl
  have s1 := (M.cell 3 1 rfl).trans rfl
  have sf1 := M.frz 3 1 rfl
  clear M
  have H := HQ.out
  unfold rdo at H
  replace H := Option.bind_eq_some_iff.mp H
  obtain ⟨b, hb, H⟩ := H
  have HB := Aside0.mk hb
  have HH := Aside0.mk H
  clear hb H HQ
  go_wp2_with fail
  refine (deadwoodref10_Bad.calls k A0 c0 l0 A1 c1 l1 a1 q0 q1 q2 q3 q4 b wr (Kd.V_reads' V0.out).2.2 (Kd.V_reads' V0.out).2.1 (Kd.V_reads' V1.out).2.2 (Kd.V_reads' V1.out).2.1 HB.out).mono ?_
  rintro e w1 ⟨rfl, hb1⟩
  have M1 := B0.out.below hb1
  have B1 := Aside0.mk M1
  have X0 := Aside0.mk (Kd.V_below V0.out hb1)
  have X1 := Aside0.mk (Kd.V_below V1.out hb1)
  have Z1 := Aside0.mk (show w.heap.size + 4 ≤ w1.heap.size by have := hb1.size; have := SZ0.out; omega)
  clear y0 yf0 y1 yf1 y2 yf2 y3 yf3 y4 yf4 z0 zf0 z1 zf1 q_0 q_1 q_2 q_3 q_4 s0 s1 sf0 sf1
  have y0 := (M1.cell 0 0 rfl).trans rfl
  have yf0 := M1.frz 0 0 rfl
  have y1 := (M1.cell 0 1 rfl).trans rfl
  have yf1 := M1.frz 0 1 rfl
  have y2 := (M1.cell 0 2 rfl).trans rfl
  have yf2 := M1.frz 0 2 rfl
  have y3 := (M1.cell 0 3 rfl).trans rfl
  have yf3 := M1.frz 0 3 rfl
  have y4 := (M1.cell 0 4 rfl).trans rfl
  have yf4 := M1.frz 0 4 rfl
  have z0 := (M1.cell 1 0 rfl).trans rfl
  have zf0 := M1.frz 1 0 rfl
  have z1 := (M1.cell 1 1 rfl).trans rfl
  have zf1 := M1.frz 1 1 rfl
  have q_0 := (M1.cell 2 0 rfl).trans rfl
  have q_1 := (M1.cell 2 1 rfl).trans rfl
  have q_2 := (M1.cell 2 2 rfl).trans rfl
  have q_3 := (M1.cell 2 3 rfl).trans rfl
  have q_4 := (M1.cell 2 4 rfl).trans rfl
  have s0 := (M1.cell 3 0 rfl).trans rfl
  have sf0 := M1.frz 3 0 rfl
  have s1 := (M1.cell 3 1 rfl).trans rfl
  have sf1 := M1.frz 3 1 rfl
  clear M1 hb1
  cases b with
  | true =>
    have H := HH.out
    simp only [if_true, Option.some.injEq, Prod.mk.injEq] at H
    obtain ⟨rfl, rfl, rfl, rfl, rfl, rfl, rfl⟩ := H
    clear HH
    go_wp2
    refine fin67 B1.out Z1.out (by omega) (by omega) ?_
    all_goals
      intro Wf MF OF
      have MF2 := Aside0.mk MF
      have OF2 := Aside0.mk OF
      clear MF OF
      go_wp2
      refine bodyPost_ret (results_cc rfl _ _ (w.heap.size + 1 + 1) (w.heap.size + 1 + 1 + 1) 31 34 _ _ (0, 0) (0, 0) _ _ rfl (MF2.out.get 1 rfl) Try.underlying31 rfl (by kernel_rfl) rfl (MF2.out.get 0 rfl) Try.underlying34 rfl (by kernel_rfl)) rfl ?_
      exact ⟨_, _, _, rfl, Kd.V_mono (OF2.out.V X0.out (fun k hk => .inl hk.2)) (fun k hk => .inl (.inl hk.1)), Kd.V_mono (OF2.out.V X1.out (fun k hk => .inl hk.2)) (fun k hk => .inl (.inr hk.1)), Kd.V_nil _ _ _ _ _, MF2.out.b⟩
  | false =>
    have H := HH.out
    simp only [Bool.false_eq_true, if_false] at H
    clear HH
    by_cases h9 : q0 < 9
    · have e9 : decide (q0 < 9) = true := decide_eq_true h9
      rw [if_pos h9] at H
      replace H := Option.bind_eq_some_iff.mp H
      obtain ⟨⟨o1, o3, o4, o5, o6, o7⟩, ho, H⟩ := H
      simp only [Option.some.injEq, Prod.mk.injEq] at H
      obtain ⟨rfl, rfl, rfl, rfl, rfl, rfl, rfl⟩ := H
      have HO := Aside0.mk ho
      clear ho h9
      go_wp2_with fail
      refine (deadwoodref10_plain.calls k (fun k_ => P0 k_ ∧ k_ < w.heap.size) A0 c0 l0 q0 q1 q2 q3 q4 o1 o3 o4 o5 o6 o7 w1 X0.out HO.out).mono ?_
      rintro e w2 ⟨v0, v6, rfl, Y0, YR, hb2⟩
      obtain ⟨A8, c8, rfl⟩ := Kd.V_slice Y0
      obtain ⟨A6, c6, rfl⟩ := Kd.R_slice YR
      have U0 := Aside0.mk (Kd.V_mono Y0 (ok' := fun k => (P0 k ∧ k < w.heap.size) ∨ w1.heap.size ≤ k) (fun k hk => hk.1))
      have U1 := Aside0.mk (Kd.V_below X1.out hb2)
      have U6 := Aside0.mk (Kd.R_V (base' := 0) YR)
      have B2 := Aside0.mk (B1.out.below hb2)
      have Z2 := Aside0.mk hb2.size
      clear y0 yf0 y1 yf1 y2 yf2 y3 yf3 y4 yf4 z0 zf0 z1 zf1 q_0 q_1 q_2 q_3 q_4 s0 s1 sf0 sf1
      clear hb2 Y0 YR
      have M2 := B2.out
      have y0 := (M2.cell 0 0 rfl).trans rfl
      have yf0 := M2.frz 0 0 rfl
      have y1 := (M2.cell 0 1 rfl).trans rfl
      have yf1 := M2.frz 0 1 rfl
      have y2 := (M2.cell 0 2 rfl).trans rfl
      have yf2 := M2.frz 0 2 rfl
      have y3 := (M2.cell 0 3 rfl).trans rfl
      have yf3 := M2.frz 0 3 rfl
      have y4 := (M2.cell 0 4 rfl).trans rfl
      have yf4 := M2.frz 0 4 rfl
      have z0 := (M2.cell 1 0 rfl).trans rfl
      have zf0 := M2.frz 1 0 rfl
      have z1 := (M2.cell 1 1 rfl).trans rfl
      have zf1 := M2.frz 1 1 rfl
      have q_0 := (M2.cell 2 0 rfl).trans rfl
      have q_1 := (M2.cell 2 1 rfl).trans rfl
      have q_2 := (M2.cell 2 2 rfl).trans rfl
      have q_3 := (M2.cell 2 3 rfl).trans rfl
      have q_4 := (M2.cell 2 4 rfl).trans rfl
      have s0 := (M2.cell 3 0 rfl).trans rfl
      have sf0 := M2.frz 3 0 rfl
      have s1 := (M2.cell 3 1 rfl).trans rfl
      have sf1 := M2.frz 3 1 rfl
      clear M2
      go_upto_region 5 with (fail)
      refine gen2 (Φ := fun wr => Bxs w wr ([((w.heap.size + 1 + 1 + 1), #[.int .i64 0, .int .i64 0, .int .i64 0, .int .i64 0, .slice none 0 0], 34), ((w.heap.size + 1 + 1), #[.slice none 0 0, .slice none 0 0], 31), (w.heap.size + 1, #[.int .i64 q0, .int .i64 q1, .int .i64 q2, .int .i64 q3, .int .i64 q4], 38), (w.heap.size, #[.slice A0 l0.length c0, .slice A1 l1.length c1], 31), (w2.heap.size, #[.int .i64 o3, .int .i64 o4, .int .i64 o5, .int .i64 o6, .slice A6 o7.length c6], 34)] : List Box) ∧ Below w2.heap.size w2 wr) ⟨rot (B2.out.box #[.int .i64 o3, .int .i64 o4, .int .i64 o5, .int .i64 o6, .slice A6 o7.length c6] 34 rfl), below_alloc (Below.refl _ _) _⟩ ?_
      intro wr2 M3_
      obtain ⟨M3, hb3⟩ := M3_
      have B3 := Aside0.mk M3
      have Z3 := Aside0.mk hb3
      have y0 := (M3.cell 0 0 rfl).trans rfl
      have yf0 := M3.frz 0 0 rfl
      have y1 := (M3.cell 0 1 rfl).trans rfl
      have yf1 := M3.frz 0 1 rfl
      have y2 := (M3.cell 0 2 rfl).trans rfl
      have yf2 := M3.frz 0 2 rfl
      have y3 := (M3.cell 0 3 rfl).trans rfl
      have yf3 := M3.frz 0 3 rfl
      have y4 := (M3.cell 0 4 rfl).trans rfl
      have yf4 := M3.frz 0 4 rfl
      have z0 := (M3.cell 1 0 rfl).trans rfl
      have zf0 := M3.frz 1 0 rfl
      have z1 := (M3.cell 1 1 rfl).trans rfl
      have zf1 := M3.frz 1 1 rfl
      have q_0 := (M3.cell 2 0 rfl).trans rfl
      have q_1 := (M3.cell 2 1 rfl).trans rfl
      have q_2 := (M3.cell 2 2 rfl).trans rfl
      have q_3 := (M3.cell 2 3 rfl).trans rfl
      have q_4 := (M3.cell 2 4 rfl).trans rfl
      have s0 := (M3.cell 3 0 rfl).trans rfl
      have sf0 := M3.frz 3 0 rfl
      have s1 := (M3.cell 3 1 rfl).trans rfl
      have sf1 := M3.frz 3 1 rfl
      have m0 := (M3.cell 4 0 rfl).trans rfl
      have m1 := (M3.cell 4 1 rfl).trans rfl
      have m2 := (M3.cell 4 2 rfl).trans rfl
      have m3 := (M3.cell 4 3 rfl).trans rfl
      have m4 := (M3.cell 4 4 rfl).trans rfl
      clear M3 hb3
      go_upto_region 6 with (fail)
      refine gen2 (Φ := fun wr => Bxs w wr ([((w.heap.size + 1 + 1 + 1), #[.int .i64 0, .int .i64 0, .int .i64 0, .int .i64 0, .slice none 0 0], 34), ((w.heap.size + 1 + 1), #[.slice none 0 0, .slice none 0 0], 31), (w.heap.size + 1, #[.int .i64 q0, .int .i64 q1, .int .i64 q2, .int .i64 q3, .int .i64 q4], 38), (w.heap.size, #[.slice A8 o1.length c8, .slice A1 l1.length c1], 31), (w2.heap.size, #[.int .i64 o3, .int .i64 o4, .int .i64 o5, .int .i64 o6, .slice A6 o7.length c6], 34)] : List Box) ∧ Out w.heap.size (w.heap.size + 4) wr2 wr ∧ wr.heap.size = wr2.heap.size) ⟨B3.out.set 3 0 (.slice A8 o1.length c8) rfl rfl, (Out.refl _ _ _).set _ (Nat.le_refl _) (by show w.heap.size < w.heap.size + 4; omega), by simp⟩ ?_
      intro wr3 M4_
      obtain ⟨M4, hO4, hs4⟩ := M4_
      have B4 := Aside0.mk M4
      have O4 := Aside0.mk hO4
      have Z4 := Aside0.mk hs4
      clear y0 yf0 y1 yf1 y2 yf2 y3 yf3 y4 yf4 z0 zf0 z1 zf1 q_0 q_1 q_2 q_3 q_4 s0 s1 sf0 sf1 m0 m1 m2 m3 m4
      have y0 := (M4.cell 0 0 rfl).trans rfl
      have yf0 := M4.frz 0 0 rfl
      have y1 := (M4.cell 0 1 rfl).trans rfl
      have yf1 := M4.frz 0 1 rfl
      have y2 := (M4.cell 0 2 rfl).trans rfl
      have yf2 := M4.frz 0 2 rfl
      have y3 := (M4.cell 0 3 rfl).trans rfl
      have yf3 := M4.frz 0 3 rfl
      have y4 := (M4.cell 0 4 rfl).trans rfl
      have yf4 := M4.frz 0 4 rfl
      have z0 := (M4.cell 1 0 rfl).trans rfl
      have zf0 := M4.frz 1 0 rfl
      have z1 := (M4.cell 1 1 rfl).trans rfl
      have zf1 := M4.frz 1 1 rfl
      have q_0 := (M4.cell 2 0 rfl).trans rfl
      have q_1 := (M4.cell 2 1 rfl).trans rfl
      have q_2 := (M4.cell 2 2 rfl).trans rfl
      have q_3 := (M4.cell 2 3 rfl).trans rfl
      have q_4 := (M4.cell 2 4 rfl).trans rfl
      have s0 := (M4.cell 3 0 rfl).trans rfl
      have sf0 := M4.frz 3 0 rfl
      have s1 := (M4.cell 3 1 rfl).trans rfl
      have sf1 := M4.frz 3 1 rfl
      have m0 := (M4.cell 4 0 rfl).trans rfl
      have m1 := (M4.cell 4 1 rfl).trans rfl
      have m2 := (M4.cell 4 2 rfl).trans rfl
      have m3 := (M4.cell 4 3 rfl).trans rfl
      have m4 := (M4.cell 4 4 rfl).trans rfl
      clear M4 hO4 hs4
      have Z5 := Aside0.mk (show w.heap.size + 4 ≤ wr3.heap.size from by have h1 := Z1.out; have h2 := Z2.out; have h3 := Z3.out.size; have h4 := Z4.out; show _ ≤ wr3.heap.size; omega)
      have nl : w.heap.size + 4 ≤ w2.heap.size := Nat.le_trans Z1.out Z2.out
      have ng1 : ¬ w2.heap.size = (w.heap.size + 1 + 1) := by omega
      have ng2 : ¬ (w.heap.size + 1 + 1) = w2.heap.size := by omega
      have ng3 : ¬ w2.heap.size = (w.heap.size + 1 + 1 + 1) := by omega
      have ng4 : ¬ (w.heap.size + 1 + 1 + 1) = w2.heap.size := by omega
      clear nl
      go_region
      all_goals first | refine fin67d B4.out Z5.out (by omega) (by omega) ?_ | refine fin76d B4.out Z5.out (by omega) (by omega) ?_
      all_goals
        intro Wf MF OF
        have MF2 := Aside0.mk MF
        have OF2 := Aside0.mk OF
        clear MF OF
        go_wp2
        refine bodyPost_ret (results_cc rfl _ _ (w.heap.size + 1 + 1) (w.heap.size + 1 + 1 + 1) 31 34 _ _ (0, 0) (0, 0) _ _ rfl (MF2.out.get 1 rfl) Try.underlying31 rfl (by kernel_rfl) rfl (MF2.out.get 0 rfl) Try.underlying34 rfl (by kernel_rfl)) rfl ?_
        exact ⟨_, _, _, rfl, endV0 U0.out Z1.out Z3.out O4.out OF2.out, endVo U1.out Z3.out O4.out OF2.out, endV6 U6.out Z1.out Z3.out O4.out OF2.out, MF2.out.b⟩
    · have e9 : decide (q0 < 9) = false := decide_eq_false h9
      rw [if_neg h9] at H
      by_cases hin : 0 ≤ a1 ∧ a1 < (l1.length : Int) ∧ l1.length ≤ 1000000
      · rw [if_pos hin] at H
        obtain ⟨i, rfl⟩ : ∃ i : Nat, a1 = i := ⟨a1.toNat, by omega⟩
        rw [Int.toNat_natCast] at H
        replace H := Option.bind_eq_some_iff.mp H
        obtain ⟨⟨xx, o3, o4, o5, o6, o7⟩, ho, H⟩ := H
        simp only [Option.some.injEq, Prod.mk.injEq] at H
        obtain ⟨rfl, rfl, rfl, rfl, rfl, rfl, rfl⟩ := H
        obtain ⟨recs, hR, hcells, _⟩ := recs_of (Kd.V_F X1.out)
        have hi : i < l1.length := by omega
        obtain ⟨ad, rfl⟩ := at_F (Kd.V_F X1.out) i hi
        have hir : i < recs.length := by rw [← hR.1]; exact hi
        have ilt : (i : Int) < (l1.length : Int) := by omega
        have hcl : recs.flatten.length = l1.length * 4 := by rw [flat_len recs hR.wide, ← hR.1]; rfl
        have hll : l1.length ≤ 1000000 := hin.2.2
        obtain ⟨A2, c2, hrec, hl2, hF2⟩ := k61_openF (hR.2 i hi hir).2
        have erd : rd_T61 l1 (i : Int) = l1[i] := by unfold rd_T61; rw [Int.toNat_natCast]; simp [List.getD, hi]
        rw [erd] at ho
        clear erd
        generalize l1[i] = yy at ho hrec hl2 hF2
        have HO := Aside0.mk ho
        have HC := Aside0.mk (hcells ad rfl)
        have RR := Aside0.mk hR
        have ON := Aside0.mk (one_of hR one_x)
        have HR := Aside0.mk hrec
        have F2 := Aside0.mk (Kd.V_mk (e := 49) (base := 0) hl2 hF2)
        obtain ⟨i0, hi0, hz1, hz2, hz0⟩ := info_x
        clear ho h9 hin hR hcells hrec hl2 hF2
        have s1a := blkcell_alloc (.cells #[] 61 (0, 0)) s1
        go_upto_region 8 with (at_builtin; go_loud (refine wpList_append_own _ rfl _ _ 29 rfl w1.heap.size 61 i0 (.agg #[.bool false, .bool false, .slice none 0 0, .int .i64 0]) 4 40 Try.underlying29 hi0 hz0 hz1 hz2 rfl (by decide) _ _ _ rfl (World.ownsRow_made w1 #[] 0 (Nat.le_refl _) (Nat.zero_le _) rfl) ad l1.length c1 recs.flatten rfl hcl (fun j u hj => blkcell_alloc _ (HC.out j u hj)) ON.out (by unfold maxLen; omega) (by omega) (by simp) ?_; intro v' w3 hown' hgrow3 hnil3; have OW := Aside0.mk hown'; have GW := Aside0.mk hgrow3; clear hown' hgrow3 hnil3))
        obtain ⟨g, cg, rfl, hg, hG⟩ := GRow.of_own (T := 61) (sz := 4) (recs := recs) (n := l1.length) (by have := OW.out; simpa using this) RR.out.1 (fun r hr => RR.out.wide r hr) (by omega)
        have hrl : recs.length = l1.length := RR.out.1.symm
        have hb3 : Below w1.heap.size w1 w3 := ((Below.refl _ w1).alloc (Nat.le_refl _) _).grown GW.out (by simp) (fun k hk => Nat.le_of_eq (Option.some.inj (show some w1.heap.size = some k from hk)))
        have B3 := Aside0.mk (B1.out.below hb3)
        have G3 := Aside0.mk hG
        have D3 := Aside0.mk hb3
        have GE := Aside0.mk (show w1.heap.size ≤ g ∧ g < w3.heap.size from ⟨hg, hG.lt⟩)
        have irl : (i : Int) < (recs.length : Int) := by omega
        have t0 := (hG.cell i 0 hir (by decide)).1
        have t1 := (hG.cell i 1 hir (by decide)).1
        have t2 := (hG.cell i 2 hir (by decide)).1
        have t3 := (hG.cell i 3 hir (by decide)).1
        rw [HR.out] at t0 t1 t2 t3
        rw [Nat.add_zero] at t0
        have HRL := Aside0.mk hrl
        clear hG hg hb3 s1a hrl OW GW
        go_upto_region 10 with (fail)
        refine gen2 (Φ := fun wr => Bxs w wr ([((w.heap.size + 1 + 1 + 1), #[.int .i64 0, .int .i64 0, .int .i64 0, .int .i64 0, .slice none 0 0], 34), ((w.heap.size + 1 + 1), #[.slice none 0 0, .slice none 0 0], 31), (w.heap.size + 1, #[.int .i64 q0, .int .i64 q1, .int .i64 q2, .int .i64 q3, .int .i64 q4], 38), (w.heap.size, #[.slice A0 l0.length c0, .slice (some ad) l1.length c1], 31), (w3.heap.size + 1, #[.int .i64 0, .int .i64 0, .int .i64 0, .int .i64 0, .slice none 0 0], 34), (w3.heap.size, #[.bool yy.f0, .bool yy.f1, .slice A2 yy.f2.length c2, .int .i64 yy.f3], 61)] : List Box) ∧ Below w3.heap.size w3 wr) ⟨?_, ?_⟩ ?_
        · exact rot (rot ((B3.out.box _ 61 rfl).box _ 34 (n := w3.heap.size + 1) (by simp)))
        · exact below_alloc (below_alloc (Below.refl _ _) _) _
        intro wr4 M4_
        obtain ⟨M4, hb4⟩ := M4_
        have B4 := Aside0.mk M4
        have D4 := Aside0.mk hb4
        have G4 := Aside0.mk (G3.out.below hb4)
        clear y0 yf0 y1 yf1 y2 yf2 y3 yf3 y4 yf4 z0 zf0 z1 zf1 q_0 q_1 q_2 q_3 q_4 s0 s1 sf0 sf1 t0 t1 t2 t3
        have q_0 := (M4.cell 2 0 rfl).trans rfl
        have q_1 := (M4.cell 2 1 rfl).trans rfl
        have q_2 := (M4.cell 2 2 rfl).trans rfl
        have q_3 := (M4.cell 2 3 rfl).trans rfl
        have q_4 := (M4.cell 2 4 rfl).trans rfl
        have s0 := (M4.cell 3 0 rfl).trans rfl
        have sf0 := M4.frz 3 0 rfl
        have s1 := (M4.cell 3 1 rfl).trans rfl
        have sf1 := M4.frz 3 1 rfl
        have m0 := (M4.cell 4 0 rfl).trans rfl
        have mf0 := M4.frz 4 0 rfl
        have m1 := (M4.cell 4 1 rfl).trans rfl
        have mf1 := M4.frz 4 1 rfl
        have m2 := (M4.cell 4 2 rfl).trans rfl
        have mf2 := M4.frz 4 2 rfl
        have m3 := (M4.cell 4 3 rfl).trans rfl
        have mf3 := M4.frz 4 3 rfl
        have m4 := (M4.cell 4 4 rfl).trans rfl
        have mf4 := M4.frz 4 4 rfl
        have x0 := (M4.cell 5 0 rfl).trans rfl
        have xf0 := M4.frz 5 0 rfl
        have x1 := (M4.cell 5 1 rfl).trans rfl
        have xf1 := M4.frz 5 1 rfl
        have x2 := (M4.cell 5 2 rfl).trans rfl
        have xf2 := M4.frz 5 2 rfl
        have x3 := (M4.cell 5 3 rfl).trans rfl
        have xf3 := M4.frz 5 3 rfl
        clear M4 hb4
        have E4 := Aside0.mk (show Below w1.heap.size w1 wr4 from below_then D3.out D3.out.size D4.out)
        have LN := Aside0.mk (show w.heap.size + 4 ≤ g ∧ g < w3.heap.size ∧ w3.heap.size + 2 ≤ wr4.heap.size from ⟨Nat.le_trans Z1.out GE.out.1, GE.out.2, by have h1 := B4.out.lt 4 rfl; omega⟩)
        have WB := Aside0.mk (show w1.heap.size ≤ w3.heap.size from D3.out.size)
        generalize w3.heap.size = bx at *
        go_upto_block 0 with fail
        go_cut [] (fun wc => Aside0 (ReadyR w wc P1 #[.slice A0 l0.length c0, .slice (some ad) l1.length c1] #[.int .i64 q0, .int .i64 q1, .int .i64 q2, .int .i64 q3, .int .i64 q4] bx g cg recs xx o3 o4 o5 o6 o7 ∧ Below w1.heap.size w1 wc ∧ bx + 2 ≤ wc.heap.size))
        case first =>
          have H := HO.out
          unfold rsess at H
          clear HO
          by_cases h9' : q0 = 9
          · have e9' : (q0 == 9) = true := beq_iff_eq.2 h9'
            rw [if_pos h9'] at H
            replace H := Option.bind_eq_some_iff.mp H
            obtain ⟨t, hc, H⟩ := H
            simp only [Option.some.injEq, Prod.mk.injEq] at H
            obtain ⟨rfl, rfl, rfl, rfl, rfl, rfl⟩ := H
            have HC2 := Aside0.mk hc
            clear hc h9'
            go_wp2_with fail
            refine (deadwoodref08_Cut.calls k A0 c0 l0 q1 q3 (l0.length : Int) t wr4 (Kd.V_reads' (Kd.V_below X0.out E4.out)).2.2 (Kd.V_reads' X0.out).2.1 HC2.out).mono ?_
            rintro e w5 ⟨v0, rfl, YR, hb5⟩
            obtain ⟨A5, c5, rfl⟩ := Kd.R_slice YR
            have R5 := Aside0.mk YR
            have M5 := B4.out.below hb5
            have B5 := Aside0.mk M5
            have D5 := Aside0.mk hb5
            clear x0 x1 x2 x3 xf0 xf1 xf2 xf3
            have x0 := (M5.cell 5 0 rfl).trans rfl
            have xf0 := M5.frz 5 0 rfl
            have x1 := (M5.cell 5 1 rfl).trans rfl
            have xf1 := M5.frz 5 1 rfl
            have x2 := (M5.cell 5 2 rfl).trans rfl
            have xf2 := M5.frz 5 2 rfl
            have x3 := (M5.cell 5 3 rfl).trans rfl
            have xf3 := M5.frz 5 3 rfl
            clear M5 YR hb5
            go_wp2
            go_meet
            have hl := LN.out
            have hw := WB.out
            have hz := Z1.out
            refine ⟨⟨⟨true, true, A5, c5, t, 0, _, rfl, ((((B5.out.set 5 0 _ rfl rfl).set 5 1 _ rfl rfl).set 5 2 _ rfl rfl).set 5 3 _ rfl rfl), ?_, Kd.V_nil _ _ _ _ _, g4 (G4.out.below D5.out) (by omega)⟩, b4 (below_then E4.out E4.out.size D5.out) (by omega), by have := D5.out.size; simp; omega⟩⟩
            have V := Kd.V_mono (Kd.R_V (base' := 0) (Kd.R_bound R5.out)) (ok' := fun k => bx + 1 < k) (fun k hk => by have := hk.2.1; omega)
            exact Kd.V_mono (v4 V (fun k hk => by omega)) (fun k hk => .inr hk)
          have e9' : (q0 == 9) = false := beq_eq_false_iff_ne.2 h9'
          rw [if_neg h9'] at H
          by_cases h10 : q0 = 10
          · have e10 : (q0 == 10) = true := beq_iff_eq.2 h10
            rw [if_pos h10] at H
            replace H := Option.bind_eq_some_iff.mp H
            obtain ⟨⟨y0, y1, y2, y3, y4⟩, hc, H⟩ := H
            simp only at H
            have HC2 := Aside0.mk hc
            have HH := Aside0.mk H
            clear hc h10 H
            go_wp2_with fail
            refine (deadwoodref10_found.calls A2 c2 yy.f2 yy.f3 y0 y1 y2 y3 y4 wr4 (Kd.V_reads' (Kd.V_below F2.out E4.out)).2.2 (Kd.V_reads' F2.out).2.1 HC2.out).mono ?_
            rintro e w5 ⟨v0, rfl, YR, hb5⟩
            obtain ⟨A5, c5, rfl⟩ := Kd.R_slice YR
            have R5 := Aside0.mk (Kd.V_mono (Kd.R_V (e := 49) (base' := 0) (Kd.R_bound YR)) (ok' := fun k => bx + 1 < k) (fun k hk => by have := hk.2.1; have := LN.out; omega))
            have M5 := B4.out.below hb5
            have B5 := Aside0.mk M5
            have D5 := Aside0.mk hb5
            have FF := Aside0.mk (Kd.V_below F2.out (below_then E4.out E4.out.size hb5))
            clear x0 x1 x2 x3 xf0 xf1 xf2 xf3 m0 m1 m2 m3 m4 mf0 mf1 mf2 mf3 mf4
            have x0 := (M5.cell 5 0 rfl).trans rfl
            have xf0 := M5.frz 5 0 rfl
            have x1 := (M5.cell 5 1 rfl).trans rfl
            have xf1 := M5.frz 5 1 rfl
            have x2 := (M5.cell 5 2 rfl).trans rfl
            have xf2 := M5.frz 5 2 rfl
            have x3 := (M5.cell 5 3 rfl).trans rfl
            have xf3 := M5.frz 5 3 rfl
            have m0 := (M5.cell 4 0 rfl).trans rfl
            have mf0 := M5.frz 4 0 rfl
            have m1 := (M5.cell 4 1 rfl).trans rfl
            have mf1 := M5.frz 4 1 rfl
            have m2 := (M5.cell 4 2 rfl).trans rfl
            have mf2 := M5.frz 4 2 rfl
            have m3 := (M5.cell 4 3 rfl).trans rfl
            have mf3 := M5.frz 4 3 rfl
            have m4 := (M5.cell 4 4 rfl).trans rfl
            have mf4 := M5.frz 4 4 rfl
            clear M5 YR hb5
            have hl := LN.out
            have hw := WB.out
            have hz := Z1.out
            by_cases hk : y0 = 1
            · have ek : (y0 == 1) = true := beq_iff_eq.2 hk
              have H := HH.out
              rw [if_pos hk] at H
              simp only [Option.some.injEq, Prod.mk.injEq] at H
              obtain ⟨rfl, rfl, rfl, rfl, rfl, rfl⟩ := H
              clear HH hk
              go_wp2
              go_meet
              refine ⟨⟨⟨_, _, A2, c2, _, _, _, rfl, (((((B5.out.set 4 0 _ rfl rfl).set 4 1 _ rfl rfl).set 4 2 _ rfl rfl).set 4 3 _ rfl rfl).set 4 4 _ rfl rfl).set 5 3 _ rfl rfl, ?_, ?_, ?_⟩, ?_, by have := D5.out.size; simp; omega⟩⟩
              · exact Kd.V_mono (Kd.V_far (p := ⟨bx, 3, none⟩) (v5 FF.out (fun k hk => by have := hk.2; omega)) (fun k hk => by have := hk.2; show k ≠ bx; omega) _) (fun k hk => .inl hk)
              · exact Kd.V_far (p := ⟨bx, 3, none⟩) (v5 R5.out (fun k hk => by omega)) (fun k hk => by show k ≠ bx; omega) _
              · exact (g5 (G4.out.below D5.out) (by omega)).far (p := ⟨bx, 3, none⟩) (by show g ≠ bx; omega) _
              · exact (b5 (below_then E4.out E4.out.size D5.out) (by omega)).setCell (p := ⟨bx, 3, none⟩) (by show w1.heap.size ≤ bx; omega) _
            · have ek : (y0 == 1) = false := beq_eq_false_iff_ne.2 hk
              have H := HH.out
              rw [if_neg hk] at H
              simp only [Option.some.injEq, Prod.mk.injEq] at H
              obtain ⟨rfl, rfl, rfl, rfl, rfl, rfl⟩ := H
              clear HH hk
              go_wp2
              go_meet
              refine ⟨⟨⟨_, _, A2, c2, _, _, _, rfl, (((((B5.out.set 4 0 _ rfl rfl).set 4 1 _ rfl rfl).set 4 2 _ rfl rfl).set 4 3 _ rfl rfl).set 4 4 _ rfl rfl), ?_, ?_, ?_⟩, ?_, by have := D5.out.size; simp; omega⟩⟩
              · exact Kd.V_mono (v5 FF.out (fun k hk => by have := hk.2; omega)) (fun k hk => .inl hk)
              · exact v5 R5.out (fun k hk => by omega)
              · exact g5 (G4.out.below D5.out) (by omega)
              · exact b5 (below_then E4.out E4.out.size D5.out) (by omega)
          have e10 : (q0 == 10) = false := beq_eq_false_iff_ne.2 h10
          rw [if_neg h10] at H
          by_cases h11 : q0 = 11
          · have e11 : (q0 == 11) = true := beq_iff_eq.2 h11
            rw [if_pos h11] at H
            replace H := Option.bind_eq_some_iff.mp H
            obtain ⟨⟨j, jb⟩, hc, H⟩ := H
            simp only [Option.some.injEq, Prod.mk.injEq] at H
            obtain ⟨rfl, rfl, rfl, rfl, rfl, rfl⟩ := H
            have HC2 := Aside0.mk hc
            clear hc h11
            go_wp2_with fail
            refine (deadwoodref08_At.calls k A2 c2 yy.f2 q1 j jb wr4 (Kd.V_reads' (Kd.V_below F2.out E4.out)).2.2 (Kd.V_reads' F2.out).2.1 HC2.out).mono ?_
            rintro e w5 ⟨rfl, n5, rfl⟩
            have hb5 : Below wr4.heap.size wr4 (wr4.drewN n5) := pw_below_drewN (Below.refl _ _) n5
            have B5 := Aside0.mk (B4.out.below hb5)
            have D5 := Aside0.mk hb5
            have FF := Aside0.mk (Kd.V_below F2.out (below_then E4.out E4.out.size hb5))
            clear hb5
            have hl := LN.out
            have hw := WB.out
            have hz := Z1.out
            go_wp2
            go_meet
            exact ⟨⟨⟨_, _, A2, c2, _, _, _, rfl, (B4.out.set 5 3 _ rfl rfl).below (pw_below_drewN (Below.refl _ _) n5), Kd.V_mono (Kd.V_drewN (Kd.V_far (p := ⟨bx, 3, none⟩) (Kd.V_below F2.out E4.out) (fun k hk => by have := hk.2; show k ≠ bx; omega) _) n5) (fun k hk => .inl hk), Kd.V_nil _ _ _ _ _, (G4.out.far (p := ⟨bx, 3, none⟩) (by show g ≠ bx; omega) _).below (pw_below_drewN (Below.refl _ _) n5)⟩, pw_below_drewN (E4.out.setCell (p := ⟨bx, 3, none⟩) (by show w1.heap.size ≤ bx; omega) _) n5, by simp; exact LN.out.2.2⟩⟩
          have e11 : (q0 == 11) = false := beq_eq_false_iff_ne.2 h11
          rw [if_neg h11] at H
          by_cases h12 : q0 = 12
          · have e12 : (q0 == 12) = true := beq_iff_eq.2 h12
            rw [if_pos h12] at H
            simp only [Option.some.injEq, Prod.mk.injEq] at H
            obtain ⟨rfl, rfl, rfl, rfl, rfl, rfl⟩ := H
            clear h12
            go_wp2
            go_meet
            have hl := LN.out
            have hw := WB.out
            have hz := Z1.out
            exact ⟨⟨⟨true, false, none, 0, [], 0, _, rfl, ((((B4.out.set 5 0 _ rfl rfl).set 5 1 _ rfl rfl).set 5 2 _ rfl rfl).set 5 3 _ rfl rfl), Kd.V_nil _ _ _ _ _, Kd.V_nil _ _ _ _ _, g4 G4.out (by omega)⟩, b4 E4.out (by omega), by simp; exact LN.out.2.2⟩⟩
          have e12 : (q0 == 12) = false := beq_eq_false_iff_ne.2 h12
          rw [if_neg h12] at H
          by_cases h13 : q0 = 13
          · have e13 : (q0 == 13) = true := beq_iff_eq.2 h13
            rw [if_pos h13] at H
            simp only [Option.some.injEq, Prod.mk.injEq] at H
            obtain ⟨rfl, rfl, rfl, rfl, rfl, rfl⟩ := H
            clear h13
            go_wp2
            go_meet
            have hl := LN.out
            have hw := WB.out
            have hz := Z1.out
            exact ⟨⟨⟨true, false, none, 0, [], 0, _, rfl, ((((B4.out.set 5 0 _ rfl rfl).set 5 1 _ rfl rfl).set 5 2 _ rfl rfl).set 5 3 _ rfl rfl), Kd.V_nil _ _ _ _ _, Kd.V_nil _ _ _ _ _, g4 G4.out (by omega)⟩, b4 E4.out (by omega), by simp; exact LN.out.2.2⟩⟩
          have e13 : (q0 == 13) = false := beq_eq_false_iff_ne.2 h13
          rw [if_neg h13] at H
          simp only [Option.some.injEq, Prod.mk.injEq] at H
          obtain ⟨rfl, rfl, rfl, rfl, rfl, rfl⟩ := H
          go_wp2
          go_meet
          have hl := LN.out
          have hw := WB.out
          have hz := Z1.out
          exact ⟨⟨⟨false, false, none, 0, [], 0, _, rfl, ((((B4.out.set 5 0 _ rfl rfl).set 5 1 _ rfl rfl).set 5 2 _ rfl rfl).set 5 3 _ rfl rfl), Kd.V_nil _ _ _ _ _, Kd.V_nil _ _ _ _ _, g4 G4.out (by omega)⟩, b4 E4.out (by omega), by simp; exact LN.out.2.2⟩⟩
        case rest =>
          clear x0 x1 x2 x3 xf0 xf1 xf2 xf3 m0 m1 m2 m3 m4 mf0 mf1 mf2 mf3 mf4 q_0 q_1 q_2 q_3 q_4 s0 s1 sf0 sf1
          obtain ⟨⟨b0, b1, A3, c3, l2, n3, v6, rfl, M, V2, V6, G⟩, hbw, hsz⟩ := hcut.out
          obtain ⟨A6, c6, rfl⟩ := Kd.V_slice V6
          have hl := LN.out
          have hw := WB.out
          have hz := Z1.out
          have VV2 := Aside0.mk V2
          have VV6 := Aside0.mk V6
          have HBW := Aside0.mk hbw
          have HSZ := Aside0.mk hsz
          have THR := Aside0.mk (GRow.there G i hir)
          have KB := Aside0.mk (M.fars (g := g) (by intro x hx; simp only [List.mem_cons, List.not_mem_nil, or_false] at hx; rcases hx with rfl | rfl | rfl | rfl | rfl | rfl <;> (show _ ≠ g; omega)) (by omega) (i * 4) (Array.toList #[.bool b0, .bool b1, .slice A3 l2.length c3, .int .i64 n3]))
          have KG := Aside0.mk (GRow.setAll G i hir (r := Array.toList #[.bool b0, .bool b1, .slice A3 l2.length c3, .int .i64 n3]) rfl)
          have KO := Aside0.mk ((Out.refl w.heap.size (bx + 2) wc).sets (g := g) (by omega) (by omega) (i * 4) (Array.toList #[.bool b0, .bool b1, .slice A3 l2.length c3, .int .i64 n3]))
          have KS := Aside0.mk (size_setCells g (Array.toList #[.bool b0, .bool b1, .slice A3 l2.length c3, .int .i64 n3]) (i * 4) wc)
          have q_0 := (M.cell 2 0 rfl).trans rfl
          have q_1 := (M.cell 2 1 rfl).trans rfl
          have q_2 := (M.cell 2 2 rfl).trans rfl
          have q_3 := (M.cell 2 3 rfl).trans rfl
          have q_4 := (M.cell 2 4 rfl).trans rfl
          have s0 := (M.cell 3 0 rfl).trans rfl
          have sf0 := M.frz 3 0 rfl
          have s1 := (M.cell 3 1 rfl).trans rfl
          have sf1 := M.frz 3 1 rfl
          have m0 := (M.cell 4 0 rfl).trans rfl
          have m1 := (M.cell 4 1 rfl).trans rfl
          have m2 := (M.cell 4 2 rfl).trans rfl
          have m3 := (M.cell 4 3 rfl).trans rfl
          have m4 := (M.cell 4 4 rfl).trans rfl
          have x0 := (M.cell 5 0 rfl).trans rfl
          have x1 := (M.cell 5 1 rfl).trans rfl
          have x2 := (M.cell 5 2 rfl).trans rfl
          have x3 := (M.cell 5 3 rfl).trans rfl
          clear M V2 V6 G hbw hsz hcut hl hw hz
          go_upto_region 25 with ((with_reducible refine gate_store (t := 61) (p := 93) rfl ?_); refine wpList_store_mid rfl 61 _ _ rfl g (i * 4) #[.bool b0, .bool b1, .slice A3 l2.length c3, .int .i64 n3] (by first | rfl | go_simp) (by first | rfl | go_simp) THR.out (by kernel_rfl) (by simp [Value.oneCell']) ?_; generalize (wc.setCells g (i * 4) (Array.toList #[.bool b0, .bool b1, .slice A3 l2.length c3, .int .i64 n3])) = w5 at KB KG KO KS ⊢)
          clear q_0 q_1 q_2 q_3 q_4 s0 s1 sf0 sf1 m0 m1 m2 m3 m4 x0 x1 x2 x3
          have M5 := KB.out
          have y0 := (M5.cell 0 0 rfl).trans rfl
          have yf0 := M5.frz 0 0 rfl
          have y1 := (M5.cell 0 1 rfl).trans rfl
          have yf1 := M5.frz 0 1 rfl
          have y2 := (M5.cell 0 2 rfl).trans rfl
          have yf2 := M5.frz 0 2 rfl
          have y3 := (M5.cell 0 3 rfl).trans rfl
          have yf3 := M5.frz 0 3 rfl
          have y4 := (M5.cell 0 4 rfl).trans rfl
          have yf4 := M5.frz 0 4 rfl
          have z0 := (M5.cell 1 0 rfl).trans rfl
          have zf0 := M5.frz 1 0 rfl
          have z1 := (M5.cell 1 1 rfl).trans rfl
          have zf1 := M5.frz 1 1 rfl
          have q_0 := (M5.cell 2 0 rfl).trans rfl
          have q_1 := (M5.cell 2 1 rfl).trans rfl
          have q_2 := (M5.cell 2 2 rfl).trans rfl
          have q_3 := (M5.cell 2 3 rfl).trans rfl
          have q_4 := (M5.cell 2 4 rfl).trans rfl
          have s0 := (M5.cell 3 0 rfl).trans rfl
          have sf0 := M5.frz 3 0 rfl
          have s1 := (M5.cell 3 1 rfl).trans rfl
          have sf1 := M5.frz 3 1 rfl
          have m0 := (M5.cell 4 0 rfl).trans rfl
          have m1 := (M5.cell 4 1 rfl).trans rfl
          have m2 := (M5.cell 4 2 rfl).trans rfl
          have m3 := (M5.cell 4 3 rfl).trans rfl
          have m4 := (M5.cell 4 4 rfl).trans rfl
          clear M5
          go_upto_region 26 with (fail)
          refine gen2 (Φ := fun wr => Bxs w wr ([((w.heap.size + 1 + 1 + 1), #[.int .i64 0, .int .i64 0, .int .i64 0, .int .i64 0, .slice none 0 0], 34), ((w.heap.size + 1 + 1), #[.slice none 0 0, .slice none 0 0], 31), (w.heap.size + 1, #[.int .i64 q0, .int .i64 q1, .int .i64 q2, .int .i64 q3, .int .i64 q4], 38), (w.heap.size, #[.slice A0 l0.length c0, .slice (some ⟨g, 0, none⟩) recs.length cg], 31), (bx + 1, #[.int .i64 o3, .int .i64 o4, .int .i64 o5, .int .i64 o6, .slice A6 o7.length c6], 34), (bx, #[.bool b0, .bool b1, .slice A3 l2.length c3, .int .i64 n3], 61)] : List Box) ∧ Out w.heap.size (w.heap.size + 4) w5 wr ∧ wr.heap.size = w5.heap.size) ⟨KB.out.set 3 1 (.slice (some ⟨g, 0, none⟩) recs.length cg) rfl rfl, (Out.refl _ _ _).set _ (Nat.le_refl _) (by show w.heap.size < w.heap.size + 4; omega), by simp⟩ ?_
          intro wr6 M6_
          obtain ⟨M6, hO6, hs6⟩ := M6_
          have B6 := Aside0.mk M6
          have O6 := Aside0.mk hO6
          have S6 := Aside0.mk hs6
          clear y0 yf0 y1 yf1 y2 yf2 y3 yf3 y4 yf4 z0 zf0 z1 zf1 q_0 q_1 q_2 q_3 q_4 s0 s1 sf0 sf1 m0 m1 m2 m3 m4
          have y0 := (M6.cell 0 0 rfl).trans rfl
          have yf0 := M6.frz 0 0 rfl
          have y1 := (M6.cell 0 1 rfl).trans rfl
          have yf1 := M6.frz 0 1 rfl
          have y2 := (M6.cell 0 2 rfl).trans rfl
          have yf2 := M6.frz 0 2 rfl
          have y3 := (M6.cell 0 3 rfl).trans rfl
          have yf3 := M6.frz 0 3 rfl
          have y4 := (M6.cell 0 4 rfl).trans rfl
          have yf4 := M6.frz 0 4 rfl
          have z0 := (M6.cell 1 0 rfl).trans rfl
          have zf0 := M6.frz 1 0 rfl
          have z1 := (M6.cell 1 1 rfl).trans rfl
          have zf1 := M6.frz 1 1 rfl
          have q_0 := (M6.cell 2 0 rfl).trans rfl
          have q_1 := (M6.cell 2 1 rfl).trans rfl
          have q_2 := (M6.cell 2 2 rfl).trans rfl
          have q_3 := (M6.cell 2 3 rfl).trans rfl
          have q_4 := (M6.cell 2 4 rfl).trans rfl
          have s0 := (M6.cell 3 0 rfl).trans rfl
          have sf0 := M6.frz 3 0 rfl
          have s1 := (M6.cell 3 1 rfl).trans rfl
          have sf1 := M6.frz 3 1 rfl
          have m0 := (M6.cell 4 0 rfl).trans rfl
          have m1 := (M6.cell 4 1 rfl).trans rfl
          have m2 := (M6.cell 4 2 rfl).trans rfl
          have m3 := (M6.cell 4 3 rfl).trans rfl
          have m4 := (M6.cell 4 4 rfl).trans rfl
          clear M6 hO6 hs6
          have hl := LN.out
          have hw := WB.out
          have hz := Z1.out
          have ng1 : ¬ bx + 1 = (w.heap.size + 1 + 1) := by omega
          have ng2 : ¬ (w.heap.size + 1 + 1) = bx + 1 := by omega
          have ng3 : ¬ bx + 1 = (w.heap.size + 1 + 1 + 1) := by omega
          have ng4 : ¬ (w.heap.size + 1 + 1 + 1) = bx + 1 := by omega
          have Z6 := Aside0.mk (show w.heap.size + 4 ≤ wr6.heap.size from by have h1 := S6.out; have h2 := KS.out; have h3 := HSZ.out; omega)
          clear hl hw hz
          go_region
          all_goals first | refine fin67d B6.out Z6.out (by omega) (by omega) ?_ | refine fin76d B6.out Z6.out (by omega) (by omega) ?_
          all_goals
            intro Wf MF OF
            have MF2 := Aside0.mk MF
            have OF2 := Aside0.mk OF
            clear MF OF
            go_wp2
            refine bodyPost_ret (results_cc rfl _ _ (w.heap.size + 1 + 1) (w.heap.size + 1 + 1 + 1) 31 34 _ _ (0, 0) (0, 0) _ _ rfl (MF2.out.get 1 rfl) Try.underlying31 rfl (by kernel_rfl) rfl (MF2.out.get 0 rfl) Try.underlying34 rfl (by kernel_rfl)) rfl ?_
            have hl := LN.out
            have hw := WB.out
            have hz := Z1.out
            have hO : ∀ k, k < w.heap.size ∨ bx + 2 ≤ k → k < wc.heap.size → Wf.heap[k]? = wc.heap[k]? := fun k hk hlt => by
              have e1 := KO.out k hk hlt
              have e2 := O6.out k (by omega) (by rw [KS.out]; exact hlt)
              have e3 := OF2.out k (by omega) (by rw [S6.out, KS.out]; exact hlt)
              exact e3.trans (e2.trans e1)
            have hgl := KG.out.lt
            have GF := KG.out.move ((OF2.out g (.inr hl.1) (by rw [S6.out]; exact hgl)).trans (O6.out g (.inr hl.1) hgl))
            have R1 := Recs.step (w' := Wf) RR.out (fun k hk hlt => (hO k (.inl hk.2) (Nat.lt_of_lt_of_le hlt HBW.out.size)).trans (HBW.out.block k hlt))
            have W2 := Kd.V_step (w1 := Wf) VV2.out (fun k hk hlt => hO k (by rcases hk with h | h; exact .inl h.2; exact .inr (by omega)) hlt)
            have R2 := Recs.set (R1.mono (ok' := fun k => P1 k ∨ w.heap.size ≤ k) (fun k hk => .inl hk.1)) i (x := ⟨b0, b1, l2, n3⟩) (r := Array.toList #[.bool b0, .bool b1, .slice A3 l2.length c3, .int .i64 n3]) rfl (k61_mkF Wf _ ⟨b0, b1, l2, n3⟩ (Kd.V_at W2).2.1 (Kd.F_mono (Kd.V_F W2) (fun k hk => by rcases hk with h | h; exact .inl h.1; exact .inr (by omega))))
            have OV2 : OV 61 4 Wf w.heap.size (.slice (some ⟨g, 0, none⟩) recs.length cg) (recs.set i (Array.toList #[.bool b0, .bool b1, .slice A3 l2.length c3, .int .i64 n3])) := .inr ⟨g, cg, by rw [List.length_set], by omega, GF⟩
            refine ⟨_, _, _, rfl, Kd.V_mono (Kd.V_step (w1 := Wf) X0.out (fun k hk hlt => (hO k (.inl hk.2) (Nat.lt_of_lt_of_le hlt HBW.out.size)).trans (HBW.out.block k hlt))) (fun k hk => .inl (.inl hk.1)), Kd.V_mono (recs_V OV2 R2) (fun k hk => by rcases hk with (h | h) | h; exact .inl (.inr h); exact .inr h; exact .inr h), Kd.V_mono (Kd.V_step (w1 := Wf) VV6.out (fun k hk hlt => hO k (.inr (by omega)) hlt)) (fun k hk => by omega), MF2.out.b⟩
      · rw [if_neg hin] at H
        cases H
end Go.Proofs.Ytkkneaefjahihaa.ModR
