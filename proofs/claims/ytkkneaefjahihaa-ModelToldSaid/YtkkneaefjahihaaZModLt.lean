/- What any calls of any threads are answered, one behind the other, and the state behind each, is the document's: the law's walk. -/
import Derived.Test.YtkkneaefjahihaaZModT2
import Derived.Deep.DeepCutAuto
set_option linter.unusedVariables false
set_option linter.unusedSimpArgs false
namespace Go.Proofs.Ytkkneaefjahihaa.ModLt
open Go Go.RowKit Go.Proofs.YtkkneaefjahihaaW.PrintWords Go.Proofs.YtkkneaefjahihaaW.PrintLast Go.Proofs.YtkkneaefjahihaaW.PrintMore Go.Proofs.Ytkkneaefjahihaa.PModelTold Go.Proofs.Ytkkneaefjahihaa.GRow Go.Proofs.Ytkkneaefjahihaa.ModRec Go.Proofs.Ytkkneaefjahihaa.Num Go.Proofs.Ytkkneaefjahihaa.Bxs Go.Proofs.Ytkkneaefjahihaa.ModW Go.Proofs.Ytkkneaefjahihaa.ModR Go.Proofs.Ytkkneaefjahihaa.Pure Go.Proofs.Ytkkneaefjahihaa.ModL Go.Proofs.Ytkkneaefjahihaa.ModT
def mo9_T : Bool × List (List Nat × List Nat) := (true, [([], []), ([], []), ([], []), ([1, 2], [1, 2]), ([3], [3]), ([4], [4]), ([], []), ([], []), ([6, 7], [6, 7]), ([8], [8]), ([9], [9]), ([], []), ([], []), ([11, 12], [11, 12]), ([13], [13]), ([14], [14]), ([0, 5, 10, 15], [0, 5, 10, 15]), ([16], [16]), ([17], [17]), ([17], [17]), ([], []), ([20, 18, 16, 0, 1, 2, 3, 4, 5, 6, 7, 8, 9, 10, 11, 12, 13, 14, 15, 16, 17, 18, 20], [18, 20]), ([19, 21, 0, 1, 2, 3, 4, 5, 6, 7, 8, 9, 10, 11, 12, 13, 14, 15, 16, 17, 18, 19, 20, 21], [19])])
def mo9_B : List Nat := [0, 0, 0, 6, 14, 30, 0, 0, 192, 448, 960, 0, 0, 6144, 14336, 30720, 65535, 131071, 262143, 262143, 0, 1572863, 4194303]
theorem mo9_tab : rtab .any (opsOf Try.f5 9) = mo9_T := by kernel_rfl
theorem mo9_bits : waitsOk mo9_T.2 mo9_B = true := by kernel_rfl
def mo10_T : Bool × List (List Nat × List Nat) := (true, [([], []), ([], []), ([], []), ([1, 2], [1, 2]), ([3], [3]), ([4], [4]), ([], []), ([], []), ([6, 7], [6, 7]), ([8], [8]), ([9], [9]), ([], []), ([], []), ([11, 12], [11, 12]), ([13], [13]), ([14], [14]), ([0, 5, 10, 15], [0, 5, 10, 15]), ([16], [16]), ([17], [17]), ([17], [17]), ([], []), ([20, 18, 16, 0, 1, 2, 3, 4, 5, 6, 7, 8, 9, 10, 11, 12, 13, 14, 15, 16, 17, 18, 20], [18, 20]), ([19, 21, 0, 1, 2, 3, 4, 5, 6, 7, 8, 9, 10, 11, 12, 13, 14, 15, 16, 17, 18, 19, 20, 21], [19])])
def mo10_B : List Nat := [0, 0, 0, 6, 14, 30, 0, 0, 192, 448, 960, 0, 0, 6144, 14336, 30720, 65535, 131071, 262143, 262143, 0, 1572863, 4194303]
theorem mo10_tab : rtab .any (opsOf Try.f5 10) = mo10_T := by kernel_rfl
theorem mo10_bits : waitsOk mo10_T.2 mo10_B = true := by kernel_rfl
def mo13_T : Bool × List (List Nat × List Nat) := (true, [([], []), ([], []), ([0, 1], [0, 1]), ([2], [2]), ([3], [3]), ([4, 3, 3], [3, 4]), ([3], [3]), ([5, 6, 5, 3], [3, 5, 6]), ([7, 3], [3, 7]), ([3, 8], [3, 8])])
def mo13_B : List Nat := [0, 0, 3, 7, 15, 31, 15, 127, 255, 511]
theorem mo13_tab : rtab .any (opsOf Try.f5 13) = mo13_T := by kernel_rfl
theorem mo13_bits : waitsOk mo13_T.2 mo13_B = true := by kernel_rfl
theorem at_sp2 {w : World} {A : Option Addr} {n : Nat} {xs : List S40} (h : Kd.C k40 w A n xs) (i : Nat) (hi : i < xs.length) (hn : xs.length = n) : ∃ ad Ay cy, A = some ad ∧ w.cell? (ad.add (i * 11)) = some (.int .i64 xs[i].f0) ∧ w.cell? ⟨(ad.add (i * 11)).block, (ad.add (i * 11)).off + 1, none⟩ = some (.int .i64 xs[i].f1.f0) ∧ w.cell? ⟨(ad.add (i * 11)).block, (ad.add (i * 11)).off + 2, none⟩ = some (.int .i64 xs[i].f1.f1) ∧ w.cell? ⟨(ad.add (i * 11)).block, (ad.add (i * 11)).off + 3, none⟩ = some (.int .i64 xs[i].f1.f2) ∧ w.cell? ⟨(ad.add (i * 11)).block, (ad.add (i * 11)).off + 4, none⟩ = some (.int .i64 xs[i].f1.f3) ∧ w.cell? ⟨(ad.add (i * 11)).block, (ad.add (i * 11)).off + 5, none⟩ = some (.int .i64 xs[i].f1.f4) ∧ w.cell? ⟨(ad.add (i * 11)).block, (ad.add (i * 11)).off + 6, none⟩ = some (.int .i64 xs[i].f2.f0) ∧ w.cell? ⟨(ad.add (i * 11)).block, (ad.add (i * 11)).off + 7, none⟩ = some (.int .i64 xs[i].f2.f1) ∧ w.cell? ⟨(ad.add (i * 11)).block, (ad.add (i * 11)).off + 8, none⟩ = some (.int .i64 xs[i].f2.f2) ∧ w.cell? ⟨(ad.add (i * 11)).block, (ad.add (i * 11)).off + 9, none⟩ = some (.int .i64 xs[i].f2.f3) ∧ w.cell? ⟨(ad.add (i * 11)).block, (ad.add (i * 11)).off + 10, none⟩ = some (.slice Ay xs[i].f2.f4.length cy) ∧ xs[i].f2.f4.length ≤ cy ∧ Kd.C k49 w Ay xs[i].f2.f4.length xs[i].f2.f4 := by
  have := at_T40 h (i : Int) (by omega) (by omega)
  have erd : rd_T40 xs (i : Int) = xs[i] := by unfold rd_T40; rw [Int.toNat_natCast]; simp [List.getD, hi]
  rw [erd, Int.toNat_natCast] at this
  exact this
theorem ev_end1 {α β γ : Type} {d0 : Kd α} {d1 : Kd β} {d6 : Kd γ} {e0 e1 e6 : Nat} {w wd wj : World} {ok : Nat → Prop} {T8 T9 : Nat} {c9 : Array Value} {x0 : List α} {x1 : List β} {x6 : List γ} {v0 v1 v6 u0 u1 : Value} {g8 : Nat} {L : List Box} (F : Fr d0 d1 d6 e0 e1 e6 wd ok #[.slice none 0 0, .slice none 0 0] c9 T8 T9 x0 x1 x6 (some (v0, v1, v6)) (some g8) none wj) (hB : Bxs w wd L) :
    Bxs w ((wj.setCell ⟨g8, 0, none⟩ u0).setCell ⟨g8, 1, none⟩ u1) ((g8, #[u0, u1], T8) :: L) ∧ Kd.V d0 e0 ((wj.setCell ⟨g8, 0, none⟩ u0).setCell ⟨g8, 1, none⟩ u1) 0 (fun k => ok k ∧ k ≠ g8) v0 x0 ∧ Kd.V d1 e1 ((wj.setCell ⟨g8, 0, none⟩ u0).setCell ⟨g8, 1, none⟩ u1) 0 (fun k => ok k ∧ k ≠ g8) v1 x1 ∧ Below wd.heap.size wd ((wj.setCell ⟨g8, 0, none⟩ u0).setCell ⟨g8, 1, none⟩ u1) ∧ wd.heap.size ≤ g8 := by
  obtain ⟨h8, k8⟩ := F.h8 _ rfl
  obtain ⟨V0, V1, V6⟩ := F.hc _ rfl
  have M : Bxs w wj ((g8, #[.slice none 0 0, .slice none 0 0], T8) :: L) := by
    have hB2 := hB.below F.b
    refine ⟨fun x hx => ?_, ?_, fun x hx => ?_, below_then hB.b hB.b.size F.b⟩
    · rcases List.mem_cons.1 hx with rfl | hx
      · exact h8
      · exact hB2.at_ x hx
    · rw [List.map_cons, List.nodup_cons]
      refine ⟨fun hm => ?_, hB.ne⟩
      obtain ⟨x, hx, e⟩ := List.mem_map.1 hm
      have := (Array.getElem?_eq_some_iff.1 (hB.at_ x hx)).1
      simp only at e
      omega
    · have hw := hB.b.size
      rcases List.mem_cons.1 hx with rfl | hx
      · exact Nat.le_trans hw k8
      · exact hB.ge x hx
  have W0 : Kd.V d0 e0 wj 0 (fun k => ok k ∧ k ≠ g8) v0 x0 := Kd.V_mono V0 (fun k hk => ⟨hk.1, fun e => hk.2.1 (by rw [e])⟩)
  have W1 : Kd.V d1 e1 wj 0 (fun k => ok k ∧ k ≠ g8) v1 x1 := Kd.V_mono V1 (fun k hk => ⟨hk.1, fun e => hk.2.1 (by rw [e])⟩)
  exact ⟨(M.set 0 0 u0 rfl rfl).set 0 1 u1 rfl rfl, Kd.V_far (Kd.V_far W0 (fun k hk => hk.2) u0) (fun k hk => hk.2) u1, Kd.V_far (Kd.V_far W1 (fun k hk => hk.2) u0) (fun k hk => hk.2) u1, (F.b.setCell (p := ⟨g8, 0, none⟩) k8 u0).setCell (p := ⟨g8, 1, none⟩) k8 u1, k8⟩
theorem cw_told {k : Nat} {okx oka : Nat → Prop} {A0 A1 A3 : Option Addr} {c0 c1 c3 : Nat} {l r1 r7 a4 l2 : List S49} {ts r2 ts2 : List S62} {t q0 q1 q2 q3 q4 r3 r4 r5 r6 a0 a1 a2 a3 : Int} {tb : Bool} {W : World} (h0 : Kd.V k49 49 W W.heap.size okx (.slice A0 l.length c0) l) (h1 : Kd.V k62 62 W W.heap.size okx (.slice A1 ts.length c1) ts) (h3 : Kd.V k49 49 W W.heap.size oka (.slice A3 a4.length c3) a4) (ha : a4.length ≤ 1000000) (h : model_State_Do.f k l ts t q0 q1 q2 q3 q4 = some (r1, r2, r3, r4, r5, r6, r7)) (e1 : sel (sameA a0 a1 a2 a3 a4 r3 r4 r5 r6 r7) r1 l = l2) (e2 : sel (sameA a0 a1 a2 a3 a4 r3 r4 r5 r6 r7) r2 ts = ts2) (e3 : toldB q0 a0 a1 a2 a3 a4 r3 r4 r5 r6 r7 = tb) :
    Calls Try.prog 16 #[.agg #[.slice A0 l.length c0, .slice A1 ts.length c1], .int .i64 t, .agg #[.int .i64 q0, .int .i64 q1, .int .i64 q2, .int .i64 q3, .int .i64 q4], .agg #[.int .i64 a0, .int .i64 a1, .int .i64 a2, .int .i64 a3, .slice A3 a4.length c3]] W fun e w' => ∃ v0_ v1_ : Value, e = .returned (.tuple #[.agg #[v0_, v1_], .bool tb]) ∧ Kd.V k49 49 w' 0 (fun k_ => okx k_ ∨ W.heap.size ≤ k_) v0_ l2 ∧ Kd.V k62 62 w' 0 (fun k_ => okx k_ ∨ W.heap.size ≤ k_) v1_ ts2 ∧ Below W.heap.size W w' := by
  subst e1 e2 e3
  exact mtold h0 h1 h3 ha h
theorem cx_told {k : Nat} {okx oka : Nat → Prop} {A0 A1 A3 : Option Addr} {c0 c1 c3 : Nat} {l r1 r7 a4 l2 : List S49} {ts r2 ts2 : List S61} {t q0 q1 q2 q3 q4 r3 r4 r5 r6 a0 a1 a2 a3 : Int} {tb : Bool} {W : World} (h0 : Kd.V k49 49 W W.heap.size okx (.slice A0 l.length c0) l) (h1 : Kd.V k61 61 W W.heap.size okx (.slice A1 ts.length c1) ts) (h3 : Kd.V k49 49 W W.heap.size oka (.slice A3 a4.length c3) a4) (ha : a4.length ≤ 1000000) (h : rdo k l ts t q0 q1 q2 q3 q4 = some (r1, r2, r3, r4, r5, r6, r7)) (e1 : sel (sameA a0 a1 a2 a3 a4 r3 r4 r5 r6 r7) r1 l = l2) (e2 : sel (sameA a0 a1 a2 a3 a4 r3 r4 r5 r6 r7) r2 ts = ts2) (e3 : toldB q0 a0 a1 a2 a3 a4 r3 r4 r5 r6 r7 = tb) :
    Calls Try.prog 17 #[.agg #[.slice A0 l.length c0, .slice A1 ts.length c1], .int .i64 t, .agg #[.int .i64 q0, .int .i64 q1, .int .i64 q2, .int .i64 q3, .int .i64 q4], .agg #[.int .i64 a0, .int .i64 a1, .int .i64 a2, .int .i64 a3, .slice A3 a4.length c3]] W fun e w' => ∃ v0_ v1_ : Value, e = .returned (.tuple #[.agg #[v0_, v1_], .bool tb]) ∧ Kd.V k49 49 w' 0 (fun k_ => okx k_ ∨ W.heap.size ≤ k_) v0_ l2 ∧ Kd.V k61 61 w' 0 (fun k_ => okx k_ ∨ W.heap.size ≤ k_) v1_ ts2 ∧ Below W.heap.size W w' := by
  subst e1 e2 e3
  exact rtold h0 h1 h3 ha h
theorem sel_map {α β : Type} (f : α → β) (b : Bool) (x y : List α) : sel b (x.map f) (y.map f) = (sel b x y).map f := by cases b <;> rfl
theorem sel_wf {n : Nat} {l l' : List S49} {ts ts' : List S62} (b : Bool) (h : WfS n l ts) (h' : WfS (n + 1) l' ts') : WfS (n + 1) (sel b l' l) (sel b ts' ts) := by
  cases b with
  | true => exact h'
  | false => exact ⟨h.r, Nat.le_succ_of_le h.len, h.tl, fun s hs => by obtain ⟨a, b, c, d⟩ := h.ss s hs; exact ⟨a, Nat.le_succ_of_le b, c, d⟩⟩
set_option maxHeartbeats 8000000 in
set_option maxRecDepth 100000 in
theorem told_walk (a0 : Int) (l1 : List S40) (Ai : Option Addr) (ci : Nat) (w : World) (hr1 : Kd.C k40 w Ai l1.length l1) (hc1 : l1.length ≤ ci) :
    Calls Try.prog 5 #[.int .i64 a0, .slice Ai l1.length ci] w fun e w' => e = .returned (.bool true) ∧ Below w.heap.size w w' := by
  have hu27 := Try.underlying27
  have hu31 := Try.underlying31
  have hu38 := Try.underlying38
  have hu34 := Try.underlying34
  have hu40 := Try.underlying40
  have mixed : Try.prog.follows Departure.mixedOrders = true := by kernel_rfl
  have HR := Aside0.mk hr1
  clear hr1
  by_cases hlen : (l1.length : Int) > 100
  · have dl : decide ((l1.length : Int) > 100) = true := decide_eq_true hlen
    have dl2 : decide (100 < l1.length) = true := decide_eq_true (by omega)
    clear hlen
    go_enter Try.func5, Try.ntmps5
    go_wp2_with fail
    refine (lives_true _).mono ?_
    rintro e w1 ⟨rfl, hb⟩
    go_wp2
    go_ret
    exact ⟨rfl, hb⟩
  · have dl : decide ((l1.length : Int) > 100) = false := decide_eq_false hlen
    have dl2 : decide (100 < l1.length) = false := decide_eq_false (by omega)
    have hlen2 : l1.length ≤ 100 := by omega
    obtain ⟨N, hN⟩ : ∃ N, sizeN a0 = N := ⟨_, rfl⟩
    have hn3 : N ≤ 6 ∧ ((a0 < 0 ∧ N = 0) ∨ (0 ≤ a0 ∧ a0 ≤ 6 ∧ a0 = N) ∨ (6 < a0 ∧ N = 6)) := by unfold sizeN at hN; omega
    have WF := Aside0.mk (start_wf a0)
    have NW := Aside0.mk (fun W => new_calls a0 W)
    rw [hN] at WF NW
    have RW := Aside0.mk (fun W => rnew_any a0 N W hn3.1 hn3.2)
    have EX := Aside0.mk (show List.replicate N z61 = (List.replicate N z62).map toX by rw [List.map_replicate]; rfl)
    generalize List.replicate N z62 = ts at NW WF EX
    generalize List.replicate N z61 = xs at RW EX
    generalize ([] : List S49) = l at NW RW WF
    clear hlen hn3 hN
    go_enter Try.func5, Try.ntmps5
    go_wp2_with fail
    refine (NW.out _).mono ?_
    rintro e w1 ⟨v0, v1, rfl, V0, V1, hb1⟩
    obtain ⟨A0, c0, rfl⟩ := Kd.V_slice V0
    obtain ⟨A1, c1, rfl⟩ := Kd.V_slice V1
    have N0 := Aside0.mk V0
    have N1 := Aside0.mk V1
    have HB1 := Aside0.mk hb1
    clear V0 V1 hb1
    go_wp2_with fail
    refine (RW.out _).mono ?_
    rintro e w2 ⟨v0, v1, rfl, V0, V1, hb2⟩
    obtain ⟨B0, d0, rfl⟩ := Kd.V_slice V0
    obtain ⟨B1, d1, rfl⟩ := Kd.V_slice V1
    have N2 := Aside0.mk V0
    have N3 := Aside0.mk V1
    have HB2 := Aside0.mk hb2
    clear V0 V1 hb2
    go_upto_region 4 with (fail)
    refine gen2 (Φ := fun X => LS w X w2.heap.size (w2.heap.size + 1) A0 c0 A1 c1 B0 d0 B1 d1 l ts xs) ?_ ?_
    · have hs1 := HB1.out.size
      have hs2 := HB2.out.size
      refine ⟨((((Bxs.nil w).below HB1.out).below HB2.out).box _ 27 rfl).box _ 31 (n := w2.heap.size + 1) (by simp), ?_, ?_, ?_, ?_, EX.out⟩
      · exact Kd.V_mono (rb (Kd.V_alloc (Kd.V_alloc (Kd.V_bound (Kd.V_below N0.out HB2.out)) _) _)) (fun k hk => ⟨hk.1, by have := hk.2; omega, by have := hk.2; omega⟩)
      · exact Kd.V_mono (rb (Kd.V_alloc (Kd.V_alloc (Kd.V_bound (Kd.V_below N1.out HB2.out)) _) _)) (fun k hk => ⟨hk.1, by have := hk.2; omega, by have := hk.2; omega⟩)
      · exact Kd.V_mono (rb (Kd.V_alloc (Kd.V_alloc (Kd.V_bound N2.out) _) _)) (fun k hk => ⟨Nat.le_trans hs1 hk.1, by have := hk.2; omega, by have := hk.2; omega⟩)
      · exact Kd.V_mono (rb (Kd.V_alloc (Kd.V_alloc (Kd.V_bound N3.out) _) _)) (fun k hk => ⟨Nat.le_trans hs1 hk.1, by have := hk.2; omega, by have := hk.2; omega⟩)
    intro X0 HX
    have LX := Aside0.mk HX
    clear HX N0 N1 N2 N3 EX HB1 HB2 NW RW
    generalize w2.heap.size = b5 at LX ⊢
    obtain ⟨b6, hb6⟩ : ∃ b6, b5 + 1 = b6 := ⟨_, rfl⟩
    rw [hb6] at LX ⊢
    clear hb6
    go_wp2
    go_loopg [7] l1.length (fun kx s7 wr => ∃ (j : Nat) (A0 : Option Addr) (c0 : Nat) (A1 : Option Addr) (c1 : Nat) (B0 : Option Addr) (d0 : Nat) (B1 : Option Addr) (d1 : Nat) (l : List S49) (ts : List S62) (xs : List S61), s7 = .int .i64 j ∧ j + kx = l1.length ∧ Aside0 (LS w wr b5 b6 A0 c0 A1 c1 B0 d0 B1 d1 l ts xs) ∧ Aside0 (WfS j l ts))
    case atStart => exact ⟨0, A0, c0, A1, c1, B0, d0, B1, d1, l, ts, xs, rfl, by omega, LX, WF⟩
    case round =>
      clear LX WF
      obtain ⟨j, A0, c0, A1, c1, B0, d0, B1, d1, l, ts, xs, rfl, hj, LX, WF⟩ := hrel
      by_cases hlt : j < l1.length
      · have q1 : (j : Int) < (l1.length : Int) := by omega
        have LB := LX.out.bx
        obtain ⟨ad, Ay, cy, rfl, p0, p1, p2, p3, p4, p5, p6, p7, p8, p9, p10, hcy, hCy⟩ := at_sp2 HR.out j hlt rfl
        generalize l1[j] = y at p0 p1 p2 p3 p4 p5 p6 p7 p8 p9 p10 hcy hCy
        have FY := Aside0.mk (And.intro hcy (Kd.C_F k49_heap hCy))
        obtain ⟨l0', ts0', r3, r4, r5, r6, r7, hd, hrd, hwf, hr7⟩ := do_alike WF.out (by omega) y.f0 y.f1.f0 y.f1.f1 y.f1.f2 y.f1.f3 y.f1.f4
        rw [← LX.out.e] at hrd
        obtain ⟨l', hl'⟩ : ∃ l', sel (sameA y.f2.f0 y.f2.f1 y.f2.f2 y.f2.f3 y.f2.f4 r3 r4 r5 r6 r7) l0' l = l' := ⟨_, rfl⟩
        obtain ⟨ts', hts'⟩ : ∃ ts', sel (sameA y.f2.f0 y.f2.f1 y.f2.f2 y.f2.f3 y.f2.f4 r3 r4 r5 r6 r7) ts0' ts = ts' := ⟨_, rfl⟩
        obtain ⟨xs', hx'⟩ : ∃ xs', ts'.map toX = xs' := ⟨_, rfl⟩
        have hxs' : sel (sameA y.f2.f0 y.f2.f1 y.f2.f2 y.f2.f3 y.f2.f4 r3 r4 r5 r6 r7) (ts0'.map toX) xs = xs' := by rw [LX.out.e, sel_map, hts', hx']
        obtain ⟨tb, htb⟩ : ∃ tb, toldB y.f1.f0 y.f2.f0 y.f2.f1 y.f2.f2 y.f2.f3 y.f2.f4 r3 r4 r5 r6 r7 = tb := ⟨_, rfl⟩
        replace hwf := sel_wf (sameA y.f2.f0 y.f2.f1 y.f2.f2 y.f2.f3 y.f2.f4 r3 r4 r5 r6 r7) WF.out hwf
        rw [hl', hts'] at hwf
        have SS := Aside0.mk (And.intro hl' (And.intro hts' (And.intro hxs' htb)))
        clear hl' hts' hxs' htb hcy hCy
        have EX := Aside0.mk hx'
        have DD := Aside0.mk hd
        have DR := Aside0.mk hrd
        have WF2 := Aside0.mk hwf
        have s0 : wr.drew.cell? ⟨b5, 0, none⟩ = some (.slice A0 l.length c0) := (LB.cell 1 0 rfl).trans rfl
        have s1 : wr.drew.cell? ⟨b5, 1, none⟩ = some (.slice A1 ts.length c1) := (LB.cell 1 1 rfl).trans rfl
        have B12 := Aside0.mk (show b5 < wr.heap.size ∧ b6 < wr.heap.size from ⟨LB.lt 1 rfl, LB.lt 0 rfl⟩)
        have PP := Aside0.mk (And.intro p0 (And.intro p1 (And.intro p2 (And.intro p3 (And.intro p4 (And.intro p5 (And.intro p6 (And.intro p7 (And.intro p8 (And.intro p9 p10))))))))))
        clear hd hrd hwf hr7 LB p0 p1 p2 p3 p4 p5 p6 p7 p8 p9 p10 hx' WF
        have LD := Aside0.mk (LX.out.below (below_drew1 (Below.refl _ _)))
        have p0 : wr.drew.cell? _ = some _ := cell_below LD.out.bx.b PP.out.1
        have p1 : wr.drew.cell? _ = some _ := cell_below LD.out.bx.b PP.out.2.1
        have p2 : wr.drew.cell? _ = some _ := cell_below LD.out.bx.b PP.out.2.2.1
        have p3 : wr.drew.cell? _ = some _ := cell_below LD.out.bx.b PP.out.2.2.2.1
        have p4 : wr.drew.cell? _ = some _ := cell_below LD.out.bx.b PP.out.2.2.2.2.1
        have p5 : wr.drew.cell? _ = some _ := cell_below LD.out.bx.b PP.out.2.2.2.2.2.1
        have p6 : wr.drew.cell? _ = some _ := cell_below LD.out.bx.b PP.out.2.2.2.2.2.2.1
        have p7 : wr.drew.cell? _ = some _ := cell_below LD.out.bx.b PP.out.2.2.2.2.2.2.2.1
        have p8 : wr.drew.cell? _ = some _ := cell_below LD.out.bx.b PP.out.2.2.2.2.2.2.2.2.1
        have p9 : wr.drew.cell? _ = some _ := cell_below LD.out.bx.b PP.out.2.2.2.2.2.2.2.2.2.1
        have p10 : wr.drew.cell? _ = some _ := cell_below LD.out.bx.b PP.out.2.2.2.2.2.2.2.2.2.2
        by_cases hq : y.f2.f4.length > 1500
        · have dq : decide ((y.f2.f4.length : Int) > 1500) = true := decide_eq_true (by omega)
          have dq2 : decide (1500 < y.f2.f4.length) = true := decide_eq_true hq
          have p10b := cell_below LX.out.bx.b PP.out.2.2.2.2.2.2.2.2.2.2
          clear hq
          go_wp2_with fail
          refine (lives_true _).mono ?_
          rintro e w9 ⟨rfl, hb⟩
          go_wp2
          go_ret
          exact ⟨rfl, below_then LX.out.bx.b LX.out.bx.b.size hb⟩
        have dq : decide ((y.f2.f4.length : Int) > 1500) = false := decide_eq_false (by omega)
        have dq2 : decide (1500 < y.f2.f4.length) = false := decide_eq_false hq
        have QL := Aside0.mk (show y.f2.f4.length ≤ 1000000 by omega)
        have p10b := cell_below LX.out.bx.b PP.out.2.2.2.2.2.2.2.2.2.2
        clear hq
        obtain ⟨N, hN⟩ : ∃ N, N = wr.heap.size := ⟨_, rfl⟩
        have SN := Aside0.mk (show N = wr.drew.heap.size from hN)
        have HN := Aside0.mk (show ∀ k, okc w b5 b6 N k → k < wr.drew.heap.size from fun k hk => by have := hk.2; have := SN.out; omega)
        have CW := Aside0.mk (fun W (hb : Below wr.drew.heap.size wr.drew W) => cw_told (okx := okc w b5 b6 N) (rb (Kd.V_below (Kd.V_mono (Kd.V_bound LD.out.v0) (ok' := okc w b5 b6 N) (fun k hk => ⟨hk.1, by have := hk.2; have := SN.out; omega⟩)) hb)) (rb (Kd.V_below (Kd.V_mono (Kd.V_bound LD.out.v1) (ok' := okc w b5 b6 N) (fun k hk => ⟨hk.1, by have := hk.2; have := SN.out; omega⟩)) hb)) (Kd.V_mk (e := 49) (base := W.heap.size) FY.out.1 (Kd.F_below FY.out.2 (below_then LD.out.bx.b LD.out.bx.b.size hb))) QL.out DD.out SS.out.1 SS.out.2.1 SS.out.2.2.2)
        clear hN
        go_upto_region 9 with (fail)
        go_cut [8, 9] (fun s8 s9 wc => Aside0 (∃ g8 A8 c8 A9 c9, s8 = .pointer (some ⟨g8, 0, none⟩) ∧ s9 = .bool tb ∧ Bxs w wc ((g8, #[.slice A8 l'.length c8, .slice A9 ts'.length c9], 27) :: ([(b6, #[.slice B0 l.length d0, .slice B1 xs.length d1], 31), (b5, #[.slice A0 l.length c0, .slice A1 ts.length c1], 27)] : List Box)) ∧ Kd.V k49 49 wc 0 (okb w b5 b6) (.slice A8 l'.length c8) l' ∧ Kd.V k62 62 wc 0 (okb w b5 b6) (.slice A9 ts'.length c9) ts' ∧ LS w wc b5 b6 A0 c0 A1 c1 B0 d0 B1 d1 l ts xs))
        case first =>
          refine start_ (n := 23) (S := fun W' => W'.cell? ⟨b5, 0, none⟩ = some (.slice A0 l.length c0) ∧ W'.cell? ⟨b5, 1, none⟩ = some (.slice A1 ts.length c1) ∧ W'.cell? (ad.add (j * 11)) = some (.int .i64 y.f0) ∧ W'.cell? ⟨(ad.add (j * 11)).block, (ad.add (j * 11)).off + 1, none⟩ = some (.int .i64 y.f1.f0) ∧ W'.cell? ⟨(ad.add (j * 11)).block, (ad.add (j * 11)).off + 2, none⟩ = some (.int .i64 y.f1.f1) ∧ W'.cell? ⟨(ad.add (j * 11)).block, (ad.add (j * 11)).off + 3, none⟩ = some (.int .i64 y.f1.f2) ∧ W'.cell? ⟨(ad.add (j * 11)).block, (ad.add (j * 11)).off + 4, none⟩ = some (.int .i64 y.f1.f3) ∧ W'.cell? ⟨(ad.add (j * 11)).block, (ad.add (j * 11)).off + 5, none⟩ = some (.int .i64 y.f1.f4) ∧ W'.cell? ⟨(ad.add (j * 11)).block, (ad.add (j * 11)).off + 6, none⟩ = some (.int .i64 y.f2.f0) ∧ W'.cell? ⟨(ad.add (j * 11)).block, (ad.add (j * 11)).off + 7, none⟩ = some (.int .i64 y.f2.f1) ∧ W'.cell? ⟨(ad.add (j * 11)).block, (ad.add (j * 11)).off + 8, none⟩ = some (.int .i64 y.f2.f2) ∧ W'.cell? ⟨(ad.add (j * 11)).block, (ad.add (j * 11)).off + 9, none⟩ = some (.int .i64 y.f2.f3) ∧ W'.cell? ⟨(ad.add (j * 11)).block, (ad.add (j * 11)).off + 10, none⟩ = some (.slice Ay y.f2.f4.length cy)) (ds := [21]) #[false, false, false, false, false, false, false, false, false, false, false, false, false, false, false, false, false, false, false, false, false, false, false] (by kernel_rfl) rfl rfl ⟨s0, s1, p0, p1, p2, p3, p4, p5, p6, p7, p8, p9, p10⟩ (fun hHeld => ?_); refine with_tabW mo9_tab mo9_bits (fun HT_ HW_ => ?_)
          generalize wr.drew = wd_ at s0 s1 p0 p1 p2 p3 p4 p5 p6 p7 p8 p9 p10 HN CW LD SN hHeld ⊢
          refine pure_ (i := 1) (N := some 37) (v := ?_) (a' := ?_) #[false, true, false, false, false, false, false, false, false, false, false, false, false, false, false, false, false, false, false, false, false, false, false] rfl rfl (any_of HT_.out (by kernel_rfl)) (fun _ _ _ h => h) (Or.inl ⟨by rfl, ?_⟩) ?_ ?_
          rotate_left
          · intro w'
            go_simp
            with_reducible rfl
          rotate_left
          · simp only [Act.put, List.setIfInBounds_toArray, List.set_cons_zero, List.set_cons_succ, i64_w, i32_w]
            rfl
          refine pure_ (i := 2) (N := some 38) (v := ?_) (a' := ?_) #[false, true, true, false, false, false, false, false, false, false, false, false, false, false, false, false, false, false, false, false, false, false, false] rfl rfl (any_of HT_.out (by kernel_rfl)) (fun _ _ _ h => h) (Or.inl ⟨by rfl, ?_⟩) ?_ ?_
          rotate_left
          · intro w'
            go_simp
            with_reducible rfl
          rotate_left
          · simp only [Act.put, List.setIfInBounds_toArray, List.set_cons_zero, List.set_cons_succ, i64_w, i32_w]
            rfl
          refine pure_ (i := 3) (N := some 39) (v := ?_) (a' := ?_) #[false, true, true, true, false, false, false, false, false, false, false, false, false, false, false, false, false, false, false, false, false, false, false] rfl rfl (any_of HT_.out (by kernel_rfl)) (fun _ _ _ h => h) (Or.inl ⟨by rfl, ?_⟩) ?_ ?_
          rotate_left
          · intro w'
            go_simp
            with_reducible rfl
          rotate_left
          · simp only [Act.put, List.setIfInBounds_toArray, List.set_cons_zero, List.set_cons_succ, i64_w, i32_w]
            rfl
          refine pure_ (i := 4) (N := some 40) (v := ?_) (a' := ?_) #[false, true, true, true, true, false, false, false, false, false, false, false, false, false, false, false, false, false, false, false, false, false, false] rfl rfl (any_of HT_.out (by kernel_rfl)) (fun _ _ _ h => h) (Or.inl ⟨by rfl, ?_⟩) ?_ ?_
          rotate_left
          · intro w'
            go_simp
            with_reducible rfl
          rotate_left
          · simp only [Act.put, List.setIfInBounds_toArray, List.set_cons_zero, List.set_cons_succ, i64_w, i32_w]
            rfl
          refine pure_ (i := 6) (N := some 42) (v := ?_) (a' := ?_) #[false, true, true, true, true, false, true, false, false, false, false, false, false, false, false, false, false, false, false, false, false, false, false] rfl rfl (any_of HT_.out (by kernel_rfl)) (fun _ _ _ h => h) (Or.inl ⟨by rfl, ?_⟩) ?_ ?_
          rotate_left
          · intro w'
            go_simp
            with_reducible rfl
          rotate_left
          · simp only [Act.put, List.setIfInBounds_toArray, List.set_cons_zero, List.set_cons_succ, i64_w, i32_w]
            rfl
          refine pure_ (i := 7) (N := some 43) (v := ?_) (a' := ?_) #[false, true, true, true, true, false, true, true, false, false, false, false, false, false, false, false, false, false, false, false, false, false, false] rfl rfl (any_of HT_.out (by kernel_rfl)) (fun _ _ _ h => h) (Or.inl ⟨by rfl, ?_⟩) ?_ ?_
          rotate_left
          · intro w'
            go_simp
            with_reducible rfl
          rotate_left
          · simp only [Act.put, List.setIfInBounds_toArray, List.set_cons_zero, List.set_cons_succ, i64_w, i32_w]
            rfl
          refine pure_ (i := 8) (N := some 44) (v := ?_) (a' := ?_) #[false, true, true, true, true, false, true, true, true, false, false, false, false, false, false, false, false, false, false, false, false, false, false] rfl rfl (any_of HT_.out (by kernel_rfl)) (fun _ _ _ h => h) (Or.inl ⟨by rfl, ?_⟩) ?_ ?_
          rotate_left
          · intro w'
            go_simp
            with_reducible rfl
          rotate_left
          · simp only [Act.put, List.setIfInBounds_toArray, List.set_cons_zero, List.set_cons_succ, i64_w, i32_w]
            rfl
          refine pure_ (i := 9) (N := some 45) (v := ?_) (a' := ?_) #[false, true, true, true, true, false, true, true, true, true, false, false, false, false, false, false, false, false, false, false, false, false, false] rfl rfl (any_of HT_.out (by kernel_rfl)) (fun _ _ _ h => h) (Or.inl ⟨by rfl, ?_⟩) ?_ ?_
          rotate_left
          · intro w'
            go_simp
            with_reducible rfl
          rotate_left
          · simp only [Act.put, List.setIfInBounds_toArray, List.set_cons_zero, List.set_cons_succ, i64_w, i32_w]
            rfl
          refine pure_ (i := 11) (N := some 47) (v := ?_) (a' := ?_) #[false, true, true, true, true, false, true, true, true, true, false, true, false, false, false, false, false, false, false, false, false, false, false] rfl rfl (any_of HT_.out (by kernel_rfl)) (fun _ _ _ h => h) (Or.inl ⟨by rfl, ?_⟩) ?_ ?_
          rotate_left
          · intro w'
            go_simp
            with_reducible rfl
          rotate_left
          · simp only [Act.put, List.setIfInBounds_toArray, List.set_cons_zero, List.set_cons_succ, i64_w, i32_w]
            rfl
          refine pure_ (i := 12) (N := some 48) (v := ?_) (a' := ?_) #[false, true, true, true, true, false, true, true, true, true, false, true, true, false, false, false, false, false, false, false, false, false, false] rfl rfl (any_of HT_.out (by kernel_rfl)) (fun _ _ _ h => h) (Or.inl ⟨by rfl, ?_⟩) ?_ ?_
          rotate_left
          · intro w'
            go_simp
            with_reducible rfl
          rotate_left
          · simp only [Act.put, List.setIfInBounds_toArray, List.set_cons_zero, List.set_cons_succ, i64_w, i32_w]
            rfl
          refine pure_ (i := 13) (N := some 49) (v := ?_) (a' := ?_) #[false, true, true, true, true, false, true, true, true, true, false, true, true, true, false, false, false, false, false, false, false, false, false] rfl rfl (any_of HT_.out (by kernel_rfl)) (fun _ _ _ h => h) (Or.inl ⟨by rfl, ?_⟩) ?_ ?_
          rotate_left
          · intro w'
            go_simp
            with_reducible rfl
          rotate_left
          · simp only [Act.put, List.setIfInBounds_toArray, List.set_cons_zero, List.set_cons_succ, i64_w, i32_w]
            rfl
          refine pure_ (i := 14) (N := some 50) (v := ?_) (a' := ?_) #[false, true, true, true, true, false, true, true, true, true, false, true, true, true, true, false, false, false, false, false, false, false, false] rfl rfl (any_of HT_.out (by kernel_rfl)) (fun _ _ _ h => h) (Or.inl ⟨by rfl, ?_⟩) ?_ ?_
          rotate_left
          · intro w'
            go_simp
            with_reducible rfl
          rotate_left
          · simp only [Act.put, List.setIfInBounds_toArray, List.set_cons_zero, List.set_cons_succ, i64_w, i32_w]
            rfl
          refine take_ (i := 0) (N := some 36) (v := ?_) (a' := ?_) #[true, true, true, true, true, false, true, true, true, true, false, true, true, true, true, false, false, false, false, false, false, false, false] rfl rfl (take_ofW HT_.out HW_.out (by kernel_rfl)) (fun _ _ _ h => h) (Or.inl ⟨by rfl, ?_⟩) hHeld ?_ ?_
          rotate_left
          · rintro w' ⟨s0, s1, s2, s3, s4, s5, s6, s7, s8, s9, s10, s11, s12⟩
            go_simp
            with_reducible rfl
          rotate_left
          · simp only [Act.put, List.setIfInBounds_toArray, List.set_cons_zero, List.set_cons_succ, i64_w, i32_w]
            rfl
          refine take_ (i := 5) (N := some 41) (v := ?_) (a' := ?_) #[true, true, true, true, true, true, true, true, true, true, false, true, true, true, true, false, false, false, false, false, false, false, false] rfl rfl (take_ofW HT_.out HW_.out (by kernel_rfl)) (fun _ _ _ h => h) (Or.inl ⟨by rfl, ?_⟩) hHeld ?_ ?_
          rotate_left
          · rintro w' ⟨s0, s1, s2, s3, s4, s5, s6, s7, s8, s9, s10, s11, s12⟩
            go_simp
            with_reducible rfl
          rotate_left
          · simp only [Act.put, List.setIfInBounds_toArray, List.set_cons_zero, List.set_cons_succ, i64_w, i32_w]
            rfl
          refine take_ (i := 10) (N := some 46) (v := ?_) (a' := ?_) #[true, true, true, true, true, true, true, true, true, true, true, true, true, true, true, false, false, false, false, false, false, false, false] rfl rfl (take_ofW HT_.out HW_.out (by kernel_rfl)) (fun _ _ _ h => h) (Or.inl ⟨by rfl, ?_⟩) hHeld ?_ ?_
          rotate_left
          · rintro w' ⟨s0, s1, s2, s3, s4, s5, s6, s7, s8, s9, s10, s11, s12⟩
            go_simp
            with_reducible rfl
          rotate_left
          · simp only [Act.put, List.setIfInBounds_toArray, List.set_cons_zero, List.set_cons_succ, i64_w, i32_w]
            rfl
          refine take_ (i := 15) (N := some 51) (v := ?_) (a' := ?_) #[true, true, true, true, true, true, true, true, true, true, true, true, true, true, true, true, false, false, false, false, false, false, false] rfl rfl (take_ofW HT_.out HW_.out (by kernel_rfl)) (fun _ _ _ h => h) (Or.inl ⟨by rfl, ?_⟩) hHeld ?_ ?_
          rotate_left
          · rintro w' ⟨s0, s1, s2, s3, s4, s5, s6, s7, s8, s9, s10, s11, s12⟩
            go_simp
            with_reducible rfl
          rotate_left
          · simp only [Act.put, List.setIfInBounds_toArray, List.set_cons_zero, List.set_cons_succ, i64_w, i32_w]
            rfl
          have FR0 := Aside0.mk (show Fr k49 k62 k49 49 62 49 wd_ (fun k => okc w b5 b6 N k ∨ wd_.heap.size ≤ k) #[.slice none 0 0, .slice none 0 0] #[] 27 0 l' ts' ([] : List S49) none none none wd_ from Fr.start)
          refine join_ (σ := Value × Value × Nat) 2 #[true, true, true, true, true, true, true, true, true, true, true, true, true, true, true, true, true, true, true, true, true, false, false] (fun s_ => [(52, .tuple #[.agg #[s_.1, s_.2.1], .bool tb]), (35, .tuple #[.agg #[s_.1, s_.2.1], .bool tb]), (53, .agg #[s_.1, s_.2.1]), (54, .bool tb), (8, .pointer (some ⟨s_.2.2, 0, none⟩))]) (fun s_ w' => (w'.cell? ⟨b5, 0, none⟩ = some (.slice A0 l.length c0) ∧ w'.cell? ⟨b5, 1, none⟩ = some (.slice A1 ts.length c1) ∧ w'.cell? (ad.add (j * 11)) = some (.int .i64 y.f0) ∧ w'.cell? ⟨(ad.add (j * 11)).block, (ad.add (j * 11)).off + 1, none⟩ = some (.int .i64 y.f1.f0) ∧ w'.cell? ⟨(ad.add (j * 11)).block, (ad.add (j * 11)).off + 2, none⟩ = some (.int .i64 y.f1.f1) ∧ w'.cell? ⟨(ad.add (j * 11)).block, (ad.add (j * 11)).off + 3, none⟩ = some (.int .i64 y.f1.f2) ∧ w'.cell? ⟨(ad.add (j * 11)).block, (ad.add (j * 11)).off + 4, none⟩ = some (.int .i64 y.f1.f3) ∧ w'.cell? ⟨(ad.add (j * 11)).block, (ad.add (j * 11)).off + 5, none⟩ = some (.int .i64 y.f1.f4) ∧ w'.cell? ⟨(ad.add (j * 11)).block, (ad.add (j * 11)).off + 6, none⟩ = some (.int .i64 y.f2.f0) ∧ w'.cell? ⟨(ad.add (j * 11)).block, (ad.add (j * 11)).off + 7, none⟩ = some (.int .i64 y.f2.f1) ∧ w'.cell? ⟨(ad.add (j * 11)).block, (ad.add (j * 11)).off + 8, none⟩ = some (.int .i64 y.f2.f2) ∧ w'.cell? ⟨(ad.add (j * 11)).block, (ad.add (j * 11)).off + 9, none⟩ = some (.int .i64 y.f2.f3) ∧ w'.cell? ⟨(ad.add (j * 11)).block, (ad.add (j * 11)).off + 10, none⟩ = some (.slice Ay y.f2.f4.length cy)) ∧ Aside0 (Fr k49 k62 k49 49 62 49 wd_ (fun k => okc w b5 b6 N k ∨ wd_.heap.size ≤ k) #[.slice none 0 0, .slice none 0 0] #[] 27 0 l' ts' ([] : List S49) (some (s_.1, s_.2.1, .slice none 0 0)) (some s_.2.2) none w')) ?_ ?_
          rotate_left
          · intro hCont
            refine two_ (i := 16) (j := 20) (Ni := some 52) (Nj := some 8) #[true, true, true, true, true, true, true, true, true, true, true, true, true, true, true, true, true, false, false, false, false, false, false] #[true, true, true, true, true, true, true, true, true, true, true, true, true, true, true, true, false, false, false, false, true, false, false] rfl rfl rfl rfl (two_of HT_.out (by kernel_rfl)) (by decide) (by decide) (fun K hK => ?_) (fun K hK => ?_)
            · skip
              refine goes_ Try.func16 (by kernel_rfl) rfl #[.agg #[.slice A0 l.length c0, .slice A1 ts.length c1], .int .i64 y.f0, .agg #[.int .i64 y.f1.f0, .int .i64 y.f1.f1, .int .i64 y.f1.f2, .int .i64 y.f1.f3, .int .i64 y.f1.f4], .agg #[.int .i64 y.f2.f0, .int .i64 y.f2.f1, .int .i64 y.f2.f2, .int .i64 y.f2.f3, .slice Ay y.f2.f4.length cy]] (by rfl) rfl rfl (by (try simp only [List.map_toArray, List.map_cons, List.map_nil]); first | done | rfl) ?_
              refine (CW.out _ FR0.out.b).mono ?_
              rintro e_ wq ⟨v0, v1, rfl, hv0, hv1, hb⟩
              have FR1 := Aside0.mk (Fr.call (v6 := .slice none 0 0) FR0.out hb HN.out hv0 hv1 (base6 := 0) (Kd.V_nil _ _ _ _ _))
              refine ⟨_, rfl, ?_⟩
              have hS_ := hHeld
              obtain ⟨s0, s1, s2, s3, s4, s5, s6, s7, s8, s9, s10, s11, s12⟩ := hS_
              refine hK.out _ _ ⟨pw_cell_below hb s0, pw_cell_below hb s1, pw_cell_below hb s2, pw_cell_below hb s3, pw_cell_below hb s4, pw_cell_below hb s5, pw_cell_below hb s6, pw_cell_below hb s7, pw_cell_below hb s8, pw_cell_below hb s9, pw_cell_below hb s10, pw_cell_below hb s11, pw_cell_below hb s12⟩ (fun hHeld => ?_)
              clear hK K s0 s1 s2 s3 s4 s5 s6 s7 s8 s9 s10 s11 s12
              refine norm_ (a' := ?_) ?_ ?_
              rotate_left
              · show Act.put _ (some 52) _ = _
                simp only [Act.put, List.setIfInBounds_toArray, List.set_cons_zero, List.set_cons_succ, i64_w, i32_w]
                rfl
              refine pure_ (i := 17) (N := some 35) (v := ?_) (a' := ?_) #[true, true, true, true, true, true, true, true, true, true, true, true, true, true, true, true, true, true, false, false, false, false, false] rfl rfl (any_of HT_.out (by kernel_rfl)) (fun _ _ _ h => h) (Or.inl ⟨by rfl, ?_⟩) ?_ ?_
              rotate_left
              · intro w'
                go_simp
                with_reducible rfl
              rotate_left
              · simp only [Act.put, List.setIfInBounds_toArray, List.set_cons_zero, List.set_cons_succ, i64_w, i32_w]
                rfl
              refine pure_ (i := 18) (N := some 53) (v := ?_) (a' := ?_) #[true, true, true, true, true, true, true, true, true, true, true, true, true, true, true, true, true, true, true, false, false, false, false] rfl rfl (any_of HT_.out (by kernel_rfl)) (fun _ _ _ h => h) (Or.inl ⟨by rfl, ?_⟩) ?_ ?_
              rotate_left
              · intro w'
                go_simp
                with_reducible rfl
              rotate_left
              · simp only [Act.put, List.setIfInBounds_toArray, List.set_cons_zero, List.set_cons_succ, i64_w, i32_w]
                rfl
              refine pure_ (i := 19) (N := some 54) (v := ?_) (a' := ?_) #[true, true, true, true, true, true, true, true, true, true, true, true, true, true, true, true, true, true, true, true, false, false, false] rfl rfl (any_of HT_.out (by kernel_rfl)) (fun _ _ _ h => h) (Or.inl ⟨by rfl, ?_⟩) ?_ ?_
              rotate_left
              · intro w'
                go_simp
                with_reducible rfl
              rotate_left
              · simp only [Act.put, List.setIfInBounds_toArray, List.set_cons_zero, List.set_cons_succ, i64_w, i32_w]
                rfl
              refine one_ (i := 20) (N := some 8) #[true, true, true, true, true, true, true, true, true, true, true, true, true, true, true, true, true, true, true, true, true, false, false] rfl rfl (one_of HT_.out (by kernel_rfl)) (by decide) (fun K hK => ?_)
              skip
              refine box_step ?hg (N := 8) ?hd (cs := #[.slice none 0 0, .slice none 0 0]) (t := 27) ?hr ?_; (case hd => rfl); (case hg => rfl); (case hr => first | (go_simp; done) | (go_simp; rfl))
              intro g8 hg wq hbox hb
              have FR2 := Aside0.mk (Fr.box8 FR1.out hg hbox hb)
              have hS_ := hHeld
              obtain ⟨s0, s1, s2, s3, s4, s5, s6, s7, s8, s9, s10, s11, s12⟩ := hS_
              refine hK.out _ _ ⟨pw_cell_below hb s0, pw_cell_below hb s1, pw_cell_below hb s2, pw_cell_below hb s3, pw_cell_below hb s4, pw_cell_below hb s5, pw_cell_below hb s6, pw_cell_below hb s7, pw_cell_below hb s8, pw_cell_below hb s9, pw_cell_below hb s10, pw_cell_below hb s11, pw_cell_below hb s12⟩ (fun hHeld => ?_)
              clear hK K s0 s1 s2 s3 s4 s5 s6 s7 s8 s9 s10 s11 s12
              refine norm_ (a' := ?_) ?_ ?_
              rotate_left
              · show Act.put _ (some 8) _ = _
                simp only [Act.put, List.setIfInBounds_toArray, List.set_cons_zero, List.set_cons_succ, i64_w, i32_w]
                rfl
              exact norm_ (by simp only [putAll, Act.put, List.setIfInBounds_toArray, List.set_cons_zero, List.set_cons_succ]) (hCont (v0, v1, g8) _ ⟨hHeld, FR2⟩)
            · skip
              refine box_step ?hg (N := 8) ?hd (cs := #[.slice none 0 0, .slice none 0 0]) (t := 27) ?hr ?_; (case hd => rfl); (case hg => rfl); (case hr => first | (go_simp; done) | (go_simp; rfl))
              intro g8 hg wq hbox hb
              have FR3 := Aside0.mk (Fr.box8 FR0.out hg hbox hb)
              have hS_ := hHeld
              obtain ⟨s0, s1, s2, s3, s4, s5, s6, s7, s8, s9, s10, s11, s12⟩ := hS_
              refine hK.out _ _ ⟨pw_cell_below hb s0, pw_cell_below hb s1, pw_cell_below hb s2, pw_cell_below hb s3, pw_cell_below hb s4, pw_cell_below hb s5, pw_cell_below hb s6, pw_cell_below hb s7, pw_cell_below hb s8, pw_cell_below hb s9, pw_cell_below hb s10, pw_cell_below hb s11, pw_cell_below hb s12⟩ (fun hHeld => ?_)
              clear hK K s0 s1 s2 s3 s4 s5 s6 s7 s8 s9 s10 s11 s12
              refine norm_ (a' := ?_) ?_ ?_
              rotate_left
              · show Act.put _ (some 8) _ = _
                simp only [Act.put, List.setIfInBounds_toArray, List.set_cons_zero, List.set_cons_succ, i64_w, i32_w]
                rfl
              refine one_ (i := 16) (N := some 52) #[true, true, true, true, true, true, true, true, true, true, true, true, true, true, true, true, true, false, false, false, true, false, false] rfl rfl (one_of HT_.out (by kernel_rfl)) (by decide) (fun K hK => ?_)
              skip
              refine goes_ Try.func16 (by kernel_rfl) rfl #[.agg #[.slice A0 l.length c0, .slice A1 ts.length c1], .int .i64 y.f0, .agg #[.int .i64 y.f1.f0, .int .i64 y.f1.f1, .int .i64 y.f1.f2, .int .i64 y.f1.f3, .int .i64 y.f1.f4], .agg #[.int .i64 y.f2.f0, .int .i64 y.f2.f1, .int .i64 y.f2.f2, .int .i64 y.f2.f3, .slice Ay y.f2.f4.length cy]] (by rfl) rfl rfl (by (try simp only [List.map_toArray, List.map_cons, List.map_nil]); first | done | rfl) ?_
              refine (CW.out _ FR3.out.b).mono ?_
              rintro e_ wq ⟨v0, v1, rfl, hv0, hv1, hb⟩
              have FR4 := Aside0.mk (Fr.call (v6 := .slice none 0 0) FR3.out hb HN.out hv0 hv1 (base6 := 0) (Kd.V_nil _ _ _ _ _))
              refine ⟨_, rfl, ?_⟩
              have hS_ := hHeld
              obtain ⟨s0, s1, s2, s3, s4, s5, s6, s7, s8, s9, s10, s11, s12⟩ := hS_
              refine hK.out _ _ ⟨pw_cell_below hb s0, pw_cell_below hb s1, pw_cell_below hb s2, pw_cell_below hb s3, pw_cell_below hb s4, pw_cell_below hb s5, pw_cell_below hb s6, pw_cell_below hb s7, pw_cell_below hb s8, pw_cell_below hb s9, pw_cell_below hb s10, pw_cell_below hb s11, pw_cell_below hb s12⟩ (fun hHeld => ?_)
              clear hK K s0 s1 s2 s3 s4 s5 s6 s7 s8 s9 s10 s11 s12
              refine norm_ (a' := ?_) ?_ ?_
              rotate_left
              · show Act.put _ (some 52) _ = _
                simp only [Act.put, List.setIfInBounds_toArray, List.set_cons_zero, List.set_cons_succ, i64_w, i32_w]
                rfl
              refine pure_ (i := 17) (N := some 35) (v := ?_) (a' := ?_) #[true, true, true, true, true, true, true, true, true, true, true, true, true, true, true, true, true, true, false, false, true, false, false] rfl rfl (any_of HT_.out (by kernel_rfl)) (fun _ _ _ h => h) (Or.inl ⟨by rfl, ?_⟩) ?_ ?_
              rotate_left
              · intro w'
                go_simp
                with_reducible rfl
              rotate_left
              · simp only [Act.put, List.setIfInBounds_toArray, List.set_cons_zero, List.set_cons_succ, i64_w, i32_w]
                rfl
              refine pure_ (i := 18) (N := some 53) (v := ?_) (a' := ?_) #[true, true, true, true, true, true, true, true, true, true, true, true, true, true, true, true, true, true, true, false, true, false, false] rfl rfl (any_of HT_.out (by kernel_rfl)) (fun _ _ _ h => h) (Or.inl ⟨by rfl, ?_⟩) ?_ ?_
              rotate_left
              · intro w'
                go_simp
                with_reducible rfl
              rotate_left
              · simp only [Act.put, List.setIfInBounds_toArray, List.set_cons_zero, List.set_cons_succ, i64_w, i32_w]
                rfl
              refine pure_ (i := 19) (N := some 54) (v := ?_) (a' := ?_) #[true, true, true, true, true, true, true, true, true, true, true, true, true, true, true, true, true, true, true, true, true, false, false] rfl rfl (any_of HT_.out (by kernel_rfl)) (fun _ _ _ h => h) (Or.inl ⟨by rfl, ?_⟩) ?_ ?_
              rotate_left
              · intro w'
                go_simp
                with_reducible rfl
              rotate_left
              · simp only [Act.put, List.setIfInBounds_toArray, List.set_cons_zero, List.set_cons_succ, i64_w, i32_w]
                rfl
              exact norm_ (by simp only [putAll, Act.put, List.setIfInBounds_toArray, List.set_cons_zero, List.set_cons_succ]) (hCont (v0, v1, g8) _ ⟨hHeld, FR4⟩)
          rintro ⟨v0, v1, g8⟩ wj ⟨hHeld, FJ⟩
          obtain ⟨W0, W1, W6⟩ := FJ.out.hc _ rfl
          obtain ⟨A8, c8, e8⟩ := Kd.V_slice W0
          obtain ⟨A9, c9, e9⟩ := Kd.V_slice W1
          subst e8 e9
          have h8 := (FJ.out.h8 _ rfl).1
          clear W0 W1 W6
          have z0 := (blk_cell h8 0).trans rfl
          have z1 := (blk_cell h8 1).trans rfl
          have zf0 := blk_frozen h8 0
          have zf1 := blk_frozen h8 1
          clear h8
          refine norm_ (a' := ?_) ?_ ?_
          rotate_left
          · simp only [putAll, Act.put, List.setIfInBounds_toArray, List.set_cons_zero, List.set_cons_succ]
            rfl
          refine last_ (i := 21) (N := none) #[true, true, true, true, true, true, true, true, true, true, true, true, true, true, true, true, true, true, true, true, true, true, false] rfl rfl (one_of HT_.out (by kernel_rfl)) (by decide) (fun K hK => ?_)
          refine skip_ (w1 := ?_) (by rfl) rfl ?_ ?_
          rotate_left
          · go_simp
            with_reducible rfl
          refine hK.out _ _ ?_
          clear hK K
          refine pure_ (i := 22) (N := some 9) (v := ?_) (a' := ?_) #[true, true, true, true, true, true, true, true, true, true, true, true, true, true, true, true, true, true, true, true, true, true, true] rfl rfl (any_of HT_.out (by kernel_rfl)) (fun _ _ _ h => h) (Or.inl ⟨by rfl, ?_⟩) ?_ ?_
          rotate_left
          · intro w'
            go_simp
            with_reducible rfl
          rotate_left
          · simp only [Act.put, List.setIfInBounds_toArray, List.set_cons_zero, List.set_cons_succ, i64_w, i32_w]
            rfl
          refine done_ (done_of HT_.out (by kernel_rfl)) ?_
          go_wp2
          go_meet
          obtain ⟨M1, M2, M3, M5, M6⟩ := ev_end1 FJ.out LD.out.bx
          exact ⟨⟨_, A8, c8, A9, c9, rfl, rfl, M1, Kd.V_mono M2 (fun k hk => okb_of (LD.out.bx.lt 1 rfl) (LD.out.bx.lt 0 rfl) LD.out.bx.b.size hk.1), Kd.V_mono M3 (fun k hk => okb_of (LD.out.bx.lt 1 rfl) (LD.out.bx.lt 0 rfl) LD.out.bx.b.size hk.1), LD.out.below M5⟩⟩
        case rest =>
          obtain ⟨g8, A8, c8, A9, c9, rfl, rfl, M1, M2, M3, ML⟩ := hcut.out
          have LM := Aside0.mk ML
          have X8 := Aside0.mk M2
          have X9 := Aside0.mk M3
          have BM := Aside0.mk M1
          clear hcut M2 M3 ML s0 s1 p0 p1 p2 p3 p4 p5 p6 p7 p8 p9 p10 HN CW LD SN
          obtain ⟨N2, hN⟩ : ∃ N2, N2 = wc.heap.size := ⟨_, rfl⟩
          have SN := Aside0.mk (show N2 = wc.drew.heap.size from hN)
          have HN := Aside0.mk (show ∀ k, okc w b5 b6 N2 k → k < wc.drew.heap.size from fun k hk => by have := hk.2; have := SN.out; omega)
          have LD := Aside0.mk (LM.out.below (below_drew1 (Below.refl _ _)))
          have CX := Aside0.mk (fun W (hb : Below wc.drew.heap.size wc.drew W) => cx_told (okx := okc w b5 b6 N2) (rb (Kd.V_below (Kd.V_mono (Kd.V_bound LD.out.v2) (ok' := okc w b5 b6 N2) (fun k hk => ⟨hk.1, by have := hk.2; have := SN.out; omega⟩)) hb)) (rb (Kd.V_below (Kd.V_mono (Kd.V_bound LD.out.v3) (ok' := okc w b5 b6 N2) (fun k hk => ⟨hk.1, by have := hk.2; have := SN.out; omega⟩)) hb)) (Kd.V_mk (e := 49) (base := W.heap.size) FY.out.1 (Kd.F_below FY.out.2 (below_then LD.out.bx.b LD.out.bx.b.size hb))) QL.out DR.out SS.out.1 SS.out.2.2.1 SS.out.2.2.2)
          have BD := Aside0.mk M1.drew
          have Y8 := Aside0.mk (Kd.V_drew X8.out)
          have Y9 := Aside0.mk (Kd.V_drew X9.out)
          have s0 : wc.drew.cell? ⟨b6, 0, none⟩ = some (.slice B0 l.length d0) := (M1.cell 1 0 rfl).trans rfl
          have s1 : wc.drew.cell? ⟨b6, 1, none⟩ = some (.slice B1 xs.length d1) := (M1.cell 1 1 rfl).trans rfl
          have p0 : wc.drew.cell? _ = some _ := cell_below LD.out.bx.b PP.out.1
          have p1 : wc.drew.cell? _ = some _ := cell_below LD.out.bx.b PP.out.2.1
          have p2 : wc.drew.cell? _ = some _ := cell_below LD.out.bx.b PP.out.2.2.1
          have p3 : wc.drew.cell? _ = some _ := cell_below LD.out.bx.b PP.out.2.2.2.1
          have p4 : wc.drew.cell? _ = some _ := cell_below LD.out.bx.b PP.out.2.2.2.2.1
          have p5 : wc.drew.cell? _ = some _ := cell_below LD.out.bx.b PP.out.2.2.2.2.2.1
          have p6 : wc.drew.cell? _ = some _ := cell_below LD.out.bx.b PP.out.2.2.2.2.2.2.1
          have p7 : wc.drew.cell? _ = some _ := cell_below LD.out.bx.b PP.out.2.2.2.2.2.2.2.1
          have p8 : wc.drew.cell? _ = some _ := cell_below LD.out.bx.b PP.out.2.2.2.2.2.2.2.2.1
          have p9 : wc.drew.cell? _ = some _ := cell_below LD.out.bx.b PP.out.2.2.2.2.2.2.2.2.2.1
          have p10 : wc.drew.cell? _ = some _ := cell_below LD.out.bx.b PP.out.2.2.2.2.2.2.2.2.2.2
          clear hN M1 X8 X9 BM LM
          go_upto_region 10 with (fail)
          go_cut [10, 11] (fun s10 s11 wc2 => Aside0 (∃ ga B8 d8 B9 d9, s10 = .pointer (some ⟨ga, 0, none⟩) ∧ s11 = .bool tb ∧ Bxs w wc2 ((ga, #[.slice B8 l'.length d8, .slice B9 xs'.length d9], 31) :: (g8, #[.slice A8 l'.length c8, .slice A9 ts'.length c9], 27) :: ([(b6, #[.slice B0 l.length d0, .slice B1 xs.length d1], 31), (b5, #[.slice A0 l.length c0, .slice A1 ts.length c1], 27)] : List Box)) ∧ Kd.V k49 49 wc2 0 (okb w b5 b6) (.slice B8 l'.length d8) l' ∧ Kd.V k61 61 wc2 0 (okb w b5 b6) (.slice B9 xs'.length d9) xs' ∧ Kd.V k49 49 wc2 0 (okb w b5 b6) (.slice A8 l'.length c8) l' ∧ Kd.V k62 62 wc2 0 (okb w b5 b6) (.slice A9 ts'.length c9) ts'))
          case first =>
            refine start_ (n := 23) (S := fun W' => W'.cell? ⟨b6, 0, none⟩ = some (.slice B0 l.length d0) ∧ W'.cell? ⟨b6, 1, none⟩ = some (.slice B1 xs.length d1) ∧ W'.cell? (ad.add (j * 11)) = some (.int .i64 y.f0) ∧ W'.cell? ⟨(ad.add (j * 11)).block, (ad.add (j * 11)).off + 1, none⟩ = some (.int .i64 y.f1.f0) ∧ W'.cell? ⟨(ad.add (j * 11)).block, (ad.add (j * 11)).off + 2, none⟩ = some (.int .i64 y.f1.f1) ∧ W'.cell? ⟨(ad.add (j * 11)).block, (ad.add (j * 11)).off + 3, none⟩ = some (.int .i64 y.f1.f2) ∧ W'.cell? ⟨(ad.add (j * 11)).block, (ad.add (j * 11)).off + 4, none⟩ = some (.int .i64 y.f1.f3) ∧ W'.cell? ⟨(ad.add (j * 11)).block, (ad.add (j * 11)).off + 5, none⟩ = some (.int .i64 y.f1.f4) ∧ W'.cell? ⟨(ad.add (j * 11)).block, (ad.add (j * 11)).off + 6, none⟩ = some (.int .i64 y.f2.f0) ∧ W'.cell? ⟨(ad.add (j * 11)).block, (ad.add (j * 11)).off + 7, none⟩ = some (.int .i64 y.f2.f1) ∧ W'.cell? ⟨(ad.add (j * 11)).block, (ad.add (j * 11)).off + 8, none⟩ = some (.int .i64 y.f2.f2) ∧ W'.cell? ⟨(ad.add (j * 11)).block, (ad.add (j * 11)).off + 9, none⟩ = some (.int .i64 y.f2.f3) ∧ W'.cell? ⟨(ad.add (j * 11)).block, (ad.add (j * 11)).off + 10, none⟩ = some (.slice Ay y.f2.f4.length cy)) (ds := [21]) #[false, false, false, false, false, false, false, false, false, false, false, false, false, false, false, false, false, false, false, false, false, false, false] (by kernel_rfl) rfl rfl ⟨s0, s1, p0, p1, p2, p3, p4, p5, p6, p7, p8, p9, p10⟩ (fun hHeld => ?_); refine with_tabW mo10_tab mo10_bits (fun HT_ HW_ => ?_)
            generalize wc.drew = wd_ at s0 s1 p0 p1 p2 p3 p4 p5 p6 p7 p8 p9 p10 HN CX LD SN BD Y8 Y9 hHeld ⊢
            refine pure_ (i := 1) (N := some 57) (v := ?_) (a' := ?_) #[false, true, false, false, false, false, false, false, false, false, false, false, false, false, false, false, false, false, false, false, false, false, false] rfl rfl (any_of HT_.out (by kernel_rfl)) (fun _ _ _ h => h) (Or.inl ⟨by rfl, ?_⟩) ?_ ?_
            rotate_left
            · intro w'
              go_simp
              with_reducible rfl
            rotate_left
            · simp only [Act.put, List.setIfInBounds_toArray, List.set_cons_zero, List.set_cons_succ, i64_w, i32_w]
              rfl
            refine pure_ (i := 2) (N := some 58) (v := ?_) (a' := ?_) #[false, true, true, false, false, false, false, false, false, false, false, false, false, false, false, false, false, false, false, false, false, false, false] rfl rfl (any_of HT_.out (by kernel_rfl)) (fun _ _ _ h => h) (Or.inl ⟨by rfl, ?_⟩) ?_ ?_
            rotate_left
            · intro w'
              go_simp
              with_reducible rfl
            rotate_left
            · simp only [Act.put, List.setIfInBounds_toArray, List.set_cons_zero, List.set_cons_succ, i64_w, i32_w]
              rfl
            refine pure_ (i := 3) (N := some 59) (v := ?_) (a' := ?_) #[false, true, true, true, false, false, false, false, false, false, false, false, false, false, false, false, false, false, false, false, false, false, false] rfl rfl (any_of HT_.out (by kernel_rfl)) (fun _ _ _ h => h) (Or.inl ⟨by rfl, ?_⟩) ?_ ?_
            rotate_left
            · intro w'
              go_simp
              with_reducible rfl
            rotate_left
            · simp only [Act.put, List.setIfInBounds_toArray, List.set_cons_zero, List.set_cons_succ, i64_w, i32_w]
              rfl
            refine pure_ (i := 4) (N := some 60) (v := ?_) (a' := ?_) #[false, true, true, true, true, false, false, false, false, false, false, false, false, false, false, false, false, false, false, false, false, false, false] rfl rfl (any_of HT_.out (by kernel_rfl)) (fun _ _ _ h => h) (Or.inl ⟨by rfl, ?_⟩) ?_ ?_
            rotate_left
            · intro w'
              go_simp
              with_reducible rfl
            rotate_left
            · simp only [Act.put, List.setIfInBounds_toArray, List.set_cons_zero, List.set_cons_succ, i64_w, i32_w]
              rfl
            refine pure_ (i := 6) (N := some 62) (v := ?_) (a' := ?_) #[false, true, true, true, true, false, true, false, false, false, false, false, false, false, false, false, false, false, false, false, false, false, false] rfl rfl (any_of HT_.out (by kernel_rfl)) (fun _ _ _ h => h) (Or.inl ⟨by rfl, ?_⟩) ?_ ?_
            rotate_left
            · intro w'
              go_simp
              with_reducible rfl
            rotate_left
            · simp only [Act.put, List.setIfInBounds_toArray, List.set_cons_zero, List.set_cons_succ, i64_w, i32_w]
              rfl
            refine pure_ (i := 7) (N := some 63) (v := ?_) (a' := ?_) #[false, true, true, true, true, false, true, true, false, false, false, false, false, false, false, false, false, false, false, false, false, false, false] rfl rfl (any_of HT_.out (by kernel_rfl)) (fun _ _ _ h => h) (Or.inl ⟨by rfl, ?_⟩) ?_ ?_
            rotate_left
            · intro w'
              go_simp
              with_reducible rfl
            rotate_left
            · simp only [Act.put, List.setIfInBounds_toArray, List.set_cons_zero, List.set_cons_succ, i64_w, i32_w]
              rfl
            refine pure_ (i := 8) (N := some 64) (v := ?_) (a' := ?_) #[false, true, true, true, true, false, true, true, true, false, false, false, false, false, false, false, false, false, false, false, false, false, false] rfl rfl (any_of HT_.out (by kernel_rfl)) (fun _ _ _ h => h) (Or.inl ⟨by rfl, ?_⟩) ?_ ?_
            rotate_left
            · intro w'
              go_simp
              with_reducible rfl
            rotate_left
            · simp only [Act.put, List.setIfInBounds_toArray, List.set_cons_zero, List.set_cons_succ, i64_w, i32_w]
              rfl
            refine pure_ (i := 9) (N := some 65) (v := ?_) (a' := ?_) #[false, true, true, true, true, false, true, true, true, true, false, false, false, false, false, false, false, false, false, false, false, false, false] rfl rfl (any_of HT_.out (by kernel_rfl)) (fun _ _ _ h => h) (Or.inl ⟨by rfl, ?_⟩) ?_ ?_
            rotate_left
            · intro w'
              go_simp
              with_reducible rfl
            rotate_left
            · simp only [Act.put, List.setIfInBounds_toArray, List.set_cons_zero, List.set_cons_succ, i64_w, i32_w]
              rfl
            refine pure_ (i := 11) (N := some 67) (v := ?_) (a' := ?_) #[false, true, true, true, true, false, true, true, true, true, false, true, false, false, false, false, false, false, false, false, false, false, false] rfl rfl (any_of HT_.out (by kernel_rfl)) (fun _ _ _ h => h) (Or.inl ⟨by rfl, ?_⟩) ?_ ?_
            rotate_left
            · intro w'
              go_simp
              with_reducible rfl
            rotate_left
            · simp only [Act.put, List.setIfInBounds_toArray, List.set_cons_zero, List.set_cons_succ, i64_w, i32_w]
              rfl
            refine pure_ (i := 12) (N := some 68) (v := ?_) (a' := ?_) #[false, true, true, true, true, false, true, true, true, true, false, true, true, false, false, false, false, false, false, false, false, false, false] rfl rfl (any_of HT_.out (by kernel_rfl)) (fun _ _ _ h => h) (Or.inl ⟨by rfl, ?_⟩) ?_ ?_
            rotate_left
            · intro w'
              go_simp
              with_reducible rfl
            rotate_left
            · simp only [Act.put, List.setIfInBounds_toArray, List.set_cons_zero, List.set_cons_succ, i64_w, i32_w]
              rfl
            refine pure_ (i := 13) (N := some 69) (v := ?_) (a' := ?_) #[false, true, true, true, true, false, true, true, true, true, false, true, true, true, false, false, false, false, false, false, false, false, false] rfl rfl (any_of HT_.out (by kernel_rfl)) (fun _ _ _ h => h) (Or.inl ⟨by rfl, ?_⟩) ?_ ?_
            rotate_left
            · intro w'
              go_simp
              with_reducible rfl
            rotate_left
            · simp only [Act.put, List.setIfInBounds_toArray, List.set_cons_zero, List.set_cons_succ, i64_w, i32_w]
              rfl
            refine pure_ (i := 14) (N := some 70) (v := ?_) (a' := ?_) #[false, true, true, true, true, false, true, true, true, true, false, true, true, true, true, false, false, false, false, false, false, false, false] rfl rfl (any_of HT_.out (by kernel_rfl)) (fun _ _ _ h => h) (Or.inl ⟨by rfl, ?_⟩) ?_ ?_
            rotate_left
            · intro w'
              go_simp
              with_reducible rfl
            rotate_left
            · simp only [Act.put, List.setIfInBounds_toArray, List.set_cons_zero, List.set_cons_succ, i64_w, i32_w]
              rfl
            refine take_ (i := 0) (N := some 56) (v := ?_) (a' := ?_) #[true, true, true, true, true, false, true, true, true, true, false, true, true, true, true, false, false, false, false, false, false, false, false] rfl rfl (take_ofW HT_.out HW_.out (by kernel_rfl)) (fun _ _ _ h => h) (Or.inl ⟨by rfl, ?_⟩) hHeld ?_ ?_
            rotate_left
            · rintro w' ⟨s0, s1, s2, s3, s4, s5, s6, s7, s8, s9, s10, s11, s12⟩
              go_simp
              with_reducible rfl
            rotate_left
            · simp only [Act.put, List.setIfInBounds_toArray, List.set_cons_zero, List.set_cons_succ, i64_w, i32_w]
              rfl
            refine take_ (i := 5) (N := some 61) (v := ?_) (a' := ?_) #[true, true, true, true, true, true, true, true, true, true, false, true, true, true, true, false, false, false, false, false, false, false, false] rfl rfl (take_ofW HT_.out HW_.out (by kernel_rfl)) (fun _ _ _ h => h) (Or.inl ⟨by rfl, ?_⟩) hHeld ?_ ?_
            rotate_left
            · rintro w' ⟨s0, s1, s2, s3, s4, s5, s6, s7, s8, s9, s10, s11, s12⟩
              go_simp
              with_reducible rfl
            rotate_left
            · simp only [Act.put, List.setIfInBounds_toArray, List.set_cons_zero, List.set_cons_succ, i64_w, i32_w]
              rfl
            refine take_ (i := 10) (N := some 66) (v := ?_) (a' := ?_) #[true, true, true, true, true, true, true, true, true, true, true, true, true, true, true, false, false, false, false, false, false, false, false] rfl rfl (take_ofW HT_.out HW_.out (by kernel_rfl)) (fun _ _ _ h => h) (Or.inl ⟨by rfl, ?_⟩) hHeld ?_ ?_
            rotate_left
            · rintro w' ⟨s0, s1, s2, s3, s4, s5, s6, s7, s8, s9, s10, s11, s12⟩
              go_simp
              with_reducible rfl
            rotate_left
            · simp only [Act.put, List.setIfInBounds_toArray, List.set_cons_zero, List.set_cons_succ, i64_w, i32_w]
              rfl
            refine take_ (i := 15) (N := some 71) (v := ?_) (a' := ?_) #[true, true, true, true, true, true, true, true, true, true, true, true, true, true, true, true, false, false, false, false, false, false, false] rfl rfl (take_ofW HT_.out HW_.out (by kernel_rfl)) (fun _ _ _ h => h) (Or.inl ⟨by rfl, ?_⟩) hHeld ?_ ?_
            rotate_left
            · rintro w' ⟨s0, s1, s2, s3, s4, s5, s6, s7, s8, s9, s10, s11, s12⟩
              go_simp
              with_reducible rfl
            rotate_left
            · simp only [Act.put, List.setIfInBounds_toArray, List.set_cons_zero, List.set_cons_succ, i64_w, i32_w]
              rfl
            have FR0 := Aside0.mk (show Fr k49 k61 k49 49 61 49 wd_ (fun k => okc w b5 b6 N2 k ∨ wd_.heap.size ≤ k) #[.slice none 0 0, .slice none 0 0] #[] 31 0 l' xs' ([] : List S49) none none none wd_ from Fr.start)
            refine join_ (σ := Value × Value × Nat) 2 #[true, true, true, true, true, true, true, true, true, true, true, true, true, true, true, true, true, true, true, true, true, false, false] (fun s_ => [(72, .tuple #[.agg #[s_.1, s_.2.1], .bool tb]), (55, .tuple #[.agg #[s_.1, s_.2.1], .bool tb]), (73, .agg #[s_.1, s_.2.1]), (74, .bool tb), (10, .pointer (some ⟨s_.2.2, 0, none⟩))]) (fun s_ w' => (w'.cell? ⟨b6, 0, none⟩ = some (.slice B0 l.length d0) ∧ w'.cell? ⟨b6, 1, none⟩ = some (.slice B1 xs.length d1) ∧ w'.cell? (ad.add (j * 11)) = some (.int .i64 y.f0) ∧ w'.cell? ⟨(ad.add (j * 11)).block, (ad.add (j * 11)).off + 1, none⟩ = some (.int .i64 y.f1.f0) ∧ w'.cell? ⟨(ad.add (j * 11)).block, (ad.add (j * 11)).off + 2, none⟩ = some (.int .i64 y.f1.f1) ∧ w'.cell? ⟨(ad.add (j * 11)).block, (ad.add (j * 11)).off + 3, none⟩ = some (.int .i64 y.f1.f2) ∧ w'.cell? ⟨(ad.add (j * 11)).block, (ad.add (j * 11)).off + 4, none⟩ = some (.int .i64 y.f1.f3) ∧ w'.cell? ⟨(ad.add (j * 11)).block, (ad.add (j * 11)).off + 5, none⟩ = some (.int .i64 y.f1.f4) ∧ w'.cell? ⟨(ad.add (j * 11)).block, (ad.add (j * 11)).off + 6, none⟩ = some (.int .i64 y.f2.f0) ∧ w'.cell? ⟨(ad.add (j * 11)).block, (ad.add (j * 11)).off + 7, none⟩ = some (.int .i64 y.f2.f1) ∧ w'.cell? ⟨(ad.add (j * 11)).block, (ad.add (j * 11)).off + 8, none⟩ = some (.int .i64 y.f2.f2) ∧ w'.cell? ⟨(ad.add (j * 11)).block, (ad.add (j * 11)).off + 9, none⟩ = some (.int .i64 y.f2.f3) ∧ w'.cell? ⟨(ad.add (j * 11)).block, (ad.add (j * 11)).off + 10, none⟩ = some (.slice Ay y.f2.f4.length cy)) ∧ Aside0 (Fr k49 k61 k49 49 61 49 wd_ (fun k => okc w b5 b6 N2 k ∨ wd_.heap.size ≤ k) #[.slice none 0 0, .slice none 0 0] #[] 31 0 l' xs' ([] : List S49) (some (s_.1, s_.2.1, .slice none 0 0)) (some s_.2.2) none w')) ?_ ?_
            rotate_left
            · intro hCont
              refine two_ (i := 16) (j := 20) (Ni := some 72) (Nj := some 10) #[true, true, true, true, true, true, true, true, true, true, true, true, true, true, true, true, true, false, false, false, false, false, false] #[true, true, true, true, true, true, true, true, true, true, true, true, true, true, true, true, false, false, false, false, true, false, false] rfl rfl rfl rfl (two_of HT_.out (by kernel_rfl)) (by decide) (by decide) (fun K hK => ?_) (fun K hK => ?_)
              · skip
                refine goes_ Try.func17 (by kernel_rfl) rfl #[.agg #[.slice B0 l.length d0, .slice B1 xs.length d1], .int .i64 y.f0, .agg #[.int .i64 y.f1.f0, .int .i64 y.f1.f1, .int .i64 y.f1.f2, .int .i64 y.f1.f3, .int .i64 y.f1.f4], .agg #[.int .i64 y.f2.f0, .int .i64 y.f2.f1, .int .i64 y.f2.f2, .int .i64 y.f2.f3, .slice Ay y.f2.f4.length cy]] (by rfl) rfl rfl (by (try simp only [List.map_toArray, List.map_cons, List.map_nil]); first | done | rfl) ?_
                refine (CX.out _ FR0.out.b).mono ?_
                rintro e_ wq ⟨v0, v1, rfl, hv0, hv1, hb⟩
                have FR1 := Aside0.mk (Fr.call (v6 := .slice none 0 0) FR0.out hb HN.out hv0 hv1 (base6 := 0) (Kd.V_nil _ _ _ _ _))
                refine ⟨_, rfl, ?_⟩
                have hS_ := hHeld
                obtain ⟨s0, s1, s2, s3, s4, s5, s6, s7, s8, s9, s10, s11, s12⟩ := hS_
                refine hK.out _ _ ⟨pw_cell_below hb s0, pw_cell_below hb s1, pw_cell_below hb s2, pw_cell_below hb s3, pw_cell_below hb s4, pw_cell_below hb s5, pw_cell_below hb s6, pw_cell_below hb s7, pw_cell_below hb s8, pw_cell_below hb s9, pw_cell_below hb s10, pw_cell_below hb s11, pw_cell_below hb s12⟩ (fun hHeld => ?_)
                clear hK K s0 s1 s2 s3 s4 s5 s6 s7 s8 s9 s10 s11 s12
                refine norm_ (a' := ?_) ?_ ?_
                rotate_left
                · show Act.put _ (some 72) _ = _
                  simp only [Act.put, List.setIfInBounds_toArray, List.set_cons_zero, List.set_cons_succ, i64_w, i32_w]
                  rfl
                refine pure_ (i := 17) (N := some 55) (v := ?_) (a' := ?_) #[true, true, true, true, true, true, true, true, true, true, true, true, true, true, true, true, true, true, false, false, false, false, false] rfl rfl (any_of HT_.out (by kernel_rfl)) (fun _ _ _ h => h) (Or.inl ⟨by rfl, ?_⟩) ?_ ?_
                rotate_left
                · intro w'
                  go_simp
                  with_reducible rfl
                rotate_left
                · simp only [Act.put, List.setIfInBounds_toArray, List.set_cons_zero, List.set_cons_succ, i64_w, i32_w]
                  rfl
                refine pure_ (i := 18) (N := some 73) (v := ?_) (a' := ?_) #[true, true, true, true, true, true, true, true, true, true, true, true, true, true, true, true, true, true, true, false, false, false, false] rfl rfl (any_of HT_.out (by kernel_rfl)) (fun _ _ _ h => h) (Or.inl ⟨by rfl, ?_⟩) ?_ ?_
                rotate_left
                · intro w'
                  go_simp
                  with_reducible rfl
                rotate_left
                · simp only [Act.put, List.setIfInBounds_toArray, List.set_cons_zero, List.set_cons_succ, i64_w, i32_w]
                  rfl
                refine pure_ (i := 19) (N := some 74) (v := ?_) (a' := ?_) #[true, true, true, true, true, true, true, true, true, true, true, true, true, true, true, true, true, true, true, true, false, false, false] rfl rfl (any_of HT_.out (by kernel_rfl)) (fun _ _ _ h => h) (Or.inl ⟨by rfl, ?_⟩) ?_ ?_
                rotate_left
                · intro w'
                  go_simp
                  with_reducible rfl
                rotate_left
                · simp only [Act.put, List.setIfInBounds_toArray, List.set_cons_zero, List.set_cons_succ, i64_w, i32_w]
                  rfl
                refine one_ (i := 20) (N := some 10) #[true, true, true, true, true, true, true, true, true, true, true, true, true, true, true, true, true, true, true, true, true, false, false] rfl rfl (one_of HT_.out (by kernel_rfl)) (by decide) (fun K hK => ?_)
                skip
                refine box_step ?hg (N := 10) ?hd (cs := #[.slice none 0 0, .slice none 0 0]) (t := 31) ?hr ?_; (case hd => rfl); (case hg => rfl); (case hr => first | (go_simp; done) | (go_simp; rfl))
                intro g10 hg wq hbox hb
                have FR2 := Aside0.mk (Fr.box8 FR1.out hg hbox hb)
                have hS_ := hHeld
                obtain ⟨s0, s1, s2, s3, s4, s5, s6, s7, s8, s9, s10, s11, s12⟩ := hS_
                refine hK.out _ _ ⟨pw_cell_below hb s0, pw_cell_below hb s1, pw_cell_below hb s2, pw_cell_below hb s3, pw_cell_below hb s4, pw_cell_below hb s5, pw_cell_below hb s6, pw_cell_below hb s7, pw_cell_below hb s8, pw_cell_below hb s9, pw_cell_below hb s10, pw_cell_below hb s11, pw_cell_below hb s12⟩ (fun hHeld => ?_)
                clear hK K s0 s1 s2 s3 s4 s5 s6 s7 s8 s9 s10 s11 s12
                refine norm_ (a' := ?_) ?_ ?_
                rotate_left
                · show Act.put _ (some 10) _ = _
                  simp only [Act.put, List.setIfInBounds_toArray, List.set_cons_zero, List.set_cons_succ, i64_w, i32_w]
                  rfl
                exact norm_ (by simp only [putAll, Act.put, List.setIfInBounds_toArray, List.set_cons_zero, List.set_cons_succ]) (hCont (v0, v1, g10) _ ⟨hHeld, FR2⟩)
              · skip
                refine box_step ?hg (N := 10) ?hd (cs := #[.slice none 0 0, .slice none 0 0]) (t := 31) ?hr ?_; (case hd => rfl); (case hg => rfl); (case hr => first | (go_simp; done) | (go_simp; rfl))
                intro g10 hg wq hbox hb
                have FR3 := Aside0.mk (Fr.box8 FR0.out hg hbox hb)
                have hS_ := hHeld
                obtain ⟨s0, s1, s2, s3, s4, s5, s6, s7, s8, s9, s10, s11, s12⟩ := hS_
                refine hK.out _ _ ⟨pw_cell_below hb s0, pw_cell_below hb s1, pw_cell_below hb s2, pw_cell_below hb s3, pw_cell_below hb s4, pw_cell_below hb s5, pw_cell_below hb s6, pw_cell_below hb s7, pw_cell_below hb s8, pw_cell_below hb s9, pw_cell_below hb s10, pw_cell_below hb s11, pw_cell_below hb s12⟩ (fun hHeld => ?_)
                clear hK K s0 s1 s2 s3 s4 s5 s6 s7 s8 s9 s10 s11 s12
                refine norm_ (a' := ?_) ?_ ?_
                rotate_left
                · show Act.put _ (some 10) _ = _
                  simp only [Act.put, List.setIfInBounds_toArray, List.set_cons_zero, List.set_cons_succ, i64_w, i32_w]
                  rfl
                refine one_ (i := 16) (N := some 72) #[true, true, true, true, true, true, true, true, true, true, true, true, true, true, true, true, true, false, false, false, true, false, false] rfl rfl (one_of HT_.out (by kernel_rfl)) (by decide) (fun K hK => ?_)
                skip
                refine goes_ Try.func17 (by kernel_rfl) rfl #[.agg #[.slice B0 l.length d0, .slice B1 xs.length d1], .int .i64 y.f0, .agg #[.int .i64 y.f1.f0, .int .i64 y.f1.f1, .int .i64 y.f1.f2, .int .i64 y.f1.f3, .int .i64 y.f1.f4], .agg #[.int .i64 y.f2.f0, .int .i64 y.f2.f1, .int .i64 y.f2.f2, .int .i64 y.f2.f3, .slice Ay y.f2.f4.length cy]] (by rfl) rfl rfl (by (try simp only [List.map_toArray, List.map_cons, List.map_nil]); first | done | rfl) ?_
                refine (CX.out _ FR3.out.b).mono ?_
                rintro e_ wq ⟨v0, v1, rfl, hv0, hv1, hb⟩
                have FR4 := Aside0.mk (Fr.call (v6 := .slice none 0 0) FR3.out hb HN.out hv0 hv1 (base6 := 0) (Kd.V_nil _ _ _ _ _))
                refine ⟨_, rfl, ?_⟩
                have hS_ := hHeld
                obtain ⟨s0, s1, s2, s3, s4, s5, s6, s7, s8, s9, s10, s11, s12⟩ := hS_
                refine hK.out _ _ ⟨pw_cell_below hb s0, pw_cell_below hb s1, pw_cell_below hb s2, pw_cell_below hb s3, pw_cell_below hb s4, pw_cell_below hb s5, pw_cell_below hb s6, pw_cell_below hb s7, pw_cell_below hb s8, pw_cell_below hb s9, pw_cell_below hb s10, pw_cell_below hb s11, pw_cell_below hb s12⟩ (fun hHeld => ?_)
                clear hK K s0 s1 s2 s3 s4 s5 s6 s7 s8 s9 s10 s11 s12
                refine norm_ (a' := ?_) ?_ ?_
                rotate_left
                · show Act.put _ (some 72) _ = _
                  simp only [Act.put, List.setIfInBounds_toArray, List.set_cons_zero, List.set_cons_succ, i64_w, i32_w]
                  rfl
                refine pure_ (i := 17) (N := some 55) (v := ?_) (a' := ?_) #[true, true, true, true, true, true, true, true, true, true, true, true, true, true, true, true, true, true, false, false, true, false, false] rfl rfl (any_of HT_.out (by kernel_rfl)) (fun _ _ _ h => h) (Or.inl ⟨by rfl, ?_⟩) ?_ ?_
                rotate_left
                · intro w'
                  go_simp
                  with_reducible rfl
                rotate_left
                · simp only [Act.put, List.setIfInBounds_toArray, List.set_cons_zero, List.set_cons_succ, i64_w, i32_w]
                  rfl
                refine pure_ (i := 18) (N := some 73) (v := ?_) (a' := ?_) #[true, true, true, true, true, true, true, true, true, true, true, true, true, true, true, true, true, true, true, false, true, false, false] rfl rfl (any_of HT_.out (by kernel_rfl)) (fun _ _ _ h => h) (Or.inl ⟨by rfl, ?_⟩) ?_ ?_
                rotate_left
                · intro w'
                  go_simp
                  with_reducible rfl
                rotate_left
                · simp only [Act.put, List.setIfInBounds_toArray, List.set_cons_zero, List.set_cons_succ, i64_w, i32_w]
                  rfl
                refine pure_ (i := 19) (N := some 74) (v := ?_) (a' := ?_) #[true, true, true, true, true, true, true, true, true, true, true, true, true, true, true, true, true, true, true, true, true, false, false] rfl rfl (any_of HT_.out (by kernel_rfl)) (fun _ _ _ h => h) (Or.inl ⟨by rfl, ?_⟩) ?_ ?_
                rotate_left
                · intro w'
                  go_simp
                  with_reducible rfl
                rotate_left
                · simp only [Act.put, List.setIfInBounds_toArray, List.set_cons_zero, List.set_cons_succ, i64_w, i32_w]
                  rfl
                exact norm_ (by simp only [putAll, Act.put, List.setIfInBounds_toArray, List.set_cons_zero, List.set_cons_succ]) (hCont (v0, v1, g10) _ ⟨hHeld, FR4⟩)
            rintro ⟨v0, v1, g10⟩ wj ⟨hHeld, FJ⟩
            obtain ⟨W0, W1, W6⟩ := FJ.out.hc _ rfl
            obtain ⟨A8_, c8_, e8⟩ := Kd.V_slice W0
            obtain ⟨A9_, c9_, e9⟩ := Kd.V_slice W1
            subst e8 e9
            have h8 := (FJ.out.h8 _ rfl).1
            clear W0 W1 W6
            have z0 := (blk_cell h8 0).trans rfl
            have z1 := (blk_cell h8 1).trans rfl
            have zf0 := blk_frozen h8 0
            have zf1 := blk_frozen h8 1
            clear h8
            refine norm_ (a' := ?_) ?_ ?_
            rotate_left
            · simp only [putAll, Act.put, List.setIfInBounds_toArray, List.set_cons_zero, List.set_cons_succ]
              rfl
            refine last_ (i := 21) (N := none) #[true, true, true, true, true, true, true, true, true, true, true, true, true, true, true, true, true, true, true, true, true, true, false] rfl rfl (one_of HT_.out (by kernel_rfl)) (by decide) (fun K hK => ?_)
            refine skip_ (w1 := ?_) (by rfl) rfl ?_ ?_
            rotate_left
            · go_simp
              with_reducible rfl
            refine hK.out _ _ ?_
            clear hK K
            refine pure_ (i := 22) (N := some 11) (v := ?_) (a' := ?_) #[true, true, true, true, true, true, true, true, true, true, true, true, true, true, true, true, true, true, true, true, true, true, true] rfl rfl (any_of HT_.out (by kernel_rfl)) (fun _ _ _ h => h) (Or.inl ⟨by rfl, ?_⟩) ?_ ?_
            rotate_left
            · intro w'
              go_simp
              with_reducible rfl
            rotate_left
            · simp only [Act.put, List.setIfInBounds_toArray, List.set_cons_zero, List.set_cons_succ, i64_w, i32_w]
              rfl
            refine done_ (done_of HT_.out (by kernel_rfl)) ?_
            go_wp2
            go_meet
            obtain ⟨M1, M2, M3, M5, M6⟩ := ev_end1 FJ.out BD.out
            exact ⟨⟨_, A8_, c8_, A9_, c9_, rfl, rfl, M1, Kd.V_mono M2 (fun k hk => okb_of (LD.out.bx.lt 1 rfl) (LD.out.bx.lt 0 rfl) LD.out.bx.b.size hk.1), Kd.V_mono M3 (fun k hk => okb_of (LD.out.bx.lt 1 rfl) (LD.out.bx.lt 0 rfl) LD.out.bx.b.size hk.1), Kd.V_below Y8.out M5, Kd.V_below Y9.out M5⟩⟩
          case rest =>
            obtain ⟨ga, B8, d8, B9, d9, rfl, rfl, M1, Q0, Q1, Q3, Q4⟩ := hcut.out
            clear hcut s0 s1 p0 p1 p2 p3 p4 p5 p6 p7 p8 p9 p10 HN CX SN LD BD Y8 Y9 PP FY
            have BM := Aside0.mk M1
            have VQ := Aside0.mk (And.intro Q0 (And.intro Q1 (And.intro Q3 Q4)))
            have u0 := (M1.cell 1 0 rfl).trans rfl
            have u1 := (M1.cell 1 1 rfl).trans rfl
            have v0 := (M1.cell 0 0 rfl).trans rfl
            have v1 := (M1.cell 0 1 rfl).trans rfl
            have s0 := (M1.cell 3 0 rfl).trans rfl
            have s1 := (M1.cell 3 1 rfl).trans rfl
            have sf0 := M1.frz 3 0 rfl
            have sf1 := M1.frz 3 1 rfl
            have t0 := (M1.cell 2 0 rfl).trans rfl
            have t1 := (M1.cell 2 1 rfl).trans rfl
            have tf0 := M1.frz 2 0 rfl
            have tf1 := M1.frz 2 1 rfl
            have m1 : ga ≠ b5 := ne_at M1.ne (i := 0) (j := 3) rfl rfl (by decide)
            have m2 : b6 ≠ b5 := ne_at M1.ne (i := 2) (j := 3) rfl rfl (by decide)
            have m3 : ¬ b5 = ga := fun e => m1 e.symm
            have m4 : ¬ b5 = b6 := fun e => m2 e.symm
            clear M1 Q0 Q1 Q3 Q4
            go_upto_region 13 with (fail)
            refine gen2 (Φ := fun X => Bxs w X ([(ga, #[.slice B8 l'.length d8, .slice B9 xs'.length d9], 31), (g8, #[.slice A8 l'.length c8, .slice A9 ts'.length c9], 27), (b6, #[.slice B8 l'.length d8, .slice B9 xs'.length d9], 31), (b5, #[.slice A8 l'.length c8, .slice A9 ts'.length c9], 27)] : List Box) ∧ Kd.V k49 49 X 0 (okb w b5 b6) (.slice B8 l'.length d8) l' ∧ Kd.V k61 61 X 0 (okb w b5 b6) (.slice B9 xs'.length d9) xs' ∧ Kd.V k49 49 X 0 (okb w b5 b6) (.slice A8 l'.length c8) l' ∧ Kd.V k62 62 X 0 (okb w b5 b6) (.slice A9 ts'.length c9) ts') ⟨(((BM.out.set 3 0 _ rfl rfl).set 3 1 _ rfl rfl).set 2 0 _ rfl rfl).set 2 1 _ rfl rfl, q4 VQ.out.1, q4 VQ.out.2.1, q4 VQ.out.2.2.1, q4 VQ.out.2.2.2⟩ ?_
            rintro wr3 ⟨M3, P0, P1, P3, P4⟩
            have BZ := Aside0.mk M3
            have PQ := Aside0.mk (And.intro P0 (And.intro P1 (And.intro P3 P4)))
            clear u0 u1 v0 v1 s0 s1 sf0 sf1 t0 t1 tf0 tf1 m1 m2 m3 m4 M3 P0 P1 P3 P4 BM VQ
            have k0 : wr3.drew.cell? ⟨b5, 0, none⟩ = some (.slice A8 l'.length c8) := (BZ.out.cell 3 0 rfl).trans rfl
            have k1 : wr3.drew.cell? ⟨b5, 1, none⟩ = some (.slice A9 ts'.length c9) := (BZ.out.cell 3 1 rfl).trans rfl
            have k2 : wr3.drew.cell? ⟨b6, 0, none⟩ = some (.slice B8 l'.length d8) := (BZ.out.cell 2 0 rfl).trans rfl
            have k3 : wr3.drew.cell? ⟨b6, 1, none⟩ = some (.slice B9 xs'.length d9) := (BZ.out.cell 2 1 rfl).trans rfl
            have TWD := Aside0.mk (Below.refl wr3.drew.heap.size wr3.drew)
            have tbn : (tb != tb) = false := by simp
            have LN := Aside0.mk (show LS w wr3.drew b5 b6 A8 c8 A9 c9 B8 d8 B9 d9 l' ts' xs' from ⟨(BZ.out.sub (List.Sublist.cons _ (List.Sublist.cons _ (List.Sublist.refl _)))).drew, Kd.V_drew PQ.out.2.2.1, Kd.V_drew PQ.out.2.2.2, Kd.V_drew PQ.out.1, Kd.V_drew PQ.out.2.1, EX.out.symm⟩)
            have AW := Aside0.mk (fun W (hb : Below wr3.drew.heap.size wr3.drew W) => as_calls (okb w b5 b6) A8 c8 l' (okb w b5 b6) A9 c9 ts' W (rb (Kd.V_below LN.out.v0 hb)) (rb (Kd.V_below LN.out.v1 hb)) (by have := WF2.out.tl; omega))
            have EW := Aside0.mk (fun W (hb : Below wr3.drew.heap.size wr3.drew W) => same_ew (W := W) EX.out WF2.out (by omega) (Kd.V_below LN.out.v2 hb) (Kd.V_below LN.out.v3 hb))
            clear BZ PQ
            refine start_ (n := 10) (S := fun W' => W'.cell? ⟨b5, 0, none⟩ = some (.slice A8 l'.length c8) ∧ W'.cell? ⟨b5, 1, none⟩ = some (.slice A9 ts'.length c9) ∧ W'.cell? ⟨b6, 0, none⟩ = some (.slice B8 l'.length d8) ∧ W'.cell? ⟨b6, 1, none⟩ = some (.slice B9 xs'.length d9)) (ds := []) #[false, false, false, false, false, false, false, false, false, false] (by kernel_rfl) rfl rfl ⟨k0, k1, k2, k3⟩ (fun hHeld => ?_); refine with_tabW mo13_tab mo13_bits (fun HT_ HW_ => ?_)
            generalize wr3.drew = wd_ at k0 k1 k2 k3 TWD LN AW EW hHeld ⊢
            refine pure_ (i := 0) (N := some 77) (v := ?_) (a' := ?_) #[true, false, false, false, false, false, false, false, false, false] rfl rfl (any_of HT_.out (by kernel_rfl)) (fun _ _ _ h => h) (Or.inl ⟨by rfl, ?_⟩) ?_ ?_
            rotate_left
            · intro w'
              go_simp
              with_reducible rfl
            rotate_left
            · simp only [Act.put, List.setIfInBounds_toArray, List.set_cons_zero, List.set_cons_succ]
              rfl
            refine pure_ (i := 1) (N := some 78) (v := ?_) (a' := ?_) #[true, true, false, false, false, false, false, false, false, false] rfl rfl (any_of HT_.out (by kernel_rfl)) (fun _ _ _ h => h) (Or.inl ⟨by rfl, ?_⟩) ?_ ?_
            rotate_left
            · intro w'
              go_simp
              with_reducible rfl
            rotate_left
            · simp only [Act.put, List.setIfInBounds_toArray, List.set_cons_zero, List.set_cons_succ]
              rfl
            refine pure_ (i := 2) (N := some 79) (v := ?_) (a' := ?_) #[true, true, true, false, false, false, false, false, false, false] rfl rfl (any_of HT_.out (by kernel_rfl)) (fun _ _ _ h => h) (Or.inl ⟨by rfl, ?_⟩) ?_ ?_
            rotate_left
            · intro w'
              go_simp
              with_reducible rfl
            rotate_left
            · simp only [Act.put, List.setIfInBounds_toArray, List.set_cons_zero, List.set_cons_succ]
              rfl
            refine pure_ (i := 3) (N := some 80) (v := ?_) (a' := ?_) #[true, true, true, true, false, false, false, false, false, false] rfl rfl (any_of HT_.out (by kernel_rfl)) (fun _ _ _ h => h) (Or.inl ⟨by rfl, ?_⟩) ?_ ?_
            rotate_left
            · intro w'
              go_simp
              with_reducible rfl
            rotate_left
            · simp only [Act.put, List.setIfInBounds_toArray, List.set_cons_zero, List.set_cons_succ]
              rfl
            refine take_ (i := 4) (N := some 81) (v := ?_) (a' := ?_) #[true, true, true, true, true, false, false, false, false, false] rfl rfl (take_ofW HT_.out HW_.out (by kernel_rfl)) (fun _ _ _ h => h) (Or.inl ⟨by rfl, ?_⟩) hHeld ?_ ?_
            rotate_left
            · rintro w' ⟨s0, s1, s2, s3⟩
              go_simp
              with_reducible rfl
            rotate_left
            · simp only [Act.put, List.setIfInBounds_toArray, List.set_cons_zero, List.set_cons_succ]
              rfl
            refine take_ (i := 6) (N := some 83) (v := ?_) (a' := ?_) #[true, true, true, true, true, false, true, false, false, false] rfl rfl (take_ofW HT_.out HW_.out (by kernel_rfl)) (fun _ _ _ h => h) (Or.inl ⟨by rfl, ?_⟩) hHeld ?_ ?_
            rotate_left
            · rintro w' ⟨s0, s1, s2, s3⟩
              go_simp
              with_reducible rfl
            rotate_left
            · simp only [Act.put, List.setIfInBounds_toArray, List.set_cons_zero, List.set_cons_succ]
              rfl
            refine one_ (i := 5) (N := some 82) #[true, true, true, true, true, true, true, false, false, false] rfl rfl (one_of HT_.out (by kernel_rfl)) (by decide) (fun K hK => ?_)
            refine goes_ Try.func14 (by kernel_rfl) rfl #[.agg #[.slice A8 l'.length c8, .slice A9 ts'.length c9]] (by rfl) rfl rfl (by (try simp only [List.map_toArray, List.map_cons, List.map_nil]); first | done | rfl) ?_
            refine (AW.out _ TWD.out).mono ?_
            rintro e_ wq2 ⟨v0_, v1_, rfl, hv0, hv1, hb⟩
            have hHeld2 := hHeld
            obtain ⟨t0, t1, t2, t3⟩ := hHeld2
            have HS0_ := pw_cell_below hb t0
            have HS1_ := pw_cell_below hb t1
            have HS2_ := pw_cell_below hb t2
            have HS3_ := pw_cell_below hb t3
            obtain ⟨E0, f0_, rfl⟩ := Kd.V_slice hv0
            obtain ⟨E1, f1_, rfl⟩ := Kd.V_slice hv1
            have TW2 := Aside0.mk (below_then TWD.out TWD.out.size hb)
            have AV := Aside0.mk (And.intro hv0 hv1)
            clear hv0 hv1 hb
            refine ⟨_, rfl, ?_⟩
            refine hK.out _ _ ⟨HS0_, HS1_, HS2_, HS3_⟩ (fun hHeld => ?_)
            clear hK K
            refine norm_ (a' := ?_) ?_ ?_
            rotate_left
            · show Act.put _ (some 82) _ = _
              simp only [Act.put, List.setIfInBounds_toArray, List.set_cons_zero, List.set_cons_succ]
              rfl
            refine one_ (i := 7) (N := some 84) #[true, true, true, true, true, true, true, true, false, false] rfl rfl (one_of HT_.out (by kernel_rfl)) (by decide) (fun K hK => ?_)
            refine goes_ Try.func13 (by kernel_rfl) rfl #[.agg #[.slice E0 l'.length f0_, .slice E1 (List.map toX ts').length f1_], .agg #[.slice B8 l'.length d8, .slice B9 xs'.length d9]] (by rfl) rfl rfl (by (try simp only [List.map_toArray, List.map_cons, List.map_nil]); first | done | rfl) ?_
            refine (EW.out wq2 TW2.out E0 f0_ E1 f1_ AV.out.1 AV.out.2).mono ?_
            rintro e_ wq3 ⟨rfl, hb⟩
            have hHeld2 := hHeld
            obtain ⟨t0, t1, t2, t3⟩ := hHeld2
            have HS0_ := pw_cell_below hb t0
            have HS1_ := pw_cell_below hb t1
            have HS2_ := pw_cell_below hb t2
            have HS3_ := pw_cell_below hb t3
            have TW3 := Aside0.mk (below_then TW2.out TW2.out.size hb)
            clear hb
            refine ⟨_, rfl, ?_⟩
            refine hK.out _ _ ⟨HS0_, HS1_, HS2_, HS3_⟩ (fun hHeld => ?_)
            clear hK K
            refine norm_ (a' := ?_) ?_ ?_
            rotate_left
            · show Act.put _ (some 84) _ = _
              simp only [Act.put, List.setIfInBounds_toArray, List.set_cons_zero, List.set_cons_succ]
              rfl
            refine pure_ (i := 8) (N := some 85) (v := ?_) (a' := ?_) #[true, true, true, true, true, true, true, true, true, false] rfl rfl (any_of HT_.out (by kernel_rfl)) (fun _ _ _ h => h) (Or.inl ⟨by rfl, ?_⟩) ?_ ?_
            rotate_left
            · intro w'
              go_simp
              with_reducible rfl
            rotate_left
            · simp only [Act.put, List.setIfInBounds_toArray, List.set_cons_zero, List.set_cons_succ]
              rfl
            refine pure_ (i := 9) (N := some 86) (v := ?_) (a' := ?_) #[true, true, true, true, true, true, true, true, true, true] rfl rfl (any_of HT_.out (by kernel_rfl)) (fun _ _ _ h => h) (Or.inl ⟨by rfl, ?_⟩) ?_ ?_
            rotate_left
            · intro w'
              go_simp
              with_reducible rfl
            rotate_left
            · simp only [Act.put, List.setIfInBounds_toArray, List.set_cons_zero, List.set_cons_succ]
              rfl
            refine done_ (done_of HT_.out (by kernel_rfl)) ?_
            go_wp2
            go_roundg (l1.length - (j + 1))
            case measure => omega
            case rel => exact ⟨j + 1, A8, c8, A9, c9, B8, d8, B9, d9, l', ts', xs', by go_num, by omega, ⟨LN.out.below TW3.out⟩, WF2⟩
      · obtain rfl : j = l1.length := by omega
        have q1 : ¬ (l1.length : Int) < (l1.length : Int) := by omega
        go_wp2_with fail
        refine (lives_true _).mono ?_
        rintro e w9 ⟨rfl, hb⟩
        go_wp2
        go_ret
        exact ⟨rfl, below_then LX.out.bx.b LX.out.bx.b.size hb⟩
end Go.Proofs.Ytkkneaefjahihaa.ModLt
