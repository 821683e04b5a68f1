/- What any calls of any threads are answered, one behind the other, and the state behind each, is the document's: the law's walk. -/
import Derived.Test.YtkkneaefjahihaaZModL
import Derived.Deep.DeepCutAuto
set_option linter.unusedVariables false
set_option linter.unusedSimpArgs false
namespace Go.Proofs.Ytkkneaefjahihaa.ModL
open Go Go.RowKit Go.Proofs.YtkkneaefjahihaaW.PrintWords Go.Proofs.YtkkneaefjahihaaW.PrintLast Go.Proofs.YtkkneaefjahihaaW.PrintMore Go.Proofs.Ytkkneaefjahihaa.PModelTold Go.Proofs.Ytkkneaefjahihaa.GRow Go.Proofs.Ytkkneaefjahihaa.ModRec Go.Proofs.Ytkkneaefjahihaa.Num Go.Proofs.Ytkkneaefjahihaa.Bxs Go.Proofs.Ytkkneaefjahihaa.ModW Go.Proofs.Ytkkneaefjahihaa.ModR Go.Proofs.Ytkkneaefjahihaa.Pure
def md7_T : Bool × List (List Nat × List Nat) := (true, [([], []), ([], []), ([], []), ([1, 2], [1, 2]), ([3], [3]), ([4], [4]), ([], []), ([], []), ([6, 7], [6, 7]), ([8], [8]), ([9], [9]), ([0, 5, 10], [0, 5, 10]), ([11], [11]), ([12], [12]), ([12], [12]), ([], []), ([], []), ([15, 13, 11, 0, 1, 2, 3, 4, 5, 6, 7, 8, 9, 10, 11, 12, 13, 15, 16], [13, 15]), ([16, 14, 17, 0, 1, 2, 3, 4, 5, 6, 7, 8, 9, 10, 11, 12, 13, 14, 15, 16, 17], [14, 16])])
def md7_B : List Nat := [0, 0, 0, 6, 14, 30, 0, 0, 192, 448, 960, 2047, 4095, 8191, 8191, 0, 0, 114687, 262143]
theorem md7_tab : rtab .any (opsOf Try.f3 7) = md7_T := by kernel_rfl
theorem md7_bits : waitsOk md7_T.2 md7_B = true := by kernel_rfl
def md8_T : Bool × List (List Nat × List Nat) := (true, [([], []), ([], []), ([], []), ([1, 2], [1, 2]), ([3], [3]), ([4], [4]), ([], []), ([], []), ([6, 7], [6, 7]), ([8], [8]), ([9], [9]), ([0, 5, 10], [0, 5, 10]), ([11], [11]), ([12], [12]), ([12], [12]), ([], []), ([], []), ([15, 13, 11, 0, 1, 2, 3, 4, 5, 6, 7, 8, 9, 10, 11, 12, 13, 15, 16], [13, 15]), ([16, 14, 17, 0, 1, 2, 3, 4, 5, 6, 7, 8, 9, 10, 11, 12, 13, 14, 15, 16, 17], [14, 16])])
def md8_B : List Nat := [0, 0, 0, 6, 14, 30, 0, 0, 192, 448, 960, 2047, 4095, 8191, 8191, 0, 0, 114687, 262143]
theorem md8_tab : rtab .any (opsOf Try.f3 8) = md8_T := by kernel_rfl
theorem md8_bits : waitsOk md8_T.2 md8_B = true := by kernel_rfl
def md11_T : Bool × List (List Nat × List Nat) := (true, [([], []), ([], []), ([0, 1], [0, 1]), ([2], [2]), ([3, 2], [3]), ([4], [4]), ([5, 4, 4], [4, 5]), ([4], [4]), ([6, 7, 6, 4], [4, 6, 7]), ([8, 4], [4, 8]), ([4, 9], [4, 9])])
def md11_B : List Nat := [0, 0, 3, 7, 15, 31, 63, 31, 255, 511, 1023]
theorem md11_tab : rtab .any (opsOf Try.f3 11) = md11_T := by kernel_rfl
theorem md11_bits : waitsOk md11_T.2 md11_B = true := by kernel_rfl
def okb (w : World) (b5 b6 k : Nat) : Prop := w.heap.size ≤ k ∧ k ≠ b5 ∧ k ≠ b6
def okc (w : World) (b5 b6 N k : Nat) : Prop := okb w b5 b6 k ∧ k < N
theorem okb_of {w : World} {b5 b6 N M k : Nat} (h5 : b5 < N) (h6 : b6 < N) (hw : w.heap.size ≤ N) (h : okc w b5 b6 M k ∨ N ≤ k) : okb w b5 b6 k := by
  rcases h with h | h
  · exact h.1
  · exact ⟨by omega, by omega, by omega⟩
/-- The states that the law keeps: the map's, and the document's. -/
structure LS (w wr : World) (b5 b6 : Nat) (A0 : Option Addr) (c0 : Nat) (A1 : Option Addr) (c1 : Nat) (B0 : Option Addr) (d0 : Nat) (B1 : Option Addr) (d1 : Nat) (l : List S49) (ts : List S62) (xs : List S61) : Prop where
  bx : Bxs w wr ([(b6, #[.slice B0 l.length d0, .slice B1 xs.length d1], 31), (b5, #[.slice A0 l.length c0, .slice A1 ts.length c1], 27)] : List Box)
  v0 : Kd.V k49 49 wr 0 (okb w b5 b6) (.slice A0 l.length c0) l
  v1 : Kd.V k62 62 wr 0 (okb w b5 b6) (.slice A1 ts.length c1) ts
  v2 : Kd.V k49 49 wr 0 (okb w b5 b6) (.slice B0 l.length d0) l
  v3 : Kd.V k61 61 wr 0 (okb w b5 b6) (.slice B1 xs.length d1) xs
  e : xs = ts.map toX
theorem at_sp {w : World} {A : Option Addr} {n : Nat} {xs : List S40} (h : Kd.C k40 w A n xs) (i : Nat) (hi : i < xs.length) (hn : xs.length = n) : ∃ ad, A = some ad ∧ w.cell? (ad.add (i * 11)) = some (.int .i64 xs[i].f0) ∧ w.cell? ⟨(ad.add (i * 11)).block, (ad.add (i * 11)).off + 1, none⟩ = some (.int .i64 xs[i].f1.f0) ∧ w.cell? ⟨(ad.add (i * 11)).block, (ad.add (i * 11)).off + 2, none⟩ = some (.int .i64 xs[i].f1.f1) ∧ w.cell? ⟨(ad.add (i * 11)).block, (ad.add (i * 11)).off + 3, none⟩ = some (.int .i64 xs[i].f1.f2) ∧ w.cell? ⟨(ad.add (i * 11)).block, (ad.add (i * 11)).off + 4, none⟩ = some (.int .i64 xs[i].f1.f3) ∧ w.cell? ⟨(ad.add (i * 11)).block, (ad.add (i * 11)).off + 5, none⟩ = some (.int .i64 xs[i].f1.f4) := by
  have := at_T40 h (i : Int) (by omega) (by omega)
  have erd : rd_T40 xs (i : Int) = xs[i] := by unfold rd_T40; rw [Int.toNat_natCast]; simp [List.getD, hi]
  rw [erd, Int.toNat_natCast] at this
  obtain ⟨ad, A2, c2, h0, h1, h2, h3, h4, h5, h6, _⟩ := this
  exact ⟨ad, h0, h1, h2, h3, h4, h5, h6⟩
theorem LS.below {w wr wr' : World} {b5 b6 : Nat} {A0 A1 B0 B1 : Option Addr} {c0 c1 d0 d1 : Nat} {l : List S49} {ts : List S62} {xs : List S61} (h : LS w wr b5 b6 A0 c0 A1 c1 B0 d0 B1 d1 l ts xs) (hb : Below wr.heap.size wr wr') : LS w wr' b5 b6 A0 c0 A1 c1 B0 d0 B1 d1 l ts xs :=
  ⟨h.bx.below hb, Kd.V_below h.v0 hb, Kd.V_below h.v1 hb, Kd.V_below h.v2 hb, Kd.V_below h.v3 hb, h.e⟩
section
variable {α β γ : Type} {d0 : Kd α} {d1 : Kd β} {d6 : Kd γ} {e0 e1 e6 : Nat} {w wd wj : World} {ok : Nat → Prop} {T8 T9 : Nat} {x0 : List α} {x1 : List β} {x6 : List γ} {v0 v1 v6 u0 u1 y0 y1 y2 y3 y4 : Value} {g8 g9 : Nat} {L : List Box}
theorem v7 {α : Type} {d : Kd α} {e : Nat} {W : World} {ok : Nat → Prop} {v : Value} {xs : List α} (h : Kd.V d e W 0 (fun k => ok k ∧ some k ≠ some g8 ∧ some k ≠ some g9) v xs) : Kd.V d e (((((((W.setCell ⟨g8, 0, none⟩ u0).setCell ⟨g8, 1, none⟩ u1).setCell ⟨g9, 0, none⟩ y0).setCell ⟨g9, 1, none⟩ y1).setCell ⟨g9, 2, none⟩ y2).setCell ⟨g9, 3, none⟩ y3).setCell ⟨g9, 4, none⟩ y4) 0 (fun k => ok k ∧ k ≠ g8 ∧ k ≠ g9) v xs := by
  have h2 : Kd.V d e W 0 (fun k => ok k ∧ k ≠ g8 ∧ k ≠ g9) v xs := Kd.V_mono h (fun k hk => ⟨hk.1, fun e => hk.2.1 (by rw [e]), fun e => hk.2.2 (by rw [e])⟩)
  exact v5 (Kd.V_far (Kd.V_far h2 (fun k hk => hk.2.1) u0) (fun k hk => hk.2.1) u1) (fun k hk => hk.2.2)
/-- Behind the stores: the boxes, and what the call handed back. -/
theorem ev_end (F : Fr d0 d1 d6 e0 e1 e6 wd ok #[.slice none 0 0, .slice none 0 0] #[.int .i64 0, .int .i64 0, .int .i64 0, .int .i64 0, .slice none 0 0] T8 T9 x0 x1 x6 (some (v0, v1, v6)) (some g8) (some g9) wj) (hB : Bxs w wd L) (hn : ∀ x ∈ L, x.1 < wd.heap.size) :
    Bxs w (((((((wj.setCell ⟨g8, 0, none⟩ u0).setCell ⟨g8, 1, none⟩ u1).setCell ⟨g9, 0, none⟩ y0).setCell ⟨g9, 1, none⟩ y1).setCell ⟨g9, 2, none⟩ y2).setCell ⟨g9, 3, none⟩ y3).setCell ⟨g9, 4, none⟩ y4) ((g9, #[y0, y1, y2, y3, y4], T9) :: (g8, #[u0, u1], T8) :: L) ∧
    Kd.V d0 e0 (((((((wj.setCell ⟨g8, 0, none⟩ u0).setCell ⟨g8, 1, none⟩ u1).setCell ⟨g9, 0, none⟩ y0).setCell ⟨g9, 1, none⟩ y1).setCell ⟨g9, 2, none⟩ y2).setCell ⟨g9, 3, none⟩ y3).setCell ⟨g9, 4, none⟩ y4) 0 (fun k => ok k ∧ k ≠ g8 ∧ k ≠ g9) v0 x0 ∧
    Kd.V d1 e1 (((((((wj.setCell ⟨g8, 0, none⟩ u0).setCell ⟨g8, 1, none⟩ u1).setCell ⟨g9, 0, none⟩ y0).setCell ⟨g9, 1, none⟩ y1).setCell ⟨g9, 2, none⟩ y2).setCell ⟨g9, 3, none⟩ y3).setCell ⟨g9, 4, none⟩ y4) 0 (fun k => ok k ∧ k ≠ g8 ∧ k ≠ g9) v1 x1 ∧
    Kd.V d6 e6 (((((((wj.setCell ⟨g8, 0, none⟩ u0).setCell ⟨g8, 1, none⟩ u1).setCell ⟨g9, 0, none⟩ y0).setCell ⟨g9, 1, none⟩ y1).setCell ⟨g9, 2, none⟩ y2).setCell ⟨g9, 3, none⟩ y3).setCell ⟨g9, 4, none⟩ y4) 0 (fun k => ok k ∧ k ≠ g8 ∧ k ≠ g9) v6 x6 ∧
    Below wd.heap.size wd (((((((wj.setCell ⟨g8, 0, none⟩ u0).setCell ⟨g8, 1, none⟩ u1).setCell ⟨g9, 0, none⟩ y0).setCell ⟨g9, 1, none⟩ y1).setCell ⟨g9, 2, none⟩ y2).setCell ⟨g9, 3, none⟩ y3).setCell ⟨g9, 4, none⟩ y4) ∧ wd.heap.size ≤ g8 ∧ wd.heap.size ≤ g9 := by
  obtain ⟨h8, k8⟩ := F.h8 _ rfl
  obtain ⟨h9, k9⟩ := F.h9 _ rfl
  have hne := F.ne _ _ rfl rfl
  obtain ⟨V0, V1, V6⟩ := F.hc _ rfl
  have M : Bxs w wj ((g9, #[.int .i64 0, .int .i64 0, .int .i64 0, .int .i64 0, .slice none 0 0], T9) :: (g8, #[.slice none 0 0, .slice none 0 0], T8) :: L) := by
    have hB2 := hB.below F.b
    refine ⟨fun x hx => ?_, ?_, fun x hx => ?_, below_then hB.b hB.b.size F.b⟩
    · rcases List.mem_cons.1 hx with rfl | hx
      · exact h9
      · rcases List.mem_cons.1 hx with rfl | hx
        · exact h8
        · exact hB2.at_ x hx
    · rw [List.map_cons, List.map_cons, List.nodup_cons, List.nodup_cons]
      refine ⟨fun hm => ?_, fun hm => ?_, hB.ne⟩
      · rcases List.mem_cons.1 hm with e | hm
        · exact hne e.symm
        · obtain ⟨x, hx, e⟩ := List.mem_map.1 hm
          have := hn x hx
          simp only at e
          omega
      · obtain ⟨x, hx, e⟩ := List.mem_map.1 hm
        have := hn x hx
        simp only at e
        omega
    · have hw := hB.b.size
      rcases List.mem_cons.1 hx with rfl | hx
      · exact Nat.le_trans hw k9
      · rcases List.mem_cons.1 hx with rfl | hx
        · exact Nat.le_trans hw k8
        · exact hB.ge x hx
  exact ⟨((((((M.set 1 0 u0 rfl rfl).set 1 1 u1 rfl rfl).set 0 0 y0 rfl rfl).set 0 1 y1 rfl rfl).set 0 2 y2 rfl rfl).set 0 3 y3 rfl rfl).set 0 4 y4 rfl rfl, v7 V0, v7 V1, v7 V6, ModR.b5 ((F.b.setCell (p := ⟨g8, 0, none⟩) k8 u0).setCell (p := ⟨g8, 1, none⟩) k8 u1) k9, k8, k9⟩
end
theorem q4 {α : Type} {d : Kd α} {e b5 b6 : Nat} {w W : World} {v : Value} {xs : List α} {u0 u1 y0 y1 : Value} (h : Kd.V d e W 0 (okb w b5 b6) v xs) : Kd.V d e ((((W.setCell ⟨b5, 0, none⟩ u0).setCell ⟨b5, 1, none⟩ u1).setCell ⟨b6, 0, none⟩ y0).setCell ⟨b6, 1, none⟩ y1) 0 (okb w b5 b6) v xs :=
  Kd.V_far (Kd.V_far (Kd.V_far (Kd.V_far h (fun k hk => hk.2.1) u0) (fun k hk => hk.2.1) u1) (fun k hk => hk.2.2) y0) (fun k hk => hk.2.2) y1
theorem rsame_ans (a b c d : Int) (l : List S49) (hl : l.length ≤ 1000000) : deadwoodref09_Same.f 1000001 a b c d l a b c d l = some true := by
  unfold deadwoodref09_Same.f
  rw [if_pos rfl, if_pos rfl, if_pos rfl, if_pos rfl, same_self l hl, Option.bind_some]
theorem same_ew {n : Nat} {W : World} {l : List S49} {ts : List S62} {xs : List S61} {B0 B1 : Option Addr} {d0 d1 : Nat} {okx : Nat → Prop} (hx : ts.map toX = xs) (hw : WfS n l ts) (hn : n ≤ 1000) (g0 : Kd.V k49 49 W 0 okx (.slice B0 l.length d0) l) (g1 : Kd.V k61 61 W 0 okx (.slice B1 xs.length d1) xs)
    (E0 : Option Addr) (f0 : Nat) (E1 : Option Addr) (f1 : Nat) {base : Nat} {ok : Nat → Prop} (h0 : Kd.V k49 49 W base ok (.slice E0 l.length f0) l) (h1 : Kd.V k61 61 W base ok (.slice E1 (ts.map toX).length f1) (ts.map toX)) :
    Calls Try.prog 13 #[.agg #[.slice E0 l.length f0, .slice E1 (ts.map toX).length f1], .agg #[.slice B0 l.length d0, .slice B1 xs.length d1]] W fun e w' => e = .returned (.bool true) ∧ Below W.heap.size W w' := by
  subst hx
  refine same_calls 1000001 1000000 E0 f0 l E1 f1 (ts.map toX) B0 d0 B1 d1 W (Kd.V_reads' h0).2.2 (Kd.V_reads' h0).2.1 (Kd.V_reads' h1).2.2 (Kd.V_reads' h1).2.1 (Kd.V_reads' g0).2.2 (Kd.V_reads' g0).2.1 (Kd.V_reads' g1).2.2 (Kd.V_reads' g1).2.1 same_self (by have := hw.len; omega) (fun y hy => ?_) (by rw [List.length_map]; have := hw.tl; omega)
  obtain ⟨s, hs, rfl⟩ := List.mem_map.1 hy
  have := (hw.ss s hs).len
  show s.f2.length ≤ 1000000
  omega
theorem cw_do {k : Nat} {okx : Nat → Prop} {A0 A1 : Option Addr} {c0 c1 : Nat} {l r1 r7 : List S49} {ts r2 : List S62} {t q0 q1 q2 q3 q4 r3 r4 r5 r6 : Int} {W : World} (h0 : Kd.V k49 49 W W.heap.size okx (.slice A0 l.length c0) l) (h1 : Kd.V k62 62 W W.heap.size okx (.slice A1 ts.length c1) ts) (h : model_State_Do.f k l ts t q0 q1 q2 q3 q4 = some (r1, r2, r3, r4, r5, r6, r7)) :
    Calls Try.prog 10 #[.agg #[.slice A0 l.length c0, .slice A1 ts.length c1], .int .i64 t, .agg #[.int .i64 q0, .int .i64 q1, .int .i64 q2, .int .i64 q3, .int .i64 q4]] W fun e w' => ∃ v0_ v1_ v6_ : Value, e = .returned (.tuple #[.agg #[v0_, v1_], .agg #[.int .i64 r3, .int .i64 r4, .int .i64 r5, .int .i64 r6, v6_]]) ∧ Kd.V k49 49 w' 0 (fun k_ => okx k_ ∨ W.heap.size ≤ k_) v0_ r1 ∧ Kd.V k62 62 w' 0 (fun k_ => okx k_ ∨ W.heap.size ≤ k_) v1_ r2 ∧ Kd.V k49 49 w' 0 (fun k_ => okx k_ ∨ W.heap.size ≤ k_) v6_ r7 ∧ Below W.heap.size W w' :=
  (mdo_calls k okx A0 c0 l okx A1 c1 ts t q0 q1 q2 q3 q4 r1 r2 r3 r4 r5 r6 r7 W h0 h1 h).mono fun e w' ⟨v0, v1, v6, he, g0, g1, g6, hb⟩ => ⟨v0, v1, v6, he, rb (Kd.V_mono g0 (fun k hk => by rcases hk with (h | h) | h; exact .inl h; exact .inl h; exact .inr h)), rb (Kd.V_mono g1 (fun k hk => by rcases hk with (h | h) | h; exact .inl h; exact .inl h; exact .inr h)), rb (Kd.V_mono g6 (fun k hk => .inr hk)), hb⟩
theorem cx_do {k : Nat} {okx : Nat → Prop} {A0 A1 : Option Addr} {c0 c1 : Nat} {l r1 r7 : List S49} {ts r2 : List S61} {t q0 q1 q2 q3 q4 r3 r4 r5 r6 : Int} {W : World} (h0 : Kd.V k49 49 W W.heap.size okx (.slice A0 l.length c0) l) (h1 : Kd.V k61 61 W W.heap.size okx (.slice A1 ts.length c1) ts) (h : rdo k l ts t q0 q1 q2 q3 q4 = some (r1, r2, r3, r4, r5, r6, r7)) :
    Calls Try.prog 11 #[.agg #[.slice A0 l.length c0, .slice A1 ts.length c1], .int .i64 t, .agg #[.int .i64 q0, .int .i64 q1, .int .i64 q2, .int .i64 q3, .int .i64 q4]] W fun e w' => ∃ v0_ v1_ v6_ : Value, e = .returned (.tuple #[.agg #[v0_, v1_], .agg #[.int .i64 r3, .int .i64 r4, .int .i64 r5, .int .i64 r6, v6_]]) ∧ Kd.V k49 49 w' 0 (fun k_ => okx k_ ∨ W.heap.size ≤ k_) v0_ r1 ∧ Kd.V k61 61 w' 0 (fun k_ => okx k_ ∨ W.heap.size ≤ k_) v1_ r2 ∧ Kd.V k49 49 w' 0 (fun k_ => okx k_ ∨ W.heap.size ≤ k_) v6_ r7 ∧ Below W.heap.size W w' :=
  (rdo_calls k okx A0 c0 l okx A1 c1 ts t q0 q1 q2 q3 q4 r1 r2 r3 r4 r5 r6 r7 W h0 h1 h).mono fun e w' ⟨v0, v1, v6, he, g0, g1, g6, hb⟩ => ⟨v0, v1, v6, he, rb (Kd.V_mono g0 (fun k hk => by rcases hk with (h | h) | h; exact .inl h; exact .inl h; exact .inr h)), rb (Kd.V_mono g1 (fun k hk => by rcases hk with (h | h) | h; exact .inl h; exact .inl h; exact .inr h)), rb (Kd.V_mono g6 (fun k hk => .inr hk)), hb⟩
set_option maxHeartbeats 8000000 in
set_option maxRecDepth 100000 in
theorem does_walk (a0 : Int) (l1 : List S40) (Ai : Option Addr) (ci : Nat) (w : World) (hr1 : Kd.C k40 w Ai l1.length l1) (hc1 : l1.length ≤ ci) :
    Calls Try.prog 3 #[.int .i64 a0, .slice Ai l1.length ci] w fun e w' => e = .returned (.bool true) ∧ Below w.heap.size w w' := by
  have hu27 := Try.underlying27
  have hu31 := Try.underlying31
  have hu38 := Try.underlying38
  have hu34 := Try.underlying34
  have hu40 := Try.underlying40
  have mixed : Try.prog.follows Departure.mixedOrders = true := by kernel_rfl
  have HR := Aside0.mk hr1
  clear hr1
  by_cases hlen : (l1.length : Int) > 100
  · have dl : decide ((l1.length : Int) > 100) = true := decide_eq_true hlen
    have dl2 : decide (100 < l1.length) = true := decide_eq_true (by omega)
    clear hlen
    go_enter Try.func3, Try.ntmps3
    go_wp2_with fail
    refine (lives_true _).mono ?_
    rintro e w1 ⟨rfl, hb⟩
    go_wp2
    go_ret
    exact ⟨rfl, hb⟩
  · have dl : decide ((l1.length : Int) > 100) = false := decide_eq_false hlen
    have dl2 : decide (100 < l1.length) = false := decide_eq_false (by omega)
    have hlen2 : l1.length ≤ 100 := by omega
    obtain ⟨N, hN⟩ : ∃ N, sizeN a0 = N := ⟨_, rfl⟩
    have hn3 : N ≤ 6 ∧ ((a0 < 0 ∧ N = 0) ∨ (0 ≤ a0 ∧ a0 ≤ 6 ∧ a0 = N) ∨ (6 < a0 ∧ N = 6)) := by unfold sizeN at hN; omega
    have WF := Aside0.mk (start_wf a0)
    have NW := Aside0.mk (fun W => new_calls a0 W)
    rw [hN] at WF NW
    have RW := Aside0.mk (fun W => rnew_any a0 N W hn3.1 hn3.2)
    have EX := Aside0.mk (show List.replicate N z61 = (List.replicate N z62).map toX by rw [List.map_replicate]; rfl)
    generalize List.replicate N z62 = ts at NW WF EX
    generalize List.replicate N z61 = xs at RW EX
    generalize ([] : List S49) = l at NW RW WF
    clear hlen hn3 hN
    go_enter Try.func3, Try.ntmps3
    go_wp2_with fail
    refine (NW.out _).mono ?_
    rintro e w1 ⟨v0, v1, rfl, V0, V1, hb1⟩
    obtain ⟨A0, c0, rfl⟩ := Kd.V_slice V0
    obtain ⟨A1, c1, rfl⟩ := Kd.V_slice V1
    have N0 := Aside0.mk V0
    have N1 := Aside0.mk V1
    have HB1 := Aside0.mk hb1
    clear V0 V1 hb1
    go_wp2_with fail
    refine (RW.out _).mono ?_
    rintro e w2 ⟨v0, v1, rfl, V0, V1, hb2⟩
    obtain ⟨B0, d0, rfl⟩ := Kd.V_slice V0
    obtain ⟨B1, d1, rfl⟩ := Kd.V_slice V1
    have N2 := Aside0.mk V0
    have N3 := Aside0.mk V1
    have HB2 := Aside0.mk hb2
    clear V0 V1 hb2
    go_upto_region 4 with (fail)
    refine gen2 (Φ := fun X => LS w X w2.heap.size (w2.heap.size + 1) A0 c0 A1 c1 B0 d0 B1 d1 l ts xs) ?_ ?_
    · have hs1 := HB1.out.size
      have hs2 := HB2.out.size
      refine ⟨((((Bxs.nil w).below HB1.out).below HB2.out).box _ 27 rfl).box _ 31 (n := w2.heap.size + 1) (by simp), ?_, ?_, ?_, ?_, EX.out⟩
      · exact Kd.V_mono (rb (Kd.V_alloc (Kd.V_alloc (Kd.V_bound (Kd.V_below N0.out HB2.out)) _) _)) (fun k hk => ⟨hk.1, by have := hk.2; omega, by have := hk.2; omega⟩)
      · exact Kd.V_mono (rb (Kd.V_alloc (Kd.V_alloc (Kd.V_bound (Kd.V_below N1.out HB2.out)) _) _)) (fun k hk => ⟨hk.1, by have := hk.2; omega, by have := hk.2; omega⟩)
      · exact Kd.V_mono (rb (Kd.V_alloc (Kd.V_alloc (Kd.V_bound N2.out) _) _)) (fun k hk => ⟨Nat.le_trans hs1 hk.1, by have := hk.2; omega, by have := hk.2; omega⟩)
      · exact Kd.V_mono (rb (Kd.V_alloc (Kd.V_alloc (Kd.V_bound N3.out) _) _)) (fun k hk => ⟨Nat.le_trans hs1 hk.1, by have := hk.2; omega, by have := hk.2; omega⟩)
    intro X0 HX
    have LX := Aside0.mk HX
    clear HX N0 N1 N2 N3 EX HB1 HB2 NW RW
    generalize w2.heap.size = b5 at LX ⊢
    obtain ⟨b6, hb6⟩ : ∃ b6, b5 + 1 = b6 := ⟨_, rfl⟩
    rw [hb6] at LX ⊢
    clear hb6
    go_wp2
    go_loopg [7] l1.length (fun kx s7 wr => ∃ (j : Nat) (A0 : Option Addr) (c0 : Nat) (A1 : Option Addr) (c1 : Nat) (B0 : Option Addr) (d0 : Nat) (B1 : Option Addr) (d1 : Nat) (l : List S49) (ts : List S62) (xs : List S61), s7 = .int .i64 j ∧ j + kx = l1.length ∧ Aside0 (LS w wr b5 b6 A0 c0 A1 c1 B0 d0 B1 d1 l ts xs) ∧ Aside0 (WfS j l ts))
    case atStart => exact ⟨0, A0, c0, A1, c1, B0, d0, B1, d1, l, ts, xs, rfl, by omega, LX, WF⟩
    case round =>
      clear LX WF
      obtain ⟨j, A0, c0, A1, c1, B0, d0, B1, d1, l, ts, xs, rfl, hj, LX, WF⟩ := hrel
      by_cases hlt : j < l1.length
      · have q1 : (j : Int) < (l1.length : Int) := by omega
        have LB := LX.out.bx
        obtain ⟨ad, rfl, p0, p1, p2, p3, p4, p5⟩ := at_sp HR.out j hlt rfl
        generalize l1[j] = y at p0 p1 p2 p3 p4 p5
        obtain ⟨l', ts', r3, r4, r5, r6, r7, hd, hrd, hwf, hr7⟩ := do_alike WF.out (by omega) y.f0 y.f1.f0 y.f1.f1 y.f1.f2 y.f1.f3 y.f1.f4
        rw [← LX.out.e] at hrd
        obtain ⟨xs', hx'⟩ : ∃ xs', ts'.map toX = xs' := ⟨_, rfl⟩
        rw [hx'] at hrd
        have EX := Aside0.mk hx'
        have DD := Aside0.mk hd
        have DR := Aside0.mk hrd
        have WF2 := Aside0.mk hwf
        have R7 := Aside0.mk hr7
        have s0 : wr.drew.cell? ⟨b5, 0, none⟩ = some (.slice A0 l.length c0) := (LB.cell 1 0 rfl).trans rfl
        have s1 : wr.drew.cell? ⟨b5, 1, none⟩ = some (.slice A1 ts.length c1) := (LB.cell 1 1 rfl).trans rfl
        have B12 := Aside0.mk (show b5 < wr.heap.size ∧ b6 < wr.heap.size from ⟨LB.lt 1 rfl, LB.lt 0 rfl⟩)
        have PP := Aside0.mk (And.intro p0 (And.intro p1 (And.intro p2 (And.intro p3 (And.intro p4 p5)))))
        clear hd hrd hwf hr7 LB p0 p1 p2 p3 p4 p5 hx' WF
        have LD := Aside0.mk (LX.out.below (below_drew1 (Below.refl _ _)))
        have p0 : wr.drew.cell? _ = some _ := cell_below LD.out.bx.b PP.out.1
        have p1 : wr.drew.cell? _ = some _ := cell_below LD.out.bx.b PP.out.2.1
        have p2 : wr.drew.cell? _ = some _ := cell_below LD.out.bx.b PP.out.2.2.1
        have p3 : wr.drew.cell? _ = some _ := cell_below LD.out.bx.b PP.out.2.2.2.1
        have p4 : wr.drew.cell? _ = some _ := cell_below LD.out.bx.b PP.out.2.2.2.2.1
        have p5 : wr.drew.cell? _ = some _ := cell_below LD.out.bx.b PP.out.2.2.2.2.2
        obtain ⟨N, hN⟩ : ∃ N, N = wr.heap.size := ⟨_, rfl⟩
        have SN := Aside0.mk (show N = wr.drew.heap.size from hN)
        have HN := Aside0.mk (show ∀ k, okc w b5 b6 N k → k < wr.drew.heap.size from fun k hk => by have := hk.2; have := SN.out; omega)
        have CW := Aside0.mk (fun W (hb : Below wr.drew.heap.size wr.drew W) => cw_do (okx := okc w b5 b6 N) (rb (Kd.V_below (Kd.V_mono (Kd.V_bound LD.out.v0) (ok' := okc w b5 b6 N) (fun k hk => ⟨hk.1, by have := hk.2; have := SN.out; omega⟩)) hb)) (rb (Kd.V_below (Kd.V_mono (Kd.V_bound LD.out.v1) (ok' := okc w b5 b6 N) (fun k hk => ⟨hk.1, by have := hk.2; have := SN.out; omega⟩)) hb)) DD.out)
        clear hN
        go_upto_region 7 with (fail)
        go_cut [8, 9] (fun s8 s9 wc => Aside0 (∃ g8 g9 A8 c8 A9 c9 A6 c6, s8 = .pointer (some ⟨g8, 0, none⟩) ∧ s9 = .pointer (some ⟨g9, 0, none⟩) ∧ Bxs w wc ((g9, #[.int .i64 r3, .int .i64 r4, .int .i64 r5, .int .i64 r6, .slice A6 r7.length c6], 34) :: (g8, #[.slice A8 l'.length c8, .slice A9 ts'.length c9], 27) :: ([(b6, #[.slice B0 l.length d0, .slice B1 xs.length d1], 31), (b5, #[.slice A0 l.length c0, .slice A1 ts.length c1], 27)] : List Box)) ∧ Kd.V k49 49 wc 0 (okb w b5 b6) (.slice A8 l'.length c8) l' ∧ Kd.V k62 62 wc 0 (okb w b5 b6) (.slice A9 ts'.length c9) ts' ∧ Kd.V k49 49 wc 0 (okb w b5 b6) (.slice A6 r7.length c6) r7 ∧ LS w wc b5 b6 A0 c0 A1 c1 B0 d0 B1 d1 l ts xs ∧ N ≤ g8 ∧ N ≤ g9))
        case first =>
          refine start_ (n := 19) (S := fun W' => W'.cell? ⟨b5, 0, none⟩ = some (.slice A0 l.length c0) ∧ W'.cell? ⟨b5, 1, none⟩ = some (.slice A1 ts.length c1) ∧ W'.cell? (ad.add (j * 11)) = some (.int .i64 y.f0) ∧ W'.cell? ⟨(ad.add (j * 11)).block, (ad.add (j * 11)).off + 1, none⟩ = some (.int .i64 y.f1.f0) ∧ W'.cell? ⟨(ad.add (j * 11)).block, (ad.add (j * 11)).off + 2, none⟩ = some (.int .i64 y.f1.f1) ∧ W'.cell? ⟨(ad.add (j * 11)).block, (ad.add (j * 11)).off + 3, none⟩ = some (.int .i64 y.f1.f2) ∧ W'.cell? ⟨(ad.add (j * 11)).block, (ad.add (j * 11)).off + 4, none⟩ = some (.int .i64 y.f1.f3) ∧ W'.cell? ⟨(ad.add (j * 11)).block, (ad.add (j * 11)).off + 5, none⟩ = some (.int .i64 y.f1.f4)) (ds := [17, 18]) #[false, false, false, false, false, false, false, false, false, false, false, false, false, false, false, false, false, false, false] (by kernel_rfl) rfl rfl ⟨s0, s1, p0, p1, p2, p3, p4, p5⟩ (fun hHeld => ?_); refine with_tabW md7_tab md7_bits (fun HT_ HW_ => ?_)
          generalize wr.drew = wd_ at s0 s1 p0 p1 p2 p3 p4 p5 HN CW LD SN hHeld ⊢
          refine pure_ (i := 1) (N := some 28) (v := ?_) (a' := ?_) #[false, true, false, false, false, false, false, false, false, false, false, false, false, false, false, false, false, false, false] rfl rfl (any_of HT_.out (by kernel_rfl)) (fun _ _ _ h => h) (Or.inl ⟨by rfl, ?_⟩) ?_ ?_
          rotate_left
          · intro w'
            go_simp
            with_reducible rfl
          rotate_left
          · simp only [Act.put, List.setIfInBounds_toArray, List.set_cons_zero, List.set_cons_succ, i64_w, i32_w]
            rfl
          refine pure_ (i := 2) (N := some 29) (v := ?_) (a' := ?_) #[false, true, true, false, false, false, false, false, false, false, false, false, false, false, false, false, false, false, false] rfl rfl (any_of HT_.out (by kernel_rfl)) (fun _ _ _ h => h) (Or.inl ⟨by rfl, ?_⟩) ?_ ?_
          rotate_left
          · intro w'
            go_simp
            with_reducible rfl
          rotate_left
          · simp only [Act.put, List.setIfInBounds_toArray, List.set_cons_zero, List.set_cons_succ, i64_w, i32_w]
            rfl
          refine pure_ (i := 3) (N := some 30) (v := ?_) (a' := ?_) #[false, true, true, true, false, false, false, false, false, false, false, false, false, false, false, false, false, false, false] rfl rfl (any_of HT_.out (by kernel_rfl)) (fun _ _ _ h => h) (Or.inl ⟨by rfl, ?_⟩) ?_ ?_
          rotate_left
          · intro w'
            go_simp
            with_reducible rfl
          rotate_left
          · simp only [Act.put, List.setIfInBounds_toArray, List.set_cons_zero, List.set_cons_succ, i64_w, i32_w]
            rfl
          refine pure_ (i := 4) (N := some 31) (v := ?_) (a' := ?_) #[false, true, true, true, true, false, false, false, false, false, false, false, false, false, false, false, false, false, false] rfl rfl (any_of HT_.out (by kernel_rfl)) (fun _ _ _ h => h) (Or.inl ⟨by rfl, ?_⟩) ?_ ?_
          rotate_left
          · intro w'
            go_simp
            with_reducible rfl
          rotate_left
          · simp only [Act.put, List.setIfInBounds_toArray, List.set_cons_zero, List.set_cons_succ, i64_w, i32_w]
            rfl
          refine pure_ (i := 6) (N := some 33) (v := ?_) (a' := ?_) #[false, true, true, true, true, false, true, false, false, false, false, false, false, false, false, false, false, false, false] rfl rfl (any_of HT_.out (by kernel_rfl)) (fun _ _ _ h => h) (Or.inl ⟨by rfl, ?_⟩) ?_ ?_
          rotate_left
          · intro w'
            go_simp
            with_reducible rfl
          rotate_left
          · simp only [Act.put, List.setIfInBounds_toArray, List.set_cons_zero, List.set_cons_succ, i64_w, i32_w]
            rfl
          refine pure_ (i := 7) (N := some 34) (v := ?_) (a' := ?_) #[false, true, true, true, true, false, true, true, false, false, false, false, false, false, false, false, false, false, false] rfl rfl (any_of HT_.out (by kernel_rfl)) (fun _ _ _ h => h) (Or.inl ⟨by rfl, ?_⟩) ?_ ?_
          rotate_left
          · intro w'
            go_simp
            with_reducible rfl
          rotate_left
          · simp only [Act.put, List.setIfInBounds_toArray, List.set_cons_zero, List.set_cons_succ, i64_w, i32_w]
            rfl
          refine pure_ (i := 8) (N := some 35) (v := ?_) (a' := ?_) #[false, true, true, true, true, false, true, true, true, false, false, false, false, false, false, false, false, false, false] rfl rfl (any_of HT_.out (by kernel_rfl)) (fun _ _ _ h => h) (Or.inl ⟨by rfl, ?_⟩) ?_ ?_
          rotate_left
          · intro w'
            go_simp
            with_reducible rfl
          rotate_left
          · simp only [Act.put, List.setIfInBounds_toArray, List.set_cons_zero, List.set_cons_succ, i64_w, i32_w]
            rfl
          refine pure_ (i := 9) (N := some 36) (v := ?_) (a' := ?_) #[false, true, true, true, true, false, true, true, true, true, false, false, false, false, false, false, false, false, false] rfl rfl (any_of HT_.out (by kernel_rfl)) (fun _ _ _ h => h) (Or.inl ⟨by rfl, ?_⟩) ?_ ?_
          rotate_left
          · intro w'
            go_simp
            with_reducible rfl
          rotate_left
          · simp only [Act.put, List.setIfInBounds_toArray, List.set_cons_zero, List.set_cons_succ, i64_w, i32_w]
            rfl
          refine take_ (i := 0) (N := some 27) (v := ?_) (a' := ?_) #[true, true, true, true, true, false, true, true, true, true, false, false, false, false, false, false, false, false, false] rfl rfl (take_ofW HT_.out HW_.out (by kernel_rfl)) (fun _ _ _ h => h) (Or.inl ⟨by rfl, ?_⟩) hHeld ?_ ?_
          rotate_left
          · rintro w' ⟨s0, s1, s2, s3, s4, s5, s6, s7⟩
            go_simp
            with_reducible rfl
          rotate_left
          · simp only [Act.put, List.setIfInBounds_toArray, List.set_cons_zero, List.set_cons_succ, i64_w, i32_w]
            rfl
          refine take_ (i := 5) (N := some 32) (v := ?_) (a' := ?_) #[true, true, true, true, true, true, true, true, true, true, false, false, false, false, false, false, false, false, false] rfl rfl (take_ofW HT_.out HW_.out (by kernel_rfl)) (fun _ _ _ h => h) (Or.inl ⟨by rfl, ?_⟩) hHeld ?_ ?_
          rotate_left
          · rintro w' ⟨s0, s1, s2, s3, s4, s5, s6, s7⟩
            go_simp
            with_reducible rfl
          rotate_left
          · simp only [Act.put, List.setIfInBounds_toArray, List.set_cons_zero, List.set_cons_succ, i64_w, i32_w]
            rfl
          refine take_ (i := 10) (N := some 37) (v := ?_) (a' := ?_) #[true, true, true, true, true, true, true, true, true, true, true, false, false, false, false, false, false, false, false] rfl rfl (take_ofW HT_.out HW_.out (by kernel_rfl)) (fun _ _ _ h => h) (Or.inl ⟨by rfl, ?_⟩) hHeld ?_ ?_
          rotate_left
          · rintro w' ⟨s0, s1, s2, s3, s4, s5, s6, s7⟩
            go_simp
            with_reducible rfl
          rotate_left
          · simp only [Act.put, List.setIfInBounds_toArray, List.set_cons_zero, List.set_cons_succ, i64_w, i32_w]
            rfl
          have FR0 := Aside0.mk (show Fr k49 k62 k49 49 62 49 wd_ (fun k => okc w b5 b6 N k ∨ wd_.heap.size ≤ k) #[.slice none 0 0, .slice none 0 0] #[.int .i64 0, .int .i64 0, .int .i64 0, .int .i64 0, .slice none 0 0] 27 34 l' ts' r7 none none none wd_ from Fr.start)
          refine join_ (σ := Value × Value × Value × Nat × Nat) 2 #[true, true, true, true, true, true, true, true, true, true, true, true, true, true, true, true, true, false, false] (fun s_ => [(38, .tuple #[.agg #[s_.1, s_.2.1], .agg #[.int .i64 r3, .int .i64 r4, .int .i64 r5, .int .i64 r6, s_.2.2.1]]), (26, .tuple #[.agg #[s_.1, s_.2.1], .agg #[.int .i64 r3, .int .i64 r4, .int .i64 r5, .int .i64 r6, s_.2.2.1]]), (39, .agg #[s_.1, s_.2.1]), (40, .agg #[.int .i64 r3, .int .i64 r4, .int .i64 r5, .int .i64 r6, s_.2.2.1]), (8, .pointer (some ⟨s_.2.2.2.1, 0, none⟩)), (9, .pointer (some ⟨s_.2.2.2.2, 0, none⟩))]) (fun s_ w' => (w'.cell? ⟨b5, 0, none⟩ = some (.slice A0 l.length c0) ∧ w'.cell? ⟨b5, 1, none⟩ = some (.slice A1 ts.length c1) ∧ w'.cell? (ad.add (j * 11)) = some (.int .i64 y.f0) ∧ w'.cell? ⟨(ad.add (j * 11)).block, (ad.add (j * 11)).off + 1, none⟩ = some (.int .i64 y.f1.f0) ∧ w'.cell? ⟨(ad.add (j * 11)).block, (ad.add (j * 11)).off + 2, none⟩ = some (.int .i64 y.f1.f1) ∧ w'.cell? ⟨(ad.add (j * 11)).block, (ad.add (j * 11)).off + 3, none⟩ = some (.int .i64 y.f1.f2) ∧ w'.cell? ⟨(ad.add (j * 11)).block, (ad.add (j * 11)).off + 4, none⟩ = some (.int .i64 y.f1.f3) ∧ w'.cell? ⟨(ad.add (j * 11)).block, (ad.add (j * 11)).off + 5, none⟩ = some (.int .i64 y.f1.f4)) ∧ Aside0 (Fr k49 k62 k49 49 62 49 wd_ (fun k => okc w b5 b6 N k ∨ wd_.heap.size ≤ k) #[.slice none 0 0, .slice none 0 0] #[.int .i64 0, .int .i64 0, .int .i64 0, .int .i64 0, .slice none 0 0] 27 34 l' ts' r7 (some (s_.1, s_.2.1, s_.2.2.1)) (some s_.2.2.2.1) (some s_.2.2.2.2) w')) ?_ ?_
          rotate_left
          · intro hCont
            refine three_ (i := 11) (j := 15) (k := 16) (Ni := some 38) (Nj := some 8) (Nk := some 9) #[true, true, true, true, true, true, true, true, true, true, true, true, false, false, false, false, false, false, false] #[true, true, true, true, true, true, true, true, true, true, true, false, false, false, false, true, false, false, false] #[true, true, true, true, true, true, true, true, true, true, true, false, false, false, false, false, true, false, false] rfl rfl rfl rfl rfl rfl (three_of HT_.out (by kernel_rfl)) (by decide) (by decide) (by decide) (fun K hK => ?_) (fun K hK => ?_) (fun K hK => ?_)
            · skip
              refine goes_ Try.func10 (by kernel_rfl) rfl #[.agg #[.slice A0 l.length c0, .slice A1 ts.length c1], .int .i64 y.f0, .agg #[.int .i64 y.f1.f0, .int .i64 y.f1.f1, .int .i64 y.f1.f2, .int .i64 y.f1.f3, .int .i64 y.f1.f4]] (by rfl) rfl rfl (by (try simp only [List.map_toArray, List.map_cons, List.map_nil]); first | done | rfl) ?_
              refine (CW.out _ FR0.out.b).mono ?_
              rintro e_ wq ⟨v0, v1, v6, rfl, hv0, hv1, hv6, hb⟩
              have FR1 := Aside0.mk (Fr.call FR0.out hb HN.out hv0 hv1 hv6)
              refine ⟨_, rfl, ?_⟩
              have hS_ := hHeld
              obtain ⟨s0, s1, s2, s3, s4, s5, s6, s7⟩ := hS_
              refine hK.out _ _ ⟨pw_cell_below hb s0, pw_cell_below hb s1, pw_cell_below hb s2, pw_cell_below hb s3, pw_cell_below hb s4, pw_cell_below hb s5, pw_cell_below hb s6, pw_cell_below hb s7⟩ (fun hHeld => ?_)
              clear hK K s0 s1 s2 s3 s4 s5 s6 s7
              refine norm_ (a' := ?_) ?_ ?_
              rotate_left
              · show Act.put _ (some 38) _ = _
                simp only [Act.put, List.setIfInBounds_toArray, List.set_cons_zero, List.set_cons_succ, i64_w, i32_w]
                rfl
              refine pure_ (i := 12) (N := some 26) (v := ?_) (a' := ?_) #[true, true, true, true, true, true, true, true, true, true, true, true, true, false, false, false, false, false, false] rfl rfl (any_of HT_.out (by kernel_rfl)) (fun _ _ _ h => h) (Or.inl ⟨by rfl, ?_⟩) ?_ ?_
              rotate_left
              · intro w'
                go_simp
                with_reducible rfl
              rotate_left
              · simp only [Act.put, List.setIfInBounds_toArray, List.set_cons_zero, List.set_cons_succ, i64_w, i32_w]
                rfl
              refine pure_ (i := 13) (N := some 39) (v := ?_) (a' := ?_) #[true, true, true, true, true, true, true, true, true, true, true, true, true, true, false, false, false, false, false] rfl rfl (any_of HT_.out (by kernel_rfl)) (fun _ _ _ h => h) (Or.inl ⟨by rfl, ?_⟩) ?_ ?_
              rotate_left
              · intro w'
                go_simp
                with_reducible rfl
              rotate_left
              · simp only [Act.put, List.setIfInBounds_toArray, List.set_cons_zero, List.set_cons_succ, i64_w, i32_w]
                rfl
              refine pure_ (i := 14) (N := some 40) (v := ?_) (a' := ?_) #[true, true, true, true, true, true, true, true, true, true, true, true, true, true, true, false, false, false, false] rfl rfl (any_of HT_.out (by kernel_rfl)) (fun _ _ _ h => h) (Or.inl ⟨by rfl, ?_⟩) ?_ ?_
              rotate_left
              · intro w'
                go_simp
                with_reducible rfl
              rotate_left
              · simp only [Act.put, List.setIfInBounds_toArray, List.set_cons_zero, List.set_cons_succ, i64_w, i32_w]
                rfl
              refine two_ (i := 15) (j := 16) (Ni := some 8) (Nj := some 9) #[true, true, true, true, true, true, true, true, true, true, true, true, true, true, true, true, false, false, false] #[true, true, true, true, true, true, true, true, true, true, true, true, true, true, true, false, true, false, false] rfl rfl rfl rfl (two_of HT_.out (by kernel_rfl)) (by decide) (by decide) (fun K hK => ?_) (fun K hK => ?_)
              · skip
                refine box_step ?hg (N := 8) ?hd (cs := #[.slice none 0 0, .slice none 0 0]) (t := 27) ?hr ?_; (case hd => rfl); (case hg => rfl); (case hr => first | (go_simp; done) | (go_simp; rfl))
                intro g8 hg wq hbox hb
                have FR2 := Aside0.mk (Fr.box8 FR1.out hg hbox hb)
                have hS_ := hHeld
                obtain ⟨s0, s1, s2, s3, s4, s5, s6, s7⟩ := hS_
                refine hK.out _ _ ⟨pw_cell_below hb s0, pw_cell_below hb s1, pw_cell_below hb s2, pw_cell_below hb s3, pw_cell_below hb s4, pw_cell_below hb s5, pw_cell_below hb s6, pw_cell_below hb s7⟩ (fun hHeld => ?_)
                clear hK K s0 s1 s2 s3 s4 s5 s6 s7
                refine norm_ (a' := ?_) ?_ ?_
                rotate_left
                · show Act.put _ (some 8) _ = _
                  simp only [Act.put, List.setIfInBounds_toArray, List.set_cons_zero, List.set_cons_succ, i64_w, i32_w]
                  rfl
                refine one_ (i := 16) (N := some 9) #[true, true, true, true, true, true, true, true, true, true, true, true, true, true, true, true, true, false, false] rfl rfl (one_of HT_.out (by kernel_rfl)) (by decide) (fun K hK => ?_)
                skip
                refine box_step ?hg (N := 9) ?hd (cs := #[.int .i64 0, .int .i64 0, .int .i64 0, .int .i64 0, .slice none 0 0]) (t := 34) ?hr ?_; (case hd => rfl); (case hg => rfl); (case hr => first | (go_simp; done) | (go_simp; rfl))
                intro g9 hg wq hbox hb
                have FR3 := Aside0.mk (Fr.box9 FR2.out hg hbox hb)
                have hS_ := hHeld
                obtain ⟨s0, s1, s2, s3, s4, s5, s6, s7⟩ := hS_
                refine hK.out _ _ ⟨pw_cell_below hb s0, pw_cell_below hb s1, pw_cell_below hb s2, pw_cell_below hb s3, pw_cell_below hb s4, pw_cell_below hb s5, pw_cell_below hb s6, pw_cell_below hb s7⟩ (fun hHeld => ?_)
                clear hK K s0 s1 s2 s3 s4 s5 s6 s7
                refine norm_ (a' := ?_) ?_ ?_
                rotate_left
                · show Act.put _ (some 9) _ = _
                  simp only [Act.put, List.setIfInBounds_toArray, List.set_cons_zero, List.set_cons_succ, i64_w, i32_w]
                  rfl
                exact norm_ (by simp only [putAll, Act.put, List.setIfInBounds_toArray, List.set_cons_zero, List.set_cons_succ]) (hCont (v0, v1, v6, g8, g9) _ ⟨hHeld, FR3⟩)
              · skip
                refine box_step ?hg (N := 9) ?hd (cs := #[.int .i64 0, .int .i64 0, .int .i64 0, .int .i64 0, .slice none 0 0]) (t := 34) ?hr ?_; (case hd => rfl); (case hg => rfl); (case hr => first | (go_simp; done) | (go_simp; rfl))
                intro g9 hg wq hbox hb
                have FR4 := Aside0.mk (Fr.box9 FR1.out hg hbox hb)
                have hS_ := hHeld
                obtain ⟨s0, s1, s2, s3, s4, s5, s6, s7⟩ := hS_
                refine hK.out _ _ ⟨pw_cell_below hb s0, pw_cell_below hb s1, pw_cell_below hb s2, pw_cell_below hb s3, pw_cell_below hb s4, pw_cell_below hb s5, pw_cell_below hb s6, pw_cell_below hb s7⟩ (fun hHeld => ?_)
                clear hK K s0 s1 s2 s3 s4 s5 s6 s7
                refine norm_ (a' := ?_) ?_ ?_
                rotate_left
                · show Act.put _ (some 9) _ = _
                  simp only [Act.put, List.setIfInBounds_toArray, List.set_cons_zero, List.set_cons_succ, i64_w, i32_w]
                  rfl
                refine one_ (i := 15) (N := some 8) #[true, true, true, true, true, true, true, true, true, true, true, true, true, true, true, true, true, false, false] rfl rfl (one_of HT_.out (by kernel_rfl)) (by decide) (fun K hK => ?_)
                skip
                refine box_step ?hg (N := 8) ?hd (cs := #[.slice none 0 0, .slice none 0 0]) (t := 27) ?hr ?_; (case hd => rfl); (case hg => rfl); (case hr => first | (go_simp; done) | (go_simp; rfl))
                intro g8 hg wq hbox hb
                have FR5 := Aside0.mk (Fr.box8 FR4.out hg hbox hb)
                have hS_ := hHeld
                obtain ⟨s0, s1, s2, s3, s4, s5, s6, s7⟩ := hS_
                refine hK.out _ _ ⟨pw_cell_below hb s0, pw_cell_below hb s1, pw_cell_below hb s2, pw_cell_below hb s3, pw_cell_below hb s4, pw_cell_below hb s5, pw_cell_below hb s6, pw_cell_below hb s7⟩ (fun hHeld => ?_)
                clear hK K s0 s1 s2 s3 s4 s5 s6 s7
                refine norm_ (a' := ?_) ?_ ?_
                rotate_left
                · show Act.put _ (some 8) _ = _
                  simp only [Act.put, List.setIfInBounds_toArray, List.set_cons_zero, List.set_cons_succ, i64_w, i32_w]
                  rfl
                exact norm_ (by simp only [putAll, Act.put, List.setIfInBounds_toArray, List.set_cons_zero, List.set_cons_succ]) (hCont (v0, v1, v6, g8, g9) _ ⟨hHeld, FR5⟩)
            · skip
              refine box_step ?hg (N := 8) ?hd (cs := #[.slice none 0 0, .slice none 0 0]) (t := 27) ?hr ?_; (case hd => rfl); (case hg => rfl); (case hr => first | (go_simp; done) | (go_simp; rfl))
              intro g8 hg wq hbox hb
              have FR6 := Aside0.mk (Fr.box8 FR0.out hg hbox hb)
              have hS_ := hHeld
              obtain ⟨s0, s1, s2, s3, s4, s5, s6, s7⟩ := hS_
              refine hK.out _ _ ⟨pw_cell_below hb s0, pw_cell_below hb s1, pw_cell_below hb s2, pw_cell_below hb s3, pw_cell_below hb s4, pw_cell_below hb s5, pw_cell_below hb s6, pw_cell_below hb s7⟩ (fun hHeld => ?_)
              clear hK K s0 s1 s2 s3 s4 s5 s6 s7
              refine norm_ (a' := ?_) ?_ ?_
              rotate_left
              · show Act.put _ (some 8) _ = _
                simp only [Act.put, List.setIfInBounds_toArray, List.set_cons_zero, List.set_cons_succ, i64_w, i32_w]
                rfl
              refine two_ (i := 11) (j := 16) (Ni := some 38) (Nj := some 9) #[true, true, true, true, true, true, true, true, true, true, true, true, false, false, false, true, false, false, false] #[true, true, true, true, true, true, true, true, true, true, true, false, false, false, false, true, true, false, false] rfl rfl rfl rfl (two_of HT_.out (by kernel_rfl)) (by decide) (by decide) (fun K hK => ?_) (fun K hK => ?_)
              · skip
                refine goes_ Try.func10 (by kernel_rfl) rfl #[.agg #[.slice A0 l.length c0, .slice A1 ts.length c1], .int .i64 y.f0, .agg #[.int .i64 y.f1.f0, .int .i64 y.f1.f1, .int .i64 y.f1.f2, .int .i64 y.f1.f3, .int .i64 y.f1.f4]] (by rfl) rfl rfl (by (try simp only [List.map_toArray, List.map_cons, List.map_nil]); first | done | rfl) ?_
                refine (CW.out _ FR6.out.b).mono ?_
                rintro e_ wq ⟨v0, v1, v6, rfl, hv0, hv1, hv6, hb⟩
                have FR7 := Aside0.mk (Fr.call FR6.out hb HN.out hv0 hv1 hv6)
                refine ⟨_, rfl, ?_⟩
                have hS_ := hHeld
                obtain ⟨s0, s1, s2, s3, s4, s5, s6, s7⟩ := hS_
                refine hK.out _ _ ⟨pw_cell_below hb s0, pw_cell_below hb s1, pw_cell_below hb s2, pw_cell_below hb s3, pw_cell_below hb s4, pw_cell_below hb s5, pw_cell_below hb s6, pw_cell_below hb s7⟩ (fun hHeld => ?_)
                clear hK K s0 s1 s2 s3 s4 s5 s6 s7
                refine norm_ (a' := ?_) ?_ ?_
                rotate_left
                · show Act.put _ (some 38) _ = _
                  simp only [Act.put, List.setIfInBounds_toArray, List.set_cons_zero, List.set_cons_succ, i64_w, i32_w]
                  rfl
                refine pure_ (i := 12) (N := some 26) (v := ?_) (a' := ?_) #[true, true, true, true, true, true, true, true, true, true, true, true, true, false, false, true, false, false, false] rfl rfl (any_of HT_.out (by kernel_rfl)) (fun _ _ _ h => h) (Or.inl ⟨by rfl, ?_⟩) ?_ ?_
                rotate_left
                · intro w'
                  go_simp
                  with_reducible rfl
                rotate_left
                · simp only [Act.put, List.setIfInBounds_toArray, List.set_cons_zero, List.set_cons_succ, i64_w, i32_w]
                  rfl
                refine pure_ (i := 13) (N := some 39) (v := ?_) (a' := ?_) #[true, true, true, true, true, true, true, true, true, true, true, true, true, true, false, true, false, false, false] rfl rfl (any_of HT_.out (by kernel_rfl)) (fun _ _ _ h => h) (Or.inl ⟨by rfl, ?_⟩) ?_ ?_
                rotate_left
                · intro w'
                  go_simp
                  with_reducible rfl
                rotate_left
                · simp only [Act.put, List.setIfInBounds_toArray, List.set_cons_zero, List.set_cons_succ, i64_w, i32_w]
                  rfl
                refine pure_ (i := 14) (N := some 40) (v := ?_) (a' := ?_) #[true, true, true, true, true, true, true, true, true, true, true, true, true, true, true, true, false, false, false] rfl rfl (any_of HT_.out (by kernel_rfl)) (fun _ _ _ h => h) (Or.inl ⟨by rfl, ?_⟩) ?_ ?_
                rotate_left
                · intro w'
                  go_simp
                  with_reducible rfl
                rotate_left
                · simp only [Act.put, List.setIfInBounds_toArray, List.set_cons_zero, List.set_cons_succ, i64_w, i32_w]
                  rfl
                refine one_ (i := 16) (N := some 9) #[true, true, true, true, true, true, true, true, true, true, true, true, true, true, true, true, true, false, false] rfl rfl (one_of HT_.out (by kernel_rfl)) (by decide) (fun K hK => ?_)
                skip
                refine box_step ?hg (N := 9) ?hd (cs := #[.int .i64 0, .int .i64 0, .int .i64 0, .int .i64 0, .slice none 0 0]) (t := 34) ?hr ?_; (case hd => rfl); (case hg => rfl); (case hr => first | (go_simp; done) | (go_simp; rfl))
                intro g9 hg wq hbox hb
                have FR8 := Aside0.mk (Fr.box9 FR7.out hg hbox hb)
                have hS_ := hHeld
                obtain ⟨s0, s1, s2, s3, s4, s5, s6, s7⟩ := hS_
                refine hK.out _ _ ⟨pw_cell_below hb s0, pw_cell_below hb s1, pw_cell_below hb s2, pw_cell_below hb s3, pw_cell_below hb s4, pw_cell_below hb s5, pw_cell_below hb s6, pw_cell_below hb s7⟩ (fun hHeld => ?_)
                clear hK K s0 s1 s2 s3 s4 s5 s6 s7
                refine norm_ (a' := ?_) ?_ ?_
                rotate_left
                · show Act.put _ (some 9) _ = _
                  simp only [Act.put, List.setIfInBounds_toArray, List.set_cons_zero, List.set_cons_succ, i64_w, i32_w]
                  rfl
                exact norm_ (by simp only [putAll, Act.put, List.setIfInBounds_toArray, List.set_cons_zero, List.set_cons_succ]) (hCont (v0, v1, v6, g8, g9) _ ⟨hHeld, FR8⟩)
              · skip
                refine box_step ?hg (N := 9) ?hd (cs := #[.int .i64 0, .int .i64 0, .int .i64 0, .int .i64 0, .slice none 0 0]) (t := 34) ?hr ?_; (case hd => rfl); (case hg => rfl); (case hr => first | (go_simp; done) | (go_simp; rfl))
                intro g9 hg wq hbox hb
                have FR9 := Aside0.mk (Fr.box9 FR6.out hg hbox hb)
                have hS_ := hHeld
                obtain ⟨s0, s1, s2, s3, s4, s5, s6, s7⟩ := hS_
                refine hK.out _ _ ⟨pw_cell_below hb s0, pw_cell_below hb s1, pw_cell_below hb s2, pw_cell_below hb s3, pw_cell_below hb s4, pw_cell_below hb s5, pw_cell_below hb s6, pw_cell_below hb s7⟩ (fun hHeld => ?_)
                clear hK K s0 s1 s2 s3 s4 s5 s6 s7
                refine norm_ (a' := ?_) ?_ ?_
                rotate_left
                · show Act.put _ (some 9) _ = _
                  simp only [Act.put, List.setIfInBounds_toArray, List.set_cons_zero, List.set_cons_succ, i64_w, i32_w]
                  rfl
                refine one_ (i := 11) (N := some 38) #[true, true, true, true, true, true, true, true, true, true, true, true, false, false, false, true, true, false, false] rfl rfl (one_of HT_.out (by kernel_rfl)) (by decide) (fun K hK => ?_)
                skip
                refine goes_ Try.func10 (by kernel_rfl) rfl #[.agg #[.slice A0 l.length c0, .slice A1 ts.length c1], .int .i64 y.f0, .agg #[.int .i64 y.f1.f0, .int .i64 y.f1.f1, .int .i64 y.f1.f2, .int .i64 y.f1.f3, .int .i64 y.f1.f4]] (by rfl) rfl rfl (by (try simp only [List.map_toArray, List.map_cons, List.map_nil]); first | done | rfl) ?_
                refine (CW.out _ FR9.out.b).mono ?_
                rintro e_ wq ⟨v0, v1, v6, rfl, hv0, hv1, hv6, hb⟩
                have FR10 := Aside0.mk (Fr.call FR9.out hb HN.out hv0 hv1 hv6)
                refine ⟨_, rfl, ?_⟩
                have hS_ := hHeld
                obtain ⟨s0, s1, s2, s3, s4, s5, s6, s7⟩ := hS_
                refine hK.out _ _ ⟨pw_cell_below hb s0, pw_cell_below hb s1, pw_cell_below hb s2, pw_cell_below hb s3, pw_cell_below hb s4, pw_cell_below hb s5, pw_cell_below hb s6, pw_cell_below hb s7⟩ (fun hHeld => ?_)
                clear hK K s0 s1 s2 s3 s4 s5 s6 s7
                refine norm_ (a' := ?_) ?_ ?_
                rotate_left
                · show Act.put _ (some 38) _ = _
                  simp only [Act.put, List.setIfInBounds_toArray, List.set_cons_zero, List.set_cons_succ, i64_w, i32_w]
                  rfl
                refine pure_ (i := 12) (N := some 26) (v := ?_) (a' := ?_) #[true, true, true, true, true, true, true, true, true, true, true, true, true, false, false, true, true, false, false] rfl rfl (any_of HT_.out (by kernel_rfl)) (fun _ _ _ h => h) (Or.inl ⟨by rfl, ?_⟩) ?_ ?_
                rotate_left
                · intro w'
                  go_simp
                  with_reducible rfl
                rotate_left
                · simp only [Act.put, List.setIfInBounds_toArray, List.set_cons_zero, List.set_cons_succ, i64_w, i32_w]
                  rfl
                refine pure_ (i := 13) (N := some 39) (v := ?_) (a' := ?_) #[true, true, true, true, true, true, true, true, true, true, true, true, true, true, false, true, true, false, false] rfl rfl (any_of HT_.out (by kernel_rfl)) (fun _ _ _ h => h) (Or.inl ⟨by rfl, ?_⟩) ?_ ?_
                rotate_left
                · intro w'
                  go_simp
                  with_reducible rfl
                rotate_left
                · simp only [Act.put, List.setIfInBounds_toArray, List.set_cons_zero, List.set_cons_succ, i64_w, i32_w]
                  rfl
                refine pure_ (i := 14) (N := some 40) (v := ?_) (a' := ?_) #[true, true, true, true, true, true, true, true, true, true, true, true, true, true, true, true, true, false, false] rfl rfl (any_of HT_.out (by kernel_rfl)) (fun _ _ _ h => h) (Or.inl ⟨by rfl, ?_⟩) ?_ ?_
                rotate_left
                · intro w'
                  go_simp
                  with_reducible rfl
                rotate_left
                · simp only [Act.put, List.setIfInBounds_toArray, List.set_cons_zero, List.set_cons_succ, i64_w, i32_w]
                  rfl
                exact norm_ (by simp only [putAll, Act.put, List.setIfInBounds_toArray, List.set_cons_zero, List.set_cons_succ]) (hCont (v0, v1, v6, g8, g9) _ ⟨hHeld, FR10⟩)
            · skip
              refine box_step ?hg (N := 9) ?hd (cs := #[.int .i64 0, .int .i64 0, .int .i64 0, .int .i64 0, .slice none 0 0]) (t := 34) ?hr ?_; (case hd => rfl); (case hg => rfl); (case hr => first | (go_simp; done) | (go_simp; rfl))
              intro g9 hg wq hbox hb
              have FR11 := Aside0.mk (Fr.box9 FR0.out hg hbox hb)
              have hS_ := hHeld
              obtain ⟨s0, s1, s2, s3, s4, s5, s6, s7⟩ := hS_
              refine hK.out _ _ ⟨pw_cell_below hb s0, pw_cell_below hb s1, pw_cell_below hb s2, pw_cell_below hb s3, pw_cell_below hb s4, pw_cell_below hb s5, pw_cell_below hb s6, pw_cell_below hb s7⟩ (fun hHeld => ?_)
              clear hK K s0 s1 s2 s3 s4 s5 s6 s7
              refine norm_ (a' := ?_) ?_ ?_
              rotate_left
              · show Act.put _ (some 9) _ = _
                simp only [Act.put, List.setIfInBounds_toArray, List.set_cons_zero, List.set_cons_succ, i64_w, i32_w]
                rfl
              refine two_ (i := 11) (j := 15) (Ni := some 38) (Nj := some 8) #[true, true, true, true, true, true, true, true, true, true, true, true, false, false, false, false, true, false, false] #[true, true, true, true, true, true, true, true, true, true, true, false, false, false, false, true, true, false, false] rfl rfl rfl rfl (two_of HT_.out (by kernel_rfl)) (by decide) (by decide) (fun K hK => ?_) (fun K hK => ?_)
              · skip
                refine goes_ Try.func10 (by kernel_rfl) rfl #[.agg #[.slice A0 l.length c0, .slice A1 ts.length c1], .int .i64 y.f0, .agg #[.int .i64 y.f1.f0, .int .i64 y.f1.f1, .int .i64 y.f1.f2, .int .i64 y.f1.f3, .int .i64 y.f1.f4]] (by rfl) rfl rfl (by (try simp only [List.map_toArray, List.map_cons, List.map_nil]); first | done | rfl) ?_
                refine (CW.out _ FR11.out.b).mono ?_
                rintro e_ wq ⟨v0, v1, v6, rfl, hv0, hv1, hv6, hb⟩
                have FR12 := Aside0.mk (Fr.call FR11.out hb HN.out hv0 hv1 hv6)
                refine ⟨_, rfl, ?_⟩
                have hS_ := hHeld
                obtain ⟨s0, s1, s2, s3, s4, s5, s6, s7⟩ := hS_
                refine hK.out _ _ ⟨pw_cell_below hb s0, pw_cell_below hb s1, pw_cell_below hb s2, pw_cell_below hb s3, pw_cell_below hb s4, pw_cell_below hb s5, pw_cell_below hb s6, pw_cell_below hb s7⟩ (fun hHeld => ?_)
                clear hK K s0 s1 s2 s3 s4 s5 s6 s7
                refine norm_ (a' := ?_) ?_ ?_
                rotate_left
                · show Act.put _ (some 38) _ = _
                  simp only [Act.put, List.setIfInBounds_toArray, List.set_cons_zero, List.set_cons_succ, i64_w, i32_w]
                  rfl
                refine pure_ (i := 12) (N := some 26) (v := ?_) (a' := ?_) #[true, true, true, true, true, true, true, true, true, true, true, true, true, false, false, false, true, false, false] rfl rfl (any_of HT_.out (by kernel_rfl)) (fun _ _ _ h => h) (Or.inl ⟨by rfl, ?_⟩) ?_ ?_
                rotate_left
                · intro w'
                  go_simp
                  with_reducible rfl
                rotate_left
                · simp only [Act.put, List.setIfInBounds_toArray, List.set_cons_zero, List.set_cons_succ, i64_w, i32_w]
                  rfl
                refine pure_ (i := 13) (N := some 39) (v := ?_) (a' := ?_) #[true, true, true, true, true, true, true, true, true, true, true, true, true, true, false, false, true, false, false] rfl rfl (any_of HT_.out (by kernel_rfl)) (fun _ _ _ h => h) (Or.inl ⟨by rfl, ?_⟩) ?_ ?_
                rotate_left
                · intro w'
                  go_simp
                  with_reducible rfl
                rotate_left
                · simp only [Act.put, List.setIfInBounds_toArray, List.set_cons_zero, List.set_cons_succ, i64_w, i32_w]
                  rfl
                refine pure_ (i := 14) (N := some 40) (v := ?_) (a' := ?_) #[true, true, true, true, true, true, true, true, true, true, true, true, true, true, true, false, true, false, false] rfl rfl (any_of HT_.out (by kernel_rfl)) (fun _ _ _ h => h) (Or.inl ⟨by rfl, ?_⟩) ?_ ?_
                rotate_left
                · intro w'
                  go_simp
                  with_reducible rfl
                rotate_left
                · simp only [Act.put, List.setIfInBounds_toArray, List.set_cons_zero, List.set_cons_succ, i64_w, i32_w]
                  rfl
                refine one_ (i := 15) (N := some 8) #[true, true, true, true, true, true, true, true, true, true, true, true, true, true, true, true, true, false, false] rfl rfl (one_of HT_.out (by kernel_rfl)) (by decide) (fun K hK => ?_)
                skip
                refine box_step ?hg (N := 8) ?hd (cs := #[.slice none 0 0, .slice none 0 0]) (t := 27) ?hr ?_; (case hd => rfl); (case hg => rfl); (case hr => first | (go_simp; done) | (go_simp; rfl))
                intro g8 hg wq hbox hb
                have FR13 := Aside0.mk (Fr.box8 FR12.out hg hbox hb)
                have hS_ := hHeld
                obtain ⟨s0, s1, s2, s3, s4, s5, s6, s7⟩ := hS_
                refine hK.out _ _ ⟨pw_cell_below hb s0, pw_cell_below hb s1, pw_cell_below hb s2, pw_cell_below hb s3, pw_cell_below hb s4, pw_cell_below hb s5, pw_cell_below hb s6, pw_cell_below hb s7⟩ (fun hHeld => ?_)
                clear hK K s0 s1 s2 s3 s4 s5 s6 s7
                refine norm_ (a' := ?_) ?_ ?_
                rotate_left
                · show Act.put _ (some 8) _ = _
                  simp only [Act.put, List.setIfInBounds_toArray, List.set_cons_zero, List.set_cons_succ, i64_w, i32_w]
                  rfl
                exact norm_ (by simp only [putAll, Act.put, List.setIfInBounds_toArray, List.set_cons_zero, List.set_cons_succ]) (hCont (v0, v1, v6, g8, g9) _ ⟨hHeld, FR13⟩)
              · skip
                refine box_step ?hg (N := 8) ?hd (cs := #[.slice none 0 0, .slice none 0 0]) (t := 27) ?hr ?_; (case hd => rfl); (case hg => rfl); (case hr => first | (go_simp; done) | (go_simp; rfl))
                intro g8 hg wq hbox hb
                have FR14 := Aside0.mk (Fr.box8 FR11.out hg hbox hb)
                have hS_ := hHeld
                obtain ⟨s0, s1, s2, s3, s4, s5, s6, s7⟩ := hS_
                refine hK.out _ _ ⟨pw_cell_below hb s0, pw_cell_below hb s1, pw_cell_below hb s2, pw_cell_below hb s3, pw_cell_below hb s4, pw_cell_below hb s5, pw_cell_below hb s6, pw_cell_below hb s7⟩ (fun hHeld => ?_)
                clear hK K s0 s1 s2 s3 s4 s5 s6 s7
                refine norm_ (a' := ?_) ?_ ?_
                rotate_left
                · show Act.put _ (some 8) _ = _
                  simp only [Act.put, List.setIfInBounds_toArray, List.set_cons_zero, List.set_cons_succ, i64_w, i32_w]
                  rfl
                refine one_ (i := 11) (N := some 38) #[true, true, true, true, true, true, true, true, true, true, true, true, false, false, false, true, true, false, false] rfl rfl (one_of HT_.out (by kernel_rfl)) (by decide) (fun K hK => ?_)
                skip
                refine goes_ Try.func10 (by kernel_rfl) rfl #[.agg #[.slice A0 l.length c0, .slice A1 ts.length c1], .int .i64 y.f0, .agg #[.int .i64 y.f1.f0, .int .i64 y.f1.f1, .int .i64 y.f1.f2, .int .i64 y.f1.f3, .int .i64 y.f1.f4]] (by rfl) rfl rfl (by (try simp only [List.map_toArray, List.map_cons, List.map_nil]); first | done | rfl) ?_
                refine (CW.out _ FR14.out.b).mono ?_
                rintro e_ wq ⟨v0, v1, v6, rfl, hv0, hv1, hv6, hb⟩
                have FR15 := Aside0.mk (Fr.call FR14.out hb HN.out hv0 hv1 hv6)
                refine ⟨_, rfl, ?_⟩
                have hS_ := hHeld
                obtain ⟨s0, s1, s2, s3, s4, s5, s6, s7⟩ := hS_
                refine hK.out _ _ ⟨pw_cell_below hb s0, pw_cell_below hb s1, pw_cell_below hb s2, pw_cell_below hb s3, pw_cell_below hb s4, pw_cell_below hb s5, pw_cell_below hb s6, pw_cell_below hb s7⟩ (fun hHeld => ?_)
                clear hK K s0 s1 s2 s3 s4 s5 s6 s7
                refine norm_ (a' := ?_) ?_ ?_
                rotate_left
                · show Act.put _ (some 38) _ = _
                  simp only [Act.put, List.setIfInBounds_toArray, List.set_cons_zero, List.set_cons_succ, i64_w, i32_w]
                  rfl
                refine pure_ (i := 12) (N := some 26) (v := ?_) (a' := ?_) #[true, true, true, true, true, true, true, true, true, true, true, true, true, false, false, true, true, false, false] rfl rfl (any_of HT_.out (by kernel_rfl)) (fun _ _ _ h => h) (Or.inl ⟨by rfl, ?_⟩) ?_ ?_
                rotate_left
                · intro w'
                  go_simp
                  with_reducible rfl
                rotate_left
                · simp only [Act.put, List.setIfInBounds_toArray, List.set_cons_zero, List.set_cons_succ, i64_w, i32_w]
                  rfl
                refine pure_ (i := 13) (N := some 39) (v := ?_) (a' := ?_) #[true, true, true, true, true, true, true, true, true, true, true, true, true, true, false, true, true, false, false] rfl rfl (any_of HT_.out (by kernel_rfl)) (fun _ _ _ h => h) (Or.inl ⟨by rfl, ?_⟩) ?_ ?_
                rotate_left
                · intro w'
                  go_simp
                  with_reducible rfl
                rotate_left
                · simp only [Act.put, List.setIfInBounds_toArray, List.set_cons_zero, List.set_cons_succ, i64_w, i32_w]
                  rfl
                refine pure_ (i := 14) (N := some 40) (v := ?_) (a' := ?_) #[true, true, true, true, true, true, true, true, true, true, true, true, true, true, true, true, true, false, false] rfl rfl (any_of HT_.out (by kernel_rfl)) (fun _ _ _ h => h) (Or.inl ⟨by rfl, ?_⟩) ?_ ?_
                rotate_left
                · intro w'
                  go_simp
                  with_reducible rfl
                rotate_left
                · simp only [Act.put, List.setIfInBounds_toArray, List.set_cons_zero, List.set_cons_succ, i64_w, i32_w]
                  rfl
                exact norm_ (by simp only [putAll, Act.put, List.setIfInBounds_toArray, List.set_cons_zero, List.set_cons_succ]) (hCont (v0, v1, v6, g8, g9) _ ⟨hHeld, FR15⟩)
          rintro ⟨v0, v1, v6, g8, g9⟩ wj ⟨hHeld, FJ⟩
          obtain ⟨W0, W1, W6⟩ := FJ.out.hc _ rfl
          obtain ⟨A8, c8, e8⟩ := Kd.V_slice W0
          obtain ⟨A9, c9, e9⟩ := Kd.V_slice W1
          obtain ⟨A6, c6, e6⟩ := Kd.V_slice W6
          subst e8 e9 e6
          have h8 := (FJ.out.h8 _ rfl).1
          have h9 := (FJ.out.h9 _ rfl).1
          have n1 := FJ.out.ne _ _ rfl rfl
          have n2 : ¬ g9 = g8 := fun e => n1 e.symm
          clear W0 W1 W6
          have z0 := (blk_cell h8 0).trans rfl
          have z1 := (blk_cell h8 1).trans rfl
          have zf0 := blk_frozen h8 0
          have zf1 := blk_frozen h8 1
          have u0 := (blk_cell h9 0).trans rfl
          have u1 := (blk_cell h9 1).trans rfl
          have u2 := (blk_cell h9 2).trans rfl
          have u3 := (blk_cell h9 3).trans rfl
          have u4 := (blk_cell h9 4).trans rfl
          have uf0 := blk_frozen h9 0
          have uf1 := blk_frozen h9 1
          have uf2 := blk_frozen h9 2
          have uf3 := blk_frozen h9 3
          have uf4 := blk_frozen h9 4
          clear h8 h9
          refine norm_ (a' := ?_) ?_ ?_
          rotate_left
          · simp only [putAll, Act.put, List.setIfInBounds_toArray, List.set_cons_zero, List.set_cons_succ]
            rfl
          refine last_ (i := 17) (N := none) #[true, true, true, true, true, true, true, true, true, true, true, true, true, true, true, true, true, true, false] rfl rfl (one_of HT_.out (by kernel_rfl)) (by decide) (fun K hK => ?_)
          refine skip_ (w1 := ?_) (by rfl) rfl ?_ ?_
          rotate_left
          · go_simp
            with_reducible rfl
          refine hK.out _ _ ?_
          clear hK K
          refine last_ (i := 18) (N := none) #[true, true, true, true, true, true, true, true, true, true, true, true, true, true, true, true, true, true, true] rfl rfl (one_of HT_.out (by kernel_rfl)) (by decide) (fun K hK => ?_)
          refine skip_ (w1 := ?_) (by rfl) rfl ?_ ?_
          rotate_left
          · go_simp
            with_reducible rfl
          refine hK.out _ _ ?_
          clear hK K
          refine done_ (done_of HT_.out (by kernel_rfl)) ?_
          go_wp2
          go_meet
          obtain ⟨M1, M2, M3, M4, M5, M6, M7⟩ := ev_end FJ.out LD.out.bx (fun x hx => (Array.getElem?_eq_some_iff.1 (LD.out.bx.at_ x hx)).1)
          have hs := SN.out
          exact ⟨⟨_, _, A8, c8, A9, c9, A6, c6, rfl, rfl, M1, Kd.V_mono M2 (fun k hk => okb_of (LD.out.bx.lt 1 rfl) (LD.out.bx.lt 0 rfl) LD.out.bx.b.size hk.1), Kd.V_mono M3 (fun k hk => okb_of (LD.out.bx.lt 1 rfl) (LD.out.bx.lt 0 rfl) LD.out.bx.b.size hk.1), Kd.V_mono M4 (fun k hk => okb_of (LD.out.bx.lt 1 rfl) (LD.out.bx.lt 0 rfl) LD.out.bx.b.size hk.1), LD.out.below M5, by rw [hs]; exact M6, by rw [hs]; exact M7⟩⟩
        case rest =>
          obtain ⟨g8, g9, A8, c8, A9, c9, A6, c6, rfl, rfl, M1, M2, M3, M4, ML, M6, M7⟩ := hcut.out
          have LM := Aside0.mk ML
          have X8 := Aside0.mk M2
          have X9 := Aside0.mk M3
          have XA := Aside0.mk M4
          have GG := Aside0.mk (And.intro M6 M7)
          have BM := Aside0.mk M1
          clear hcut M2 M3 M4 ML M6 M7 s0 s1 p0 p1 p2 p3 p4 p5 HN CW LD SN
          obtain ⟨N2, hN⟩ : ∃ N2, N2 = wc.heap.size := ⟨_, rfl⟩
          have SN := Aside0.mk (show N2 = wc.drew.heap.size from hN)
          have HN := Aside0.mk (show ∀ k, okc w b5 b6 N2 k → k < wc.drew.heap.size from fun k hk => by have := hk.2; have := SN.out; omega)
          have LD := Aside0.mk (LM.out.below (below_drew1 (Below.refl _ _)))
          have CX := Aside0.mk (fun W (hb : Below wc.drew.heap.size wc.drew W) => cx_do (okx := okc w b5 b6 N2) (rb (Kd.V_below (Kd.V_mono (Kd.V_bound LD.out.v2) (ok' := okc w b5 b6 N2) (fun k hk => ⟨hk.1, by have := hk.2; have := SN.out; omega⟩)) hb)) (rb (Kd.V_below (Kd.V_mono (Kd.V_bound LD.out.v3) (ok' := okc w b5 b6 N2) (fun k hk => ⟨hk.1, by have := hk.2; have := SN.out; omega⟩)) hb)) DR.out)
          have BD := Aside0.mk M1.drew
          have Y8 := Aside0.mk (Kd.V_drew X8.out)
          have Y9 := Aside0.mk (Kd.V_drew X9.out)
          have YA := Aside0.mk (Kd.V_drew XA.out)
          have s0 : wc.drew.cell? ⟨b6, 0, none⟩ = some (.slice B0 l.length d0) := (M1.cell 2 0 rfl).trans rfl
          have s1 : wc.drew.cell? ⟨b6, 1, none⟩ = some (.slice B1 xs.length d1) := (M1.cell 2 1 rfl).trans rfl
          have p0 : wc.drew.cell? _ = some _ := cell_below LD.out.bx.b PP.out.1
          have p1 : wc.drew.cell? _ = some _ := cell_below LD.out.bx.b PP.out.2.1
          have p2 : wc.drew.cell? _ = some _ := cell_below LD.out.bx.b PP.out.2.2.1
          have p3 : wc.drew.cell? _ = some _ := cell_below LD.out.bx.b PP.out.2.2.2.1
          have p4 : wc.drew.cell? _ = some _ := cell_below LD.out.bx.b PP.out.2.2.2.2.1
          have p5 : wc.drew.cell? _ = some _ := cell_below LD.out.bx.b PP.out.2.2.2.2.2
          clear hN M1 X8 X9 XA BM LM
          go_upto_region 8 with (fail)
          go_cut [10, 11] (fun s10 s11 wc2 => Aside0 (∃ ga gb B8 d8 B9 d9 B6 d6, s10 = .pointer (some ⟨ga, 0, none⟩) ∧ s11 = .pointer (some ⟨gb, 0, none⟩) ∧ Bxs w wc2 ((gb, #[.int .i64 r3, .int .i64 r4, .int .i64 r5, .int .i64 r6, .slice B6 r7.length d6], 34) :: (ga, #[.slice B8 l'.length d8, .slice B9 xs'.length d9], 31) :: (g9, #[.int .i64 r3, .int .i64 r4, .int .i64 r5, .int .i64 r6, .slice A6 r7.length c6], 34) :: (g8, #[.slice A8 l'.length c8, .slice A9 ts'.length c9], 27) :: ([(b6, #[.slice B0 l.length d0, .slice B1 xs.length d1], 31), (b5, #[.slice A0 l.length c0, .slice A1 ts.length c1], 27)] : List Box)) ∧ Kd.V k49 49 wc2 0 (okb w b5 b6) (.slice B8 l'.length d8) l' ∧ Kd.V k61 61 wc2 0 (okb w b5 b6) (.slice B9 xs'.length d9) xs' ∧ Kd.V k49 49 wc2 0 (okb w b5 b6) (.slice B6 r7.length d6) r7 ∧ Kd.V k49 49 wc2 0 (okb w b5 b6) (.slice A8 l'.length c8) l' ∧ Kd.V k62 62 wc2 0 (okb w b5 b6) (.slice A9 ts'.length c9) ts' ∧ Kd.V k49 49 wc2 0 (okb w b5 b6) (.slice A6 r7.length c6) r7))
          case first =>
            refine start_ (n := 19) (S := fun W' => W'.cell? ⟨b6, 0, none⟩ = some (.slice B0 l.length d0) ∧ W'.cell? ⟨b6, 1, none⟩ = some (.slice B1 xs.length d1) ∧ W'.cell? (ad.add (j * 11)) = some (.int .i64 y.f0) ∧ W'.cell? ⟨(ad.add (j * 11)).block, (ad.add (j * 11)).off + 1, none⟩ = some (.int .i64 y.f1.f0) ∧ W'.cell? ⟨(ad.add (j * 11)).block, (ad.add (j * 11)).off + 2, none⟩ = some (.int .i64 y.f1.f1) ∧ W'.cell? ⟨(ad.add (j * 11)).block, (ad.add (j * 11)).off + 3, none⟩ = some (.int .i64 y.f1.f2) ∧ W'.cell? ⟨(ad.add (j * 11)).block, (ad.add (j * 11)).off + 4, none⟩ = some (.int .i64 y.f1.f3) ∧ W'.cell? ⟨(ad.add (j * 11)).block, (ad.add (j * 11)).off + 5, none⟩ = some (.int .i64 y.f1.f4)) (ds := [17, 18]) #[false, false, false, false, false, false, false, false, false, false, false, false, false, false, false, false, false, false, false] (by kernel_rfl) rfl rfl ⟨s0, s1, p0, p1, p2, p3, p4, p5⟩ (fun hHeld => ?_); refine with_tabW md8_tab md8_bits (fun HT_ HW_ => ?_)
            generalize wc.drew = wd_ at s0 s1 p0 p1 p2 p3 p4 p5 HN CX LD SN BD Y8 Y9 YA hHeld ⊢
            refine pure_ (i := 1) (N := some 43) (v := ?_) (a' := ?_) #[false, true, false, false, false, false, false, false, false, false, false, false, false, false, false, false, false, false, false] rfl rfl (any_of HT_.out (by kernel_rfl)) (fun _ _ _ h => h) (Or.inl ⟨by rfl, ?_⟩) ?_ ?_
            rotate_left
            · intro w'
              go_simp
              with_reducible rfl
            rotate_left
            · simp only [Act.put, List.setIfInBounds_toArray, List.set_cons_zero, List.set_cons_succ, i64_w, i32_w]
              rfl
            refine pure_ (i := 2) (N := some 44) (v := ?_) (a' := ?_) #[false, true, true, false, false, false, false, false, false, false, false, false, false, false, false, false, false, false, false] rfl rfl (any_of HT_.out (by kernel_rfl)) (fun _ _ _ h => h) (Or.inl ⟨by rfl, ?_⟩) ?_ ?_
            rotate_left
            · intro w'
              go_simp
              with_reducible rfl
            rotate_left
            · simp only [Act.put, List.setIfInBounds_toArray, List.set_cons_zero, List.set_cons_succ, i64_w, i32_w]
              rfl
            refine pure_ (i := 3) (N := some 45) (v := ?_) (a' := ?_) #[false, true, true, true, false, false, false, false, false, false, false, false, false, false, false, false, false, false, false] rfl rfl (any_of HT_.out (by kernel_rfl)) (fun _ _ _ h => h) (Or.inl ⟨by rfl, ?_⟩) ?_ ?_
            rotate_left
            · intro w'
              go_simp
              with_reducible rfl
            rotate_left
            · simp only [Act.put, List.setIfInBounds_toArray, List.set_cons_zero, List.set_cons_succ, i64_w, i32_w]
              rfl
            refine pure_ (i := 4) (N := some 46) (v := ?_) (a' := ?_) #[false, true, true, true, true, false, false, false, false, false, false, false, false, false, false, false, false, false, false] rfl rfl (any_of HT_.out (by kernel_rfl)) (fun _ _ _ h => h) (Or.inl ⟨by rfl, ?_⟩) ?_ ?_
            rotate_left
            · intro w'
              go_simp
              with_reducible rfl
            rotate_left
            · simp only [Act.put, List.setIfInBounds_toArray, List.set_cons_zero, List.set_cons_succ, i64_w, i32_w]
              rfl
            refine pure_ (i := 6) (N := some 48) (v := ?_) (a' := ?_) #[false, true, true, true, true, false, true, false, false, false, false, false, false, false, false, false, false, false, false] rfl rfl (any_of HT_.out (by kernel_rfl)) (fun _ _ _ h => h) (Or.inl ⟨by rfl, ?_⟩) ?_ ?_
            rotate_left
            · intro w'
              go_simp
              with_reducible rfl
            rotate_left
            · simp only [Act.put, List.setIfInBounds_toArray, List.set_cons_zero, List.set_cons_succ, i64_w, i32_w]
              rfl
            refine pure_ (i := 7) (N := some 49) (v := ?_) (a' := ?_) #[false, true, true, true, true, false, true, true, false, false, false, false, false, false, false, false, false, false, false] rfl rfl (any_of HT_.out (by kernel_rfl)) (fun _ _ _ h => h) (Or.inl ⟨by rfl, ?_⟩) ?_ ?_
            rotate_left
            · intro w'
              go_simp
              with_reducible rfl
            rotate_left
            · simp only [Act.put, List.setIfInBounds_toArray, List.set_cons_zero, List.set_cons_succ, i64_w, i32_w]
              rfl
            refine pure_ (i := 8) (N := some 50) (v := ?_) (a' := ?_) #[false, true, true, true, true, false, true, true, true, false, false, false, false, false, false, false, false, false, false] rfl rfl (any_of HT_.out (by kernel_rfl)) (fun _ _ _ h => h) (Or.inl ⟨by rfl, ?_⟩) ?_ ?_
            rotate_left
            · intro w'
              go_simp
              with_reducible rfl
            rotate_left
            · simp only [Act.put, List.setIfInBounds_toArray, List.set_cons_zero, List.set_cons_succ, i64_w, i32_w]
              rfl
            refine pure_ (i := 9) (N := some 51) (v := ?_) (a' := ?_) #[false, true, true, true, true, false, true, true, true, true, false, false, false, false, false, false, false, false, false] rfl rfl (any_of HT_.out (by kernel_rfl)) (fun _ _ _ h => h) (Or.inl ⟨by rfl, ?_⟩) ?_ ?_
            rotate_left
            · intro w'
              go_simp
              with_reducible rfl
            rotate_left
            · simp only [Act.put, List.setIfInBounds_toArray, List.set_cons_zero, List.set_cons_succ, i64_w, i32_w]
              rfl
            refine take_ (i := 0) (N := some 42) (v := ?_) (a' := ?_) #[true, true, true, true, true, false, true, true, true, true, false, false, false, false, false, false, false, false, false] rfl rfl (take_ofW HT_.out HW_.out (by kernel_rfl)) (fun _ _ _ h => h) (Or.inl ⟨by rfl, ?_⟩) hHeld ?_ ?_
            rotate_left
            · rintro w' ⟨s0, s1, s2, s3, s4, s5, s6, s7⟩
              go_simp
              with_reducible rfl
            rotate_left
            · simp only [Act.put, List.setIfInBounds_toArray, List.set_cons_zero, List.set_cons_succ, i64_w, i32_w]
              rfl
            refine take_ (i := 5) (N := some 47) (v := ?_) (a' := ?_) #[true, true, true, true, true, true, true, true, true, true, false, false, false, false, false, false, false, false, false] rfl rfl (take_ofW HT_.out HW_.out (by kernel_rfl)) (fun _ _ _ h => h) (Or.inl ⟨by rfl, ?_⟩) hHeld ?_ ?_
            rotate_left
            · rintro w' ⟨s0, s1, s2, s3, s4, s5, s6, s7⟩
              go_simp
              with_reducible rfl
            rotate_left
            · simp only [Act.put, List.setIfInBounds_toArray, List.set_cons_zero, List.set_cons_succ, i64_w, i32_w]
              rfl
            refine take_ (i := 10) (N := some 52) (v := ?_) (a' := ?_) #[true, true, true, true, true, true, true, true, true, true, true, false, false, false, false, false, false, false, false] rfl rfl (take_ofW HT_.out HW_.out (by kernel_rfl)) (fun _ _ _ h => h) (Or.inl ⟨by rfl, ?_⟩) hHeld ?_ ?_
            rotate_left
            · rintro w' ⟨s0, s1, s2, s3, s4, s5, s6, s7⟩
              go_simp
              with_reducible rfl
            rotate_left
            · simp only [Act.put, List.setIfInBounds_toArray, List.set_cons_zero, List.set_cons_succ, i64_w, i32_w]
              rfl
            have FR0 := Aside0.mk (show Fr k49 k61 k49 49 61 49 wd_ (fun k => okc w b5 b6 N2 k ∨ wd_.heap.size ≤ k) #[.slice none 0 0, .slice none 0 0] #[.int .i64 0, .int .i64 0, .int .i64 0, .int .i64 0, .slice none 0 0] 31 34 l' xs' r7 none none none wd_ from Fr.start)
            refine join_ (σ := Value × Value × Value × Nat × Nat) 2 #[true, true, true, true, true, true, true, true, true, true, true, true, true, true, true, true, true, false, false] (fun s_ => [(53, .tuple #[.agg #[s_.1, s_.2.1], .agg #[.int .i64 r3, .int .i64 r4, .int .i64 r5, .int .i64 r6, s_.2.2.1]]), (41, .tuple #[.agg #[s_.1, s_.2.1], .agg #[.int .i64 r3, .int .i64 r4, .int .i64 r5, .int .i64 r6, s_.2.2.1]]), (54, .agg #[s_.1, s_.2.1]), (55, .agg #[.int .i64 r3, .int .i64 r4, .int .i64 r5, .int .i64 r6, s_.2.2.1]), (10, .pointer (some ⟨s_.2.2.2.1, 0, none⟩)), (11, .pointer (some ⟨s_.2.2.2.2, 0, none⟩))]) (fun s_ w' => (w'.cell? ⟨b6, 0, none⟩ = some (.slice B0 l.length d0) ∧ w'.cell? ⟨b6, 1, none⟩ = some (.slice B1 xs.length d1) ∧ w'.cell? (ad.add (j * 11)) = some (.int .i64 y.f0) ∧ w'.cell? ⟨(ad.add (j * 11)).block, (ad.add (j * 11)).off + 1, none⟩ = some (.int .i64 y.f1.f0) ∧ w'.cell? ⟨(ad.add (j * 11)).block, (ad.add (j * 11)).off + 2, none⟩ = some (.int .i64 y.f1.f1) ∧ w'.cell? ⟨(ad.add (j * 11)).block, (ad.add (j * 11)).off + 3, none⟩ = some (.int .i64 y.f1.f2) ∧ w'.cell? ⟨(ad.add (j * 11)).block, (ad.add (j * 11)).off + 4, none⟩ = some (.int .i64 y.f1.f3) ∧ w'.cell? ⟨(ad.add (j * 11)).block, (ad.add (j * 11)).off + 5, none⟩ = some (.int .i64 y.f1.f4)) ∧ Aside0 (Fr k49 k61 k49 49 61 49 wd_ (fun k => okc w b5 b6 N2 k ∨ wd_.heap.size ≤ k) #[.slice none 0 0, .slice none 0 0] #[.int .i64 0, .int .i64 0, .int .i64 0, .int .i64 0, .slice none 0 0] 31 34 l' xs' r7 (some (s_.1, s_.2.1, s_.2.2.1)) (some s_.2.2.2.1) (some s_.2.2.2.2) w')) ?_ ?_
            rotate_left
            · intro hCont
              refine three_ (i := 11) (j := 15) (k := 16) (Ni := some 53) (Nj := some 10) (Nk := some 11) #[true, true, true, true, true, true, true, true, true, true, true, true, false, false, false, false, false, false, false] #[true, true, true, true, true, true, true, true, true, true, true, false, false, false, false, true, false, false, false] #[true, true, true, true, true, true, true, true, true, true, true, false, false, false, false, false, true, false, false] rfl rfl rfl rfl rfl rfl (three_of HT_.out (by kernel_rfl)) (by decide) (by decide) (by decide) (fun K hK => ?_) (fun K hK => ?_) (fun K hK => ?_)
              · skip
                refine goes_ Try.func11 (by kernel_rfl) rfl #[.agg #[.slice B0 l.length d0, .slice B1 xs.length d1], .int .i64 y.f0, .agg #[.int .i64 y.f1.f0, .int .i64 y.f1.f1, .int .i64 y.f1.f2, .int .i64 y.f1.f3, .int .i64 y.f1.f4]] (by rfl) rfl rfl (by (try simp only [List.map_toArray, List.map_cons, List.map_nil]); first | done | rfl) ?_
                refine (CX.out _ FR0.out.b).mono ?_
                rintro e_ wq ⟨v0, v1, v6, rfl, hv0, hv1, hv6, hb⟩
                have FR1 := Aside0.mk (Fr.call FR0.out hb HN.out hv0 hv1 hv6)
                refine ⟨_, rfl, ?_⟩
                have hS_ := hHeld
                obtain ⟨s0, s1, s2, s3, s4, s5, s6, s7⟩ := hS_
                refine hK.out _ _ ⟨pw_cell_below hb s0, pw_cell_below hb s1, pw_cell_below hb s2, pw_cell_below hb s3, pw_cell_below hb s4, pw_cell_below hb s5, pw_cell_below hb s6, pw_cell_below hb s7⟩ (fun hHeld => ?_)
                clear hK K s0 s1 s2 s3 s4 s5 s6 s7
                refine norm_ (a' := ?_) ?_ ?_
                rotate_left
                · show Act.put _ (some 53) _ = _
                  simp only [Act.put, List.setIfInBounds_toArray, List.set_cons_zero, List.set_cons_succ, i64_w, i32_w]
                  rfl
                refine pure_ (i := 12) (N := some 41) (v := ?_) (a' := ?_) #[true, true, true, true, true, true, true, true, true, true, true, true, true, false, false, false, false, false, false] rfl rfl (any_of HT_.out (by kernel_rfl)) (fun _ _ _ h => h) (Or.inl ⟨by rfl, ?_⟩) ?_ ?_
                rotate_left
                · intro w'
                  go_simp
                  with_reducible rfl
                rotate_left
                · simp only [Act.put, List.setIfInBounds_toArray, List.set_cons_zero, List.set_cons_succ, i64_w, i32_w]
                  rfl
                refine pure_ (i := 13) (N := some 54) (v := ?_) (a' := ?_) #[true, true, true, true, true, true, true, true, true, true, true, true, true, true, false, false, false, false, false] rfl rfl (any_of HT_.out (by kernel_rfl)) (fun _ _ _ h => h) (Or.inl ⟨by rfl, ?_⟩) ?_ ?_
                rotate_left
                · intro w'
                  go_simp
                  with_reducible rfl
                rotate_left
                · simp only [Act.put, List.setIfInBounds_toArray, List.set_cons_zero, List.set_cons_succ, i64_w, i32_w]
                  rfl
                refine pure_ (i := 14) (N := some 55) (v := ?_) (a' := ?_) #[true, true, true, true, true, true, true, true, true, true, true, true, true, true, true, false, false, false, false] rfl rfl (any_of HT_.out (by kernel_rfl)) (fun _ _ _ h => h) (Or.inl ⟨by rfl, ?_⟩) ?_ ?_
                rotate_left
                · intro w'
                  go_simp
                  with_reducible rfl
                rotate_left
                · simp only [Act.put, List.setIfInBounds_toArray, List.set_cons_zero, List.set_cons_succ, i64_w, i32_w]
                  rfl
                refine two_ (i := 15) (j := 16) (Ni := some 10) (Nj := some 11) #[true, true, true, true, true, true, true, true, true, true, true, true, true, true, true, true, false, false, false] #[true, true, true, true, true, true, true, true, true, true, true, true, true, true, true, false, true, false, false] rfl rfl rfl rfl (two_of HT_.out (by kernel_rfl)) (by decide) (by decide) (fun K hK => ?_) (fun K hK => ?_)
                · skip
                  refine box_step ?hg (N := 10) ?hd (cs := #[.slice none 0 0, .slice none 0 0]) (t := 31) ?hr ?_; (case hd => rfl); (case hg => rfl); (case hr => first | (go_simp; done) | (go_simp; rfl))
                  intro g10 hg wq hbox hb
                  have FR2 := Aside0.mk (Fr.box8 FR1.out hg hbox hb)
                  have hS_ := hHeld
                  obtain ⟨s0, s1, s2, s3, s4, s5, s6, s7⟩ := hS_
                  refine hK.out _ _ ⟨pw_cell_below hb s0, pw_cell_below hb s1, pw_cell_below hb s2, pw_cell_below hb s3, pw_cell_below hb s4, pw_cell_below hb s5, pw_cell_below hb s6, pw_cell_below hb s7⟩ (fun hHeld => ?_)
                  clear hK K s0 s1 s2 s3 s4 s5 s6 s7
                  refine norm_ (a' := ?_) ?_ ?_
                  rotate_left
                  · show Act.put _ (some 10) _ = _
                    simp only [Act.put, List.setIfInBounds_toArray, List.set_cons_zero, List.set_cons_succ, i64_w, i32_w]
                    rfl
                  refine one_ (i := 16) (N := some 11) #[true, true, true, true, true, true, true, true, true, true, true, true, true, true, true, true, true, false, false] rfl rfl (one_of HT_.out (by kernel_rfl)) (by decide) (fun K hK => ?_)
                  skip
                  refine box_step ?hg (N := 11) ?hd (cs := #[.int .i64 0, .int .i64 0, .int .i64 0, .int .i64 0, .slice none 0 0]) (t := 34) ?hr ?_; (case hd => rfl); (case hg => rfl); (case hr => first | (go_simp; done) | (go_simp; rfl))
                  intro g11 hg wq hbox hb
                  have FR3 := Aside0.mk (Fr.box9 FR2.out hg hbox hb)
                  have hS_ := hHeld
                  obtain ⟨s0, s1, s2, s3, s4, s5, s6, s7⟩ := hS_
                  refine hK.out _ _ ⟨pw_cell_below hb s0, pw_cell_below hb s1, pw_cell_below hb s2, pw_cell_below hb s3, pw_cell_below hb s4, pw_cell_below hb s5, pw_cell_below hb s6, pw_cell_below hb s7⟩ (fun hHeld => ?_)
                  clear hK K s0 s1 s2 s3 s4 s5 s6 s7
                  refine norm_ (a' := ?_) ?_ ?_
                  rotate_left
                  · show Act.put _ (some 11) _ = _
                    simp only [Act.put, List.setIfInBounds_toArray, List.set_cons_zero, List.set_cons_succ, i64_w, i32_w]
                    rfl
                  exact norm_ (by simp only [putAll, Act.put, List.setIfInBounds_toArray, List.set_cons_zero, List.set_cons_succ]) (hCont (v0, v1, v6, g10, g11) _ ⟨hHeld, FR3⟩)
                · skip
                  refine box_step ?hg (N := 11) ?hd (cs := #[.int .i64 0, .int .i64 0, .int .i64 0, .int .i64 0, .slice none 0 0]) (t := 34) ?hr ?_; (case hd => rfl); (case hg => rfl); (case hr => first | (go_simp; done) | (go_simp; rfl))
                  intro g11 hg wq hbox hb
                  have FR4 := Aside0.mk (Fr.box9 FR1.out hg hbox hb)
                  have hS_ := hHeld
                  obtain ⟨s0, s1, s2, s3, s4, s5, s6, s7⟩ := hS_
                  refine hK.out _ _ ⟨pw_cell_below hb s0, pw_cell_below hb s1, pw_cell_below hb s2, pw_cell_below hb s3, pw_cell_below hb s4, pw_cell_below hb s5, pw_cell_below hb s6, pw_cell_below hb s7⟩ (fun hHeld => ?_)
                  clear hK K s0 s1 s2 s3 s4 s5 s6 s7
                  refine norm_ (a' := ?_) ?_ ?_
                  rotate_left
                  · show Act.put _ (some 11) _ = _
                    simp only [Act.put, List.setIfInBounds_toArray, List.set_cons_zero, List.set_cons_succ, i64_w, i32_w]
                    rfl
                  refine one_ (i := 15) (N := some 10) #[true, true, true, true, true, true, true, true, true, true, true, true, true, true, true, true, true, false, false] rfl rfl (one_of HT_.out (by kernel_rfl)) (by decide) (fun K hK => ?_)
                  skip
                  refine box_step ?hg (N := 10) ?hd (cs := #[.slice none 0 0, .slice none 0 0]) (t := 31) ?hr ?_; (case hd => rfl); (case hg => rfl); (case hr => first | (go_simp; done) | (go_simp; rfl))
                  intro g10 hg wq hbox hb
                  have FR5 := Aside0.mk (Fr.box8 FR4.out hg hbox hb)
                  have hS_ := hHeld
                  obtain ⟨s0, s1, s2, s3, s4, s5, s6, s7⟩ := hS_
                  refine hK.out _ _ ⟨pw_cell_below hb s0, pw_cell_below hb s1, pw_cell_below hb s2, pw_cell_below hb s3, pw_cell_below hb s4, pw_cell_below hb s5, pw_cell_below hb s6, pw_cell_below hb s7⟩ (fun hHeld => ?_)
                  clear hK K s0 s1 s2 s3 s4 s5 s6 s7
                  refine norm_ (a' := ?_) ?_ ?_
                  rotate_left
                  · show Act.put _ (some 10) _ = _
                    simp only [Act.put, List.setIfInBounds_toArray, List.set_cons_zero, List.set_cons_succ, i64_w, i32_w]
                    rfl
                  exact norm_ (by simp only [putAll, Act.put, List.setIfInBounds_toArray, List.set_cons_zero, List.set_cons_succ]) (hCont (v0, v1, v6, g10, g11) _ ⟨hHeld, FR5⟩)
              · skip
                refine box_step ?hg (N := 10) ?hd (cs := #[.slice none 0 0, .slice none 0 0]) (t := 31) ?hr ?_; (case hd => rfl); (case hg => rfl); (case hr => first | (go_simp; done) | (go_simp; rfl))
                intro g10 hg wq hbox hb
                have FR6 := Aside0.mk (Fr.box8 FR0.out hg hbox hb)
                have hS_ := hHeld
                obtain ⟨s0, s1, s2, s3, s4, s5, s6, s7⟩ := hS_
                refine hK.out _ _ ⟨pw_cell_below hb s0, pw_cell_below hb s1, pw_cell_below hb s2, pw_cell_below hb s3, pw_cell_below hb s4, pw_cell_below hb s5, pw_cell_below hb s6, pw_cell_below hb s7⟩ (fun hHeld => ?_)
                clear hK K s0 s1 s2 s3 s4 s5 s6 s7
                refine norm_ (a' := ?_) ?_ ?_
                rotate_left
                · show Act.put _ (some 10) _ = _
                  simp only [Act.put, List.setIfInBounds_toArray, List.set_cons_zero, List.set_cons_succ, i64_w, i32_w]
                  rfl
                refine two_ (i := 11) (j := 16) (Ni := some 53) (Nj := some 11) #[true, true, true, true, true, true, true, true, true, true, true, true, false, false, false, true, false, false, false] #[true, true, true, true, true, true, true, true, true, true, true, false, false, false, false, true, true, false, false] rfl rfl rfl rfl (two_of HT_.out (by kernel_rfl)) (by decide) (by decide) (fun K hK => ?_) (fun K hK => ?_)
                · skip
                  refine goes_ Try.func11 (by kernel_rfl) rfl #[.agg #[.slice B0 l.length d0, .slice B1 xs.length d1], .int .i64 y.f0, .agg #[.int .i64 y.f1.f0, .int .i64 y.f1.f1, .int .i64 y.f1.f2, .int .i64 y.f1.f3, .int .i64 y.f1.f4]] (by rfl) rfl rfl (by (try simp only [List.map_toArray, List.map_cons, List.map_nil]); first | done | rfl) ?_
                  refine (CX.out _ FR6.out.b).mono ?_
                  rintro e_ wq ⟨v0, v1, v6, rfl, hv0, hv1, hv6, hb⟩
                  have FR7 := Aside0.mk (Fr.call FR6.out hb HN.out hv0 hv1 hv6)
                  refine ⟨_, rfl, ?_⟩
                  have hS_ := hHeld
                  obtain ⟨s0, s1, s2, s3, s4, s5, s6, s7⟩ := hS_
                  refine hK.out _ _ ⟨pw_cell_below hb s0, pw_cell_below hb s1, pw_cell_below hb s2, pw_cell_below hb s3, pw_cell_below hb s4, pw_cell_below hb s5, pw_cell_below hb s6, pw_cell_below hb s7⟩ (fun hHeld => ?_)
                  clear hK K s0 s1 s2 s3 s4 s5 s6 s7
                  refine norm_ (a' := ?_) ?_ ?_
                  rotate_left
                  · show Act.put _ (some 53) _ = _
                    simp only [Act.put, List.setIfInBounds_toArray, List.set_cons_zero, List.set_cons_succ, i64_w, i32_w]
                    rfl
                  refine pure_ (i := 12) (N := some 41) (v := ?_) (a' := ?_) #[true, true, true, true, true, true, true, true, true, true, true, true, true, false, false, true, false, false, false] rfl rfl (any_of HT_.out (by kernel_rfl)) (fun _ _ _ h => h) (Or.inl ⟨by rfl, ?_⟩) ?_ ?_
                  rotate_left
                  · intro w'
                    go_simp
                    with_reducible rfl
                  rotate_left
                  · simp only [Act.put, List.setIfInBounds_toArray, List.set_cons_zero, List.set_cons_succ, i64_w, i32_w]
                    rfl
                  refine pure_ (i := 13) (N := some 54) (v := ?_) (a' := ?_) #[true, true, true, true, true, true, true, true, true, true, true, true, true, true, false, true, false, false, false] rfl rfl (any_of HT_.out (by kernel_rfl)) (fun _ _ _ h => h) (Or.inl ⟨by rfl, ?_⟩) ?_ ?_
                  rotate_left
                  · intro w'
                    go_simp
                    with_reducible rfl
                  rotate_left
                  · simp only [Act.put, List.setIfInBounds_toArray, List.set_cons_zero, List.set_cons_succ, i64_w, i32_w]
                    rfl
                  refine pure_ (i := 14) (N := some 55) (v := ?_) (a' := ?_) #[true, true, true, true, true, true, true, true, true, true, true, true, true, true, true, true, false, false, false] rfl rfl (any_of HT_.out (by kernel_rfl)) (fun _ _ _ h => h) (Or.inl ⟨by rfl, ?_⟩) ?_ ?_
                  rotate_left
                  · intro w'
                    go_simp
                    with_reducible rfl
                  rotate_left
                  · simp only [Act.put, List.setIfInBounds_toArray, List.set_cons_zero, List.set_cons_succ, i64_w, i32_w]
                    rfl
                  refine one_ (i := 16) (N := some 11) #[true, true, true, true, true, true, true, true, true, true, true, true, true, true, true, true, true, false, false] rfl rfl (one_of HT_.out (by kernel_rfl)) (by decide) (fun K hK => ?_)
                  skip
                  refine box_step ?hg (N := 11) ?hd (cs := #[.int .i64 0, .int .i64 0, .int .i64 0, .int .i64 0, .slice none 0 0]) (t := 34) ?hr ?_; (case hd => rfl); (case hg => rfl); (case hr => first | (go_simp; done) | (go_simp; rfl))
                  intro g11 hg wq hbox hb
                  have FR8 := Aside0.mk (Fr.box9 FR7.out hg hbox hb)
                  have hS_ := hHeld
                  obtain ⟨s0, s1, s2, s3, s4, s5, s6, s7⟩ := hS_
                  refine hK.out _ _ ⟨pw_cell_below hb s0, pw_cell_below hb s1, pw_cell_below hb s2, pw_cell_below hb s3, pw_cell_below hb s4, pw_cell_below hb s5, pw_cell_below hb s6, pw_cell_below hb s7⟩ (fun hHeld => ?_)
                  clear hK K s0 s1 s2 s3 s4 s5 s6 s7
                  refine norm_ (a' := ?_) ?_ ?_
                  rotate_left
                  · show Act.put _ (some 11) _ = _
                    simp only [Act.put, List.setIfInBounds_toArray, List.set_cons_zero, List.set_cons_succ, i64_w, i32_w]
                    rfl
                  exact norm_ (by simp only [putAll, Act.put, List.setIfInBounds_toArray, List.set_cons_zero, List.set_cons_succ]) (hCont (v0, v1, v6, g10, g11) _ ⟨hHeld, FR8⟩)
                · skip
                  refine box_step ?hg (N := 11) ?hd (cs := #[.int .i64 0, .int .i64 0, .int .i64 0, .int .i64 0, .slice none 0 0]) (t := 34) ?hr ?_; (case hd => rfl); (case hg => rfl); (case hr => first | (go_simp; done) | (go_simp; rfl))
                  intro g11 hg wq hbox hb
                  have FR9 := Aside0.mk (Fr.box9 FR6.out hg hbox hb)
                  have hS_ := hHeld
                  obtain ⟨s0, s1, s2, s3, s4, s5, s6, s7⟩ := hS_
                  refine hK.out _ _ ⟨pw_cell_below hb s0, pw_cell_below hb s1, pw_cell_below hb s2, pw_cell_below hb s3, pw_cell_below hb s4, pw_cell_below hb s5, pw_cell_below hb s6, pw_cell_below hb s7⟩ (fun hHeld => ?_)
                  clear hK K s0 s1 s2 s3 s4 s5 s6 s7
                  refine norm_ (a' := ?_) ?_ ?_
                  rotate_left
                  · show Act.put _ (some 11) _ = _
                    simp only [Act.put, List.setIfInBounds_toArray, List.set_cons_zero, List.set_cons_succ, i64_w, i32_w]
                    rfl
                  refine one_ (i := 11) (N := some 53) #[true, true, true, true, true, true, true, true, true, true, true, true, false, false, false, true, true, false, false] rfl rfl (one_of HT_.out (by kernel_rfl)) (by decide) (fun K hK => ?_)
                  skip
                  refine goes_ Try.func11 (by kernel_rfl) rfl #[.agg #[.slice B0 l.length d0, .slice B1 xs.length d1], .int .i64 y.f0, .agg #[.int .i64 y.f1.f0, .int .i64 y.f1.f1, .int .i64 y.f1.f2, .int .i64 y.f1.f3, .int .i64 y.f1.f4]] (by rfl) rfl rfl (by (try simp only [List.map_toArray, List.map_cons, List.map_nil]); first | done | rfl) ?_
                  refine (CX.out _ FR9.out.b).mono ?_
                  rintro e_ wq ⟨v0, v1, v6, rfl, hv0, hv1, hv6, hb⟩
                  have FR10 := Aside0.mk (Fr.call FR9.out hb HN.out hv0 hv1 hv6)
                  refine ⟨_, rfl, ?_⟩
                  have hS_ := hHeld
                  obtain ⟨s0, s1, s2, s3, s4, s5, s6, s7⟩ := hS_
                  refine hK.out _ _ ⟨pw_cell_below hb s0, pw_cell_below hb s1, pw_cell_below hb s2, pw_cell_below hb s3, pw_cell_below hb s4, pw_cell_below hb s5, pw_cell_below hb s6, pw_cell_below hb s7⟩ (fun hHeld => ?_)
                  clear hK K s0 s1 s2 s3 s4 s5 s6 s7
                  refine norm_ (a' := ?_) ?_ ?_
                  rotate_left
                  · show Act.put _ (some 53) _ = _
                    simp only [Act.put, List.setIfInBounds_toArray, List.set_cons_zero, List.set_cons_succ, i64_w, i32_w]
                    rfl
                  refine pure_ (i := 12) (N := some 41) (v := ?_) (a' := ?_) #[true, true, true, true, true, true, true, true, true, true, true, true, true, false, false, true, true, false, false] rfl rfl (any_of HT_.out (by kernel_rfl)) (fun _ _ _ h => h) (Or.inl ⟨by rfl, ?_⟩) ?_ ?_
                  rotate_left
                  · intro w'
                    go_simp
                    with_reducible rfl
                  rotate_left
                  · simp only [Act.put, List.setIfInBounds_toArray, List.set_cons_zero, List.set_cons_succ, i64_w, i32_w]
                    rfl
                  refine pure_ (i := 13) (N := some 54) (v := ?_) (a' := ?_) #[true, true, true, true, true, true, true, true, true, true, true, true, true, true, false, true, true, false, false] rfl rfl (any_of HT_.out (by kernel_rfl)) (fun _ _ _ h => h) (Or.inl ⟨by rfl, ?_⟩) ?_ ?_
                  rotate_left
                  · intro w'
                    go_simp
                    with_reducible rfl
                  rotate_left
                  · simp only [Act.put, List.setIfInBounds_toArray, List.set_cons_zero, List.set_cons_succ, i64_w, i32_w]
                    rfl
                  refine pure_ (i := 14) (N := some 55) (v := ?_) (a' := ?_) #[true, true, true, true, true, true, true, true, true, true, true, true, true, true, true, true, true, false, false] rfl rfl (any_of HT_.out (by kernel_rfl)) (fun _ _ _ h => h) (Or.inl ⟨by rfl, ?_⟩) ?_ ?_
                  rotate_left
                  · intro w'
                    go_simp
                    with_reducible rfl
                  rotate_left
                  · simp only [Act.put, List.setIfInBounds_toArray, List.set_cons_zero, List.set_cons_succ, i64_w, i32_w]
                    rfl
                  exact norm_ (by simp only [putAll, Act.put, List.setIfInBounds_toArray, List.set_cons_zero, List.set_cons_succ]) (hCont (v0, v1, v6, g10, g11) _ ⟨hHeld, FR10⟩)
              · skip
                refine box_step ?hg (N := 11) ?hd (cs := #[.int .i64 0, .int .i64 0, .int .i64 0, .int .i64 0, .slice none 0 0]) (t := 34) ?hr ?_; (case hd => rfl); (case hg => rfl); (case hr => first | (go_simp; done) | (go_simp; rfl))
                intro g11 hg wq hbox hb
                have FR11 := Aside0.mk (Fr.box9 FR0.out hg hbox hb)
                have hS_ := hHeld
                obtain ⟨s0, s1, s2, s3, s4, s5, s6, s7⟩ := hS_
                refine hK.out _ _ ⟨pw_cell_below hb s0, pw_cell_below hb s1, pw_cell_below hb s2, pw_cell_below hb s3, pw_cell_below hb s4, pw_cell_below hb s5, pw_cell_below hb s6, pw_cell_below hb s7⟩ (fun hHeld => ?_)
                clear hK K s0 s1 s2 s3 s4 s5 s6 s7
                refine norm_ (a' := ?_) ?_ ?_
                rotate_left
                · show Act.put _ (some 11) _ = _
                  simp only [Act.put, List.setIfInBounds_toArray, List.set_cons_zero, List.set_cons_succ, i64_w, i32_w]
                  rfl
                refine two_ (i := 11) (j := 15) (Ni := some 53) (Nj := some 10) #[true, true, true, true, true, true, true, true, true, true, true, true, false, false, false, false, true, false, false] #[true, true, true, true, true, true, true, true, true, true, true, false, false, false, false, true, true, false, false] rfl rfl rfl rfl (two_of HT_.out (by kernel_rfl)) (by decide) (by decide) (fun K hK => ?_) (fun K hK => ?_)
                · skip
                  refine goes_ Try.func11 (by kernel_rfl) rfl #[.agg #[.slice B0 l.length d0, .slice B1 xs.length d1], .int .i64 y.f0, .agg #[.int .i64 y.f1.f0, .int .i64 y.f1.f1, .int .i64 y.f1.f2, .int .i64 y.f1.f3, .int .i64 y.f1.f4]] (by rfl) rfl rfl (by (try simp only [List.map_toArray, List.map_cons, List.map_nil]); first | done | rfl) ?_
                  refine (CX.out _ FR11.out.b).mono ?_
                  rintro e_ wq ⟨v0, v1, v6, rfl, hv0, hv1, hv6, hb⟩
                  have FR12 := Aside0.mk (Fr.call FR11.out hb HN.out hv0 hv1 hv6)
                  refine ⟨_, rfl, ?_⟩
                  have hS_ := hHeld
                  obtain ⟨s0, s1, s2, s3, s4, s5, s6, s7⟩ := hS_
                  refine hK.out _ _ ⟨pw_cell_below hb s0, pw_cell_below hb s1, pw_cell_below hb s2, pw_cell_below hb s3, pw_cell_below hb s4, pw_cell_below hb s5, pw_cell_below hb s6, pw_cell_below hb s7⟩ (fun hHeld => ?_)
                  clear hK K s0 s1 s2 s3 s4 s5 s6 s7
                  refine norm_ (a' := ?_) ?_ ?_
                  rotate_left
                  · show Act.put _ (some 53) _ = _
                    simp only [Act.put, List.setIfInBounds_toArray, List.set_cons_zero, List.set_cons_succ, i64_w, i32_w]
                    rfl
                  refine pure_ (i := 12) (N := some 41) (v := ?_) (a' := ?_) #[true, true, true, true, true, true, true, true, true, true, true, true, true, false, false, false, true, false, false] rfl rfl (any_of HT_.out (by kernel_rfl)) (fun _ _ _ h => h) (Or.inl ⟨by rfl, ?_⟩) ?_ ?_
                  rotate_left
                  · intro w'
                    go_simp
                    with_reducible rfl
                  rotate_left
                  · simp only [Act.put, List.setIfInBounds_toArray, List.set_cons_zero, List.set_cons_succ, i64_w, i32_w]
                    rfl
                  refine pure_ (i := 13) (N := some 54) (v := ?_) (a' := ?_) #[true, true, true, true, true, true, true, true, true, true, true, true, true, true, false, false, true, false, false] rfl rfl (any_of HT_.out (by kernel_rfl)) (fun _ _ _ h => h) (Or.inl ⟨by rfl, ?_⟩) ?_ ?_
                  rotate_left
                  · intro w'
                    go_simp
                    with_reducible rfl
                  rotate_left
                  · simp only [Act.put, List.setIfInBounds_toArray, List.set_cons_zero, List.set_cons_succ, i64_w, i32_w]
                    rfl
                  refine pure_ (i := 14) (N := some 55) (v := ?_) (a' := ?_) #[true, true, true, true, true, true, true, true, true, true, true, true, true, true, true, false, true, false, false] rfl rfl (any_of HT_.out (by kernel_rfl)) (fun _ _ _ h => h) (Or.inl ⟨by rfl, ?_⟩) ?_ ?_
                  rotate_left
                  · intro w'
                    go_simp
                    with_reducible rfl
                  rotate_left
                  · simp only [Act.put, List.setIfInBounds_toArray, List.set_cons_zero, List.set_cons_succ, i64_w, i32_w]
                    rfl
                  refine one_ (i := 15) (N := some 10) #[true, true, true, true, true, true, true, true, true, true, true, true, true, true, true, true, true, false, false] rfl rfl (one_of HT_.out (by kernel_rfl)) (by decide) (fun K hK => ?_)
                  skip
                  refine box_step ?hg (N := 10) ?hd (cs := #[.slice none 0 0, .slice none 0 0]) (t := 31) ?hr ?_; (case hd => rfl); (case hg => rfl); (case hr => first | (go_simp; done) | (go_simp; rfl))
                  intro g10 hg wq hbox hb
                  have FR13 := Aside0.mk (Fr.box8 FR12.out hg hbox hb)
                  have hS_ := hHeld
                  obtain ⟨s0, s1, s2, s3, s4, s5, s6, s7⟩ := hS_
                  refine hK.out _ _ ⟨pw_cell_below hb s0, pw_cell_below hb s1, pw_cell_below hb s2, pw_cell_below hb s3, pw_cell_below hb s4, pw_cell_below hb s5, pw_cell_below hb s6, pw_cell_below hb s7⟩ (fun hHeld => ?_)
                  clear hK K s0 s1 s2 s3 s4 s5 s6 s7
                  refine norm_ (a' := ?_) ?_ ?_
                  rotate_left
                  · show Act.put _ (some 10) _ = _
                    simp only [Act.put, List.setIfInBounds_toArray, List.set_cons_zero, List.set_cons_succ, i64_w, i32_w]
                    rfl
                  exact norm_ (by simp only [putAll, Act.put, List.setIfInBounds_toArray, List.set_cons_zero, List.set_cons_succ]) (hCont (v0, v1, v6, g10, g11) _ ⟨hHeld, FR13⟩)
                · skip
                  refine box_step ?hg (N := 10) ?hd (cs := #[.slice none 0 0, .slice none 0 0]) (t := 31) ?hr ?_; (case hd => rfl); (case hg => rfl); (case hr => first | (go_simp; done) | (go_simp; rfl))
                  intro g10 hg wq hbox hb
                  have FR14 := Aside0.mk (Fr.box8 FR11.out hg hbox hb)
                  have hS_ := hHeld
                  obtain ⟨s0, s1, s2, s3, s4, s5, s6, s7⟩ := hS_
                  refine hK.out _ _ ⟨pw_cell_below hb s0, pw_cell_below hb s1, pw_cell_below hb s2, pw_cell_below hb s3, pw_cell_below hb s4, pw_cell_below hb s5, pw_cell_below hb s6, pw_cell_below hb s7⟩ (fun hHeld => ?_)
                  clear hK K s0 s1 s2 s3 s4 s5 s6 s7
                  refine norm_ (a' := ?_) ?_ ?_
                  rotate_left
                  · show Act.put _ (some 10) _ = _
                    simp only [Act.put, List.setIfInBounds_toArray, List.set_cons_zero, List.set_cons_succ, i64_w, i32_w]
                    rfl
                  refine one_ (i := 11) (N := some 53) #[true, true, true, true, true, true, true, true, true, true, true, true, false, false, false, true, true, false, false] rfl rfl (one_of HT_.out (by kernel_rfl)) (by decide) (fun K hK => ?_)
                  skip
                  refine goes_ Try.func11 (by kernel_rfl) rfl #[.agg #[.slice B0 l.length d0, .slice B1 xs.length d1], .int .i64 y.f0, .agg #[.int .i64 y.f1.f0, .int .i64 y.f1.f1, .int .i64 y.f1.f2, .int .i64 y.f1.f3, .int .i64 y.f1.f4]] (by rfl) rfl rfl (by (try simp only [List.map_toArray, List.map_cons, List.map_nil]); first | done | rfl) ?_
                  refine (CX.out _ FR14.out.b).mono ?_
                  rintro e_ wq ⟨v0, v1, v6, rfl, hv0, hv1, hv6, hb⟩
                  have FR15 := Aside0.mk (Fr.call FR14.out hb HN.out hv0 hv1 hv6)
                  refine ⟨_, rfl, ?_⟩
                  have hS_ := hHeld
                  obtain ⟨s0, s1, s2, s3, s4, s5, s6, s7⟩ := hS_
                  refine hK.out _ _ ⟨pw_cell_below hb s0, pw_cell_below hb s1, pw_cell_below hb s2, pw_cell_below hb s3, pw_cell_below hb s4, pw_cell_below hb s5, pw_cell_below hb s6, pw_cell_below hb s7⟩ (fun hHeld => ?_)
                  clear hK K s0 s1 s2 s3 s4 s5 s6 s7
                  refine norm_ (a' := ?_) ?_ ?_
                  rotate_left
                  · show Act.put _ (some 53) _ = _
                    simp only [Act.put, List.setIfInBounds_toArray, List.set_cons_zero, List.set_cons_succ, i64_w, i32_w]
                    rfl
                  refine pure_ (i := 12) (N := some 41) (v := ?_) (a' := ?_) #[true, true, true, true, true, true, true, true, true, true, true, true, true, false, false, true, true, false, false] rfl rfl (any_of HT_.out (by kernel_rfl)) (fun _ _ _ h => h) (Or.inl ⟨by rfl, ?_⟩) ?_ ?_
                  rotate_left
                  · intro w'
                    go_simp
                    with_reducible rfl
                  rotate_left
                  · simp only [Act.put, List.setIfInBounds_toArray, List.set_cons_zero, List.set_cons_succ, i64_w, i32_w]
                    rfl
                  refine pure_ (i := 13) (N := some 54) (v := ?_) (a' := ?_) #[true, true, true, true, true, true, true, true, true, true, true, true, true, true, false, true, true, false, false] rfl rfl (any_of HT_.out (by kernel_rfl)) (fun _ _ _ h => h) (Or.inl ⟨by rfl, ?_⟩) ?_ ?_
                  rotate_left
                  · intro w'
                    go_simp
                    with_reducible rfl
                  rotate_left
                  · simp only [Act.put, List.setIfInBounds_toArray, List.set_cons_zero, List.set_cons_succ, i64_w, i32_w]
                    rfl
                  refine pure_ (i := 14) (N := some 55) (v := ?_) (a' := ?_) #[true, true, true, true, true, true, true, true, true, true, true, true, true, true, true, true, true, false, false] rfl rfl (any_of HT_.out (by kernel_rfl)) (fun _ _ _ h => h) (Or.inl ⟨by rfl, ?_⟩) ?_ ?_
                  rotate_left
                  · intro w'
                    go_simp
                    with_reducible rfl
                  rotate_left
                  · simp only [Act.put, List.setIfInBounds_toArray, List.set_cons_zero, List.set_cons_succ, i64_w, i32_w]
                    rfl
                  exact norm_ (by simp only [putAll, Act.put, List.setIfInBounds_toArray, List.set_cons_zero, List.set_cons_succ]) (hCont (v0, v1, v6, g10, g11) _ ⟨hHeld, FR15⟩)
            rintro ⟨v0, v1, v6, g10, g11⟩ wj ⟨hHeld, FJ⟩
            obtain ⟨W0, W1, W6⟩ := FJ.out.hc _ rfl
            obtain ⟨A8_, c8_, e8⟩ := Kd.V_slice W0
            obtain ⟨A9_, c9_, e9⟩ := Kd.V_slice W1
            obtain ⟨A6_, c6_, e6⟩ := Kd.V_slice W6
            subst e8 e9 e6
            have h8 := (FJ.out.h8 _ rfl).1
            have h9 := (FJ.out.h9 _ rfl).1
            have n1 := FJ.out.ne _ _ rfl rfl
            have n2 : ¬ g11 = g10 := fun e => n1 e.symm
            clear W0 W1 W6
            have z0 := (blk_cell h8 0).trans rfl
            have z1 := (blk_cell h8 1).trans rfl
            have zf0 := blk_frozen h8 0
            have zf1 := blk_frozen h8 1
            have u0 := (blk_cell h9 0).trans rfl
            have u1 := (blk_cell h9 1).trans rfl
            have u2 := (blk_cell h9 2).trans rfl
            have u3 := (blk_cell h9 3).trans rfl
            have u4 := (blk_cell h9 4).trans rfl
            have uf0 := blk_frozen h9 0
            have uf1 := blk_frozen h9 1
            have uf2 := blk_frozen h9 2
            have uf3 := blk_frozen h9 3
            have uf4 := blk_frozen h9 4
            clear h8 h9
            refine norm_ (a' := ?_) ?_ ?_
            rotate_left
            · simp only [putAll, Act.put, List.setIfInBounds_toArray, List.set_cons_zero, List.set_cons_succ]
              rfl
            refine last_ (i := 17) (N := none) #[true, true, true, true, true, true, true, true, true, true, true, true, true, true, true, true, true, true, false] rfl rfl (one_of HT_.out (by kernel_rfl)) (by decide) (fun K hK => ?_)
            refine skip_ (w1 := ?_) (by rfl) rfl ?_ ?_
            rotate_left
            · go_simp
              with_reducible rfl
            refine hK.out _ _ ?_
            clear hK K
            refine last_ (i := 18) (N := none) #[true, true, true, true, true, true, true, true, true, true, true, true, true, true, true, true, true, true, true] rfl rfl (one_of HT_.out (by kernel_rfl)) (by decide) (fun K hK => ?_)
            refine skip_ (w1 := ?_) (by rfl) rfl ?_ ?_
            rotate_left
            · go_simp
              with_reducible rfl
            refine hK.out _ _ ?_
            clear hK K
            refine done_ (done_of HT_.out (by kernel_rfl)) ?_
            go_wp2
            go_meet
            obtain ⟨M1, M2, M3, M4, M5, M6, M7⟩ := ev_end FJ.out BD.out (fun x hx => (Array.getElem?_eq_some_iff.1 (BD.out.at_ x hx)).1)
            have hs := SN.out
            exact ⟨⟨_, _, A8_, c8_, A9_, c9_, A6_, c6_, rfl, rfl, M1, Kd.V_mono M2 (fun k hk => okb_of (LD.out.bx.lt 1 rfl) (LD.out.bx.lt 0 rfl) LD.out.bx.b.size hk.1), Kd.V_mono M3 (fun k hk => okb_of (LD.out.bx.lt 1 rfl) (LD.out.bx.lt 0 rfl) LD.out.bx.b.size hk.1), Kd.V_mono M4 (fun k hk => okb_of (LD.out.bx.lt 1 rfl) (LD.out.bx.lt 0 rfl) LD.out.bx.b.size hk.1), Kd.V_below Y8.out M5, Kd.V_below Y9.out M5, Kd.V_below YA.out M5⟩⟩
          case rest =>
            obtain ⟨ga, gb, B8, d8, B9, d9, B6, d6, rfl, rfl, M1, Q0, Q1, Q2, Q3, Q4, Q5⟩ := hcut.out
            clear hcut s0 s1 p0 p1 p2 p3 p4 p5 HN CX SN LD BD Y8 Y9 YA PP
            have BM := Aside0.mk M1
            have VQ := Aside0.mk (And.intro Q0 (And.intro Q1 (And.intro Q2 (And.intro Q3 (And.intro Q4 Q5)))))
            have u0 := (M1.cell 3 0 rfl).trans rfl
            have u1 := (M1.cell 3 1 rfl).trans rfl
            have v0 := (M1.cell 1 0 rfl).trans rfl
            have v1 := (M1.cell 1 1 rfl).trans rfl
            have s0 := (M1.cell 5 0 rfl).trans rfl
            have s1 := (M1.cell 5 1 rfl).trans rfl
            have sf0 := M1.frz 5 0 rfl
            have sf1 := M1.frz 5 1 rfl
            have t0 := (M1.cell 4 0 rfl).trans rfl
            have t1 := (M1.cell 4 1 rfl).trans rfl
            have tf0 := M1.frz 4 0 rfl
            have tf1 := M1.frz 4 1 rfl
            have m1 : ga ≠ b5 := ne_at M1.ne (i := 1) (j := 5) rfl rfl (by decide)
            have m2 : b6 ≠ b5 := ne_at M1.ne (i := 4) (j := 5) rfl rfl (by decide)
            have m3 : ¬ b5 = ga := fun e => m1 e.symm
            have m4 : ¬ b5 = b6 := fun e => m2 e.symm
            clear M1 Q0 Q1 Q2 Q3 Q4 Q5
            go_upto_region 11 with (fail)
            refine gen2 (Φ := fun X => Bxs w X ([(gb, #[.int .i64 r3, .int .i64 r4, .int .i64 r5, .int .i64 r6, .slice B6 r7.length d6], 34), (ga, #[.slice B8 l'.length d8, .slice B9 xs'.length d9], 31), (g9, #[.int .i64 r3, .int .i64 r4, .int .i64 r5, .int .i64 r6, .slice A6 r7.length c6], 34), (g8, #[.slice A8 l'.length c8, .slice A9 ts'.length c9], 27), (b6, #[.slice B8 l'.length d8, .slice B9 xs'.length d9], 31), (b5, #[.slice A8 l'.length c8, .slice A9 ts'.length c9], 27)] : List Box) ∧ Kd.V k49 49 X 0 (okb w b5 b6) (.slice B8 l'.length d8) l' ∧ Kd.V k61 61 X 0 (okb w b5 b6) (.slice B9 xs'.length d9) xs' ∧ Kd.V k49 49 X 0 (okb w b5 b6) (.slice B6 r7.length d6) r7 ∧ Kd.V k49 49 X 0 (okb w b5 b6) (.slice A8 l'.length c8) l' ∧ Kd.V k62 62 X 0 (okb w b5 b6) (.slice A9 ts'.length c9) ts' ∧ Kd.V k49 49 X 0 (okb w b5 b6) (.slice A6 r7.length c6) r7) ⟨(((BM.out.set 5 0 _ rfl rfl).set 5 1 _ rfl rfl).set 4 0 _ rfl rfl).set 4 1 _ rfl rfl, q4 VQ.out.1, q4 VQ.out.2.1, q4 VQ.out.2.2.1, q4 VQ.out.2.2.2.1, q4 VQ.out.2.2.2.2.1, q4 VQ.out.2.2.2.2.2⟩ ?_
            rintro wr3 ⟨M3, P0, P1, P2, P3, P4, P5⟩
            have BZ := Aside0.mk M3
            have PQ := Aside0.mk (And.intro P0 (And.intro P1 (And.intro P2 (And.intro P3 (And.intro P4 P5)))))
            clear u0 u1 v0 v1 s0 s1 sf0 sf1 t0 t1 tf0 tf1 m1 m2 m3 m4 M3 P0 P1 P2 P3 P4 P5 BM VQ
            have k0 : wr3.drew.cell? ⟨g9, 0, none⟩ = some (.int .i64 r3) := (BZ.out.cell 2 0 rfl).trans rfl
            have k1 : wr3.drew.cell? ⟨g9, 1, none⟩ = some (.int .i64 r4) := (BZ.out.cell 2 1 rfl).trans rfl
            have k2 : wr3.drew.cell? ⟨g9, 2, none⟩ = some (.int .i64 r5) := (BZ.out.cell 2 2 rfl).trans rfl
            have k3 : wr3.drew.cell? ⟨g9, 3, none⟩ = some (.int .i64 r6) := (BZ.out.cell 2 3 rfl).trans rfl
            have k4 : wr3.drew.cell? ⟨g9, 4, none⟩ = some (.slice A6 r7.length c6) := (BZ.out.cell 2 4 rfl).trans rfl
            have k5 : wr3.drew.cell? ⟨gb, 0, none⟩ = some (.int .i64 r3) := (BZ.out.cell 0 0 rfl).trans rfl
            have k6 : wr3.drew.cell? ⟨gb, 1, none⟩ = some (.int .i64 r4) := (BZ.out.cell 0 1 rfl).trans rfl
            have k7 : wr3.drew.cell? ⟨gb, 2, none⟩ = some (.int .i64 r5) := (BZ.out.cell 0 2 rfl).trans rfl
            have k8 : wr3.drew.cell? ⟨gb, 3, none⟩ = some (.int .i64 r6) := (BZ.out.cell 0 3 rfl).trans rfl
            have k9 : wr3.drew.cell? ⟨gb, 4, none⟩ = some (.slice B6 r7.length d6) := (BZ.out.cell 0 4 rfl).trans rfl
            have k10 : wr3.drew.cell? ⟨b5, 0, none⟩ = some (.slice A8 l'.length c8) := (BZ.out.cell 5 0 rfl).trans rfl
            have k11 : wr3.drew.cell? ⟨b5, 1, none⟩ = some (.slice A9 ts'.length c9) := (BZ.out.cell 5 1 rfl).trans rfl
            have k12 : wr3.drew.cell? ⟨b6, 0, none⟩ = some (.slice B8 l'.length d8) := (BZ.out.cell 4 0 rfl).trans rfl
            have k13 : wr3.drew.cell? ⟨b6, 1, none⟩ = some (.slice B9 xs'.length d9) := (BZ.out.cell 4 1 rfl).trans rfl
            have TWD := Aside0.mk (Below.refl wr3.drew.heap.size wr3.drew)
            have LN := Aside0.mk (show LS w wr3.drew b5 b6 A8 c8 A9 c9 B8 d8 B9 d9 l' ts' xs' from ⟨(BZ.out.sub (List.Sublist.cons _ (List.Sublist.cons _ (List.Sublist.cons _ (List.Sublist.cons _ (List.Sublist.refl _)))))).drew, Kd.V_drew PQ.out.2.2.2.1, Kd.V_drew PQ.out.2.2.2.2.1, Kd.V_drew PQ.out.1, Kd.V_drew PQ.out.2.1, EX.out.symm⟩)
            have SW := Aside0.mk (fun W (hb : Below wr3.drew.heap.size wr3.drew W) => deadwoodref09_Same.calls 1000001 r3 r4 r5 r6 A6 c6 r7 r3 r4 r5 r6 B6 d6 r7 true W (Kd.V_reads' (Kd.V_below (Kd.V_drew PQ.out.2.2.2.2.2) hb)).2.2 (Kd.V_reads' PQ.out.2.2.2.2.2).2.1 (Kd.V_reads' (Kd.V_below (Kd.V_drew PQ.out.2.2.1) hb)).2.2 (Kd.V_reads' PQ.out.2.2.1).2.1 (rsame_ans r3 r4 r5 r6 r7 (by have := R7.out; omega)))
            have AW := Aside0.mk (fun W (hb : Below wr3.drew.heap.size wr3.drew W) => as_calls (okb w b5 b6) A8 c8 l' (okb w b5 b6) A9 c9 ts' W (rb (Kd.V_below LN.out.v0 hb)) (rb (Kd.V_below LN.out.v1 hb)) (by have := WF2.out.tl; omega))
            have EW := Aside0.mk (fun W (hb : Below wr3.drew.heap.size wr3.drew W) => same_ew (W := W) EX.out WF2.out (by omega) (Kd.V_below LN.out.v2 hb) (Kd.V_below LN.out.v3 hb))
            clear BZ PQ
            refine start_ (n := 11) (S := fun W' => W'.cell? ⟨g9, 0, none⟩ = some (.int .i64 r3) ∧ W'.cell? ⟨g9, 1, none⟩ = some (.int .i64 r4) ∧ W'.cell? ⟨g9, 2, none⟩ = some (.int .i64 r5) ∧ W'.cell? ⟨g9, 3, none⟩ = some (.int .i64 r6) ∧ W'.cell? ⟨g9, 4, none⟩ = some (.slice A6 r7.length c6) ∧ W'.cell? ⟨gb, 0, none⟩ = some (.int .i64 r3) ∧ W'.cell? ⟨gb, 1, none⟩ = some (.int .i64 r4) ∧ W'.cell? ⟨gb, 2, none⟩ = some (.int .i64 r5) ∧ W'.cell? ⟨gb, 3, none⟩ = some (.int .i64 r6) ∧ W'.cell? ⟨gb, 4, none⟩ = some (.slice B6 r7.length d6) ∧ W'.cell? ⟨b5, 0, none⟩ = some (.slice A8 l'.length c8) ∧ W'.cell? ⟨b5, 1, none⟩ = some (.slice A9 ts'.length c9) ∧ W'.cell? ⟨b6, 0, none⟩ = some (.slice B8 l'.length d8) ∧ W'.cell? ⟨b6, 1, none⟩ = some (.slice B9 xs'.length d9)) (ds := []) #[false, false, false, false, false, false, false, false, false, false, false] (by kernel_rfl) rfl rfl ⟨k0, k1, k2, k3, k4, k5, k6, k7, k8, k9, k10, k11, k12, k13⟩ (fun hHeld => ?_); refine with_tabW md11_tab md11_bits (fun HT_ HW_ => ?_)
            generalize wr3.drew = wd_ at k0 k1 k2 k3 k4 k5 k6 k7 k8 k9 k10 k11 k12 k13 TWD LN SW AW EW hHeld ⊢
            refine take_ (i := 0) (N := some 58) (v := ?_) (a' := ?_) #[true, false, false, false, false, false, false, false, false, false, false] rfl rfl (take_ofW HT_.out HW_.out (by kernel_rfl)) (fun _ _ _ h => h) (Or.inl ⟨by rfl, ?_⟩) hHeld ?_ ?_
            rotate_left
            · rintro w' ⟨s0, s1, s2, s3, s4, s5, s6, s7, s8, s9, s10, s11, s12, s13⟩
              go_simp
              with_reducible rfl
            rotate_left
            · simp only [Act.put, List.setIfInBounds_toArray, List.set_cons_zero, List.set_cons_succ]
              rfl
            refine take_ (i := 1) (N := some 59) (v := ?_) (a' := ?_) #[true, true, false, false, false, false, false, false, false, false, false] rfl rfl (take_ofW HT_.out HW_.out (by kernel_rfl)) (fun _ _ _ h => h) (Or.inl ⟨by rfl, ?_⟩) hHeld ?_ ?_
            rotate_left
            · rintro w' ⟨s0, s1, s2, s3, s4, s5, s6, s7, s8, s9, s10, s11, s12, s13⟩
              go_simp
              with_reducible rfl
            rotate_left
            · simp only [Act.put, List.setIfInBounds_toArray, List.set_cons_zero, List.set_cons_succ]
              rfl
            refine one_ (i := 2) (N := some 60) #[true, true, true, false, false, false, false, false, false, false, false] rfl rfl (one_of HT_.out (by kernel_rfl)) (by decide) (fun K hK => ?_)
            refine goes_ Try.func12 (by kernel_rfl) rfl #[.agg #[.int .i64 r3, .int .i64 r4, .int .i64 r5, .int .i64 r6, .slice A6 r7.length c6], .agg #[.int .i64 r3, .int .i64 r4, .int .i64 r5, .int .i64 r6, .slice B6 r7.length d6]] (by rfl) rfl rfl (by (try simp only [List.map_toArray, List.map_cons, List.map_nil]); first | done | rfl) ?_
            refine (SW.out _ TWD.out).mono ?_
            rintro e_ wq1 ⟨rfl, hb⟩
            have hHeld2 := hHeld
            obtain ⟨t0, t1, t2, t3, t4, t5, t6, t7, t8, t9, t10, t11, t12, t13⟩ := hHeld2
            have HS0_ := pw_cell_below hb t0
            have HS1_ := pw_cell_below hb t1
            have HS2_ := pw_cell_below hb t2
            have HS3_ := pw_cell_below hb t3
            have HS4_ := pw_cell_below hb t4
            have HS5_ := pw_cell_below hb t5
            have HS6_ := pw_cell_below hb t6
            have HS7_ := pw_cell_below hb t7
            have HS8_ := pw_cell_below hb t8
            have HS9_ := pw_cell_below hb t9
            have HS10_ := pw_cell_below hb t10
            have HS11_ := pw_cell_below hb t11
            have HS12_ := pw_cell_below hb t12
            have HS13_ := pw_cell_below hb t13
            have TW1 := Aside0.mk (below_then TWD.out TWD.out.size hb)
            clear hb
            refine ⟨_, rfl, ?_⟩
            refine hK.out _ _ ⟨HS0_, HS1_, HS2_, HS3_, HS4_, HS5_, HS6_, HS7_, HS8_, HS9_, HS10_, HS11_, HS12_, HS13_⟩ (fun hHeld => ?_)
            clear hK K
            refine norm_ (a' := ?_) ?_ ?_
            rotate_left
            · show Act.put _ (some 60) _ = _
              simp only [Act.put, List.setIfInBounds_toArray, List.set_cons_zero, List.set_cons_succ]
              rfl
            refine pure_ (i := 3) (N := some 61) (v := ?_) (a' := ?_) #[true, true, true, true, false, false, false, false, false, false, false] rfl rfl (any_of HT_.out (by kernel_rfl)) (fun _ _ _ h => h) (Or.inl ⟨by rfl, ?_⟩) ?_ ?_
            rotate_left
            · intro w'
              go_simp
              with_reducible rfl
            rotate_left
            · simp only [Act.put, List.setIfInBounds_toArray, List.set_cons_zero, List.set_cons_succ]
              rfl
            refine pure_ (i := 4) (N := some 62) (v := ?_) (a' := ?_) #[true, true, true, true, true, false, false, false, false, false, false] rfl rfl (any_of HT_.out (by kernel_rfl)) (fun _ _ _ h => h) (Or.inl ⟨by rfl, ?_⟩) ?_ ?_
            rotate_left
            · intro w'
              go_simp
              with_reducible rfl
            rotate_left
            · simp only [Act.put, List.setIfInBounds_toArray, List.set_cons_zero, List.set_cons_succ]
              rfl
            refine take_ (i := 5) (N := some 63) (v := ?_) (a' := ?_) #[true, true, true, true, true, true, false, false, false, false, false] rfl rfl (take_ofW HT_.out HW_.out (by kernel_rfl)) (fun _ _ _ h => h) (Or.inl ⟨by rfl, ?_⟩) hHeld ?_ ?_
            rotate_left
            · rintro w' ⟨s0, s1, s2, s3, s4, s5, s6, s7, s8, s9, s10, s11, s12, s13⟩
              go_simp
              with_reducible rfl
            rotate_left
            · simp only [Act.put, List.setIfInBounds_toArray, List.set_cons_zero, List.set_cons_succ]
              rfl
            refine take_ (i := 7) (N := some 65) (v := ?_) (a' := ?_) #[true, true, true, true, true, true, false, true, false, false, false] rfl rfl (take_ofW HT_.out HW_.out (by kernel_rfl)) (fun _ _ _ h => h) (Or.inl ⟨by rfl, ?_⟩) hHeld ?_ ?_
            rotate_left
            · rintro w' ⟨s0, s1, s2, s3, s4, s5, s6, s7, s8, s9, s10, s11, s12, s13⟩
              go_simp
              with_reducible rfl
            rotate_left
            · simp only [Act.put, List.setIfInBounds_toArray, List.set_cons_zero, List.set_cons_succ]
              rfl
            refine one_ (i := 6) (N := some 64) #[true, true, true, true, true, true, true, true, false, false, false] rfl rfl (one_of HT_.out (by kernel_rfl)) (by decide) (fun K hK => ?_)
            refine goes_ Try.func14 (by kernel_rfl) rfl #[.agg #[.slice A8 l'.length c8, .slice A9 ts'.length c9]] (by rfl) rfl rfl (by (try simp only [List.map_toArray, List.map_cons, List.map_nil]); first | done | rfl) ?_
            refine (AW.out _ TW1.out).mono ?_
            rintro e_ wq2 ⟨v0_, v1_, rfl, hv0, hv1, hb⟩
            have hHeld2 := hHeld
            obtain ⟨t0, t1, t2, t3, t4, t5, t6, t7, t8, t9, t10, t11, t12, t13⟩ := hHeld2
            have HS0_ := pw_cell_below hb t0
            have HS1_ := pw_cell_below hb t1
            have HS2_ := pw_cell_below hb t2
            have HS3_ := pw_cell_below hb t3
            have HS4_ := pw_cell_below hb t4
            have HS5_ := pw_cell_below hb t5
            have HS6_ := pw_cell_below hb t6
            have HS7_ := pw_cell_below hb t7
            have HS8_ := pw_cell_below hb t8
            have HS9_ := pw_cell_below hb t9
            have HS10_ := pw_cell_below hb t10
            have HS11_ := pw_cell_below hb t11
            have HS12_ := pw_cell_below hb t12
            have HS13_ := pw_cell_below hb t13
            obtain ⟨E0, f0_, rfl⟩ := Kd.V_slice hv0
            obtain ⟨E1, f1_, rfl⟩ := Kd.V_slice hv1
            have TW2 := Aside0.mk (below_then TW1.out TW1.out.size hb)
            have AV := Aside0.mk (And.intro hv0 hv1)
            clear hv0 hv1 hb
            refine ⟨_, rfl, ?_⟩
            refine hK.out _ _ ⟨HS0_, HS1_, HS2_, HS3_, HS4_, HS5_, HS6_, HS7_, HS8_, HS9_, HS10_, HS11_, HS12_, HS13_⟩ (fun hHeld => ?_)
            clear hK K
            refine norm_ (a' := ?_) ?_ ?_
            rotate_left
            · show Act.put _ (some 64) _ = _
              simp only [Act.put, List.setIfInBounds_toArray, List.set_cons_zero, List.set_cons_succ]
              rfl
            refine one_ (i := 8) (N := some 66) #[true, true, true, true, true, true, true, true, true, false, false] rfl rfl (one_of HT_.out (by kernel_rfl)) (by decide) (fun K hK => ?_)
            refine goes_ Try.func13 (by kernel_rfl) rfl #[.agg #[.slice E0 l'.length f0_, .slice E1 (List.map toX ts').length f1_], .agg #[.slice B8 l'.length d8, .slice B9 xs'.length d9]] (by rfl) rfl rfl (by (try simp only [List.map_toArray, List.map_cons, List.map_nil]); first | done | rfl) ?_
            refine (EW.out wq2 TW2.out E0 f0_ E1 f1_ AV.out.1 AV.out.2).mono ?_
            rintro e_ wq3 ⟨rfl, hb⟩
            have hHeld2 := hHeld
            obtain ⟨t0, t1, t2, t3, t4, t5, t6, t7, t8, t9, t10, t11, t12, t13⟩ := hHeld2
            have HS0_ := pw_cell_below hb t0
            have HS1_ := pw_cell_below hb t1
            have HS2_ := pw_cell_below hb t2
            have HS3_ := pw_cell_below hb t3
            have HS4_ := pw_cell_below hb t4
            have HS5_ := pw_cell_below hb t5
            have HS6_ := pw_cell_below hb t6
            have HS7_ := pw_cell_below hb t7
            have HS8_ := pw_cell_below hb t8
            have HS9_ := pw_cell_below hb t9
            have HS10_ := pw_cell_below hb t10
            have HS11_ := pw_cell_below hb t11
            have HS12_ := pw_cell_below hb t12
            have HS13_ := pw_cell_below hb t13
            have TW3 := Aside0.mk (below_then TW2.out TW2.out.size hb)
            clear hb
            refine ⟨_, rfl, ?_⟩
            refine hK.out _ _ ⟨HS0_, HS1_, HS2_, HS3_, HS4_, HS5_, HS6_, HS7_, HS8_, HS9_, HS10_, HS11_, HS12_, HS13_⟩ (fun hHeld => ?_)
            clear hK K
            refine norm_ (a' := ?_) ?_ ?_
            rotate_left
            · show Act.put _ (some 66) _ = _
              simp only [Act.put, List.setIfInBounds_toArray, List.set_cons_zero, List.set_cons_succ]
              rfl
            refine pure_ (i := 9) (N := some 67) (v := ?_) (a' := ?_) #[true, true, true, true, true, true, true, true, true, true, false] rfl rfl (any_of HT_.out (by kernel_rfl)) (fun _ _ _ h => h) (Or.inl ⟨by rfl, ?_⟩) ?_ ?_
            rotate_left
            · intro w'
              go_simp
              with_reducible rfl
            rotate_left
            · simp only [Act.put, List.setIfInBounds_toArray, List.set_cons_zero, List.set_cons_succ]
              rfl
            refine pure_ (i := 10) (N := some 68) (v := ?_) (a' := ?_) #[true, true, true, true, true, true, true, true, true, true, true] rfl rfl (any_of HT_.out (by kernel_rfl)) (fun _ _ _ h => h) (Or.inl ⟨by rfl, ?_⟩) ?_ ?_
            rotate_left
            · intro w'
              go_simp
              with_reducible rfl
            rotate_left
            · simp only [Act.put, List.setIfInBounds_toArray, List.set_cons_zero, List.set_cons_succ]
              rfl
            refine done_ (done_of HT_.out (by kernel_rfl)) ?_
            go_wp2
            go_roundg (l1.length - (j + 1))
            case measure => omega
            case rel => exact ⟨j + 1, A8, c8, A9, c9, B8, d8, B9, d9, l', ts', xs', by go_num, by omega, ⟨LN.out.below TW3.out⟩, WF2⟩
      · obtain rfl : j = l1.length := by omega
        have q1 : ¬ (l1.length : Int) < (l1.length : Int) := by omega
        go_wp2_with fail
        refine (lives_true _).mono ?_
        rintro e w9 ⟨rfl, hb⟩
        go_wp2
        go_ret
        exact ⟨rfl, below_then LX.out.bx.b LX.out.bx.b.size hb⟩
end Go.Proofs.Ytkkneaefjahihaa.ModL
