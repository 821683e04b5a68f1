import Derived.Test.YtkkneaefjahihaaZModT2
import Derived.Test.YtkkneaefjahihaaZModLt
import Derived.Maps.OwnSet
import Derived.Maps.OwnOps
/- The type of an oper; a place of a list; what is too great. -/
namespace Go.Proofs.Ytkkneaefjahihaa.PModelTold
open Go.RowKit Go.Proofs.YtkkneaefjahihaaW.PrintWords Go.Proofs.YtkkneaefjahihaaW.PrintLast Go.Proofs.YtkkneaefjahihaaW.PrintMore
attribute [local go_sem] max2_int min2_int max_two min_two max_three min_three max_four min_four   -- for this text's walks alone
set_option linter.unusedVariables false
set_option linter.unusedSimpArgs false
/-! #### struct type 77 -/
structure S77 where
  f0 : Int
  f1 : S38
  f2 : S34
  f3 : Int
  f4 : Int
def z77 : S77 := ⟨(0 : Int), z38, z34, (0 : Int), (0 : Int)⟩
def k77 : Kd S77 := Kd.iso (Kd.pair (Kd.int .i64) (Kd.pair k38 (Kd.pair k34 (Kd.pair (Kd.int .i64) (Kd.int .i64))))) (fun x : S77 => (x.f0, x.f1, x.f2, x.f3, x.f4))
theorem k77_open {w : World} {x : S77} {cs : List Value} (h : k77.K w x cs) : ∃ A10 c10, cs = [.int .i64 x.f0, .int .i64 x.f1.f0, .int .i64 x.f1.f1, .int .i64 x.f1.f2, .int .i64 x.f1.f3, .int .i64 x.f1.f4, .int .i64 x.f2.f0, .int .i64 x.f2.f1, .int .i64 x.f2.f2, .int .i64 x.f2.f3, .slice A10 x.f2.f4.length c10, .int .i64 x.f3, .int .i64 x.f4] ∧ x.f2.f4.length ≤ c10 ∧ k49.C w A10 x.f2.f4.length x.f2.f4 := by
  obtain ⟨_, _, rfl, rfl, ⟨_, _, rfl, s1, ⟨_, _, rfl, s6, ⟨_, _, rfl, rfl, rfl⟩⟩⟩⟩ := h
  obtain rfl := k38_open s1
  obtain ⟨A10, c10, rfl, l10, g10⟩ := k34_open s6
  exact ⟨A10, c10, rfl, l10, g10⟩
theorem k77_mk (w : World) (x : S77) {A10 : Option Addr} {c10 : Nat} (l10 : x.f2.f4.length ≤ c10) (g10 : k49.C w A10 x.f2.f4.length x.f2.f4) : k77.K w x [.int .i64 x.f0, .int .i64 x.f1.f0, .int .i64 x.f1.f1, .int .i64 x.f1.f2, .int .i64 x.f1.f3, .int .i64 x.f1.f4, .int .i64 x.f2.f0, .int .i64 x.f2.f1, .int .i64 x.f2.f2, .int .i64 x.f2.f3, .slice A10 x.f2.f4.length c10, .int .i64 x.f3, .int .i64 x.f4] := ⟨[.int .i64 x.f0], [.int .i64 x.f1.f0, .int .i64 x.f1.f1, .int .i64 x.f1.f2, .int .i64 x.f1.f3, .int .i64 x.f1.f4, .int .i64 x.f2.f0, .int .i64 x.f2.f1, .int .i64 x.f2.f2, .int .i64 x.f2.f3, .slice A10 x.f2.f4.length c10, .int .i64 x.f3, .int .i64 x.f4], rfl, rfl, ⟨[.int .i64 x.f1.f0, .int .i64 x.f1.f1, .int .i64 x.f1.f2, .int .i64 x.f1.f3, .int .i64 x.f1.f4], [.int .i64 x.f2.f0, .int .i64 x.f2.f1, .int .i64 x.f2.f2, .int .i64 x.f2.f3, .slice A10 x.f2.f4.length c10, .int .i64 x.f3, .int .i64 x.f4], rfl, (k38_mk w x.f1 ), ⟨[.int .i64 x.f2.f0, .int .i64 x.f2.f1, .int .i64 x.f2.f2, .int .i64 x.f2.f3, .slice A10 x.f2.f4.length c10], [.int .i64 x.f3, .int .i64 x.f4], rfl, (k34_mk w x.f2 l10 g10), ⟨[.int .i64 x.f3], [.int .i64 x.f4], rfl, rfl, rfl⟩⟩⟩⟩
def rd_T77 (xs : List S77) (i : Int) : S77 := xs.getD i.toNat z77
theorem at_T77 {w : World} {A : Option Addr} {n : Nat} {xs : List S77} (h : Kd.C k77 w A n xs) (i : Int) (h0 : 0 ≤ i) (h1 : i < n) : ∃ ad A10 c10, A = some ad ∧ w.cell? (ad.add (i.toNat * 13)) = some (.int .i64 (rd_T77 xs i).f0) ∧ w.cell? ⟨(ad.add (i.toNat * 13)).block, (ad.add (i.toNat * 13)).off + 1, none⟩ = some (.int .i64 (rd_T77 xs i).f1.f0) ∧ w.cell? ⟨(ad.add (i.toNat * 13)).block, (ad.add (i.toNat * 13)).off + 2, none⟩ = some (.int .i64 (rd_T77 xs i).f1.f1) ∧ w.cell? ⟨(ad.add (i.toNat * 13)).block, (ad.add (i.toNat * 13)).off + 3, none⟩ = some (.int .i64 (rd_T77 xs i).f1.f2) ∧ w.cell? ⟨(ad.add (i.toNat * 13)).block, (ad.add (i.toNat * 13)).off + 4, none⟩ = some (.int .i64 (rd_T77 xs i).f1.f3) ∧ w.cell? ⟨(ad.add (i.toNat * 13)).block, (ad.add (i.toNat * 13)).off + 5, none⟩ = some (.int .i64 (rd_T77 xs i).f1.f4) ∧ w.cell? ⟨(ad.add (i.toNat * 13)).block, (ad.add (i.toNat * 13)).off + 6, none⟩ = some (.int .i64 (rd_T77 xs i).f2.f0) ∧ w.cell? ⟨(ad.add (i.toNat * 13)).block, (ad.add (i.toNat * 13)).off + 7, none⟩ = some (.int .i64 (rd_T77 xs i).f2.f1) ∧ w.cell? ⟨(ad.add (i.toNat * 13)).block, (ad.add (i.toNat * 13)).off + 8, none⟩ = some (.int .i64 (rd_T77 xs i).f2.f2) ∧ w.cell? ⟨(ad.add (i.toNat * 13)).block, (ad.add (i.toNat * 13)).off + 9, none⟩ = some (.int .i64 (rd_T77 xs i).f2.f3) ∧ w.cell? ⟨(ad.add (i.toNat * 13)).block, (ad.add (i.toNat * 13)).off + 10, none⟩ = some (.slice A10 (rd_T77 xs i).f2.f4.length c10) ∧ w.cell? ⟨(ad.add (i.toNat * 13)).block, (ad.add (i.toNat * 13)).off + 11, none⟩ = some (.int .i64 (rd_T77 xs i).f3) ∧ w.cell? ⟨(ad.add (i.toNat * 13)).block, (ad.add (i.toNat * 13)).off + 12, none⟩ = some (.int .i64 (rd_T77 xs i).f4) ∧ (rd_T77 xs i).f2.f4.length ≤ c10 ∧ k49.C w A10 (rd_T77 xs i).f2.f4.length (rd_T77 xs i).f2.f4 := by
  obtain ⟨ad, c, e, _, hK, hc0⟩ := Kd.C_get h z77 i h0 h1
  have hc : ∀ j u, c[j]? = some u → w.cell? (ad.add (i.toNat * 13 + j)) = some u := hc0
  obtain ⟨A10, c10, rfl, l10, g10⟩ := k77_open hK
  exact ⟨ad, A10, c10, e, hc 0 _ rfl, by rw [← add_field _ _ 1 (by omega)]; exact hc 1 _ rfl, by rw [← add_field _ _ 2 (by omega)]; exact hc 2 _ rfl, by rw [← add_field _ _ 3 (by omega)]; exact hc 3 _ rfl, by rw [← add_field _ _ 4 (by omega)]; exact hc 4 _ rfl, by rw [← add_field _ _ 5 (by omega)]; exact hc 5 _ rfl, by rw [← add_field _ _ 6 (by omega)]; exact hc 6 _ rfl, by rw [← add_field _ _ 7 (by omega)]; exact hc 7 _ rfl, by rw [← add_field _ _ 8 (by omega)]; exact hc 8 _ rfl, by rw [← add_field _ _ 9 (by omega)]; exact hc 9 _ rfl, by rw [← add_field _ _ 10 (by omega)]; exact hc 10 _ rfl, by rw [← add_field _ _ 11 (by omega)]; exact hc 11 _ rfl, by rw [← add_field _ _ 12 (by omega)]; exact hc 12 _ rfl, l10, g10⟩

/-! ### legal_in: function 37 -/
def legal_in.f (a0 : Int) (a1 : Int) : Option (Bool) := if a0 ≥ 0 then (some (decide (a0 < a1))) else (some false)
set_option maxHeartbeats 8000000 in
set_option maxRecDepth 100000 in
theorem legal_in.calls (a0 : Int) (a1 : Int) (r : Bool) (w : World) (h : legal_in.f a0 a1 = some r) :
    Calls Try.prog 37 #[.int .i64 a0, .int .i64 a1] w fun e w' => e = .returned (.bool r) ∧ Drawn0 w w' := by
  have H : (if a0 ≥ 0 then (some (decide (a0 < a1))) else (some false)) = some r := h
  clear h
  by_cases c3 : a0 ≥ 0
  · rw [if_pos c3] at H
    have c3b0 : decide (0 ≤ a0) = true := decide_eq_true c3
    clear c3
    obtain rfl := Option.some.inj H
    go_enter Try.func37, Try.ntmps37
    go_wp2
    go_ret
    exact ⟨by first | rfl | (simp; done) | (simp [*]; done), by repeat (first | exact Drawn0.refl _ | apply Drawn0.step)⟩
  · rw [if_neg c3] at H
    have c3b0 : decide (0 ≤ a0) = false := decide_eq_false c3
    clear c3
    obtain rfl := Option.some.inj H
    go_enter Try.func37, Try.ntmps37
    go_wp2
    go_ret
    exact ⟨by first | rfl | (simp; done) | (simp [*]; done), by repeat (first | exact Drawn0.refl _ | apply Drawn0.step)⟩

/-! ### deadwoodlaw12_great: function 18 -/
mutual
def deadwoodlaw12_great.l0 : Nat → List (S77) → List Int → Int → Option (Bool)
  | 0, _, _, _ => none
  | k + 1, x0, x1, x5 => if x5 < (x0.length : Int) then (deadwoodlaw12_great.j1 k x0 x1 x5 (decide (x5 < 60))) else (deadwoodlaw12_great.j1 k x0 x1 x5 false)
def deadwoodlaw12_great.j1 : Nat → List (S77) → List Int → Int → Bool → Option (Bool)
  | 0, _, _, _, _ => none
  | k + 1, x0, x1, x5, x13 => if x13 = true then (if 0 ≤ x5 then (if x5 < (x0.length : Int) then (if (((rd_T77 x0 x5).f2.f4).length : Int) > 1500 then (some true) else (deadwoodlaw12_great.l0 k x0 x1 (wrap64 (x5 + 1)))) else (none)) else (none)) else (if (x0.length : Int) > 50 then (some true) else (some (decide ((x1.length : Int) > 60))))
end
def deadwoodlaw12_great.f (k : Nat) (l0 : List (S77)) (l1 : List Int) : Option (Bool) := deadwoodlaw12_great.l0 k l0 l1 0
theorem deadwoodlaw12_great.mono_l : ∀ k, (∀ y0 y1 y2, LeO (deadwoodlaw12_great.l0 k y0 y1 y2) (deadwoodlaw12_great.l0 (k + 1) y0 y1 y2)) ∧ (∀ y0 y1 y2 y3, LeO (deadwoodlaw12_great.j1 k y0 y1 y2 y3) (deadwoodlaw12_great.j1 (k + 1) y0 y1 y2 y3))
  | 0 => ⟨fun _ _ _ r h => by simp [deadwoodlaw12_great.l0] at h, fun _ _ _ _ r h => by simp [deadwoodlaw12_great.j1] at h⟩
  | k + 1 => by
    obtain ⟨ih0, ih1⟩ := deadwoodlaw12_great.mono_l k
    refine ⟨?_, ?_⟩
    · intro y0 y1 y2
      unfold deadwoodlaw12_great.l0
      repeat' first
      | (with_reducible exact ih0 _ _ _)
      | (with_reducible exact ih1 _ _ _ _)
      | (with_reducible exact LeO.refl _)
      | (with_reducible exact LeO.none _)
      | (with_reducible refine LeO.ite ?_ ?_)
      | (with_reducible refine LeO.bind ?_ (fun _ => ?_))
      | exact ih0 _ _ _
      | exact ih1 _ _ _ _
      | exact LeO.none _
      | refine LeO.ite ?_ ?_
      | refine LeO.bind ?_ (fun _ => ?_)
    · intro y0 y1 y2 y3
      unfold deadwoodlaw12_great.j1
      repeat' first
      | (with_reducible exact ih0 _ _ _)
      | (with_reducible exact ih1 _ _ _ _)
      | (with_reducible exact LeO.refl _)
      | (with_reducible exact LeO.none _)
      | (with_reducible refine LeO.ite ?_ ?_)
      | (with_reducible refine LeO.bind ?_ (fun _ => ?_))
      | exact ih0 _ _ _
      | exact ih1 _ _ _ _
      | exact LeO.none _
      | refine LeO.ite ?_ ?_
      | refine LeO.bind ?_ (fun _ => ?_)
theorem deadwoodlaw12_great.mono : ∀ a0 a1 k, LeO (deadwoodlaw12_great.f k a0 a1) (deadwoodlaw12_great.f (k + 1) a0 a1) := by
  intro a0 a1 k
  obtain ⟨ih0, ih1⟩ := deadwoodlaw12_great.mono_l k
  unfold deadwoodlaw12_great.f
  repeat' first
      | (with_reducible exact ih0 _ _ _)
      | (with_reducible exact ih1 _ _ _ _)
      | (with_reducible exact LeO.refl _)
      | (with_reducible exact LeO.none _)
      | (with_reducible refine LeO.ite ?_ ?_)
      | (with_reducible refine LeO.bind ?_ (fun _ => ?_))
      | exact ih0 _ _ _
      | exact ih1 _ _ _ _
      | exact LeO.none _
      | refine LeO.ite ?_ ?_
      | refine LeO.bind ?_ (fun _ => ?_)
set_option maxHeartbeats 8000000 in
set_option maxRecDepth 100000 in
theorem deadwoodlaw12_great.calls (k : Nat) (A0 : Option Addr) (c0 : Nat) (l0 : List (S77)) (A1 : Option Addr) (c1 : Nat) (l1 : List Int) (r : Bool) (w : World) (hr0 : Kd.C k77 w A0 l0.length l0) (hc0 : l0.length ≤ c0) (hr1 : Kd.C (Kd.int .i64) w A1 l1.length l1) (hc1 : l1.length ≤ c1) (h : deadwoodlaw12_great.f k l0 l1 = some r) :
    Calls Try.prog 18 #[.slice A0 l0.length c0, .slice A1 l1.length c1] w fun e w' => e = .returned (.bool r) ∧ Drawn0 w w' := by
  have HR0 := Aside0.mk hr0
  have HC0 := Aside0.mk hc0
  clear hr0 hc0
  have HR1 := Aside0.mk hr1
  have HC1 := Aside0.mk hc1
  clear hr1 hc1
  have H : (deadwoodlaw12_great.l0 k l0 l1 0) = some r := h
  clear h
  have H' := Aside0.mk H
  clear H
  go_enter Try.func18, Try.ntmps18
  go_wp2
  go_loopg [5] k (fun kq v5 w' => ∃ (x5_1 : Int), v5 = .int .i64 x5_1 ∧ Aside0 (deadwoodlaw12_great.l0 kq l0 l1 x5_1 = some r) ∧ Aside0 (kq ≤ k) ∧ Drawn0 w w')
  case atStart => exact ⟨(0), (by first | rfl | (simp; done) | (simp [*]; done)), H', ⟨Nat.le_refl _⟩, by repeat (first | exact Drawn0.refl _ | apply Drawn0.step)⟩
  case round =>
    clear H'
    try clear c1
    try clear p2
    obtain ⟨x5_1, rfl, HA, HK1, ⟨m1, rfl⟩⟩ := hrel
    cases gk with
    | zero => exact absurd HA.out (by simp [deadwoodlaw12_great.l0])
    | succ k1 =>
      have H := HA.out
      clear HA
      simp only [deadwoodlaw12_great.l0] at H
      have HC3 := Aside0.mk H
      clear H
      go_upto_region 2 with (fail)
      go_cut [13] (fun v13 wc => ∃ (kq : Nat) (x13_2 : Bool), v13 = .bool x13_2 ∧ Aside0 (deadwoodlaw12_great.j1 kq l0 l1 x5_1 x13_2 = some r) ∧ Aside0 (kq ≤ k1) ∧ Drawn0 w wc)
      case first =>
        have H := HC3.out
        clear HC3
        by_cases c4 : x5_1 < (l0.length : Int)
        · rw [if_pos c4] at H
          have c4b0 : decide (x5_1 < (l0.length : Int)) = true := decide_eq_true c4
          clear c4
          (first | rw [c4b0] | (simp only [i64_w, i32_w]; rw [c4b0]) | skip)
          have H' := Aside0.mk H
          clear H
          go_wp2
          go_meet
          case rel => exact ⟨_, (decide (x5_1 < 60)), (by first | rfl | (simp; done) | (simp [*]; done)), H', ⟨by have := HK1.out; first | omega | exact Nat.le_refl _⟩, by repeat (first | exact Drawn0.refl _ | apply Drawn0.step)⟩
        · rw [if_neg c4] at H
          have c4b0 : decide (x5_1 < (l0.length : Int)) = false := decide_eq_false c4
          clear c4
          (first | rw [c4b0] | (simp only [i64_w, i32_w]; rw [c4b0]) | skip)
          have H' := Aside0.mk H
          clear H
          go_wp2
          go_meet
          case rel => exact ⟨_, (false), (by first | rfl | (simp; done) | (simp [*]; done)), H', ⟨by have := HK1.out; first | omega | exact Nat.le_refl _⟩, by repeat (first | exact Drawn0.refl _ | apply Drawn0.step)⟩
      case rest =>
        clear HC3
        try clear c1
        try clear p2
        try clear c4
        try clear c4b0
        try clear p2
        obtain ⟨kq, x13_2, rfl, HA, HJ2, ⟨mc2, rfl⟩⟩ := hcut
        cases kq with
        | zero => exact absurd HA.out (by simp [deadwoodlaw12_great.j1])
        | succ kj2 =>
          have H := HA.out
          clear HA
          simp only [deadwoodlaw12_great.j1] at H
          by_cases c5 : x13_2 = true
          · subst c5
            have H1 : (if 0 ≤ x5_1 then (if x5_1 < (l0.length : Int) then (if (((rd_T77 l0 x5_1).f2.f4).length : Int) > 1500 then (some true) else (deadwoodlaw12_great.l0 kj2 l0 l1 (wrap64 (x5_1 + 1)))) else (none)) else (none)) = some r := by rw [if_pos rfl] at H; exact H
            clear H
            have H := H1
            clear H1
            by_cases c6 : 0 ≤ x5_1
            · rw [if_pos c6] at H
              have c6b0 : decide (0 ≤ x5_1) = true := decide_eq_true c6
              clear c6
              by_cases c7 : x5_1 < (l0.length : Int)
              · rw [if_pos c7] at H
                have c7b0 : decide (x5_1 < (l0.length : Int)) = true := decide_eq_true c7
                clear c7
                by_cases c8 : (((rd_T77 l0 x5_1).f2.f4).length : Int) > 1500
                · rw [if_pos c8] at H
                  have c8b0 : decide (1500 < (((rd_T77 l0 x5_1).f2.f4).length : Int)) = true := decide_eq_true c8
                  have c8b1 : decide (1500 < ((rd_T77 l0 x5_1).f2.f4).length) = true := decide_eq_true (by omega)
                  clear c8
                  obtain rfl := Option.some.inj H
                  have p105 : 0 ≤ (x5_1 : Int) := of_decide_eq_true (by first | (with_reducible assumption) | assumption)
                  have q105 : x5_1 < (l0.length : Int) := of_decide_eq_true (by first | (with_reducible assumption) | assumption)
                  obtain ⟨ad105, A105_10, c105_10, e105, hx105_0, hx105_1, hx105_2, hx105_3, hx105_4, hx105_5, hx105_6, hx105_7, hx105_8, hx105_9, hx105_10, hx105_11, hx105_12, hl105_10, hi105_10⟩ := at_T77 HR0.out x5_1 p105 q105
                  cases e105
                  have HR105_10 := Aside0.mk hi105_10
                  have HC105_10 := Aside0.mk hl105_10
                  clear hi105_10 hl105_10
                  replace p105 := eq_true p105
                  replace q105 := eq_true q105
                  go_wp2
                  go_ret
                  exact ⟨by first | rfl | (simp; done) | (simp [*]; done), by repeat (first | exact Drawn0.refl _ | apply Drawn0.step)⟩
                · rw [if_neg c8] at H
                  have c8b0 : decide (1500 < (((rd_T77 l0 x5_1).f2.f4).length : Int)) = false := decide_eq_false c8
                  have c8b1 : decide (1500 < ((rd_T77 l0 x5_1).f2.f4).length) = false := decide_eq_false (by omega)
                  clear c8
                  have H' := Aside0.mk H
                  clear H
                  have p105 : 0 ≤ (x5_1 : Int) := of_decide_eq_true (by first | (with_reducible assumption) | assumption)
                  have q105 : x5_1 < (l0.length : Int) := of_decide_eq_true (by first | (with_reducible assumption) | assumption)
                  obtain ⟨ad105, A105_10, c105_10, e105, hx105_0, hx105_1, hx105_2, hx105_3, hx105_4, hx105_5, hx105_6, hx105_7, hx105_8, hx105_9, hx105_10, hx105_11, hx105_12, hl105_10, hi105_10⟩ := at_T77 HR0.out x5_1 p105 q105
                  cases e105
                  have HR105_10 := Aside0.mk hi105_10
                  have HC105_10 := Aside0.mk hl105_10
                  clear hi105_10 hl105_10
                  replace p105 := eq_true p105
                  replace q105 := eq_true q105
                  go_wp2
                  go_roundg kj2
                  case measure => have := HK1.out; have := HJ2.out; omega
                  case rel => exact ⟨(wrap64 (x5_1 + 1)), (by first | rfl | (simp; done) | (simp [*]; done)), H', ⟨by have := HK1.out; have := HJ2.out; omega⟩, by repeat (first | exact Drawn0.refl _ | apply Drawn0.step)⟩
              · rw [if_neg c7] at H
                exact absurd H (by simp)
            · rw [if_neg c6] at H
              exact absurd H (by simp)
          · replace c5 := Bool.eq_false_iff.mpr c5
            subst c5
            have H1 : (if (l0.length : Int) > 50 then (some true) else (some (decide ((l1.length : Int) > 60)))) = some r := by rw [if_neg (show ¬ (false = true) by decide)] at H; exact H
            clear H
            have H := H1
            clear H1
            by_cases c9 : (l0.length : Int) > 50
            · rw [if_pos c9] at H
              have c9b0 : decide (50 < (l0.length : Int)) = true := decide_eq_true c9
              have c9b1 : decide (50 < l0.length) = true := decide_eq_true (by omega)
              clear c9
              obtain rfl := Option.some.inj H
              go_wp2
              go_ret
              exact ⟨by first | rfl | (simp; done) | (simp [*]; done), by repeat (first | exact Drawn0.refl _ | apply Drawn0.step)⟩
            · rw [if_neg c9] at H
              have c9b0 : decide (50 < (l0.length : Int)) = false := decide_eq_false c9
              have c9b1 : decide (50 < l0.length) = false := decide_eq_false (by omega)
              clear c9
              obtain rfl := Option.some.inj H
              go_wp2
              go_ret
              exact ⟨by first | rfl | (simp; done) | (simp [*]; done), by repeat (first | exact Drawn0.refl _ | apply Drawn0.step)⟩

end Go.Proofs.Ytkkneaefjahihaa.PModelTold

/- The state behind an order of opers: the program's. -/
set_option linter.unusedVariables false
set_option linter.unusedSimpArgs false
namespace Go.Proofs.Ytkkneaefjahihaa.Leg
open Go Go.RowKit Go.Proofs.YtkkneaefjahihaaW.PrintWords Go.Proofs.YtkkneaefjahihaaW.PrintLast Go.Proofs.YtkkneaefjahihaaW.PrintMore Go.Proofs.Ytkkneaefjahihaa.PModelTold Go.Proofs.Ytkkneaefjahihaa.GRow Go.Proofs.Ytkkneaefjahihaa.ModRec Go.Proofs.Ytkkneaefjahihaa.Num Go.Proofs.Ytkkneaefjahihaa.Bxs Go.Proofs.Ytkkneaefjahihaa.ModW Go.Proofs.Ytkkneaefjahihaa.ModR Go.Proofs.Ytkkneaefjahihaa.Pure Go.Proofs.Ytkkneaefjahihaa.ModL Go.Proofs.Ytkkneaefjahihaa.ModT Go.Proofs.Ytkkneaefjahihaa.ModLt
/-- The state behind an order. -/
def behF (o : List S77) : List Int → List S49 → List S62 → Option (List S49 × List S62 × Bool)
  | [], l, ts => some (l, ts, true)
  | n :: ns, l, ts => if 0 ≤ n ∧ n < o.length then
      (model_State_Do.f 5000 l ts (rd_T77 o n).f0 (rd_T77 o n).f1.f0 (rd_T77 o n).f1.f1 (rd_T77 o n).f1.f2 (rd_T77 o n).f1.f3 (rd_T77 o n).f1.f4).bind fun r =>
        if (rd_T77 o n).f4 < 0 then behF o ns r.1 r.2.1
        else if toldB (rd_T77 o n).f1.f0 (rd_T77 o n).f2.f0 (rd_T77 o n).f2.f1 (rd_T77 o n).f2.f2 (rd_T77 o n).f2.f3 (rd_T77 o n).f2.f4 r.2.2.1 r.2.2.2.1 r.2.2.2.2.1 r.2.2.2.2.2.1 r.2.2.2.2.2.2 = true then behF o ns (sel (sameA (rd_T77 o n).f2.f0 (rd_T77 o n).f2.f1 (rd_T77 o n).f2.f2 (rd_T77 o n).f2.f3 (rd_T77 o n).f2.f4 r.2.2.1 r.2.2.2.1 r.2.2.2.2.1 r.2.2.2.2.2.1 r.2.2.2.2.2.2) r.1 l) (sel (sameA (rd_T77 o n).f2.f0 (rd_T77 o n).f2.f1 (rd_T77 o n).f2.f2 (rd_T77 o n).f2.f3 (rd_T77 o n).f2.f4 r.2.2.1 r.2.2.2.1 r.2.2.2.2.1 r.2.2.2.2.2.1 r.2.2.2.2.2.2) r.2.1 ts)
        else some ([], [], false)
      else some ([], [], false)
/-- What the walk holds. -/
structure BS (w X : World) (b8 b6 : Nat) (A0 : Option Addr) (c0 : Nat) (A1 : Option Addr) (c1 : Nat) (l : List S49) (ts : List S62) : Prop where
  bx : Bxs w X ([(b8, #[.slice A0 l.length c0, .slice A1 ts.length c1], 27), (b6, #[.slice none 0 0, .slice none 0 0], 27)] : List Box)
  v0 : Kd.V k49 49 X 0 (okb w b8 b6) (.slice A0 l.length c0) l
  v1 : Kd.V k62 62 X 0 (okb w b8 b6) (.slice A1 ts.length c1) ts
theorem BS.below {w X X' : World} {b8 b6 : Nat} {A0 A1 : Option Addr} {c0 c1 : Nat} {l : List S49} {ts : List S62} (h : BS w X b8 b6 A0 c0 A1 c1 l ts) (hb : Below X.heap.size X X') : BS w X' b8 b6 A0 c0 A1 c1 l ts := ⟨h.bx.below hb, Kd.V_below h.v0 hb, Kd.V_below h.v1 hb⟩
theorem okn {w : World} {b8 b6 N k : Nat} (h : b8 < N ∧ b6 < N ∧ w.heap.size ≤ N) (hk : N ≤ k) : okb w b8 b6 k := ⟨by omega, by omega, by omega⟩
theorem okd {w : World} {b8 b6 N k : Nat} (h : b8 < N ∧ b6 < N ∧ w.heap.size ≤ N) (hk : (okb w b8 b6 k ∨ okb w b8 b6 k) ∨ N ≤ k) : okb w b8 b6 k := by
  rcases hk with (hk | hk) | hk
  · exact hk
  · exact hk
  · exact okn h hk
set_option maxHeartbeats 4000000 in
set_option maxRecDepth 100000 in
theorem beh_calls (o : List S77) (Ao : Option Addr) (co : Nat) (od : List Int) (Ad : Option Addr) (cd : Nat) (n : Int) (r1 : List S49) (r2 : List S62) (rb_ : Bool) (w : World) (ho : Kd.C k77 w Ao o.length o) (hd : Kd.C (Kd.int .i64) w Ad od.length od) (hq : ∀ i : Int, (rd_T77 o i).f2.f4.length ≤ 1000000) (hdl : od.length ≤ 60) (H : behF o od [] (List.replicate (sizeN n) z62) = some (r1, r2, rb_)) :
    Calls Try.prog 20 #[.slice Ao o.length co, .slice Ad od.length cd, .int .i64 n] w fun e w' => ∃ v0_ v1_ : Value, e = .returned (.tuple #[.agg #[v0_, v1_], .bool rb_]) ∧ Kd.V k49 49 w' 0 (fun k_ => w.heap.size ≤ k_) v0_ r1 ∧ Kd.V k62 62 w' 0 (fun k_ => w.heap.size ≤ k_) v1_ r2 ∧ Below w.heap.size w w' := by
  have hu27 := Try.underlying27
  have hu38 := Try.underlying38
  have hu34 := Try.underlying34
  have hu77 := Try.underlying77
  have HO := Aside0.mk ho
  have HD := Aside0.mk hd
  have HQ := Aside0.mk hq
  have NW := Aside0.mk (fun W => new_calls n W)
  generalize List.replicate (sizeN n) z62 = ts at NW H
  generalize ([] : List S49) = l at NW H
  have HH := Aside0.mk H
  clear ho hd hq H
  go_enter Try.func20, Try.ntmps20
  go_wp2_with fail
  refine (NW.out _).mono ?_
  rintro e w1 ⟨v0, v1, rfl, V0, V1, hb1⟩
  obtain ⟨A0, c0, rfl⟩ := Kd.V_slice V0
  obtain ⟨A1, c1, rfl⟩ := Kd.V_slice V1
  have N0 := Aside0.mk V0
  have N1 := Aside0.mk V1
  have HB1 := Aside0.mk hb1
  clear V0 V1 hb1
  go_upto_region 2 with (fail)
  refine gen2 (Φ := fun X => BS w X w1.heap.size w.heap.size A0 c0 A1 c1 l ts) ?_ ?_
  · have hs1 := HB1.out.size
    simp only [World.size_alloc] at hs1
    refine ⟨((((Bxs.nil w).box _ 27 rfl).below HB1.out).box _ 27 rfl), ?_, ?_⟩
    · exact Kd.V_mono (rb (Kd.V_alloc (Kd.V_bound N0.out) _)) (fun k hk => ⟨by have h := hk.1; simp only [World.size_alloc] at h; omega, by have := hk.2; omega, by have h := hk.1; simp only [World.size_alloc] at h; omega⟩)
    · exact Kd.V_mono (rb (Kd.V_alloc (Kd.V_bound N1.out) _)) (fun k hk => ⟨by have h := hk.1; simp only [World.size_alloc] at h; omega, by have := hk.2; omega, by have h := hk.1; simp only [World.size_alloc] at h; omega⟩)
  intro X0 HX
  have LX := Aside0.mk HX
  clear HX N0 N1 HB1 NW
  generalize w1.heap.size = b8 at LX ⊢
  obtain ⟨b6, hb6⟩ : ∃ b6, w.heap.size = b6 := ⟨_, rfl⟩
  rw [hb6] at LX ⊢
  have H6 := Aside0.mk hb6
  clear hb6
  go_wp2
  go_loopg [18] od.length (fun kx s18 wr => ∃ (j : Nat) (A0 : Option Addr) (c0 : Nat) (A1 : Option Addr) (c1 : Nat) (l : List S49) (ts : List S62), s18 = .int .i64 j ∧ j + kx = od.length ∧ Aside0 (BS w wr b8 b6 A0 c0 A1 c1 l ts) ∧ Aside0 (behF o (od.drop j) l ts = some (r1, r2, rb_)))
  case atStart => exact ⟨0, A0, c0, A1, c1, l, ts, rfl, by omega, LX, HH⟩
  case round =>
    clear LX HH
    obtain ⟨j, A0, c0, A1, c1, l, ts, rfl, hj, LX, HH⟩ := hrel
    have LB := LX.out.bx
    by_cases hlt : j < od.length
    · have q1 : (j : Int) < (od.length : Int) := by omega
      obtain ⟨ad, rfl, hod⟩ := Kd.at_int HD.out (j : Int) (by omega) (by omega)
      have HH2 := HH.out
      rw [List.drop_eq_getElem_cons hlt] at HH2
      have erd : rd od (j : Int) = od[j] := by unfold rd; rw [Int.toNat_natCast]; simp [List.getD, hlt]
      rw [erd, Int.toNat_natCast] at hod
      generalize od[j] = m at hod HH2
      unfold behF at HH2
      have hod2 := cell_below LB.b hod
      by_cases hm : 0 ≤ m ∧ m < o.length
      · have dm : legal_in.f m (o.length : Int) = some true := by unfold legal_in.f; rw [if_pos hm.1, decide_eq_true hm.2]
        rw [if_pos hm] at HH2
        obtain ⟨ado, Ay, cy, rfl, p0, p1, p2, p3, p4, p5, p6, p7, p8, p9, p10, p11, p12, hcy, hCy⟩ := at_T77 HO.out m hm.1 hm.2
        have QY := HQ.out m
        generalize rd_T77 o m = y at p0 p1 p2 p3 p4 p5 p6 p7 p8 p9 p10 p11 p12 hcy hCy QY HH2
        have FY := Aside0.mk (And.intro hcy (Kd.C_F k49_heap hCy))
        have QL := Aside0.mk QY
        have HH3 := Aside0.mk HH2
        have W3 := Aside0.mk (fun n3 => pw_below_drewN (Below.refl wr.heap.size wr) n3)
        replace p0 := cell_below LB.b p0
        replace p1 := cell_below LB.b p1
        replace p2 := cell_below LB.b p2
        replace p3 := cell_below LB.b p3
        replace p4 := cell_below LB.b p4
        replace p5 := cell_below LB.b p5
        replace p6 := cell_below LB.b p6
        replace p7 := cell_below LB.b p7
        replace p8 := cell_below LB.b p8
        replace p9 := cell_below LB.b p9
        replace p10 := cell_below LB.b p10
        replace p11 := cell_below LB.b p11
        replace p12 := cell_below LB.b p12
        clear hcy hCy QY HH2 hod erd
        have hm0 : 0 ≤ m := hm.1
        have hm1 : m < (o.length : Int) := hm.2
        clear hm
        go_wp2_with fail
        refine (legal_in.calls m o.length true _ dm).mono ?_
        rintro e w3 ⟨rfl, n3, rfl⟩
        go_upto_region 7 with (fail)
        refine gen2 (Φ := fun X => Below wr.heap.size wr X) (W3.out n3) ?_
        intro x3 hb3
        replace p0 := cell_below hb3 p0
        replace p1 := cell_below hb3 p1
        replace p2 := cell_below hb3 p2
        replace p3 := cell_below hb3 p3
        replace p4 := cell_below hb3 p4
        replace p5 := cell_below hb3 p5
        replace p6 := cell_below hb3 p6
        replace p7 := cell_below hb3 p7
        replace p8 := cell_below hb3 p8
        replace p9 := cell_below hb3 p9
        replace p10 := cell_below hb3 p10
        replace p11 := cell_below hb3 p11
        replace p12 := cell_below hb3 p12
        have LX3 := Aside0.mk (LX.out.below hb3)
        clear hb3 hod2 LB LX W3
        go_upto_region 8 with (fail)
        refine gen2 (Φ := fun X => Bxs w X ((x3.heap.size, #[.int .i64 y.f0, .int .i64 y.f1.f0, .int .i64 y.f1.f1, .int .i64 y.f1.f2, .int .i64 y.f1.f3, .int .i64 y.f1.f4, .int .i64 y.f2.f0, .int .i64 y.f2.f1, .int .i64 y.f2.f2, .int .i64 y.f2.f3, .slice Ay y.f2.f4.length cy, .int .i64 y.f3, .int .i64 y.f4], 77) :: [(b8, #[.slice A0 l.length c0, .slice A1 ts.length c1], 27), (b6, #[.slice none 0 0, .slice none 0 0], 27)]) ∧ Below x3.heap.size x3 X) ⟨LX3.out.bx.box _ 77 rfl, below_alloc (Below.refl _ _) _⟩ ?_
        rintro x4 ⟨M, hb4⟩
        have LX4 := Aside0.mk (LX3.out.below hb4)
        have BM := Aside0.mk M
        have FY4 := Aside0.mk (Kd.F_below FY.out.2 M.b)
        have Z4 := Aside0.mk (show b8 < x4.heap.size ∧ b6 < x4.heap.size ∧ w.heap.size ≤ x4.heap.size from ⟨M.lt 1 rfl, M.lt 2 rfl, M.b.size⟩)
        obtain ⟨b11, hb11⟩ : ∃ b, x3.heap.size = b := ⟨_, rfl⟩
        rw [hb11] at M BM ⊢
        clear hb4 hb11 LX3 p0 p1 p2 p3 p4 p5 p6 p7 p8 p9 p10 p11 p12
        have y0 := (M.cell 0 0 rfl).trans rfl
        have y1 := (M.cell 0 1 rfl).trans rfl
        have y2 := (M.cell 0 2 rfl).trans rfl
        have y3 := (M.cell 0 3 rfl).trans rfl
        have y4 := (M.cell 0 4 rfl).trans rfl
        have y5 := (M.cell 0 5 rfl).trans rfl
        have y6 := (M.cell 0 6 rfl).trans rfl
        have y7 := (M.cell 0 7 rfl).trans rfl
        have y8 := (M.cell 0 8 rfl).trans rfl
        have y9 := (M.cell 0 9 rfl).trans rfl
        have y10 := (M.cell 0 10 rfl).trans rfl
        have y11 := (M.cell 0 11 rfl).trans rfl
        have y12 := (M.cell 0 12 rfl).trans rfl
        have s0 := (M.cell 1 0 rfl).trans rfl
        have s1 := (M.cell 1 1 rfl).trans rfl
        clear M
        obtain ⟨⟨g1, g2, g3, g4, g5, g6, g7⟩, hd, HH4⟩ := Option.bind_eq_some_iff.1 HH3.out
        have DD := Aside0.mk hd
        clear hd HH3
        by_cases hto : y.f4 < 0
        · have dto : decide (y.f4 < 0) = true := decide_eq_true hto
          rw [if_pos hto] at HH4
          have HH5 := Aside0.mk HH4
          clear hto HH4
          go_wp2_with fail
          refine (mdo_calls 5000 (okb w b8 b6) A0 c0 l (okb w b8 b6) A1 c1 ts _ _ _ _ _ _ _ _ _ _ _ _ _ _ (rb LX4.out.v0) (rb LX4.out.v1) DD.out).mono ?_
          rintro e w5 ⟨v0, v1, v6, rfl, V0, V1, V6, hb⟩
          obtain ⟨A8, c8, rfl⟩ := Kd.V_slice V0
          obtain ⟨A9, c9, rfl⟩ := Kd.V_slice V1
          obtain ⟨A6, c6, rfl⟩ := Kd.V_slice V6
          have V0b := Aside0.mk (Kd.V_mono (ok' := okb w b8 b6) (rb (b' := 0) V0) (fun k hk => okd Z4.out hk))
          have V1b := Aside0.mk (Kd.V_mono (ok' := okb w b8 b6) (rb (b' := 0) V1) (fun k hk => okd Z4.out hk))
          have M5 := Aside0.mk ((BM.out.below hb).sub (List.sublist_cons_self _ _))
          have M := M5.out
          have z0 := (M.cell 0 0 rfl).trans rfl
          have zf0 := M.frz 0 0 rfl
          have z1 := (M.cell 0 1 rfl).trans rfl
          have zf1 := M.frz 0 1 rfl
          clear M V0 V1 V6 hb BM y0 y1 y2 y3 y4 y5 y6 y7 y8 y9 y10 y11 y12 s0 s1
          go_wp2
          go_roundg (od.length - (j + 1))
          case measure => omega
          case rel => exact ⟨j + 1, A8, c8, A9, c9, g1, g2, by go_num, by omega, ⟨(M5.out.set 0 0 _ rfl rfl).set 0 1 _ rfl rfl, Kd.V_far (Kd.V_far V0b.out (fun k hk => hk.2.1) _) (fun k hk => hk.2.1) _, Kd.V_far (Kd.V_far V1b.out (fun k hk => hk.2.1) _) (fun k hk => hk.2.1) _⟩, HH5⟩
        · have dto : decide (y.f4 < 0) = false := decide_eq_false hto
          rw [if_neg hto] at HH4
          obtain ⟨l2, e1⟩ : ∃ l2, sel (sameA y.f2.f0 y.f2.f1 y.f2.f2 y.f2.f3 y.f2.f4 g3 g4 g5 g6 g7) g1 l = l2 := ⟨_, rfl⟩
          obtain ⟨ts2, e2⟩ : ∃ ts2, sel (sameA y.f2.f0 y.f2.f1 y.f2.f2 y.f2.f3 y.f2.f4 g3 g4 g5 g6 g7) g2 ts = ts2 := ⟨_, rfl⟩
          obtain ⟨tb, e3⟩ : ∃ tb, toldB y.f1.f0 y.f2.f0 y.f2.f1 y.f2.f2 y.f2.f3 y.f2.f4 g3 g4 g5 g6 g7 = tb := ⟨_, rfl⟩
          replace HH4 : (if tb = true then behF o (od.drop (j + 1)) l2 ts2 else some ([], [], false)) = some (r1, r2, rb_) := by
            rw [← e1, ← e2, ← e3]; exact HH4
          have EE := Aside0.mk (And.intro e1 (And.intro e2 e3))
          have HH5 := Aside0.mk HH4
          clear hto HH4 e1 e2 e3
          go_wp2_with fail
          refine (cw_told (okx := okb w b8 b6) (rb LX4.out.v0) (rb LX4.out.v1) (Kd.V_mk (e := 49) FY.out.1 FY4.out) QL.out DD.out EE.out.1 EE.out.2.1 EE.out.2.2).mono ?_
          rintro e w5 ⟨v0, v1, rfl, V0, V1, hb⟩
          obtain ⟨A8, c8, rfl⟩ := Kd.V_slice V0
          obtain ⟨A9, c9, rfl⟩ := Kd.V_slice V1
          have V0b := Aside0.mk (Kd.V_mono (ok' := okb w b8 b6) (rb (b' := 0) V0) (fun k hk => by rcases hk with hk | hk; exact hk; exact okn Z4.out hk))
          have V1b := Aside0.mk (Kd.V_mono (ok' := okb w b8 b6) (rb (b' := 0) V1) (fun k hk => by rcases hk with hk | hk; exact hk; exact okn Z4.out hk))
          have M5 := Aside0.mk ((BM.out.below hb).sub (List.sublist_cons_self _ _))
          clear V0 V1 hb BM y0 y1 y2 y3 y4 y5 y6 y7 y8 y9 y10 y11 y12 s0 s1
          go_upto_region 11 with (fail)
          refine gen2 (Φ := fun X => Bxs w X ((w5.heap.size, #[.slice A8 l2.length c8, .slice A9 ts2.length c9], 27) :: [(b8, #[.slice A0 l.length c0, .slice A1 ts.length c1], 27), (b6, #[.slice none 0 0, .slice none 0 0], 27)]) ∧ Below w5.heap.size w5 X) ⟨M5.out.box _ 27 rfl, below_alloc (Below.refl _ _) _⟩ ?_
          rintro x6 ⟨M, hb6⟩
          have V0c := Aside0.mk (Kd.V_below V0b.out hb6)
          have V1c := Aside0.mk (Kd.V_below V1b.out hb6)
          have M6 := Aside0.mk M
          have M7 := Aside0.mk (M.sub (List.sublist_cons_self _ _))
          clear V0b V1b hb6 M5
          obtain ⟨b12, hb12⟩ : ∃ b, w5.heap.size = b := ⟨_, rfl⟩
          rw [hb12] at M M6 ⊢
          clear hb12
          have y0 := (M.cell 0 0 rfl).trans rfl
          have y1 := (M.cell 0 1 rfl).trans rfl
          have s0 := (M.cell 1 0 rfl).trans rfl
          have sf0 := M.frz 1 0 rfl
          have s1 := (M.cell 1 1 rfl).trans rfl
          have sf1 := M.frz 1 1 rfl
          have z0 := (M.cell 2 0 rfl).trans rfl
          have zf0 := M.frz 2 0 rfl
          have z1 := (M.cell 2 1 rfl).trans rfl
          have zf1 := M.frz 2 1 rfl
          clear M
          cases tb with
          | true =>
            have HH6 := HH5.out
            rw [if_pos rfl] at HH6
            have HH7 := Aside0.mk HH6
            clear HH6 HH5
            go_wp2
            go_roundg (od.length - (j + 1))
            case measure => omega
            case rel => exact ⟨j + 1, A8, c8, A9, c9, l2, ts2, by go_num, by omega, ⟨(M7.out.set 0 0 _ rfl rfl).set 0 1 _ rfl rfl, Kd.V_far (Kd.V_far V0c.out (fun k hk => hk.2.1) _) (fun k hk => hk.2.1) _, Kd.V_far (Kd.V_far V1c.out (fun k hk => hk.2.1) _) (fun k hk => hk.2.1) _⟩, HH7⟩
          | false =>
            have HH6 := HH5.out
            rw [if_neg (by decide)] at HH6
            simp only [Option.some.injEq, Prod.mk.injEq] at HH6
            obtain ⟨rfl, rfl, rfl⟩ := HH6
            have MF := Aside0.mk ((M7.out.set 1 0 (.slice none 0 0) rfl rfl).set 1 1 (.slice none 0 0) rfl rfl)
            go_wp2
            refine bodyPost_ret (results_ct rfl _ _ b6 27 _ (0, 0) _ rfl (MF.out.get 1 rfl) Try.underlying27 rfl (by kernel_rfl)) rfl ?_
            exact ⟨_, _, rfl, Kd.V_nil _ _ _ _ _, Kd.V_nil _ _ _ _ _, MF.out.b⟩
      · have dm : legal_in.f m (o.length : Int) = some false := by
          unfold legal_in.f
          by_cases h0 : m ≥ 0
          · rw [if_pos h0, decide_eq_false (fun h => hm ⟨h0, h⟩)]
          · rw [if_neg h0]
        rw [if_neg hm] at HH2
        simp only [Option.some.injEq, Prod.mk.injEq] at HH2
        obtain ⟨rfl, rfl, rfl⟩ := HH2
        clear hm hod erd
        go_wp2_with fail
        refine (legal_in.calls m o.length false _ dm).mono ?_
        rintro e w3 ⟨rfl, n3, rfl⟩
        have BF := Aside0.mk (LB.below (pw_below_drewN (Below.refl _ _) n3))
        have z0 := (BF.out.cell 1 0 rfl).trans rfl
        have zf0 := BF.out.frz 1 0 rfl
        have z1 := (BF.out.cell 1 1 rfl).trans rfl
        have zf1 := BF.out.frz 1 1 rfl
        have MF := Aside0.mk ((BF.out.set 1 0 (.slice none 0 0) rfl rfl).set 1 1 (.slice none 0 0) rfl rfl)
        clear LB
        go_wp2
        refine bodyPost_ret (results_ct rfl _ _ b6 27 _ (0, 0) _ rfl (MF.out.get 1 rfl) Try.underlying27 rfl (by kernel_rfl)) rfl ?_
        exact ⟨_, _, rfl, Kd.V_nil _ _ _ _ _, Kd.V_nil _ _ _ _ _, MF.out.b⟩
    · obtain rfl : j = od.length := by omega
      have q1 : ¬ (od.length : Int) < (od.length : Int) := by omega
      have HH2 := HH.out
      rw [List.drop_length] at HH2
      unfold behF at HH2
      simp only [Option.some.injEq, Prod.mk.injEq] at HH2
      obtain ⟨rfl, rfl, rfl⟩ := HH2
      have s0 := (LB.cell 0 0 rfl).trans rfl
      have s1 := (LB.cell 0 1 rfl).trans rfl
      have z0 := (LB.cell 1 0 rfl).trans rfl
      have zf0 := LB.frz 1 0 rfl
      have z1 := (LB.cell 1 1 rfl).trans rfl
      have zf1 := LB.frz 1 1 rfl
      have MF := Aside0.mk ((LB.set 1 0 (.slice A0 l.length c0) rfl rfl).set 1 1 (.slice A1 ts.length c1) rfl rfl)
      clear LB
      go_wp2
      refine bodyPost_ret (results_ct rfl _ _ b6 27 _ (0, 0) _ rfl (MF.out.get 1 rfl) Try.underlying27 rfl (by kernel_rfl)) rfl ?_
      exact ⟨_, _, rfl, Kd.V_mono (Kd.V_far (Kd.V_far LX.out.v0 (fun k hk => hk.2.2) _) (fun k hk => hk.2.2) _) (fun k hk => hk.1), Kd.V_mono (Kd.V_far (Kd.V_far LX.out.v1 (fun k hk => hk.2.2) _) (fun k hk => hk.2.2) _) (fun k hk => hk.1), MF.out.b⟩
end Go.Proofs.Ytkkneaefjahihaa.Leg

/- The state behind an order of opers: the document's. -/
set_option linter.unusedVariables false
set_option linter.unusedSimpArgs false
namespace Go.Proofs.Ytkkneaefjahihaa.Leg
open Go Go.RowKit Go.Proofs.YtkkneaefjahihaaW.PrintWords Go.Proofs.YtkkneaefjahihaaW.PrintLast Go.Proofs.YtkkneaefjahihaaW.PrintMore Go.Proofs.Ytkkneaefjahihaa.PModelTold Go.Proofs.Ytkkneaefjahihaa.GRow Go.Proofs.Ytkkneaefjahihaa.ModRec Go.Proofs.Ytkkneaefjahihaa.Num Go.Proofs.Ytkkneaefjahihaa.Bxs Go.Proofs.Ytkkneaefjahihaa.ModW Go.Proofs.Ytkkneaefjahihaa.ModR Go.Proofs.Ytkkneaefjahihaa.Pure Go.Proofs.Ytkkneaefjahihaa.ModL Go.Proofs.Ytkkneaefjahihaa.ModT Go.Proofs.Ytkkneaefjahihaa.ModLt
/-- The state behind an order. -/
def rbehF (o : List S77) : List Int → List S49 → List S61 → Option (List S49 × List S61 × Bool)
  | [], l, ts => some (l, ts, true)
  | n :: ns, l, ts => if 0 ≤ n ∧ n < o.length then
      (rdo 5000 l ts (rd_T77 o n).f0 (rd_T77 o n).f1.f0 (rd_T77 o n).f1.f1 (rd_T77 o n).f1.f2 (rd_T77 o n).f1.f3 (rd_T77 o n).f1.f4).bind fun r =>
        if (rd_T77 o n).f4 < 0 then rbehF o ns r.1 r.2.1
        else if toldB (rd_T77 o n).f1.f0 (rd_T77 o n).f2.f0 (rd_T77 o n).f2.f1 (rd_T77 o n).f2.f2 (rd_T77 o n).f2.f3 (rd_T77 o n).f2.f4 r.2.2.1 r.2.2.2.1 r.2.2.2.2.1 r.2.2.2.2.2.1 r.2.2.2.2.2.2 = true then rbehF o ns (sel (sameA (rd_T77 o n).f2.f0 (rd_T77 o n).f2.f1 (rd_T77 o n).f2.f2 (rd_T77 o n).f2.f3 (rd_T77 o n).f2.f4 r.2.2.1 r.2.2.2.1 r.2.2.2.2.1 r.2.2.2.2.2.1 r.2.2.2.2.2.2) r.1 l) (sel (sameA (rd_T77 o n).f2.f0 (rd_T77 o n).f2.f1 (rd_T77 o n).f2.f2 (rd_T77 o n).f2.f3 (rd_T77 o n).f2.f4 r.2.2.1 r.2.2.2.1 r.2.2.2.2.1 r.2.2.2.2.2.1 r.2.2.2.2.2.2) r.2.1 ts)
        else some ([], [], false)
      else some ([], [], false)
/-- What the walk holds. -/
structure BR (w X : World) (b8 b6 : Nat) (A0 : Option Addr) (c0 : Nat) (A1 : Option Addr) (c1 : Nat) (l : List S49) (ts : List S61) : Prop where
  bx : Bxs w X ([(b8, #[.slice A0 l.length c0, .slice A1 ts.length c1], 31), (b6, #[.slice none 0 0, .slice none 0 0], 31)] : List Box)
  v0 : Kd.V k49 49 X 0 (okb w b8 b6) (.slice A0 l.length c0) l
  v1 : Kd.V k61 61 X 0 (okb w b8 b6) (.slice A1 ts.length c1) ts
theorem BR.below {w X X' : World} {b8 b6 : Nat} {A0 A1 : Option Addr} {c0 c1 : Nat} {l : List S49} {ts : List S61} (h : BR w X b8 b6 A0 c0 A1 c1 l ts) (hb : Below X.heap.size X X') : BR w X' b8 b6 A0 c0 A1 c1 l ts := ⟨h.bx.below hb, Kd.V_below h.v0 hb, Kd.V_below h.v1 hb⟩
theorem oke {w : World} {b8 b6 N Z b12 k : Nat} (h : b8 < N ∧ b6 < N ∧ w.heap.size ≤ N) (h2 : Z ≤ b12 ∧ b12 < N) (hk : ((okb w b8 b6 k ∧ k < Z) ∨ (okb w b8 b6 k ∧ k < Z)) ∨ N ≤ k) : okb w b8 b6 k ∧ k ≠ b12 := by
  rcases hk with (hk | hk) | hk
  · exact ⟨hk.1, by have := hk.2; omega⟩
  · exact ⟨hk.1, by have := hk.2; omega⟩
  · exact ⟨okn h hk, by omega⟩
set_option maxHeartbeats 4000000 in
set_option maxRecDepth 100000 in
theorem rbeh_calls (o : List S77) (Ao : Option Addr) (co : Nat) (od : List Int) (Ad : Option Addr) (cd : Nat) (n : Int) (r1 : List S49) (r2 : List S61) (rb_ : Bool) (w : World) (ho : Kd.C k77 w Ao o.length o) (hd : Kd.C (Kd.int .i64) w Ad od.length od) (hq : ∀ i : Int, (rd_T77 o i).f2.f4.length ≤ 1000000) (hdl : od.length ≤ 60) (H : rbehF o od [] (List.replicate (sizeN n) z61) = some (r1, r2, rb_)) :
    Calls Try.prog 21 #[.slice Ao o.length co, .slice Ad od.length cd, .int .i64 n] w fun e w' => ∃ v0_ v1_ : Value, e = .returned (.tuple #[.agg #[v0_, v1_], .bool rb_]) ∧ Kd.V k49 49 w' 0 (fun k_ => w.heap.size ≤ k_) v0_ r1 ∧ Kd.V k61 61 w' 0 (fun k_ => w.heap.size ≤ k_) v1_ r2 ∧ Below w.heap.size w w' := by
  have hu27 := Try.underlying31
  have hu38 := Try.underlying38
  have hu34 := Try.underlying34
  have hu77 := Try.underlying77
  have HO := Aside0.mk ho
  have HD := Aside0.mk hd
  have HQ := Aside0.mk hq
  have NW := Aside0.mk (fun W => rnew_any n (sizeN n) W (by unfold sizeN; omega) (by unfold sizeN; omega))
  generalize List.replicate (sizeN n) z61 = ts at NW H
  generalize ([] : List S49) = l at NW H
  have HH := Aside0.mk H
  clear ho hd hq H
  go_enter Try.func21, Try.ntmps21
  go_wp2_with fail
  refine (NW.out _).mono ?_
  rintro e w1 ⟨v0, v1, rfl, V0, V1, hb1⟩
  obtain ⟨A0, c0, rfl⟩ := Kd.V_slice V0
  obtain ⟨A1, c1, rfl⟩ := Kd.V_slice V1
  have N0 := Aside0.mk V0
  have N1 := Aside0.mk V1
  have HB1 := Aside0.mk hb1
  clear V0 V1 hb1
  go_upto_region 2 with (fail)
  refine gen2 (Φ := fun X => BR w X w1.heap.size w.heap.size A0 c0 A1 c1 l ts) ?_ ?_
  · have hs1 := HB1.out.size
    simp only [World.size_alloc] at hs1
    refine ⟨((((Bxs.nil w).box _ 31 rfl).below HB1.out).box _ 31 rfl), ?_, ?_⟩
    · exact Kd.V_mono (rb (Kd.V_alloc (Kd.V_bound N0.out) _)) (fun k hk => ⟨by have h := hk.1; simp only [World.size_alloc] at h; omega, by have := hk.2; omega, by have h := hk.1; simp only [World.size_alloc] at h; omega⟩)
    · exact Kd.V_mono (rb (Kd.V_alloc (Kd.V_bound N1.out) _)) (fun k hk => ⟨by have h := hk.1; simp only [World.size_alloc] at h; omega, by have := hk.2; omega, by have h := hk.1; simp only [World.size_alloc] at h; omega⟩)
  intro X0 HX
  have LX := Aside0.mk HX
  clear HX N0 N1 HB1 NW
  generalize w1.heap.size = b8 at LX ⊢
  obtain ⟨b6, hb6⟩ : ∃ b6, w.heap.size = b6 := ⟨_, rfl⟩
  rw [hb6] at LX ⊢
  have H6 := Aside0.mk hb6
  clear hb6
  go_wp2
  go_loopg [9] od.length (fun kx s9 wr => ∃ (j : Nat) (A0 : Option Addr) (c0 : Nat) (A1 : Option Addr) (c1 : Nat) (l : List S49) (ts : List S61), s9 = .int .i64 j ∧ j + kx = od.length ∧ Aside0 (BR w wr b8 b6 A0 c0 A1 c1 l ts) ∧ Aside0 (rbehF o (od.drop j) l ts = some (r1, r2, rb_)))
  case atStart => exact ⟨0, A0, c0, A1, c1, l, ts, rfl, by omega, LX, HH⟩
  case round =>
    clear LX HH
    obtain ⟨j, A0, c0, A1, c1, l, ts, rfl, hj, LX, HH⟩ := hrel
    have LB := LX.out.bx
    by_cases hlt : j < od.length
    · have q1 : (j : Int) < (od.length : Int) := by omega
      obtain ⟨ad, rfl, hod⟩ := Kd.at_int HD.out (j : Int) (by omega) (by omega)
      have HH2 := HH.out
      rw [List.drop_eq_getElem_cons hlt] at HH2
      have erd : rd od (j : Int) = od[j] := by unfold rd; rw [Int.toNat_natCast]; simp [List.getD, hlt]
      rw [erd, Int.toNat_natCast] at hod
      generalize od[j] = m at hod HH2
      unfold rbehF at HH2
      have hod2 := cell_below LB.b hod
      by_cases hm : 0 ≤ m ∧ m < o.length
      · have dm : decide (m < 0) = false := decide_eq_false (by omega)
        have dm2 : decide ((o.length : Int) ≤ m) = false := decide_eq_false (by omega)
        have dm3 : decide (m ≥ (o.length : Int)) = false := decide_eq_false (by omega)
        rw [if_pos hm] at HH2
        obtain ⟨ado, Ay, cy, rfl, p0, p1, p2, p3, p4, p5, p6, p7, p8, p9, p10, p11, p12, hcy, hCy⟩ := at_T77 HO.out m hm.1 hm.2
        have QY := HQ.out m
        generalize rd_T77 o m = y at p0 p1 p2 p3 p4 p5 p6 p7 p8 p9 p10 p11 p12 hcy hCy QY HH2
        have FY := Aside0.mk (And.intro hcy (Kd.C_F k49_heap hCy))
        have QL := Aside0.mk QY
        have HH3 := Aside0.mk HH2
        replace p0 := cell_below LB.b p0
        replace p1 := cell_below LB.b p1
        replace p2 := cell_below LB.b p2
        replace p3 := cell_below LB.b p3
        replace p4 := cell_below LB.b p4
        replace p5 := cell_below LB.b p5
        replace p6 := cell_below LB.b p6
        replace p7 := cell_below LB.b p7
        replace p8 := cell_below LB.b p8
        replace p9 := cell_below LB.b p9
        replace p10 := cell_below LB.b p10
        replace p11 := cell_below LB.b p11
        replace p12 := cell_below LB.b p12
        clear hcy hCy QY HH2 hod erd
        have hm0 : 0 ≤ m := hm.1
        have hm1 : m < (o.length : Int) := hm.2
        clear hm
        go_upto_region 8 with (fail)
        refine gen2 (Φ := fun X => Bxs w X ((wr.heap.size, #[.int .i64 y.f0, .int .i64 y.f1.f0, .int .i64 y.f1.f1, .int .i64 y.f1.f2, .int .i64 y.f1.f3, .int .i64 y.f1.f4, .int .i64 y.f2.f0, .int .i64 y.f2.f1, .int .i64 y.f2.f2, .int .i64 y.f2.f3, .slice Ay y.f2.f4.length cy, .int .i64 y.f3, .int .i64 y.f4], 77) :: [(b8, #[.slice A0 l.length c0, .slice A1 ts.length c1], 31), (b6, #[.slice none 0 0, .slice none 0 0], 31)]) ∧ Below wr.heap.size wr X) ⟨LB.box _ 77 rfl, below_alloc (Below.refl _ _) _⟩ ?_
        rintro x4 ⟨M, hb4⟩
        have LX4 := Aside0.mk (LX.out.below hb4)
        have BM := Aside0.mk M
        have FY4 := Aside0.mk (Kd.F_below FY.out.2 M.b)
        have Z4 := Aside0.mk (show b8 < x4.heap.size ∧ b6 < x4.heap.size ∧ w.heap.size ≤ x4.heap.size from ⟨M.lt 1 rfl, M.lt 2 rfl, M.b.size⟩)
        obtain ⟨b11, hb11⟩ : ∃ b, wr.heap.size = b := ⟨_, rfl⟩
        rw [hb11] at M BM ⊢
        clear hb4 hb11 hod2 LB LX p0 p1 p2 p3 p4 p5 p6 p7 p8 p9 p10 p11 p12
        have y0 := (M.cell 0 0 rfl).trans rfl
        have y1 := (M.cell 0 1 rfl).trans rfl
        have y2 := (M.cell 0 2 rfl).trans rfl
        have y3 := (M.cell 0 3 rfl).trans rfl
        have y4 := (M.cell 0 4 rfl).trans rfl
        have y5 := (M.cell 0 5 rfl).trans rfl
        have y6 := (M.cell 0 6 rfl).trans rfl
        have y7 := (M.cell 0 7 rfl).trans rfl
        have y8 := (M.cell 0 8 rfl).trans rfl
        have y9 := (M.cell 0 9 rfl).trans rfl
        have y10 := (M.cell 0 10 rfl).trans rfl
        have y11 := (M.cell 0 11 rfl).trans rfl
        have y12 := (M.cell 0 12 rfl).trans rfl
        have s0 := (M.cell 1 0 rfl).trans rfl
        have s1 := (M.cell 1 1 rfl).trans rfl
        clear M
        obtain ⟨⟨g1, g2, g3, g4, g5, g6, g7⟩, hd, HH4⟩ := Option.bind_eq_some_iff.1 HH3.out
        have DD := Aside0.mk hd
        clear hd HH3
        obtain ⟨l2, e1⟩ : ∃ l2, sel (sameA y.f2.f0 y.f2.f1 y.f2.f2 y.f2.f3 y.f2.f4 g3 g4 g5 g6 g7) g1 l = l2 := ⟨_, rfl⟩
        obtain ⟨ts2, e2⟩ : ∃ ts2, sel (sameA y.f2.f0 y.f2.f1 y.f2.f2 y.f2.f3 y.f2.f4 g3 g4 g5 g6 g7) g2 ts = ts2 := ⟨_, rfl⟩
        obtain ⟨tb, e3⟩ : ∃ tb, toldB y.f1.f0 y.f2.f0 y.f2.f1 y.f2.f2 y.f2.f3 y.f2.f4 g3 g4 g5 g6 g7 = tb := ⟨_, rfl⟩
        replace HH4 : (if y.f4 < 0 then rbehF o (od.drop (j + 1)) g1 g2 else if tb = true then rbehF o (od.drop (j + 1)) l2 ts2 else some ([], [], false)) = some (r1, r2, rb_) := by
          rw [← e1, ← e2, ← e3]; exact HH4
        have EE := Aside0.mk (And.intro e1 (And.intro e2 e3))
        have HH5 := Aside0.mk HH4
        have HC0 := Aside0.mk (Kd.V_bound LX4.out.v0)
        have HC1 := Aside0.mk (Kd.V_bound LX4.out.v1)
        clear HH4 e1 e2 e3
        go_wp2_with fail
        refine (cx_told (okx := okb w b8 b6) (rb LX4.out.v0) (rb LX4.out.v1) (Kd.V_mk (e := 49) FY.out.1 FY4.out) QL.out DD.out EE.out.1 EE.out.2.1 EE.out.2.2).mono ?_
        rintro e w5 ⟨v0, v1, rfl, V0, V1, hb⟩
        obtain ⟨A8, c8, rfl⟩ := Kd.V_slice V0
        obtain ⟨A9, c9, rfl⟩ := Kd.V_slice V1
        have V0b := Aside0.mk (Kd.V_mono (ok' := okb w b8 b6) (rb (b' := 0) V0) (fun k hk => by rcases hk with hk | hk; exact hk; exact okn Z4.out hk))
        have V1b := Aside0.mk (Kd.V_mono (ok' := okb w b8 b6) (rb (b' := 0) V1) (fun k hk => by rcases hk with hk | hk; exact hk; exact okn Z4.out hk))
        have HE0 := Aside0.mk (Kd.V_below HC0.out hb)
        have HE1 := Aside0.mk (Kd.V_below HC1.out hb)
        have M5 := Aside0.mk (BM.out.below hb)
        have Z5 := Aside0.mk hb.size
        clear V0 V1 hb BM HC0 HC1 y0 y1 y2 y3 y4 y5 y6 y7 y8 y9 y10 y11 y12 s0 s1
        go_upto_region 9 with (fail)
        refine gen2 (Φ := fun X => Bxs w X ((w5.heap.size, #[.slice A8 l2.length c8, .slice A9 ts2.length c9], 31) :: (b11, #[.int .i64 y.f0, .int .i64 y.f1.f0, .int .i64 y.f1.f1, .int .i64 y.f1.f2, .int .i64 y.f1.f3, .int .i64 y.f1.f4, .int .i64 y.f2.f0, .int .i64 y.f2.f1, .int .i64 y.f2.f2, .int .i64 y.f2.f3, .slice Ay y.f2.f4.length cy, .int .i64 y.f3, .int .i64 y.f4], 77) :: [(b8, #[.slice A0 l.length c0, .slice A1 ts.length c1], 31), (b6, #[.slice none 0 0, .slice none 0 0], 31)]) ∧ Below w5.heap.size w5 X) ⟨M5.out.box _ 31 rfl, below_alloc (Below.refl _ _) _⟩ ?_
        rintro x6 ⟨M, hb6⟩
        have V0c := Aside0.mk (Kd.V_below V0b.out hb6)
        have V1c := Aside0.mk (Kd.V_below V1b.out hb6)
        have HF0 := Aside0.mk (Kd.V_below HE0.out hb6)
        have HF1 := Aside0.mk (Kd.V_below HE1.out hb6)
        have M6 := Aside0.mk M
        have M7 := Aside0.mk (M.sub (List.Sublist.cons _ (List.Sublist.cons _ (List.Sublist.refl _))))
        obtain ⟨b12, hb12⟩ : ∃ b, w5.heap.size = b := ⟨_, rfl⟩
        rw [hb12] at M M6 ⊢
        have Z6 := Aside0.mk (show x4.heap.size ≤ b12 ∧ b12 < x6.heap.size from ⟨by have := Z5.out; omega, M.lt 0 rfl⟩)
        have Z7 := Aside0.mk (show b8 < x6.heap.size ∧ b6 < x6.heap.size ∧ w.heap.size ≤ x6.heap.size from ⟨M.lt 2 rfl, M.lt 3 rfl, M.b.size⟩)
        clear hb12 V0b V1b hb6 M5 HE0 HE1 Z5
        have n0 := (M.cell 0 0 rfl).trans rfl
        have n1 := (M.cell 0 1 rfl).trans rfl
        have y0 := (M.cell 1 0 rfl).trans rfl
        have y1 := (M.cell 1 1 rfl).trans rfl
        have y2 := (M.cell 1 2 rfl).trans rfl
        have y3 := (M.cell 1 3 rfl).trans rfl
        have y4 := (M.cell 1 4 rfl).trans rfl
        have y5 := (M.cell 1 5 rfl).trans rfl
        have y6 := (M.cell 1 6 rfl).trans rfl
        have y7 := (M.cell 1 7 rfl).trans rfl
        have y8 := (M.cell 1 8 rfl).trans rfl
        have y9 := (M.cell 1 9 rfl).trans rfl
        have y10 := (M.cell 1 10 rfl).trans rfl
        have y11 := (M.cell 1 11 rfl).trans rfl
        have y12 := (M.cell 1 12 rfl).trans rfl
        have s0 := (M.cell 2 0 rfl).trans rfl
        have sf0 := M.frz 2 0 rfl
        have s1 := (M.cell 2 1 rfl).trans rfl
        have sf1 := M.frz 2 1 rfl
        have z0 := (M.cell 3 0 rfl).trans rfl
        have zf0 := M.frz 3 0 rfl
        have z1 := (M.cell 3 1 rfl).trans rfl
        have zf1 := M.frz 3 1 rfl
        clear M
        by_cases hto : y.f4 < 0
        · have dto : decide (y.f4 < 0) = true := decide_eq_true hto
          have HH4 := HH5.out
          rw [if_pos hto] at HH4
          have HH6 := Aside0.mk HH4
          clear hto HH4 HH5
          go_wp2_with fail
          refine (rdo_calls 5000 (fun k => okb w b8 b6 k ∧ k < x4.heap.size) A0 c0 l (fun k => okb w b8 b6 k ∧ k < x4.heap.size) A1 c1 ts _ _ _ _ _ _ _ _ _ _ _ _ _ _ (rb HF0.out) (rb HF1.out) DD.out).mono ?_
          rintro e w7 ⟨v0, v1, v6, rfl, V0, V1, V6, hb⟩
          obtain ⟨D8, d8, rfl⟩ := Kd.V_slice V0
          obtain ⟨D9, d9, rfl⟩ := Kd.V_slice V1
          obtain ⟨A6, c6, rfl⟩ := Kd.V_slice V6
          have W0 := Aside0.mk (Kd.V_mono (ok' := fun k => okb w b8 b6 k ∧ k ≠ b12) (rb (b' := 0) V0) (fun k hk => oke Z7.out Z6.out hk))
          have W1 := Aside0.mk (Kd.V_mono (ok' := fun k => okb w b8 b6 k ∧ k ≠ b12) (rb (b' := 0) V1) (fun k hk => oke Z7.out Z6.out hk))
          have M8 := Aside0.mk (((M6.out.below hb).set 0 0 (.slice D8 g1.length d8) rfl rfl).set 0 1 (.slice D9 g2.length d9) rfl rfl)
          have M := M6.out.below hb
          clear n0 n1 y0 y1 y2 y3 y4 y5 y6 y7 y8 y9 y10 y11 y12 s0 s1 sf0 sf1 z0 z1 zf0 zf1
          have n0 := (M.cell 0 0 rfl).trans rfl
          have nf0 := M.frz 0 0 rfl
          have n1 := (M.cell 0 1 rfl).trans rfl
          have nf1 := M.frz 0 1 rfl
          clear M V0 V1 V6 hb
          go_upto_region 11 with (fail)
          refine gen2 (Φ := fun X => Bxs w X ((b12, #[.slice D8 g1.length d8, .slice D9 g2.length d9], 31) :: (b11, #[.int .i64 y.f0, .int .i64 y.f1.f0, .int .i64 y.f1.f1, .int .i64 y.f1.f2, .int .i64 y.f1.f3, .int .i64 y.f1.f4, .int .i64 y.f2.f0, .int .i64 y.f2.f1, .int .i64 y.f2.f2, .int .i64 y.f2.f3, .slice Ay y.f2.f4.length cy, .int .i64 y.f3, .int .i64 y.f4], 77) :: [(b8, #[.slice A0 l.length c0, .slice A1 ts.length c1], 31), (b6, #[.slice none 0 0, .slice none 0 0], 31)]) ∧ Kd.V k49 49 X 0 (okb w b8 b6) (.slice D8 g1.length d8) g1 ∧ Kd.V k61 61 X 0 (okb w b8 b6) (.slice D9 g2.length d9) g2) ⟨M8.out, Kd.V_mono (Kd.V_far (Kd.V_far W0.out (fun k hk => hk.2) _) (fun k hk => hk.2) _) (fun k hk => hk.1), Kd.V_mono (Kd.V_far (Kd.V_far W1.out (fun k hk => hk.2) _) (fun k hk => hk.2) _) (fun k hk => hk.1)⟩ ?_
          rintro x8 ⟨M, U0, U1⟩
          have U0b := Aside0.mk U0
          have U1b := Aside0.mk U1
          have M9 := Aside0.mk (M.sub (List.Sublist.cons _ (List.Sublist.cons _ (List.Sublist.refl _))))
          clear U0 U1 W0 W1 n0 n1 nf0 nf1
          have n0 := (M.cell 0 0 rfl).trans rfl
          have n1 := (M.cell 0 1 rfl).trans rfl
          have s0 := (M.cell 2 0 rfl).trans rfl
          have sf0 := M.frz 2 0 rfl
          have s1 := (M.cell 2 1 rfl).trans rfl
          have sf1 := M.frz 2 1 rfl
          clear M
          go_wp2
          go_roundg (od.length - (j + 1))
          case measure => omega
          case rel => exact ⟨j + 1, D8, d8, D9, d9, g1, g2, by go_num, by omega, ⟨(M9.out.set 0 0 _ rfl rfl).set 0 1 _ rfl rfl, Kd.V_far (Kd.V_far U0b.out (fun k hk => hk.2.1) _) (fun k hk => hk.2.1) _, Kd.V_far (Kd.V_far U1b.out (fun k hk => hk.2.1) _) (fun k hk => hk.2.1) _⟩, HH6⟩
        · have dto : decide (y.f4 < 0) = false := decide_eq_false hto
          have HH4 := HH5.out
          rw [if_neg hto] at HH4
          have HH6 := Aside0.mk HH4
          clear hto HH4 HH5
          cases tb with
          | true =>
            have HH6 := HH6.out
            rw [if_pos rfl] at HH6
            have HH7 := Aside0.mk HH6
            clear HH6
            go_wp2
            go_roundg (od.length - (j + 1))
            case measure => omega
            case rel => exact ⟨j + 1, A8, c8, A9, c9, l2, ts2, by go_num, by omega, ⟨(M7.out.set 0 0 _ rfl rfl).set 0 1 _ rfl rfl, Kd.V_far (Kd.V_far V0c.out (fun k hk => hk.2.1) _) (fun k hk => hk.2.1) _, Kd.V_far (Kd.V_far V1c.out (fun k hk => hk.2.1) _) (fun k hk => hk.2.1) _⟩, HH7⟩
          | false =>
            have HH6 := HH6.out
            rw [if_neg (by decide)] at HH6
            simp only [Option.some.injEq, Prod.mk.injEq] at HH6
            obtain ⟨rfl, rfl, rfl⟩ := HH6
            have MF := Aside0.mk ((M7.out.set 1 0 (.slice none 0 0) rfl rfl).set 1 1 (.slice none 0 0) rfl rfl)
            go_wp2
            refine bodyPost_ret (results_ct rfl _ _ b6 31 _ (0, 0) _ rfl (MF.out.get 1 rfl) Try.underlying31 rfl (by kernel_rfl)) rfl ?_
            exact ⟨_, _, rfl, Kd.V_nil _ _ _ _ _, Kd.V_nil _ _ _ _ _, MF.out.b⟩
      · rw [if_neg hm] at HH2
        simp only [Option.some.injEq, Prod.mk.injEq] at HH2
        obtain ⟨rfl, rfl, rfl⟩ := HH2
        have z0 := (LB.cell 1 0 rfl).trans rfl
        have zf0 := LB.frz 1 0 rfl
        have z1 := (LB.cell 1 1 rfl).trans rfl
        have zf1 := LB.frz 1 1 rfl
        have MF := Aside0.mk ((LB.set 1 0 (.slice none 0 0) rfl rfl).set 1 1 (.slice none 0 0) rfl rfl)
        clear hod erd LB
        by_cases h0 : m < 0
        · have dm : decide (m < 0) = true := decide_eq_true h0
          clear hm h0
          go_wp2
          refine bodyPost_ret (results_ct rfl _ _ b6 31 _ (0, 0) _ rfl (MF.out.get 1 rfl) Try.underlying31 rfl (by kernel_rfl)) rfl ?_
          exact ⟨_, _, rfl, Kd.V_nil _ _ _ _ _, Kd.V_nil _ _ _ _ _, MF.out.b⟩
        · have dm : decide (m < 0) = false := decide_eq_false h0
          have dm2 : decide ((o.length : Int) ≤ m) = true := decide_eq_true (by omega)
          have dm3 : decide (m ≥ (o.length : Int)) = true := decide_eq_true (by omega)
          clear hm h0
          go_wp2
          refine bodyPost_ret (results_ct rfl _ _ b6 31 _ (0, 0) _ rfl (MF.out.get 1 rfl) Try.underlying31 rfl (by kernel_rfl)) rfl ?_
          exact ⟨_, _, rfl, Kd.V_nil _ _ _ _ _, Kd.V_nil _ _ _ _ _, MF.out.b⟩
    · obtain rfl : j = od.length := by omega
      have q1 : ¬ (od.length : Int) < (od.length : Int) := by omega
      have HH2 := HH.out
      rw [List.drop_length] at HH2
      unfold rbehF at HH2
      simp only [Option.some.injEq, Prod.mk.injEq] at HH2
      obtain ⟨rfl, rfl, rfl⟩ := HH2
      have s0 := (LB.cell 0 0 rfl).trans rfl
      have s1 := (LB.cell 0 1 rfl).trans rfl
      have z0 := (LB.cell 1 0 rfl).trans rfl
      have zf0 := LB.frz 1 0 rfl
      have z1 := (LB.cell 1 1 rfl).trans rfl
      have zf1 := LB.frz 1 1 rfl
      have MF := Aside0.mk ((LB.set 1 0 (.slice A0 l.length c0) rfl rfl).set 1 1 (.slice A1 ts.length c1) rfl rfl)
      clear LB
      go_wp2
      refine bodyPost_ret (results_ct rfl _ _ b6 31 _ (0, 0) _ rfl (MF.out.get 1 rfl) Try.underlying31 rfl (by kernel_rfl)) rfl ?_
      exact ⟨_, _, rfl, Kd.V_mono (Kd.V_far (Kd.V_far LX.out.v0 (fun k hk => hk.2.2) _) (fun k hk => hk.2.2) _) (fun k hk => hk.1), Kd.V_mono (Kd.V_far (Kd.V_far LX.out.v1 (fun k hk => hk.2.2) _) (fun k hk => hk.2.2) _) (fun k hk => hk.1), MF.out.b⟩
end Go.Proofs.Ytkkneaefjahihaa.Leg

/- The program's state behind an order is the document's; what is too great. -/
set_option linter.unusedVariables false
set_option linter.unusedSimpArgs false
namespace Go.Proofs.Ytkkneaefjahihaa.Leg
open Go Go.RowKit Go.Proofs.YtkkneaefjahihaaW.PrintWords Go.Proofs.YtkkneaefjahihaaW.PrintLast Go.Proofs.YtkkneaefjahihaaW.PrintMore Go.Proofs.Ytkkneaefjahihaa.PModelTold Go.Proofs.Ytkkneaefjahihaa.GRow Go.Proofs.Ytkkneaefjahihaa.ModRec Go.Proofs.Ytkkneaefjahihaa.Num Go.Proofs.Ytkkneaefjahihaa.Bxs Go.Proofs.Ytkkneaefjahihaa.ModW Go.Proofs.Ytkkneaefjahihaa.ModR Go.Proofs.Ytkkneaefjahihaa.Pure Go.Proofs.Ytkkneaefjahihaa.ModL Go.Proofs.Ytkkneaefjahihaa.ModT Go.Proofs.Ytkkneaefjahihaa.ModLt
theorem great_steps (o : List S77) (od : List Int) : ∀ (d j : Nat), j + d = min o.length 60 → j ≤ 60 → (∀ i : Nat, i < j → i < o.length → (rd_T77 o (i : Int)).f2.f4.length ≤ 1500) → ∃ r, deadwoodlaw12_great.l0 (2 * d + 2) o od (j : Int) = some r ∧ (r = false → (∀ i : Nat, i < o.length → (rd_T77 o (i : Int)).f2.f4.length ≤ 1500) ∧ o.length ≤ 50 ∧ od.length ≤ 60) := by
  intro d
  induction d with
  | zero =>
    intro j h h60 hp
    unfold deadwoodlaw12_great.l0
    have hc : ¬ ((j : Int) < (o.length : Int)) ∨ (decide ((j : Int) < 60)) = false := by
      rcases Nat.lt_or_ge j o.length with h1 | h1
      · right; exact decide_eq_false (by omega)
      · left; omega
    have hj : (if (j : Int) < (o.length : Int) then (deadwoodlaw12_great.j1 1 o od (j : Int) (decide ((j : Int) < 60))) else (deadwoodlaw12_great.j1 1 o od (j : Int) false)) = deadwoodlaw12_great.j1 1 o od (j : Int) false := by
      by_cases h1 : (j : Int) < (o.length : Int)
      · rw [if_pos h1]; rcases hc with hc | hc
        · exact absurd h1 hc
        · rw [hc]
      · rw [if_neg h1]
    refine ⟨if (o.length : Int) > 50 then true else decide ((od.length : Int) > 60), ?_, ?_⟩
    · show (if (j : Int) < (o.length : Int) then _ else _) = _
      rw [hj]
      unfold deadwoodlaw12_great.j1
      rw [if_neg (by decide)]
      split <;> rfl
    · intro hr
      by_cases h5 : (o.length : Int) > 50
      · rw [if_pos h5] at hr; cases hr
      · rw [if_neg h5] at hr
        have := of_decide_eq_false hr
        exact ⟨fun i hi => hp i (by omega) hi, by omega, by omega⟩
  | succ d ih =>
    intro j h h60 hp
    by_cases hl : j < o.length ∧ j < 60
    · by_cases hq : (((rd_T77 o (j : Int)).f2.f4).length : Int) > 1500
      · refine ⟨true, ?_, fun h => by cases h⟩
        show (deadwoodlaw12_great.l0 (2 * d + 2 + 2) o od (j : Int)) = _
        unfold deadwoodlaw12_great.l0
        rw [if_pos (by omega), decide_eq_true (by omega : (j : Int) < 60)]
        unfold deadwoodlaw12_great.j1
        rw [if_pos rfl, if_pos (by omega), if_pos (by omega), if_pos hq]
      · obtain ⟨r, h1, h2⟩ := ih (j + 1) (by omega) (by omega) (fun i hi hi2 => by
          rcases Nat.lt_or_ge i j with h3 | h3
          · exact hp i h3 hi2
          · have : i = j := by omega
            subst this; omega)
        refine ⟨r, ?_, h2⟩
        show (deadwoodlaw12_great.l0 (2 * d + 2 + 2) o od (j : Int)) = _
        unfold deadwoodlaw12_great.l0
        rw [if_pos (by omega), decide_eq_true (by omega : (j : Int) < 60)]
        unfold deadwoodlaw12_great.j1
        rw [if_pos rfl, if_pos (by omega), if_pos (by omega), if_neg hq]
        have e : wrap64 ((j : Int) + 1) = ((j + 1 : Nat) : Int) := by rw [wrap64_of (by omega) (by omega)]; rfl
        rw [e]
        exact h1
    · exfalso; omega
theorem great_some (o : List S77) (od : List Int) : ∃ r, deadwoodlaw12_great.f 200 o od = some r ∧ (r = false → (∀ i : Nat, i < o.length → (rd_T77 o (i : Int)).f2.f4.length ≤ 1500) ∧ o.length ≤ 50 ∧ od.length ≤ 60) := by
  obtain ⟨d, hd⟩ : ∃ d, d = min o.length 60 := ⟨_, rfl⟩
  obtain ⟨r, h1, h2⟩ := great_steps o od d 0 (by omega) (by omega) (fun i hi => by omega)
  refine ⟨r, ?_, h2⟩
  have up : ∀ e, deadwoodlaw12_great.l0 (2 * d + 2 + e) o od 0 = some r := fun e => by
    induction e with
    | zero => exact h1
    | succ e ih => exact (deadwoodlaw12_great.mono_l (2 * d + 2 + e)).1 _ _ _ _ ih
  have := up (200 - (2 * d + 2))
  rw [show 2 * d + 2 + (200 - (2 * d + 2)) = 200 by omega] at this
  exact this
theorem beh_alike (o : List S77) : ∀ (ns : List Int) (n : Nat) (l : List S49) (ts : List S62), WfS n l ts → n + ns.length ≤ 900 → ∃ r1 r2 b, behF o ns l ts = some (r1, r2, b) ∧ rbehF o ns l (ts.map toX) = some (r1, r2.map toX, b) ∧ WfS (n + ns.length) r1 r2 := by
  intro ns
  induction ns with
  | nil => intro n l ts h hn; exact ⟨l, ts, true, rfl, rfl, h⟩
  | cons m ns ih =>
    intro n l ts h hn
    rw [List.length_cons] at hn
    have wf0 : WfS (n + (m :: ns).length) ([] : List S49) ([] : List S62) := ⟨rfl, Nat.zero_le _, Nat.zero_le _, fun s hs => by simp at hs⟩
    unfold behF rbehF
    by_cases hm : 0 ≤ m ∧ m < o.length
    · rw [if_pos hm, if_pos hm]
      generalize rd_T77 o m = y
      obtain ⟨l', ts', r3, r4, r5, r6, r7, hd, hrd, hwf, hr7⟩ := do_alike h (by omega) y.f0 y.f1.f0 y.f1.f1 y.f1.f2 y.f1.f3 y.f1.f4
      rw [hd, hrd, Option.bind_some, Option.bind_some]
      by_cases ht : y.f4 < 0
      · rw [if_pos ht, if_pos ht]
        obtain ⟨r1, r2, b, h1, h2, h3⟩ := ih (n + 1) l' ts' hwf (by omega)
        exact ⟨r1, r2, b, h1, h2, by rw [List.length_cons]; rw [show n + (ns.length + 1) = n + 1 + ns.length by omega]; exact h3⟩
      · rw [if_neg ht, if_neg ht]
        cases toldB y.f1.f0 y.f2.f0 y.f2.f1 y.f2.f2 y.f2.f3 y.f2.f4 r3 r4 r5 r6 r7 with
        | true =>
          rw [if_pos rfl, if_pos rfl, sel_map]
          obtain ⟨r1, r2, b, h1, h2, h3⟩ := ih (n + 1) _ _ (sel_wf (sameA y.f2.f0 y.f2.f1 y.f2.f2 y.f2.f3 y.f2.f4 r3 r4 r5 r6 r7) h hwf) (by omega)
          exact ⟨r1, r2, b, h1, h2, by rw [List.length_cons]; rw [show n + (ns.length + 1) = n + 1 + ns.length by omega]; exact h3⟩
        | false => exact ⟨[], [], false, rfl, rfl, wf0⟩
    · rw [if_neg hm, if_neg hm]
      exact ⟨[], [], false, rfl, rfl, wf0⟩
end Go.Proofs.Ytkkneaefjahihaa.Leg

/- Whether an order is legal; the law LegalBehind, walked. -/
set_option linter.unusedVariables false
set_option linter.unusedSimpArgs false
namespace Go.Proofs.Ytkkneaefjahihaa.Leg
open Go Go.RowKit Go.Proofs.YtkkneaefjahihaaW.PrintWords Go.Proofs.YtkkneaefjahihaaW.PrintLast Go.Proofs.YtkkneaefjahihaaW.PrintMore Go.Proofs.Ytkkneaefjahihaa.PModelTold Go.Proofs.Ytkkneaefjahihaa.GRow Go.Proofs.Ytkkneaefjahihaa.ModRec Go.Proofs.Ytkkneaefjahihaa.Num Go.Proofs.Ytkkneaefjahihaa.Bxs Go.Proofs.Ytkkneaefjahihaa.ModW Go.Proofs.Ytkkneaefjahihaa.ModR Go.Proofs.Ytkkneaefjahihaa.Pure Go.Proofs.Ytkkneaefjahihaa.ModL Go.Proofs.Ytkkneaefjahihaa.ModT Go.Proofs.Ytkkneaefjahihaa.ModLt
set_option maxHeartbeats 4000000 in
set_option maxRecDepth 100000 in
theorem legal_calls (o : List S77) (Ao : Option Addr) (co : Nat) (od : List Int) (Ad : Option Addr) (cd : Nat) (n : Int) (r1 : List S49) (r2 : List S62) (rb_ : Bool) (w : World) (ho : Kd.C k77 w Ao o.length o) (hd : Kd.C (Kd.int .i64) w Ad od.length od) (hq : ∀ i : Int, (rd_T77 o i).f2.f4.length ≤ 1000000) (hdl : od.length ≤ 60) (H : behF o od [] (List.replicate (sizeN n) z62) = some (r1, r2, rb_)) :
    Calls Try.prog 22 #[.slice Ao o.length co, .slice Ad od.length cd, .int .i64 n] w fun e w' => e = .returned (.bool rb_) ∧ Below w.heap.size w w' := by
  have hu27 := Try.underlying27
  have BC := Aside0.mk (fun W (hb : Below w.heap.size w W) => beh_calls o Ao co od Ad cd n r1 r2 rb_ W (Kd.C_below ho hb) (Kd.C_below hd hb) hq hdl H)
  clear ho hd hq H
  go_enter Try.func22, Try.ntmps22
  go_wp2_with fail
  refine (BC.out _ (Below.refl _ _)).mono ?_
  rintro e w1 ⟨v0, v1, rfl, V0, V1, hb⟩
  obtain ⟨A0, c0, rfl⟩ := Kd.V_slice V0
  obtain ⟨A1, c1, rfl⟩ := Kd.V_slice V1
  have HB := Aside0.mk hb
  clear V0 V1 hb
  go_wp2
  go_ret
  exact ⟨rfl, below_alloc HB.out _⟩
end Go.Proofs.Ytkkneaefjahihaa.Leg

/- The example of the document, on two opers: lives. -/
set_option linter.unusedVariables false
set_option linter.unusedSimpArgs false
namespace Go.Proofs.Ytkkneaefjahihaa.Leg
open Go Go.Maps Go.RowKit Go.Proofs.YtkkneaefjahihaaW.PrintWords Go.Proofs.YtkkneaefjahihaaW.PrintLast Go.Proofs.YtkkneaefjahihaaW.PrintMore Go.Proofs.Ytkkneaefjahihaa.PModelTold Go.Proofs.Ytkkneaefjahihaa.GRow Go.Proofs.Ytkkneaefjahihaa.ModRec Go.Proofs.Ytkkneaefjahihaa.Num Go.Proofs.Ytkkneaefjahihaa.Bxs Go.Proofs.Ytkkneaefjahihaa.ModW Go.Proofs.Ytkkneaefjahihaa.ModR Go.Proofs.Ytkkneaefjahihaa.Pure Go.Proofs.Ytkkneaefjahihaa.ModL Go.Proofs.Ytkkneaefjahihaa.ModT Go.Proofs.Ytkkneaefjahihaa.ModLt
def ops2 : List S77 := [⟨0, ⟨13, 0, 0, 0, 0⟩, z34, 0, 1⟩, ⟨0, z38, z34, 2, -1⟩]
theorem cellk {W : World} {g T : Nat} {cur : Array Value} (hg : W.heap[g]? = some (.cells cur T (0, 0))) (k : Nat) : W.cell? ((⟨g, 0, none⟩ : Addr).add k) = cur[k]? := by rw [add_plain]; exact blk_cell hg k
theorem lit1 {W : World} {g T : Nat} {m : Int} (hg : W.heap[g]? = some (.cells #[.int .i64 m] T (0, 0))) : Kd.C (Kd.int .i64) W (some ⟨g, 0, none⟩) 1 [m] := by
  refine ⟨rfl, by decide, fun _ => ⟨_, rfl, fun j p hj => ?_⟩⟩
  match j, hj with
  | 0, hj => cases hj; exact ⟨[.int .i64 m], rfl, rfl, fun i u hi => by rw [cellk hg]; match i, hi with | 0, hi => cases hi; rfl⟩
theorem lit2 {W : World} {g T : Nat} {m n : Int} (hg : W.heap[g]? = some (.cells #[.int .i64 m, .int .i64 n] T (0, 0))) : Kd.C (Kd.int .i64) W (some ⟨g, 0, none⟩) 2 [m, n] := by
  refine ⟨rfl, by decide, fun _ => ⟨_, rfl, fun j p hj => ?_⟩⟩
  match j, hj with
  | 0, hj => cases hj; exact ⟨[.int .i64 m], rfl, rfl, fun i u hi => by rw [cellk hg]; match i, hi with | 0, hi => cases hi; rfl⟩
  | 1, hj => cases hj; exact ⟨[.int .i64 n], rfl, rfl, fun i u hi => by rw [cellk hg]; match i, hi with | 0, hi => cases hi; rfl⟩
theorem litO {W : World} {g T : Nat} (hg : W.heap[g]? = some (.cells #[.int .i64 0, .int .i64 13, .int .i64 0, .int .i64 0, .int .i64 0, .int .i64 0, .int .i64 0, .int .i64 0, .int .i64 0, .int .i64 0, .slice none 0 0, .int .i64 0, .int .i64 1, .int .i64 0, .int .i64 0, .int .i64 0, .int .i64 0, .int .i64 0, .int .i64 0, .int .i64 0, .int .i64 0, .int .i64 0, .int .i64 0, .slice none 0 0, .int .i64 2, .int .i64 (-1)] T (0, 0))) : Kd.C k77 W (some ⟨g, 0, none⟩) ops2.length ops2 := by
  refine ⟨rfl, by decide, fun _ => ⟨_, rfl, fun j p hj => ?_⟩⟩
  match j, hj with
  | 0, hj => cases hj; exact ⟨[.int .i64 0, .int .i64 13, .int .i64 0, .int .i64 0, .int .i64 0, .int .i64 0, .int .i64 0, .int .i64 0, .int .i64 0, .int .i64 0, .slice none 0 0, .int .i64 0, .int .i64 1], rfl, k77_mk W ⟨0, ⟨13, 0, 0, 0, 0⟩, z34, 0, 1⟩ (A10 := none) (c10 := 0) (Nat.le_refl _) (Kd.C_nil _ _), fun i u hi => by rw [cellk hg]; match i, hi with | 0, hi => cases hi; rfl | 1, hi => cases hi; rfl | 2, hi => cases hi; rfl | 3, hi => cases hi; rfl | 4, hi => cases hi; rfl | 5, hi => cases hi; rfl | 6, hi => cases hi; rfl | 7, hi => cases hi; rfl | 8, hi => cases hi; rfl | 9, hi => cases hi; rfl | 10, hi => cases hi; rfl | 11, hi => cases hi; rfl | 12, hi => cases hi; rfl⟩
  | 1, hj => cases hj; exact ⟨[.int .i64 0, .int .i64 0, .int .i64 0, .int .i64 0, .int .i64 0, .int .i64 0, .int .i64 0, .int .i64 0, .int .i64 0, .int .i64 0, .slice none 0 0, .int .i64 2, .int .i64 (-1)], rfl, k77_mk W ⟨0, z38, z34, 2, -1⟩ (A10 := none) (c10 := 0) (Nat.le_refl _) (Kd.C_nil _ _), fun i u hi => by rw [cellk hg]; match i, hi with | 0, hi => cases hi; rfl | 1, hi => cases hi; rfl | 2, hi => cases hi; rfl | 3, hi => cases hi; rfl | 4, hi => cases hi; rfl | 5, hi => cases hi; rfl | 6, hi => cases hi; rfl | 7, hi => cases hi; rfl | 8, hi => cases hi; rfl | 9, hi => cases hi; rfl | 10, hi => cases hi; rfl | 11, hi => cases hi; rfl | 12, hi => cases hi; rfl⟩
theorem keyed3 : Keyed Try.prog 3 := int_keyed Try.underlying3
theorem zero3 (w : World) : (zeroValue 3).run Try.prog w = .ok (.int .i64 0) w := by kernel_rfl
theorem key3 {i : Int} (h : (Lit.int .i64 i).wf = true) : keyOf Try.prog 3 (.int .i64 i) = some (.int .i64 i) := keyOf_int_mk Try.underlying3 h
/-- The map of one key, or of none. -/
def MD : Option Int → DataW Unit
  | none => .map []
  | some m => DataW.put (.map []) (.int .i64 m) (.lit (.int .i64 1))
def MO (w : World) (b : Nat) (m : Option Int) : Prop := ∃ n, n ≤ 1 ∧ w.ownsMap Try.prog 3 (plainElem Try.prog 3) b n (MD m)
set_option maxRecDepth 100000 in
theorem MO.look {w : World} {b : Nat} {m : Option Int} (h : MO w b m) (i : Int) (hi : (Lit.int .i64 i).wf = true) {x : Int} (e : (MD m).atKey (.int .i64 i) (.lit (.int .i64 0)) = .lit (.int .i64 x)) : (Instr.lookup 88 (.map (some b)) (.int .i64 i) false).run Try.prog w = .ok (.int .i64 x) w := by
  obtain ⟨n, hn, h⟩ := h
  obtain ⟨y, hrun, hat, _⟩ := h.lookup_int keyed3 Try.underlying88 Try.underlying3 (zero3 w) (key3 hi)
  rw [e] at hat
  have e2 := (Lit.int.inj (DataW.lit.inj hat)).2
  rw [hrun, ← e2]
theorem MO.move {w w' : World} {b : Nat} {m : Option Int} (h : MO w b m) (hb : w'.heap[b]? = w.heap[b]?) : MO w' b m := by
  obtain ⟨n, hn, es, clock, h1, h2⟩ := h
  exact ⟨n, hn, es, clock, hb.trans h1, h2⟩
theorem MO.lt {w : World} {b : Nat} {m : Option Int} (h : MO w b m) : b < w.heap.size := by
  obtain ⟨n, hn, es, clock, h1, h2⟩ := h
  exact (Array.getElem?_eq_some_iff.1 h1).1
theorem MO.below {w w' : World} {b : Nat} {m : Option Int} (h : MO w b m) (hb : Below w.heap.size w w') : MO w' b m := h.move (hb.block b h.lt)
set_option maxRecDepth 100000 in
theorem MO.put {w : World} {b : Nat} (h : w.ownsMap Try.prog 3 (plainElem Try.prog 3) b 0 (MD none)) {m : Int} (hm : (Lit.int .i64 m).wf = true) : ∃ w', (Instr.mapUpdate 88 (.map (some b)) (.int .i64 m) (.int .i64 1)).run Try.prog w = .ok () w' ∧ MO w' b (some m) ∧ w.grownBy w' (some b) := by
  obtain ⟨w', hr, ho, hg⟩ := h.update keyed3 Try.underlying88 (by unfold maxLen; omega) (key3 hm) (plainElem_int Try.underlying3 (show (Lit.int .i64 1).wf = true from by decide))
  exact ⟨w', hr, ⟨1, Nat.le_refl _, ho⟩, hg⟩
set_option maxHeartbeats 4000000 in
set_option maxRecDepth 100000 in
theorem seen_one (N : Nat) (Ao : Option Addr) (co : Nat) (m : Int) (Ad : Option Addr) (cd : Nat) (w : World) (hm : 0 ≤ m) (hmN : m < N) (hw : (Lit.int .i64 m).wf = true) (h0 : (MD none).atKey (.int .i64 m) (.lit (.int .i64 0)) = .lit (.int .i64 0)) (hd : Kd.C (Kd.int .i64) w Ad 1 [m]) :
    Calls Try.prog 52 #[.slice Ao N co, .slice Ad 1 cd] w fun e w' => ∃ b, e = .returned (.tuple #[.map (some b), .bool true]) ∧ MO w' b (some m) ∧ Below w.heap.size w w' := by
  have hmm := @run_makeMap Try.prog
  obtain ⟨ad, rfl, hod⟩ := Kd.at_int hd (0 : Int) (by decide) (by decide)
  have dm : legal_in.f m (N : Int) = some true := by unfold legal_in.f; rw [if_pos hm, decide_eq_true hmN]
  clear hd
  replace hod : w.cell? ad = some (.int .i64 m) := by rw [← Addr.add_zero' ad]; simpa [rd] using hod
  go_enter Try.func52, Try.ntmps52
  go_upto_region 2 with (fail)
  refine gen2 (Φ := fun X => X.ownsMap Try.prog 3 (plainElem Try.prog 3) w.heap.size 0 (MD none) ∧ Below w.heap.size w X) ⟨World.ownsMap_made w Try.prog 3 (plainElem Try.prog 3), below_alloc (Below.refl _ _) _⟩ ?_
  rintro x1 ⟨hO, hb⟩
  have HO := Aside0.mk hO
  have HB := Aside0.mk hb
  obtain ⟨b, hb_⟩ : ∃ b, w.heap.size = b := ⟨_, rfl⟩
  have E := Aside0.mk hb_
  rw [hb_] at HO ⊢
  have h0w := block_lt_of_cell hod
  have hod2 := cell_below hb hod
  clear hO hb hmm hb_
  go_wp2
  go_loopg [12] 1 (fun kx s12 wr => (s12 = .int .i64 0 ∧ kx = 1 ∧ Aside0 (wr.ownsMap Try.prog 3 (plainElem Try.prog 3) b 0 (MD none)) ∧ Aside0 (Below w.heap.size w wr)) ∨ (s12 = .int .i64 1 ∧ kx = 0 ∧ Aside0 (MO wr b (some m)) ∧ Aside0 (Below w.heap.size w wr)))
  case atStart => exact .inl ⟨rfl, rfl, HO, HB⟩
  case round =>
    clear HO HB
    rcases hrel with ⟨rfl, rfl, HO, HB⟩ | ⟨rfl, rfl, HO, HB⟩
    · have hod3 : wr.cell? ad = some (.int .i64 m) := (HB.out.cell h0w).trans hod
      have W3 := Aside0.mk (fun n3 => pw_below_drewN (Below.refl wr.heap.size wr) n3)
      clear hod2
      go_wp2_with fail
      refine (legal_in.calls m N true _ dm).mono ?_
      rintro e w3 ⟨rfl, n3, rfl⟩
      have HB3 := Aside0.mk (below_then HB.out HB.out.size (W3.out n3))
      obtain ⟨es, clock, h1, h2⟩ := HO.out
      have HO3 := Aside0.mk (show (wr.drewN n3).ownsMap Try.prog 3 (plainElem Try.prog 3) b 0 (MD none) from ⟨es, clock, h1, h2⟩)
      clear h1 h2 es clock
      have lk := MO.look (m := none) ⟨0, by decide, HO3.out⟩ m hw h0
      obtain ⟨w4, hr, ho4, hg4⟩ := MO.put HO3.out hw
      have HO4 := Aside0.mk ho4
      have HB4 := Aside0.mk (HB3.out.grown hg4 HB3.out.size (fun k hk => by cases hk; exact Nat.le_of_eq E.out))
      clear ho4 hg4
      go_wp2
      go_roundg 0
      case measure => omega
      case rel => exact .inr ⟨rfl, rfl, HO4, HB4⟩
    · go_wp2
      go_ret2
      exact ⟨b, rfl, HO.out, HB.out⟩
theorem md00 : (MD (some 0)).atKey (.int .i64 0) (.lit (.int .i64 0)) = .lit (.int .i64 1) := by kernel_rfl
theorem md10 : (MD (some 1)).atKey (.int .i64 0) (.lit (.int .i64 0)) = .lit (.int .i64 0) := by kernel_rfl
theorem mdn0 : (MD none).atKey (.int .i64 0) (.lit (.int .i64 0)) = .lit (.int .i64 0) := by kernel_rfl
theorem mdn1 : (MD none).atKey (.int .i64 1) (.lit (.int .i64 0)) = .lit (.int .i64 0) := by kernel_rfl
set_option maxHeartbeats 4000000 in
set_option maxRecDepth 100000 in
theorem may_zero (Ao : Option Addr) (co : Nat) (Ad : Option Addr) (cd : Nat) (w : World) (ho : Kd.C k77 w Ao ops2.length ops2) (hd : Kd.C (Kd.int .i64) w Ad 1 [0]) :
    Calls Try.prog 36 #[.slice Ao 2 co, .slice Ad 1 cd] w fun e w' => e = .returned (.bool true) ∧ Below w.heap.size w w' := by
  have hu77 := Try.underlying77
  have SC := Aside0.mk (seen_one 2 Ao co 0 Ad cd w (by decide) (by decide) (by decide) mdn0 hd)
  obtain ⟨ad, rfl, hod⟩ := Kd.at_int hd (0 : Int) (by decide) (by decide)
  replace hod : w.cell? ad = some (.int .i64 0) := by rw [← Addr.add_zero' ad]; simpa [rd] using hod
  obtain ⟨ado, Aa, ca, rfl, p0, p1, p2, p3, p4, p5, p6, p7, p8, p9, p10, p11, p12, _, _⟩ := at_T77 ho (0 : Int) (by decide) (by decide)
  obtain ⟨ado2, Ab, cb, he, o0, o1, o2, o3, o4, o5, o6, o7, o8, o9, o10, o11, o12, _, _⟩ := at_T77 ho (1 : Int) (by decide) (by decide)
  cases he
  rw [show rd_T77 ops2 0 = ⟨0, ⟨13, 0, 0, 0, 0⟩, z34, 0, 1⟩ from rfl] at p0 p1 p2 p3 p4 p5 p6 p7 p8 p9 p10 p11 p12
  rw [show rd_T77 ops2 1 = ⟨0, z38, z34, 2, -1⟩ from rfl] at o0 o1 o2 o3 o4 o5 o6 o7 o8 o9 o10 o11 o12
  clear ho hd
  go_enter Try.func36, Try.ntmps36
  go_wp2_with fail
  refine SC.out.mono ?_
  rintro e w1 ⟨b, rfl, hO, hb⟩
  have HO := Aside0.mk hO
  have HB := Aside0.mk hb
  have q0 := Aside0.mk p0
  have r0 := Aside0.mk o0
  have q1 := Aside0.mk p1
  have r1 := Aside0.mk o1
  have q2 := Aside0.mk p2
  have r2 := Aside0.mk o2
  have q3 := Aside0.mk p3
  have r3 := Aside0.mk o3
  have q4 := Aside0.mk p4
  have r4 := Aside0.mk o4
  have q5 := Aside0.mk p5
  have r5 := Aside0.mk o5
  have q6 := Aside0.mk p6
  have r6 := Aside0.mk o6
  have q7 := Aside0.mk p7
  have r7 := Aside0.mk o7
  have q8 := Aside0.mk p8
  have r8 := Aside0.mk o8
  have q9 := Aside0.mk p9
  have r9 := Aside0.mk o9
  have q10 := Aside0.mk p10
  have r10 := Aside0.mk o10
  have q11 := Aside0.mk p11
  have r11 := Aside0.mk o11
  have q12 := Aside0.mk p12
  have r12 := Aside0.mk o12
  have hod2 := Aside0.mk hod
  clear hO hb hod p0 p1 p2 p3 p4 p5 p6 p7 p8 p9 p10 p11 p12 o0 o1 o2 o3 o4 o5 o6 o7 o8 o9 o10 o11 o12
  go_wp2
  go_loopg [23] 2 (fun kx s23 wr => (s23 = .int .i64 0 ∧ kx = 2 ∧ Aside0 (MO wr b (some 0)) ∧ Aside0 (Below w.heap.size w wr)) ∨ (s23 = .int .i64 1 ∧ kx = 1 ∧ Aside0 (MO wr b (some 0)) ∧ Aside0 (Below w.heap.size w wr)) ∨ (s23 = .int .i64 2 ∧ kx = 0 ∧ Aside0 (MO wr b (some 0)) ∧ Aside0 (Below w.heap.size w wr)))
  case atStart => exact .inl ⟨rfl, rfl, HO, HB⟩
  case round =>
    clear HO HB
    rcases hrel with ⟨rfl, rfl, HO, HB⟩ | ⟨rfl, rfl, HO, HB⟩ | ⟨rfl, rfl, HO, HB⟩
    · have p0 := cell_below HB.out q0.out
      have p1 := cell_below HB.out q1.out
      have p2 := cell_below HB.out q2.out
      have p3 := cell_below HB.out q3.out
      have p4 := cell_below HB.out q4.out
      have p5 := cell_below HB.out q5.out
      have p6 := cell_below HB.out q6.out
      have p7 := cell_below HB.out q7.out
      have p8 := cell_below HB.out q8.out
      have p9 := cell_below HB.out q9.out
      have p10 := cell_below HB.out q10.out
      have p11 := cell_below HB.out q11.out
      have p12 := cell_below HB.out q12.out
      simp only [Int.toNat_zero, Nat.zero_mul, Addr.add_zero'] at p0 p1 p2 p3 p4 p5 p6 p7 p8 p9 p10 p11 p12
      go_upto_region 7 with (fail)
      refine gen2 (Φ := fun X => Bxs w X [(wr.heap.size, #[.int .i64 0, .int .i64 13, .int .i64 0, .int .i64 0, .int .i64 0, .int .i64 0, .int .i64 z34.f0, .int .i64 z34.f1, .int .i64 z34.f2, .int .i64 z34.f3, .slice Aa z34.f4.length ca, .int .i64 0, .int .i64 1], 77)] ∧ Below wr.heap.size wr X) ⟨((Bxs.nil w).below HB.out).box _ 77 rfl, below_alloc (Below.refl _ _) _⟩ ?_
      rintro x3 ⟨M, hb3⟩
      have HO3 := Aside0.mk (HO.out.below hb3)
      have HB3 := Aside0.mk M.b
      have c12 := (M.cell 0 12 rfl).trans rfl
      have lk := HO3.out.look 0 (by decide) md00
      clear M hb3 p0 p1 p2 p3 p4 p5 p6 p7 p8 p9 p10 p11 p12
      go_wp2
      go_roundg 1
      case measure => omega
      case rel => exact .inr (.inl ⟨rfl, rfl, HO3, HB3⟩)
    · have p0 := cell_below HB.out r0.out
      have p1 := cell_below HB.out r1.out
      have p2 := cell_below HB.out r2.out
      have p3 := cell_below HB.out r3.out
      have p4 := cell_below HB.out r4.out
      have p5 := cell_below HB.out r5.out
      have p6 := cell_below HB.out r6.out
      have p7 := cell_below HB.out r7.out
      have p8 := cell_below HB.out r8.out
      have p9 := cell_below HB.out r9.out
      have p10 := cell_below HB.out r10.out
      have p11 := cell_below HB.out r11.out
      have p12 := cell_below HB.out r12.out
      simp only [show Int.toNat 1 = 1 from rfl, Nat.one_mul, show ado.add 13 = ⟨ado.block, ado.off + 13, none⟩ from by simp [Addr.add]] at p0 p1 p2 p3 p4 p5 p6 p7 p8 p9 p10 p11 p12
      go_upto_region 7 with (fail)
      refine gen2 (Φ := fun X => Bxs w X [(wr.heap.size, #[.int .i64 0, .int .i64 z38.f0, .int .i64 z38.f1, .int .i64 z38.f2, .int .i64 z38.f3, .int .i64 z38.f4, .int .i64 z34.f0, .int .i64 z34.f1, .int .i64 z34.f2, .int .i64 z34.f3, .slice Ab z34.f4.length cb, .int .i64 2, .int .i64 (-1)], 77)] ∧ Below wr.heap.size wr X) ⟨((Bxs.nil w).below HB.out).box _ 77 rfl, below_alloc (Below.refl _ _) _⟩ ?_
      rintro x3 ⟨M, hb3⟩
      have HO3 := Aside0.mk (HO.out.below hb3)
      have HB3 := Aside0.mk M.b
      have c12 := (M.cell 0 12 rfl).trans rfl
      clear M hb3 p0 p1 p2 p3 p4 p5 p6 p7 p8 p9 p10 p11 p12
      go_wp2
      go_roundg 0
      case measure => omega
      case rel => exact .inr (.inr ⟨rfl, rfl, HO3, HB3⟩)
    · go_wp2
      go_loopg [40] 1 (fun kx s40 wq => (s40 = .int .i64 0 ∧ kx = 1 ∧ Aside0 (Below w.heap.size w wq)) ∨ (s40 = .int .i64 1 ∧ kx = 0 ∧ Aside0 (Below w.heap.size w wq)))
      case atStart => exact .inl ⟨rfl, rfl, HB⟩
      case round =>
        clear HB HO
        rcases hrel with ⟨rfl, rfl, HB⟩ | ⟨rfl, rfl, HB⟩
        · have hod3 := cell_below HB.out hod2.out
          go_wp2
          go_loopg [49] 0 (fun kx s49 wq => s49 = .int .i64 0 ∧ Aside0 (Below w.heap.size w wq))
          case atStart => exact ⟨rfl, HB⟩
          case round =>
            clear HB hod3
            obtain ⟨rfl, HB⟩ := hrel
            go_wp2
            go_roundg 0
            case measure => omega
            case rel => exact .inr ⟨rfl, rfl, HB⟩
        · go_wp2
          go_ret
          exact ⟨rfl, HB.out⟩
set_option maxHeartbeats 4000000 in
set_option maxRecDepth 100000 in
theorem may_one (Ao : Option Addr) (co : Nat) (Ad : Option Addr) (cd : Nat) (w : World) (ho : Kd.C k77 w Ao ops2.length ops2) (hd : Kd.C (Kd.int .i64) w Ad 1 [1]) :
    Calls Try.prog 36 #[.slice Ao 2 co, .slice Ad 1 cd] w fun e w' => e = .returned (.bool false) ∧ Below w.heap.size w w' := by
  have hu77 := Try.underlying77
  have SC := Aside0.mk (seen_one 2 Ao co 1 Ad cd w (by decide) (by decide) (by decide) mdn1 hd)
  obtain ⟨ad, rfl, hod⟩ := Kd.at_int hd (0 : Int) (by decide) (by decide)
  replace hod : w.cell? ad = some (.int .i64 1) := by rw [← Addr.add_zero' ad]; simpa [rd] using hod
  obtain ⟨ado, Aa, ca, rfl, p0, p1, p2, p3, p4, p5, p6, p7, p8, p9, p10, p11, p12, _, _⟩ := at_T77 ho (0 : Int) (by decide) (by decide)
  obtain ⟨ado2, Ab, cb, he, o0, o1, o2, o3, o4, o5, o6, o7, o8, o9, o10, o11, o12, _, _⟩ := at_T77 ho (1 : Int) (by decide) (by decide)
  cases he
  rw [show rd_T77 ops2 0 = ⟨0, ⟨13, 0, 0, 0, 0⟩, z34, 0, 1⟩ from rfl] at p0 p1 p2 p3 p4 p5 p6 p7 p8 p9 p10 p11 p12
  rw [show rd_T77 ops2 1 = ⟨0, z38, z34, 2, -1⟩ from rfl] at o0 o1 o2 o3 o4 o5 o6 o7 o8 o9 o10 o11 o12
  clear ho hd
  go_enter Try.func36, Try.ntmps36
  go_wp2_with fail
  refine SC.out.mono ?_
  rintro e w1 ⟨b, rfl, hO, hb⟩
  have HO := Aside0.mk hO
  have HB := Aside0.mk hb
  have q0 := Aside0.mk p0
  have r0 := Aside0.mk o0
  have q1 := Aside0.mk p1
  have r1 := Aside0.mk o1
  have q2 := Aside0.mk p2
  have r2 := Aside0.mk o2
  have q3 := Aside0.mk p3
  have r3 := Aside0.mk o3
  have q4 := Aside0.mk p4
  have r4 := Aside0.mk o4
  have q5 := Aside0.mk p5
  have r5 := Aside0.mk o5
  have q6 := Aside0.mk p6
  have r6 := Aside0.mk o6
  have q7 := Aside0.mk p7
  have r7 := Aside0.mk o7
  have q8 := Aside0.mk p8
  have r8 := Aside0.mk o8
  have q9 := Aside0.mk p9
  have r9 := Aside0.mk o9
  have q10 := Aside0.mk p10
  have r10 := Aside0.mk o10
  have q11 := Aside0.mk p11
  have r11 := Aside0.mk o11
  have q12 := Aside0.mk p12
  have r12 := Aside0.mk o12
  have hod2 := Aside0.mk hod
  clear hO hb hod p0 p1 p2 p3 p4 p5 p6 p7 p8 p9 p10 p11 p12 o0 o1 o2 o3 o4 o5 o6 o7 o8 o9 o10 o11 o12
  go_wp2
  go_loopg [23] 0 (fun kx s23 wr => s23 = .int .i64 0 ∧ Aside0 (MO wr b (some 1)) ∧ Aside0 (Below w.heap.size w wr))
  case atStart => exact ⟨rfl, HO, HB⟩
  case round =>
    clear HO HB
    obtain ⟨rfl, HO, HB⟩ := hrel
    have p0 := cell_below HB.out q0.out
    have p1 := cell_below HB.out q1.out
    have p2 := cell_below HB.out q2.out
    have p3 := cell_below HB.out q3.out
    have p4 := cell_below HB.out q4.out
    have p5 := cell_below HB.out q5.out
    have p6 := cell_below HB.out q6.out
    have p7 := cell_below HB.out q7.out
    have p8 := cell_below HB.out q8.out
    have p9 := cell_below HB.out q9.out
    have p10 := cell_below HB.out q10.out
    have p11 := cell_below HB.out q11.out
    have p12 := cell_below HB.out q12.out
    simp only [Int.toNat_zero, Nat.zero_mul, Addr.add_zero'] at p0 p1 p2 p3 p4 p5 p6 p7 p8 p9 p10 p11 p12
    go_upto_region 7 with (fail)
    refine gen2 (Φ := fun X => Bxs w X [(wr.heap.size, #[.int .i64 0, .int .i64 13, .int .i64 0, .int .i64 0, .int .i64 0, .int .i64 0, .int .i64 z34.f0, .int .i64 z34.f1, .int .i64 z34.f2, .int .i64 z34.f3, .slice Aa z34.f4.length ca, .int .i64 0, .int .i64 1], 77)] ∧ Below wr.heap.size wr X) ⟨((Bxs.nil w).below HB.out).box _ 77 rfl, below_alloc (Below.refl _ _) _⟩ ?_
    rintro x3 ⟨M, hb3⟩
    have HO3 := Aside0.mk (HO.out.below hb3)
    have HB3 := Aside0.mk M.b
    have c12 := (M.cell 0 12 rfl).trans rfl
    have lk := HO3.out.look 0 (by decide) md10
    clear M hb3 p0 p1 p2 p3 p4 p5 p6 p7 p8 p9 p10 p11 p12
    go_wp2
    go_ret
    exact ⟨rfl, HB3.out⟩
theorem ops2_len (i : Int) : (rd_T77 ops2 i).f2.f4.length ≤ 1000000 := by
  unfold rd_T77 ops2
  match i.toNat with
  | 0 => exact Nat.zero_le _
  | 1 => exact Nat.zero_le _
  | (k + 2) => exact Nat.zero_le _
theorem beh2 : ∃ r1 r2, behF ops2 [0, 1] [] (List.replicate (sizeN 1) z62) = some (r1, r2, true) := by
  have h : (behF ops2 [0, 1] [] (List.replicate (sizeN 1) z62)).map (fun r => r.2.2) = some true := by kernel_rfl
  obtain ⟨⟨r1, r2, b⟩, h1, h2⟩ := Option.map_eq_some_iff.1 h
  cases h2
  exact ⟨r1, r2, h1⟩
set_option maxHeartbeats 4000000 in
set_option maxRecDepth 100000 in
theorem live_true (w : World) : Calls Try.prog 19 #[] w fun e w' => e = .returned (.bool true) ∧ Below w.heap.size w w' := by
  have hu77 := Try.underlying77
  have hu38 := Try.underlying38
  have hu34 := Try.underlying34
  obtain ⟨r1, r2, hbe⟩ := beh2
  go_enter Try.func19, Try.ntmps19
  go_wp2_with fail
  obtain ⟨X1, hX1⟩ : ∃ X, X = (w.alloc (.cells #[.int .i64 0, .int .i64 13, .int .i64 0, .int .i64 0, .int .i64 0, .int .i64 0, .int .i64 0, .int .i64 0, .int .i64 0, .int .i64 0, .slice none 0 0, .int .i64 0, .int .i64 1, .int .i64 0, .int .i64 0, .int .i64 0, .int .i64 0, .int .i64 0, .int .i64 0, .int .i64 0, .int .i64 0, .int .i64 0, .int .i64 0, .slice none 0 0, .int .i64 2, .int .i64 (-1)] 77 (0, 0))).alloc (.cells #[.int .i64 0] 3 (0, 0)) := ⟨_, rfl⟩
  rw [← hX1]
  have C1 : Kd.C k77 X1 (some ⟨w.heap.size, 0, none⟩) ops2.length ops2 := by rw [hX1]; exact litO (blk_alloc (heap_alloc_new w _) _)
  have D1 : Kd.C (Kd.int .i64) X1 (some ⟨w.heap.size + 1, 0, none⟩) 1 [0] := by
    rw [hX1]
    have h := heap_alloc_new (w.alloc (.cells #[.int .i64 0, .int .i64 13, .int .i64 0, .int .i64 0, .int .i64 0, .int .i64 0, .int .i64 0, .int .i64 0, .int .i64 0, .int .i64 0, .slice none 0 0, .int .i64 0, .int .i64 1, .int .i64 0, .int .i64 0, .int .i64 0, .int .i64 0, .int .i64 0, .int .i64 0, .int .i64 0, .int .i64 0, .int .i64 0, .int .i64 0, .slice none 0 0, .int .i64 2, .int .i64 (-1)] 77 (0, 0))) (.cells #[.int .i64 0] 3 (0, 0))
    rw [World.size_alloc] at h
    exact lit1 h
  have B1 : Below w.heap.size w X1 := by rw [hX1]; exact below_alloc (below_alloc (Below.refl _ _) _) _
  have C1b := Aside0.mk C1
  have B1b := Aside0.mk B1
  have MZ := Aside0.mk (may_zero _ 2 _ 1 X1 C1 D1)
  clear hX1 C1 D1 B1
  refine MZ.out.mono ?_
  rintro e w2 ⟨rfl, hb⟩
  have B2 := Aside0.mk (below_then B1b.out B1b.out.size hb)
  have C2 := Aside0.mk (Kd.C_below C1b.out hb)
  clear hb MZ C1b B1b
  go_wp2_with fail
  obtain ⟨X3, hX3⟩ : ∃ X, X = w2.alloc (.cells #[.int .i64 0, .int .i64 1] 3 (0, 0)) := ⟨_, rfl⟩
  rw [← hX3]
  have D3 : Kd.C (Kd.int .i64) X3 (some ⟨w2.heap.size, 0, none⟩) 2 [0, 1] := by rw [hX3]; exact lit2 (heap_alloc_new w2 _)
  have hb3 : Below w2.heap.size w2 X3 := by rw [hX3]; exact below_alloc (Below.refl _ _) _
  have C3 := Aside0.mk (Kd.C_below C2.out hb3)
  have B3 := Aside0.mk (below_then B2.out B2.out.size hb3)
  have LZ := Aside0.mk (legal_calls ops2 _ 2 [0, 1] _ 2 1 r1 r2 true X3 C3.out D3 ops2_len (by decide) hbe)
  clear hX3 D3 hb3 hbe C2 B2
  refine LZ.out.mono ?_
  rintro e w4 ⟨rfl, hb⟩
  have B4 := Aside0.mk (below_then B3.out B3.out.size hb)
  have C4 := Aside0.mk (Kd.C_below C3.out hb)
  clear hb LZ C3 B3
  go_wp2_with fail
  obtain ⟨X5, hX5⟩ : ∃ X, X = w4.alloc (.cells #[.int .i64 1] 3 (0, 0)) := ⟨_, rfl⟩
  rw [← hX5]
  have D5 : Kd.C (Kd.int .i64) X5 (some ⟨w4.heap.size, 0, none⟩) 1 [1] := by rw [hX5]; exact lit1 (heap_alloc_new w4 _)
  have hb5 : Below w4.heap.size w4 X5 := by rw [hX5]; exact below_alloc (Below.refl _ _) _
  have C5 := Aside0.mk (Kd.C_below C4.out hb5)
  have B5 := Aside0.mk (below_then B4.out B4.out.size hb5)
  have MZ := Aside0.mk (may_one _ 2 _ 1 X5 C5.out D5)
  clear hX5 D5 hb5 C4 B4
  refine MZ.out.mono ?_
  rintro e w6 ⟨rfl, hb⟩
  have B6 := Aside0.mk (below_then B5.out B5.out.size hb)
  clear hb MZ C5 B5
  go_wp2
  go_ret
  exact ⟨rfl, B6.out⟩
end Go.Proofs.Ytkkneaefjahihaa.Leg

/- The law LegalBehind, walked. -/
set_option linter.unusedVariables false
set_option linter.unusedSimpArgs false
namespace Go.Proofs.Ytkkneaefjahihaa.Leg
open Go Go.RowKit Go.Proofs.YtkkneaefjahihaaW.PrintWords Go.Proofs.YtkkneaefjahihaaW.PrintLast Go.Proofs.YtkkneaefjahihaaW.PrintMore Go.Proofs.Ytkkneaefjahihaa.PModelTold Go.Proofs.Ytkkneaefjahihaa.GRow Go.Proofs.Ytkkneaefjahihaa.ModRec Go.Proofs.Ytkkneaefjahihaa.Num Go.Proofs.Ytkkneaefjahihaa.Bxs Go.Proofs.Ytkkneaefjahihaa.ModW Go.Proofs.Ytkkneaefjahihaa.ModR Go.Proofs.Ytkkneaefjahihaa.Pure Go.Proofs.Ytkkneaefjahihaa.ModL Go.Proofs.Ytkkneaefjahihaa.ModT Go.Proofs.Ytkkneaefjahihaa.ModLt
theorem sh_len (o : List S77) (h : ∀ i : Nat, i < o.length → (rd_T77 o (i : Int)).f2.f4.length ≤ 1500) (i : Int) : (rd_T77 o i).f2.f4.length ≤ 1000000 := by
  by_cases hi : i.toNat < o.length
  · have := h i.toNat hi
    have e : rd_T77 o ((i.toNat : Nat) : Int) = rd_T77 o i := by unfold rd_T77; rw [Int.toNat_natCast]
    rw [e] at this
    omega
  · have e : rd_T77 o i = z77 := by unfold rd_T77; rw [List.getD_eq_getElem?_getD, List.getElem?_eq_none (by omega)]; rfl
    rw [e]
    exact Nat.zero_le _
set_option maxHeartbeats 8000000 in
set_option maxRecDepth 100000 in
theorem behind_walk (l0 : List S77) (A0 : Option Addr) (c0 : Nat) (l1 : List Int) (A1 : Option Addr) (c1 : Nat) (n : Int) (w : World) (hr0 : Kd.C k77 w A0 l0.length l0) (hc0 : l0.length ≤ c0) (hr1 : Kd.C (Kd.int .i64) w A1 l1.length l1) (hc1 : l1.length ≤ c1) :
    Calls Try.prog 6 #[.slice A0 l0.length c0, .slice A1 l1.length c1, .int .i64 n] w fun e w' => e = .returned (.bool true) ∧ Below w.heap.size w w' := by
  have hu27 := Try.underlying27
  have hu31 := Try.underlying31
  have hu62 := Try.underlying62
  have hu61 := Try.underlying61
  obtain ⟨i0, hi0, hz1, hz2, hz0⟩ := info_x
  have hzs : (Value.agg #[.bool false, .bool false, .slice none 0 0, .int .i64 0]).cells.size = 4 := by decide
  obtain ⟨g, hg, hgp⟩ := great_some l0 l1
  have GC := Aside0.mk (deadwoodlaw12_great.calls 200 A0 c0 l0 A1 c1 l1 g w hr0 hc0 hr1 hc1 hg)
  clear hg
  go_enter Try.func6, Try.ntmps6
  go_wp2_with fail
  refine GC.out.mono ?_
  rintro e w1 ⟨rfl, n1, rfl⟩
  have B1 := Aside0.mk (pw_below_drewN (Below.refl w.heap.size w) n1)
  cases g with
  | true =>
    clear hr0 hr1 GC
    go_wp2_with fail
    refine (live_true _).mono ?_
    rintro e w9 ⟨rfl, hb⟩
    go_wp2
    go_ret
    exact ⟨rfl, below_then B1.out B1.out.size hb⟩
  | false =>
    obtain ⟨hq0, hol, hdl⟩ := hgp rfl
    have hq := sh_len l0 hq0
    obtain ⟨r1, r2, b, h1, h2, hwf⟩ := beh_alike l0 l1 0 [] (List.replicate (sizeN n) z62) (start_wf n) (by omega)
    rw [show (List.replicate (sizeN n) z62).map toX = List.replicate (sizeN n) z61 by rw [List.map_replicate]; rfl] at h2
    have BC := Aside0.mk (fun W (hb : Below w.heap.size w W) => beh_calls l0 A0 c0 l1 A1 c1 n r1 r2 b W (Kd.C_below hr0 hb) (Kd.C_below hr1 hb) hq hdl h1)
    have RC := Aside0.mk (fun W (hb : Below w.heap.size w W) => rbeh_calls l0 A0 c0 l1 A1 c1 n r1 (r2.map toX) b W (Kd.C_below hr0 hb) (Kd.C_below hr1 hb) hq hdl h2)
    have LC := Aside0.mk (fun W (hb : Below w.heap.size w W) => legal_calls l0 A0 c0 l1 A1 c1 n r1 r2 b W (Kd.C_below hr0 hb) (Kd.C_below hr1 hb) hq hdl h1)
    have WF := Aside0.mk hwf
    have L2 : r2.length ≤ 6 := hwf.tl
    clear hr0 hr1 GC hgp hq0 hq h1 h2 hwf
    go_wp2_with fail
    refine (BC.out _ B1.out).mono ?_
    rintro e w2 ⟨v0, v1, rfl, V0, V1, hb⟩
    obtain ⟨A8, c8, rfl⟩ := Kd.V_slice V0
    obtain ⟨A9, c9, rfl⟩ := Kd.V_slice V1
    have N0 := Aside0.mk (Kd.V_bound V0)
    have N1 := Aside0.mk (Kd.V_bound V1)
    have B2 := Aside0.mk (below_then B1.out B1.out.size hb)
    clear V0 V1 hb
    go_upto_region 4 with (fail)
    refine gen2 (Φ := fun X => Bxs w X [(w2.heap.size, #[.slice A8 r1.length c8, .slice A9 r2.length c9], 27)] ∧ Below w2.heap.size w2 X) ⟨((Bxs.nil w).below B2.out).box _ 27 rfl, below_alloc (Below.refl _ _) _⟩ ?_
    rintro x3 ⟨M, hb⟩
    have Q0 := Aside0.mk (Kd.V_below N0.out hb)
    have Q1 := Aside0.mk (Kd.V_below N1.out hb)
    have M3 := Aside0.mk M
    have Z3 := Aside0.mk (show w.heap.size ≤ w2.heap.size ∧ w2.heap.size < x3.heap.size from ⟨B2.out.size, M.lt 0 rfl⟩)
    obtain ⟨b7, hb7⟩ : ∃ b, w2.heap.size = b := ⟨_, rfl⟩
    rw [hb7] at M3 Q0 Q1 Z3 ⊢
    clear M hb hb7 N0 N1 B2 B1
    go_wp2_with fail
    refine (RC.out _ M3.out.b).mono ?_
    rintro e w4 ⟨v0, v1, rfl, V0, V1, hb⟩
    obtain ⟨B8, d8, rfl⟩ := Kd.V_slice V0
    obtain ⟨B9, d9, rfl⟩ := Kd.V_slice V1
    rw [List.length_map] at V1
    have N2 := Aside0.mk (Kd.V_bound V0)
    have N3 := Aside0.mk (Kd.V_bound V1)
    have P0 := Aside0.mk (Kd.V_below Q0.out hb)
    have P1 := Aside0.mk (Kd.V_below Q1.out hb)
    have M4 := Aside0.mk (M3.out.below hb)
    have Z4 := Aside0.mk hb.size
    clear V0 V1 hb M3 Q0 Q1
    go_upto_region 5 with (fail)
    refine gen2 (Φ := fun X => Bxs w X [(w4.heap.size, #[.slice B8 r1.length d8, .slice B9 r2.length d9], 31), (b7, #[.slice A8 r1.length c8, .slice A9 r2.length c9], 27)] ∧ Below w4.heap.size w4 X ∧ X.heap.size = w4.heap.size + 1) ⟨M4.out.box _ 31 rfl, below_alloc (Below.refl _ _) _, by simp⟩ ?_
    rintro x5 ⟨M, hb, hs5⟩
    have S5 := Aside0.mk hs5
    have M5 := Aside0.mk M
    have T0 := Aside0.mk (Kd.V_below P0.out hb)
    have T1 := Aside0.mk (Kd.V_below P1.out hb)
    have T2 := Aside0.mk (Kd.V_below N2.out hb)
    have T3 := Aside0.mk (Kd.V_below N3.out hb)
    have s0 := (M.cell 1 0 rfl).trans rfl
    have s1 := (M.cell 1 1 rfl).trans rfl
    clear M hb hs5 P0 P1 N2 N3 M4
    go_upto_region 6 with (fail)
    refine gen2 (Φ := fun X => ∃ v, v = .slice none 0 0 ∧ Bxs w X ((x5.heap.size, #[.slice A8 r1.length c8, v], 31) :: [(w4.heap.size, #[.slice B8 r1.length d8, .slice B9 r2.length d9], 31), (b7, #[.slice A8 r1.length c8, .slice A9 r2.length c9], 27)]) ∧ Below x5.heap.size x5 X ∧ X.heap.size = x5.heap.size + 1) ⟨_, rfl, M5.out.box _ 31 rfl, below_alloc (Below.refl _ _) _, by simp⟩ ?_
    rintro x6 ⟨v, hv, M, hb, hs6⟩
    subst hv
    rw [S5.out] at M hs6 hb ⊢
    have M6 := Aside0.mk M
    have S6 := Aside0.mk hs6
    have T0b := Aside0.mk (Kd.V_below T0.out (by rw [S5.out]; exact hb))
    have T1b := Aside0.mk (Kd.V_below T1.out (by rw [S5.out]; exact hb))
    have T2b := Aside0.mk (Kd.V_below T2.out (by rw [S5.out]; exact hb))
    have T3b := Aside0.mk (Kd.V_below T3.out (by rw [S5.out]; exact hb))
    clear M hb hs6 T0 T1 T2 T3 M5 S5 s0 s1
    obtain ⟨b9, hb9⟩ : ∃ b, w4.heap.size = b := ⟨_, rfl⟩
    rw [hb9] at M6 S6 T2b T3b Z4 ⊢
    clear hb9
    go_wp2
    have hokA : ∀ k, (w.heap.size ≤ k ∧ k < b7) → k < b9 + 1 := fun k hk => by have h3 := Z3.out.2; have h4 := Z4.out; have := hk.2; omega
    have U0 := Aside0.mk (Kd.V_mono (ok' := fun k => k < b9 + 1) (rb (b' := 0) T0b.out) (fun k hk => by have h3 := Z3.out.2; have h4 := Z4.out; have := hk.2; omega))
    have U1 := Aside0.mk (Kd.V_mono (ok' := fun k => k < b9 + 1) (rb (b' := 0) T1b.out) (fun k hk => by have h3 := Z3.out.2; have h4 := Z4.out; have := hk.2; omega))
    have U2 := Aside0.mk (Kd.V_mono (ok' := fun k => k < b9 + 1) (rb (b' := 0) T2b.out) (fun k hk => by have := hk.2; omega))
    have U3 := Aside0.mk (Kd.V_mono (ok' := fun k => k < b9 + 1) (rb (b' := 0) T3b.out) (fun k hk => by have := hk.2; omega))
    clear hokA T0b T1b T2b T3b
    go_loopg [12] r2.length (fun kx s12 wr => ∃ (j : Nat) (v : Value) (recs : List (List Value)), s12 = .int .i64 j ∧ j + kx = r2.length ∧ Aside0 (Bxs w wr ([(b9 + 1, #[.slice A8 r1.length c8, v], 31), (b9, #[.slice B8 r1.length d8, .slice B9 r2.length d9], 31), (b7, #[.slice A8 r1.length c8, .slice A9 r2.length c9], 27)] : List Box)) ∧ Aside0 (OV 61 4 wr (b9 + 2) v recs) ∧ Aside0 (Recs k61 wr (fun k => k < b9 + 1) ((r2.take j).map toX) recs) ∧ Aside0 (recs.length = j) ∧ Aside0 (Kd.V k62 62 wr 0 (fun k => k < b9 + 1) (.slice A9 r2.length c9) r2) ∧ Aside0 (Below (b9 + 1) x6 wr))
    case atStart => exact ⟨0, .slice none 0 0, [], rfl, by omega, M6, ⟨OV.nil _ _ _ _⟩, ⟨rfl, fun j h1 => by simp at h1⟩, ⟨rfl⟩, U1, ⟨Below.refl _ _⟩⟩
    case round =>
      clear M6 U1
      obtain ⟨j, v, recs, rfl, hj, BX, OVV, RC0, RL, U1, BL⟩ := hrel
      obtain ⟨Av, cv, rfl, hcv⟩ := OVV.out.slice
      have M := BX.out
      have s0 := (M.cell 2 0 rfl).trans rfl
      have s1 := (M.cell 2 1 rfl).trans rfl
      have x0 := (M.cell 0 0 rfl).trans rfl
      have x1 := (M.cell 0 1 rfl).trans rfl
      have xf1 := M.frz 0 1 rfl
      have q63 : r2.length ≤ 9223372036854775807 := by omega
      by_cases hlt : j < r2.length
      · have q1 : (j : Int) < (r2.length : Int) := by omega
        obtain ⟨ad, A2, c2, rfl, p0, p1, p2, p3, hl2, hF2⟩ := OwnWalk.at_F (Kd.V_F U1.out) j hlt
        have erd : rd_T62 r2 (j : Int) = r2[j] := by unfold rd_T62; rw [Int.toNat_natCast]; simp [List.getD, hlt]
        rw [erd] at p0 p1 p2 p3 hl2 hF2
        have HM := Aside0.mk (map_take_snoc toX r2 j hlt)
        generalize r2[j] = y at p0 p1 p2 p3 hl2 hF2 HM
        have FK := Aside0.mk (fk_toX hl2 hF2)
        have BX5 := Aside0.mk M.drew
        have OV5 := Aside0.mk (OVV.out.move (w' := wr.drew) (fun _ _ _ _ => rfl))
        have BX6 := Aside0.mk (M.drew.alloc (.cells #[.bool y.f0, .bool y.f1, .slice A2 y.f2.length c2, .int .i64 y.f3] 61 (0, 0)))
        have OV6 := Aside0.mk (OV5.out.alloc (.cells #[.bool y.f0, .bool y.f1, .slice A2 y.f2.length c2, .int .i64 y.f3] 61 (0, 0)))
        have OWN := Aside0.mk (OV6.out.own (by decide))
        have NEWS := Aside0.mk (heap_alloc_new wr.drew (.cells #[.bool y.f0, .bool y.f1, .slice A2 y.f2.length c2, .int .i64 y.f3] 61 (0, 0)))
        have WID := Aside0.mk OV5.out.wide
        have hrl := Nat.le_of_eq RL.out
        have NW := Aside0.mk (show ∀ j u, ([.bool y.f0, .bool y.f1, .slice A2 y.f2.length c2, .int .i64 y.f3] : List Value)[j]? = some u → (wr.drew.alloc (.cells #[.bool y.f0, .bool y.f1, .slice A2 y.f2.length c2, .int .i64 y.f3] 61 (0, 0))).cell? ((⟨wr.heap.size, 0, none⟩ : Addr).add j) = some u from by
          intro j u hu
          rw [add_at, Nat.zero_add]
          exact (blk_cell NEWS.out j).trans (by rw [List.getElem?_toArray]; exact hu))
        have ONE := Aside0.mk (show ∀ u ∈ ([.bool y.f0, .bool y.f1, .slice A2 y.f2.length c2, .int .i64 y.f3] : List Value), u.oneCell' = true from by simp [Value.oneCell'])
        have LT := Aside0.mk (M.lt 0 rfl)
        have W9 := Aside0.mk (show w.heap.size ≤ b9 + 1 from M.ge _ List.mem_cons_self)
        have BS6 := Aside0.mk (show b9 + 2 ≤ (wr.drew.alloc (.cells #[.bool y.f0, .bool y.f1, .slice A2 y.f2.length c2, .int .i64 y.f3] 61 (0, 0))).heap.size from by have := LT.out; simp; omega)
        have x6b : (wr.alloc (.cells #[.bool y.f0, .bool y.f1, .slice A2 y.f2.length c2, .int .i64 y.f3] 61 (0, 0))).cell? ⟨b9 + 1, 1, none⟩ = some (.slice Av recs.length cv) := ((M.alloc (.cells #[.bool y.f0, .bool y.f1, .slice A2 y.f2.length c2, .int .i64 y.f3] 61 (0, 0))).cell 0 1 rfl).trans rfl
        have HNK := Aside0.mk (show ∀ k, k < b9 + 2 → some k ≠ (Value.slice Av recs.length cv).ownBlock from fun k hk h => by
          rcases OV5.out with ⟨h1, _⟩ | ⟨g, c1, h1, hg, G⟩
          · rw [h1] at h; cases h
          · rw [h1] at h
            have hgx : k = g := Option.some.inj h
            omega)
        have HNB := Aside0.mk (show ∀ x ∈ ([(b9 + 1, #[.slice A8 r1.length c8, .slice Av recs.length cv], 31), (b9, #[.slice B8 r1.length d8, .slice B9 r2.length d9], 31), (b7, #[.slice A8 r1.length c8, .slice (some ad) r2.length c9], 27)] : List Box), some x.1 ≠ (Value.slice Av recs.length cv).ownBlock from fun x hx h => by
          have h3 := Z3.out.2
          have h4 := Z4.out
          simp only [List.mem_cons, List.not_mem_nil, or_false] at hx
          rcases hx with rfl | rfl | rfl
          · exact HNK.out _ (by show b9 + 1 < _; omega) h
          · exact HNK.out _ (by show b9 < _; omega) h
          · exact HNK.out _ (by show b7 < _; omega) h)
        have AL := Aside0.mk (show ∀ k, k < b9 + 1 → (wr.drew.alloc (.cells #[.bool y.f0, .bool y.f1, .slice A2 y.f2.length c2, .int .i64 y.f3] 61 (0, 0))).heap[k]? = wr.heap[k]? from fun k hk => (below_alloc (Below.refl wr.drew.heap.size wr.drew) (.cells #[.bool y.f0, .bool y.f1, .slice A2 y.f2.length c2, .int .i64 y.f3] 61 (0, 0))).block k (by have := LT.out; show k < wr.heap.size; omega))
        have BL6 := Aside0.mk (show Below (b9 + 1) x6 (wr.drew.alloc (.cells #[.bool y.f0, .bool y.f1, .slice A2 y.f2.length c2, .int .i64 y.f3] 61 (0, 0))) from below_then BL.out (by have := LT.out; omega) (below_alloc (below_drew1 (Below.refl wr.heap.size wr)) _))
        clear hl2 hF2 erd M
        go_upto_region 9 with (fail)
        go_region_law (refine step_append_lies _ rfl _ _ 29 rfl (b9 + 2) 61 i0 (.agg #[.bool false, .bool false, .slice none 0 0, .int .i64 0]) 4 40 Try.underlying29 hi0 hz0 hz1 hz2 hzs (by decide) _ _ _ rfl OWN.out ⟨wr.heap.size, 0, none⟩ 1 1 [.bool y.f0, .bool y.f1, .slice A2 y.f2.length c2, .int .i64 y.f3] rfl rfl NW.out ONE.out (by decide) (by unfold maxLen; omega) (by omega) BS6.out _ rfl ?_; intro g7 c7 w6 hown hgrow hat7 hlt7; have OV7 := Aside0.mk (OV.snoc hown rfl WID.out rfl); have M7 : Bxs w w6 ([(b9 + 1, #[.slice A8 r1.length c8, .slice Av recs.length cv], 31), (b9, #[.slice B8 r1.length d8, .slice B9 r2.length d9], 31), (b7, #[.slice A8 r1.length c8, .slice (some ad) r2.length c9], 27)] : List Box) := ⟨fun x hx => (hgrow.block _ (Array.getElem?_eq_some_iff.1 (BX6.out.at_ x hx)).1 (HNB.out x hx)).trans (BX6.out.at_ x hx), BX6.out.ne, BX6.out.ge, BX6.out.b.grown hgrow (by have := BX6.out.b.size; exact this) (fun k hk => by have := (OWN.out.lt k hk).1; have := W9.out; omega)⟩; have BX7 := Aside0.mk M7; have BL7 := Aside0.mk (BL6.out.grown hgrow (by have := BS6.out; omega) (fun k hk => by have := (OWN.out.lt k hk).1; omega)); have MV7 := Aside0.mk (show ∀ k, k < b9 + 1 → w6.heap[k]? = wr.heap[k]? from fun k hk => (hgrow.block _ (Nat.lt_of_lt_of_le (show k < b9 + 2 by omega) BS6.out) (HNK.out k (by omega))).trans (AL.out k hk)); have x7 : w6.cell? ⟨b9 + 1, 1, none⟩ = some (.slice Av recs.length cv) := (M7.cell 0 1 rfl).trans rfl; have z7 := M7.frz 0 1 rfl; clear hown hgrow hat7 hlt7 M7)
        all_goals go_wp2
        all_goals go_roundg (r2.length - (j + 1))
        all_goals try (exact (show r2.length - (j + 1) < _ by omega))
        all_goals refine ⟨j + 1, _, recs ++ [[.bool y.f0, .bool y.f1, .slice A2 y.f2.length c2, .int .i64 y.f3]], by go_num, by omega, ⟨BX7.out.set 0 1 _ rfl rfl⟩, ⟨OV7.out.move (fun k hk _ _ => Below.heap_setCell w6 ⟨b9 + 1, 1, none⟩ _ k (by show k ≠ b9 + 1; omega))⟩, ⟨Recs.step (by rw [HM.out]; exact RC0.out.snoc rfl FK.out) (fun k hk hl => (Below.heap_setCell w6 ⟨b9 + 1, 1, none⟩ _ k (by show k ≠ b9 + 1; omega)).trans (MV7.out k hk))⟩, ⟨by rw [List.length_append, List.length_singleton, RL.out]⟩, ⟨Kd.V_step U1.out (fun k hk hl => (Below.heap_setCell w6 ⟨b9 + 1, 1, none⟩ _ k (by show k ≠ b9 + 1; omega)).trans (MV7.out k hk))⟩, ⟨BL7.out.setCell (p := ⟨b9 + 1, 1, none⟩) (Nat.le_refl _) _⟩⟩
      · obtain rfl : j = r2.length := by omega
        have q1 : ¬ (r2.length : Int) < (r2.length : Int) := by omega
        have k0 := (M.cell 1 0 rfl).trans rfl
        have k1 := (M.cell 1 1 rfl).trans rfl
        have RV := recs_V OVV.out (by have := RC0.out; rw [List.take_length] at this; exact this)
        have E1 := Aside0.mk RV
        have E0 := Aside0.mk (Kd.V_step U0.out (fun k hk hl => BL.out.block k hk))
        have E2 := Aside0.mk (Kd.V_step U2.out (fun k hk hl => BL.out.block k hk))
        have E3 := Aside0.mk (Kd.V_step U3.out (fun k hk hl => BL.out.block k hk))
        have hbb : (b == b) = true := by simp
        clear M RV xf1
        go_wp2_with fail
        refine (LC.out _ BX.out.b).mono ?_
        rintro e w7 ⟨rfl, hb⟩
        have M7 := Aside0.mk (BX.out.below hb)
        have F0 := Aside0.mk (Kd.V_below E0.out hb)
        have F1 := Aside0.mk (Kd.V_below E1.out hb)
        have F2 := Aside0.mk (Kd.V_below E2.out hb)
        have F3 := Aside0.mk (Kd.V_below E3.out hb)
        have M := M7.out
        have k0 := (M.cell 1 0 rfl).trans rfl
        have k1 := (M.cell 1 1 rfl).trans rfl
        have x0 := (M.cell 0 0 rfl).trans rfl
        have x1 := (M.cell 0 1 rfl).trans rfl
        clear M hb E0 E1 E2 E3
        have hln : recs.length = r2.length := RL.out
        rw [hln] at x1
        go_wp2_with fail
        have ES := same_ew (W := w7) (xs := r2.map toX) rfl WF.out (by omega) (Kd.V_mono (ok' := fun k => k < b9 + 1 ∨ b9 + 2 ≤ k) F0.out (fun k hk => .inl hk)) (B1 := Av) (d1 := cv) (by rw [List.length_map]; have := F1.out; rw [hln] at this; exact rb this) B8 d8 B9 d9 F2.out (by rw [List.length_map]; exact F3.out)
        rw [List.length_map] at ES
        refine ES.mono ?_
        rintro e w8 ⟨rfl, hb⟩
        have M8 := Aside0.mk (M7.out.below hb)
        clear hb ES F0 F1 F2 F3 k0 k1 x0 x1 M7
        go_wp2_with fail
        refine (live_true _).mono ?_
        rintro e w9 ⟨rfl, hb⟩
        have M9 := Aside0.mk (M8.out.below hb)
        clear hb
        go_wp2
        go_ret
        exact ⟨rfl, M9.out.b⟩
end Go.Proofs.Ytkkneaefjahihaa.Leg
