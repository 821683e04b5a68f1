-- Printed by a program of this session (mkprint.py) out of the translation; Lean checks it.
import Derived.Test.YtocmdcjbjhpooaaInsW
import Derived.Test.YtocmdcjbjhpooaaPFrameOrdersx0
namespace Go.Proofs.Ytocmdcjbjhpooaa.PFrameOrders
open Go.RowKit Go.Proofs.YtocmdcjbjhpooaaW.PrintWords Go.Proofs.YtocmdcjbjhpooaaW.PrintLast Go.Proofs.YtocmdcjbjhpooaaW.PrintMore
attribute [local go_sem] max2_int min2_int max_two min_two max_three min_three max_four min_four   -- for this text's walks alone
set_option linter.unusedVariables false
set_option linter.unusedSimpArgs false

/-! ### deadwoodlaw15_great: function 10 -/
mutual
def deadwoodlaw15_great.l0 : Nat → List (S39) → Int → Option (Bool)
  | 0, _, _ => none
  | k + 1, x0, x3 => if x3 < (x0.length : Int) then (deadwoodlaw15_great.j1 k x0 x3 (decide (x3 < 100))) else (deadwoodlaw15_great.j1 k x0 x3 false)
def deadwoodlaw15_great.j1 : Nat → List (S39) → Int → Bool → Option (Bool)
  | 0, _, _, _ => none
  | k + 1, x0, x3, x11 => if x11 = true then (if 0 ≤ x3 then (if x3 < (x0.length : Int) then (if (((rd_T39 x0 x3).f2).length : Int) > 100 then (some true) else (deadwoodlaw15_great.l0 k x0 (wrap64 (x3 + 1)))) else (none)) else (none)) else (some (decide ((x0.length : Int) > 80)))
end
def deadwoodlaw15_great.f (k : Nat) (l0 : List (S39)) : Option (Bool) := deadwoodlaw15_great.l0 k l0 0
theorem deadwoodlaw15_great.mono_l : ∀ k, (∀ y0 y1, LeO (deadwoodlaw15_great.l0 k y0 y1) (deadwoodlaw15_great.l0 (k + 1) y0 y1)) ∧ (∀ y0 y1 y2, LeO (deadwoodlaw15_great.j1 k y0 y1 y2) (deadwoodlaw15_great.j1 (k + 1) y0 y1 y2))
  | 0 => ⟨fun _ _ r h => by simp [deadwoodlaw15_great.l0] at h, fun _ _ _ r h => by simp [deadwoodlaw15_great.j1] at h⟩
  | k + 1 => by
    obtain ⟨ih0, ih1⟩ := deadwoodlaw15_great.mono_l k
    refine ⟨?_, ?_⟩
    · intro y0 y1
      unfold deadwoodlaw15_great.l0
      repeat' first
      | (with_reducible exact ih0 _ _)
      | (with_reducible exact ih1 _ _ _)
      | (with_reducible exact LeO.refl _)
      | (with_reducible exact LeO.none _)
      | (with_reducible refine LeO.ite ?_ ?_)
      | (with_reducible refine LeO.bind ?_ (fun _ => ?_))
      | exact ih0 _ _
      | exact ih1 _ _ _
      | exact LeO.none _
      | refine LeO.ite ?_ ?_
      | refine LeO.bind ?_ (fun _ => ?_)
    · intro y0 y1 y2
      unfold deadwoodlaw15_great.j1
      repeat' first
      | (with_reducible exact ih0 _ _)
      | (with_reducible exact ih1 _ _ _)
      | (with_reducible exact LeO.refl _)
      | (with_reducible exact LeO.none _)
      | (with_reducible refine LeO.ite ?_ ?_)
      | (with_reducible refine LeO.bind ?_ (fun _ => ?_))
      | exact ih0 _ _
      | exact ih1 _ _ _
      | exact LeO.none _
      | refine LeO.ite ?_ ?_
      | refine LeO.bind ?_ (fun _ => ?_)
theorem deadwoodlaw15_great.mono : ∀ a0 k, LeO (deadwoodlaw15_great.f k a0) (deadwoodlaw15_great.f (k + 1) a0) := by
  intro a0 k
  obtain ⟨ih0, ih1⟩ := deadwoodlaw15_great.mono_l k
  unfold deadwoodlaw15_great.f
  repeat' first
      | (with_reducible exact ih0 _ _)
      | (with_reducible exact ih1 _ _ _)
      | (with_reducible exact LeO.refl _)
      | (with_reducible exact LeO.none _)
      | (with_reducible refine LeO.ite ?_ ?_)
      | (with_reducible refine LeO.bind ?_ (fun _ => ?_))
      | exact ih0 _ _
      | exact ih1 _ _ _
      | exact LeO.none _
      | refine LeO.ite ?_ ?_
      | refine LeO.bind ?_ (fun _ => ?_)
set_option maxHeartbeats 8000000 in
set_option maxRecDepth 100000 in
theorem deadwoodlaw15_great.calls (k : Nat) (A0 : Option Addr) (c0 : Nat) (l0 : List (S39)) (r : Bool) (w : World) (hr0 : Kd.C k39 w A0 l0.length l0) (hc0 : l0.length ≤ c0) (h : deadwoodlaw15_great.f k l0 = some r) :
    Calls Try.prog 10 #[.slice A0 l0.length c0] w fun e w' => e = .returned (.bool r) ∧ Drawn0 w w' := by
  have HR0 := Aside0.mk hr0
  have HC0 := Aside0.mk hc0
  clear hr0 hc0
  have H : (deadwoodlaw15_great.l0 k l0 0) = some r := h
  clear h
  have H' := Aside0.mk H
  clear H
  go_enter Try.func10, Try.ntmps10
  go_wp2
  go_loopg [3] k (fun kq v3 w' => ∃ (x3_1 : Int), v3 = .int .i64 x3_1 ∧ Aside0 (deadwoodlaw15_great.l0 kq l0 x3_1 = some r) ∧ Aside0 (kq ≤ k) ∧ Drawn0 w w')
  case atStart => exact ⟨(0), (by first | rfl | (simp; done) | (simp [*]; done)), H', ⟨Nat.le_refl _⟩, by repeat (first | exact Drawn0.refl _ | apply Drawn0.step)⟩
  case round =>
    clear H'
    try clear c1
    obtain ⟨x3_1, rfl, HA, HK1, ⟨m1, rfl⟩⟩ := hrel
    cases gk with
    | zero => exact absurd HA.out (by simp [deadwoodlaw15_great.l0])
    | succ k1 =>
      have H := HA.out
      clear HA
      simp only [deadwoodlaw15_great.l0] at H
      have HC2 := Aside0.mk H
      clear H
      go_upto_region 2 with (fail)
      go_cut [11] (fun v11 wc => ∃ (kq : Nat) (x11_1 : Bool), v11 = .bool x11_1 ∧ Aside0 (deadwoodlaw15_great.j1 kq l0 x3_1 x11_1 = some r) ∧ Aside0 (kq ≤ k1) ∧ Drawn0 w wc)
      case first =>
        have H := HC2.out
        clear HC2
        by_cases c3 : x3_1 < (l0.length : Int)
        · rw [if_pos c3] at H
          have c3b0 : decide (x3_1 < (l0.length : Int)) = true := decide_eq_true c3
          clear c3
          (first | rw [c3b0] | (simp only [i64_w, i32_w]; rw [c3b0]) | skip)
          have H' := Aside0.mk H
          clear H
          go_wp2
          go_meet
          case rel => exact ⟨_, (decide (x3_1 < 100)), (by first | rfl | (simp; done) | (simp [*]; done)), H', ⟨by have := HK1.out; first | omega | exact Nat.le_refl _⟩, by repeat (first | exact Drawn0.refl _ | apply Drawn0.step)⟩
        · rw [if_neg c3] at H
          have c3b0 : decide (x3_1 < (l0.length : Int)) = false := decide_eq_false c3
          clear c3
          (first | rw [c3b0] | (simp only [i64_w, i32_w]; rw [c3b0]) | skip)
          have H' := Aside0.mk H
          clear H
          go_wp2
          go_meet
          case rel => exact ⟨_, (false), (by first | rfl | (simp; done) | (simp [*]; done)), H', ⟨by have := HK1.out; first | omega | exact Nat.le_refl _⟩, by repeat (first | exact Drawn0.refl _ | apply Drawn0.step)⟩
      case rest =>
        clear HC2
        try clear c1
        try clear p2
        try clear c3
        try clear c3b0
        obtain ⟨kq, x11_1, rfl, HA, HJ1, ⟨mc1, rfl⟩⟩ := hcut
        cases kq with
        | zero => exact absurd HA.out (by simp [deadwoodlaw15_great.j1])
        | succ kj1 =>
          have H := HA.out
          clear HA
          simp only [deadwoodlaw15_great.j1] at H
          by_cases c4 : x11_1 = true
          · subst c4
            have H1 : (if 0 ≤ x3_1 then (if x3_1 < (l0.length : Int) then (if (((rd_T39 l0 x3_1).f2).length : Int) > 100 then (some true) else (deadwoodlaw15_great.l0 kj1 l0 (wrap64 (x3_1 + 1)))) else (none)) else (none)) = some r := by rw [if_pos rfl] at H; exact H
            clear H
            have H := H1
            clear H1
            by_cases c5 : 0 ≤ x3_1
            · rw [if_pos c5] at H
              have c5b0 : decide (0 ≤ x3_1) = true := decide_eq_true c5
              clear c5
              by_cases c6 : x3_1 < (l0.length : Int)
              · rw [if_pos c6] at H
                have c6b0 : decide (x3_1 < (l0.length : Int)) = true := decide_eq_true c6
                clear c6
                by_cases c7 : (((rd_T39 l0 x3_1).f2).length : Int) > 100
                · rw [if_pos c7] at H
                  have c7b0 : decide (100 < (((rd_T39 l0 x3_1).f2).length : Int)) = true := decide_eq_true c7
                  have c7b1 : decide (100 < ((rd_T39 l0 x3_1).f2).length) = true := decide_eq_true (by omega)
                  clear c7
                  obtain rfl := Option.some.inj H
                  have p101 : 0 ≤ (x3_1 : Int) := of_decide_eq_true (by first | (with_reducible assumption) | assumption)
                  have q101 : x3_1 < (l0.length : Int) := of_decide_eq_true (by first | (with_reducible assumption) | assumption)
                  obtain ⟨ad101, A101_2, c101_2, e101, hx101_0, hx101_1, hx101_2, hx101_3, hx101_4, hl101_2, hi101_2⟩ := at_T39 HR0.out x3_1 p101 q101
                  cases e101
                  have HR101_2 := Aside0.mk hi101_2
                  have HC101_2 := Aside0.mk hl101_2
                  clear hi101_2 hl101_2
                  replace p101 := eq_true p101
                  replace q101 := eq_true q101
                  go_wp2
                  go_ret
                  exact ⟨by first | rfl | (simp; done) | (simp [*]; done), by repeat (first | exact Drawn0.refl _ | apply Drawn0.step)⟩
                · rw [if_neg c7] at H
                  have c7b0 : decide (100 < (((rd_T39 l0 x3_1).f2).length : Int)) = false := decide_eq_false c7
                  have c7b1 : decide (100 < ((rd_T39 l0 x3_1).f2).length) = false := decide_eq_false (by omega)
                  clear c7
                  have H' := Aside0.mk H
                  clear H
                  have p101 : 0 ≤ (x3_1 : Int) := of_decide_eq_true (by first | (with_reducible assumption) | assumption)
                  have q101 : x3_1 < (l0.length : Int) := of_decide_eq_true (by first | (with_reducible assumption) | assumption)
                  obtain ⟨ad101, A101_2, c101_2, e101, hx101_0, hx101_1, hx101_2, hx101_3, hx101_4, hl101_2, hi101_2⟩ := at_T39 HR0.out x3_1 p101 q101
                  cases e101
                  have HR101_2 := Aside0.mk hi101_2
                  have HC101_2 := Aside0.mk hl101_2
                  clear hi101_2 hl101_2
                  replace p101 := eq_true p101
                  replace q101 := eq_true q101
                  go_wp2
                  go_roundg kj1
                  case measure => have := HK1.out; have := HJ1.out; omega
                  case rel => exact ⟨(wrap64 (x3_1 + 1)), (by first | rfl | (simp; done) | (simp [*]; done)), H', ⟨by have := HK1.out; have := HJ1.out; omega⟩, by repeat (first | exact Drawn0.refl _ | apply Drawn0.step)⟩
              · rw [if_neg c6] at H
                exact absurd H (by simp)
            · rw [if_neg c5] at H
              exact absurd H (by simp)
          · replace c4 := Bool.eq_false_iff.mpr c4
            subst c4
            have H1 : (some (decide ((l0.length : Int) > 80))) = some r := by rw [if_neg (show ¬ (false = true) by decide)] at H; exact H
            clear H
            have H := H1
            clear H1
            obtain rfl := Option.some.inj H
            go_wp2
            go_ret
            exact ⟨by first | rfl | (simp; done) | (simp [*]; done), by repeat (first | exact Drawn0.refl _ | apply Drawn0.step)⟩

-- NOT PRINTED: function 12 (frame_New)

-- NOT PRINTED: function 16 (frame_Thread_Depth)

-- NOT PRINTED: function 17 (frame_Thread_Call)

-- NOT PRINTED: function 19 (frame_Thread_Top)

-- NOT PRINTED: function 21 (frame_Thread_Back)

-- NOT PRINTED: function 11 (deadwoodlaw15_lives)

-- NOT PRINTED: function 18 (frame_Thread_Push)

-- NOT PRINTED: function 20 (frame_Thread_Pop)

/-! ### deadwoodref08_At: function 96 -/
def deadwoodref08_At.l0 : Nat → List (S37) → Int → Int → Bool → Int → Option (Int × Bool)
  | 0, _, _, _, _, _ => none
  | k + 1, x0, x1, x6, x7, x8 => if x8 < (x0.length : Int) then (if 0 ≤ x8 then (if ((rd_T37 x0 x8).f0) < x1 then (if x7 = true then (deadwoodref08_At.l0 k x0 x1 (wrap64 (x6 + 1)) true (wrap64 (x8 + 1))) else (deadwoodref08_At.l0 k x0 x1 (wrap64 (x6 + 1)) (((rd_T37 x0 x8).f0) == x1) (wrap64 (x8 + 1)))) else (if x7 = true then (deadwoodref08_At.l0 k x0 x1 x6 true (wrap64 (x8 + 1))) else (deadwoodref08_At.l0 k x0 x1 x6 (((rd_T37 x0 x8).f0) == x1) (wrap64 (x8 + 1))))) else (none)) else (some (x6, x7))
def deadwoodref08_At.f (k : Nat) (l0 : List (S37)) (a1 : Int) : Option (Int × Bool) := deadwoodref08_At.l0 k l0 a1 0 false 0
theorem deadwoodref08_At.mono_l : ∀ k, (∀ y0 y1 y2 y3 y4, LeO (deadwoodref08_At.l0 k y0 y1 y2 y3 y4) (deadwoodref08_At.l0 (k + 1) y0 y1 y2 y3 y4))
  | 0 => fun _ _ _ _ _ r h => by simp [deadwoodref08_At.l0] at h
  | k + 1 => by
    have ih0 := deadwoodref08_At.mono_l k
    · intro y0 y1 y2 y3 y4
      unfold deadwoodref08_At.l0
      repeat' first
      | (with_reducible exact ih0 _ _ _ _ _)
      | (with_reducible exact LeO.refl _)
      | (with_reducible exact LeO.none _)
      | (with_reducible refine LeO.ite ?_ ?_)
      | (with_reducible refine LeO.bind ?_ (fun _ => ?_))
      | exact ih0 _ _ _ _ _
      | exact LeO.none _
      | refine LeO.ite ?_ ?_
      | refine LeO.bind ?_ (fun _ => ?_)
theorem deadwoodref08_At.mono : ∀ a0 a1 k, LeO (deadwoodref08_At.f k a0 a1) (deadwoodref08_At.f (k + 1) a0 a1) := by
  intro a0 a1 k
  have ih0 := deadwoodref08_At.mono_l k
  unfold deadwoodref08_At.f
  repeat' first
      | (with_reducible exact ih0 _ _ _ _ _)
      | (with_reducible exact LeO.refl _)
      | (with_reducible exact LeO.none _)
      | (with_reducible refine LeO.ite ?_ ?_)
      | (with_reducible refine LeO.bind ?_ (fun _ => ?_))
      | exact ih0 _ _ _ _ _
      | exact LeO.none _
      | refine LeO.ite ?_ ?_
      | refine LeO.bind ?_ (fun _ => ?_)
set_option maxHeartbeats 8000000 in
set_option maxRecDepth 100000 in
theorem deadwoodref08_At.calls (k : Nat) (A0 : Option Addr) (c0 : Nat) (l0 : List (S37)) (a1 : Int) (r1 : Int) (r2 : Bool) (w : World) (hr0 : Kd.C k37 w A0 l0.length l0) (hc0 : l0.length ≤ c0) (h : deadwoodref08_At.f k l0 a1 = some (r1, r2)) :
    Calls Try.prog 96 #[.slice A0 l0.length c0, .int .i64 a1] w fun e w' => e = .returned (.tuple #[.int .i64 r1, .bool r2]) ∧ Drawn0 w w' := by
  have HR0 := Aside0.mk hr0
  have HC0 := Aside0.mk hc0
  clear hr0 hc0
  have H : (deadwoodref08_At.l0 k l0 a1 0 false 0) = some (r1, r2) := h
  clear h
  have H' := Aside0.mk H
  clear H
  go_enter Try.func96, Try.ntmps96
  go_wp2
  go_loopg [6, 7, 8] k (fun kq v6 v7 v8 w' => ∃ (x6_1 : Int) (x7_1 : Bool) (x8_1 : Int), v6 = .int .i64 x6_1 ∧ v7 = .bool x7_1 ∧ v8 = .int .i64 x8_1 ∧ Aside0 (deadwoodref08_At.l0 kq l0 a1 x6_1 x7_1 x8_1 = some (r1, r2)) ∧ Aside0 (kq ≤ k) ∧ Drawn0 w w')
  case atStart => exact ⟨(0), (false), (0), (by first | rfl | (simp; done) | (simp [*]; done)), (by first | rfl | (simp; done) | (simp [*]; done)), (by first | rfl | (simp; done) | (simp [*]; done)), H', ⟨Nat.le_refl _⟩, by repeat (first | exact Drawn0.refl _ | apply Drawn0.step)⟩
  case round =>
    clear H'
    try clear p2
    obtain ⟨x6_1, x7_1, x8_1, rfl, rfl, rfl, HA, HK1, ⟨m1, rfl⟩⟩ := hrel
    cases gk with
    | zero => exact absurd HA.out (by simp [deadwoodref08_At.l0])
    | succ k1 =>
      have H := HA.out
      clear HA
      simp only [deadwoodref08_At.l0] at H
      by_cases c3 : x8_1 < (l0.length : Int)
      · rw [if_pos c3] at H
        have c3b0 : decide (x8_1 < (l0.length : Int)) = true := decide_eq_true c3
        clear c3
        by_cases c4 : 0 ≤ x8_1
        · rw [if_pos c4] at H
          have c4b0 : decide (0 ≤ x8_1) = true := decide_eq_true c4
          clear c4
          by_cases c5 : ((rd_T37 l0 x8_1).f0) < a1
          · rw [if_pos c5] at H
            have c5b0 : decide (((rd_T37 l0 x8_1).f0) < a1) = true := decide_eq_true c5
            clear c5
            by_cases c6 : x7_1 = true
            · subst c6
              have H1 : (deadwoodref08_At.l0 k1 l0 a1 (wrap64 (x6_1 + 1)) true (wrap64 (x8_1 + 1))) = some (r1, r2) := by rw [if_pos rfl] at H; exact H
              clear H
              have H := H1
              clear H1
              have H' := Aside0.mk H
              clear H
              have p102 : 0 ≤ (x8_1 : Int) := of_decide_eq_true (by first | (with_reducible assumption) | assumption)
              have q102 : x8_1 < (l0.length : Int) := of_decide_eq_true (by first | (with_reducible assumption) | assumption)
              obtain ⟨ad102, e102, hx102_0, hx102_1⟩ := at_T37 HR0.out x8_1 p102 q102
              cases e102
              replace p102 := eq_true p102
              replace q102 := eq_true q102
              go_wp2
              go_roundg k1
              case measure => have := HK1.out; omega
              case rel => exact ⟨(wrap64 (x6_1 + 1)), (true), (wrap64 (x8_1 + 1)), (by first | rfl | (simp; done) | (simp [*]; done)), (by first | rfl | (simp; done) | (simp [*]; done)), (by first | rfl | (simp; done) | (simp [*]; done)), H', ⟨by have := HK1.out; omega⟩, by repeat (first | exact Drawn0.refl _ | apply Drawn0.step)⟩
            · replace c6 := Bool.eq_false_iff.mpr c6
              subst c6
              have H1 : (deadwoodref08_At.l0 k1 l0 a1 (wrap64 (x6_1 + 1)) (((rd_T37 l0 x8_1).f0) == a1) (wrap64 (x8_1 + 1))) = some (r1, r2) := by rw [if_neg (show ¬ (false = true) by decide)] at H; exact H
              clear H
              have H := H1
              clear H1
              have H' := Aside0.mk H
              clear H
              have p102 : 0 ≤ (x8_1 : Int) := of_decide_eq_true (by first | (with_reducible assumption) | assumption)
              have q102 : x8_1 < (l0.length : Int) := of_decide_eq_true (by first | (with_reducible assumption) | assumption)
              obtain ⟨ad102, e102, hx102_0, hx102_1⟩ := at_T37 HR0.out x8_1 p102 q102
              cases e102
              replace p102 := eq_true p102
              replace q102 := eq_true q102
              have p103 : 0 ≤ (x8_1 : Int) := of_decide_eq_true (by first | (with_reducible assumption) | assumption)
              have q103 : x8_1 < (l0.length : Int) := of_decide_eq_true (by first | (with_reducible assumption) | assumption)
              obtain ⟨ad103, e103, hx103_0, hx103_1⟩ := at_T37 HR0.out x8_1 p103 q103
              obtain rfl : ad102 = ad103 := (by injection e103)
              replace p103 := eq_true p103
              replace q103 := eq_true q103
              go_wp2
              go_roundg k1
              case measure => have := HK1.out; omega
              case rel => exact ⟨(wrap64 (x6_1 + 1)), ((((rd_T37 l0 x8_1).f0) == a1)), (wrap64 (x8_1 + 1)), (by first | rfl | (simp; done) | (simp [*]; done)), (by first | rfl | (simp; done) | (simp [*]; done)), (by first | rfl | (simp; done) | (simp [*]; done)), H', ⟨by have := HK1.out; omega⟩, by repeat (first | exact Drawn0.refl _ | apply Drawn0.step)⟩
          · rw [if_neg c5] at H
            have c5b0 : decide (((rd_T37 l0 x8_1).f0) < a1) = false := decide_eq_false c5
            clear c5
            by_cases c7 : x7_1 = true
            · subst c7
              have H1 : (deadwoodref08_At.l0 k1 l0 a1 x6_1 true (wrap64 (x8_1 + 1))) = some (r1, r2) := by rw [if_pos rfl] at H; exact H
              clear H
              have H := H1
              clear H1
              have H' := Aside0.mk H
              clear H
              have p102 : 0 ≤ (x8_1 : Int) := of_decide_eq_true (by first | (with_reducible assumption) | assumption)
              have q102 : x8_1 < (l0.length : Int) := of_decide_eq_true (by first | (with_reducible assumption) | assumption)
              obtain ⟨ad102, e102, hx102_0, hx102_1⟩ := at_T37 HR0.out x8_1 p102 q102
              cases e102
              replace p102 := eq_true p102
              replace q102 := eq_true q102
              go_wp2
              go_roundg k1
              case measure => have := HK1.out; omega
              case rel => exact ⟨(x6_1), (true), (wrap64 (x8_1 + 1)), (by first | rfl | (simp; done) | (simp [*]; done)), (by first | rfl | (simp; done) | (simp [*]; done)), (by first | rfl | (simp; done) | (simp [*]; done)), H', ⟨by have := HK1.out; omega⟩, by repeat (first | exact Drawn0.refl _ | apply Drawn0.step)⟩
            · replace c7 := Bool.eq_false_iff.mpr c7
              subst c7
              have H1 : (deadwoodref08_At.l0 k1 l0 a1 x6_1 (((rd_T37 l0 x8_1).f0) == a1) (wrap64 (x8_1 + 1))) = some (r1, r2) := by rw [if_neg (show ¬ (false = true) by decide)] at H; exact H
              clear H
              have H := H1
              clear H1
              have H' := Aside0.mk H
              clear H
              have p102 : 0 ≤ (x8_1 : Int) := of_decide_eq_true (by first | (with_reducible assumption) | assumption)
              have q102 : x8_1 < (l0.length : Int) := of_decide_eq_true (by first | (with_reducible assumption) | assumption)
              obtain ⟨ad102, e102, hx102_0, hx102_1⟩ := at_T37 HR0.out x8_1 p102 q102
              cases e102
              replace p102 := eq_true p102
              replace q102 := eq_true q102
              have p104 : 0 ≤ (x8_1 : Int) := of_decide_eq_true (by first | (with_reducible assumption) | assumption)
              have q104 : x8_1 < (l0.length : Int) := of_decide_eq_true (by first | (with_reducible assumption) | assumption)
              obtain ⟨ad104, e104, hx104_0, hx104_1⟩ := at_T37 HR0.out x8_1 p104 q104
              obtain rfl : ad102 = ad104 := (by injection e104)
              replace p104 := eq_true p104
              replace q104 := eq_true q104
              go_wp2
              go_roundg k1
              case measure => have := HK1.out; omega
              case rel => exact ⟨(x6_1), ((((rd_T37 l0 x8_1).f0) == a1)), (wrap64 (x8_1 + 1)), (by first | rfl | (simp; done) | (simp [*]; done)), (by first | rfl | (simp; done) | (simp [*]; done)), (by first | rfl | (simp; done) | (simp [*]; done)), H', ⟨by have := HK1.out; omega⟩, by repeat (first | exact Drawn0.refl _ | apply Drawn0.step)⟩
        · rw [if_neg c4] at H
          exact absurd H (by simp)
      · rw [if_neg c3] at H
        have c3b0 : decide (x8_1 < (l0.length : Int)) = false := decide_eq_false c3
        clear c3
        simp only [Option.some.injEq, Prod.mk.injEq] at H
        obtain ⟨rfl, rfl⟩ := H
        go_wp2
        go_ret2
        exact ⟨by first | rfl | (simp; done) | (simp [*]; done), by repeat (first | exact Drawn0.refl _ | apply Drawn0.step)⟩

/-! ### pairs_Find: function 22 : a hand text (the library's search among keys that rise) -/
/-- Keys rise. -/
def ris : List S37 → Bool
  | [] => true
  | a :: l => (match l with | [] => true | b :: _ => decide (a.f0 < b.f0)) && ris l
def lessN (l : List S37) (a : Int) : Nat := l.countP (fun p => decide (p.f0 < a))
def isKey (l : List S37) (a : Int) : Bool := l.any (fun p => decide (p.f0 = a))
theorem ris_head {a : S37} {l : List S37} (h : ris (a :: l) = true) : ris l = true ∧ ∀ p ∈ l, a.f0 < p.f0 := by
  induction l generalizing a with
  | nil => exact ⟨rfl, by simp⟩
  | cons b l ih =>
    have h' : (decide (a.f0 < b.f0) && ris (b :: l)) = true := h
    rw [Bool.and_eq_true, decide_eq_true_eq] at h'
    refine ⟨h'.2, fun p hp => ?_⟩
    rcases List.mem_cons.1 hp with rfl | hp
    · exact h'.1
    · have := (ih h'.2).2 p hp; omega
theorem lessN_le (l : List S37) (a : Int) : lessN l a ≤ l.length := List.countP_le_length
/-- Of keys that rise those ahead of lessN are less, the others are not. -/
theorem less_iff {l : List S37} (h : ris l = true) (a : Int) : ∀ i (hi : i < l.length), (l[i].f0 < a ↔ i < lessN l a) := by
  induction l with
  | nil => intro i hi; simp at hi
  | cons b l ih =>
    obtain ⟨h1, h2⟩ := ris_head h
    intro i hi
    by_cases hb : b.f0 < a
    · have e : lessN (b :: l) a = lessN l a + 1 := by unfold lessN; rw [List.countP_cons_of_pos (by simpa using hb)]
      rw [e]
      cases i with
      | zero => simp [hb]
      | succ i => have := ih h1 i (by simpa using hi); simp only [List.getElem_cons_succ]; omega
    · have e : lessN (b :: l) a = 0 := by
        unfold lessN
        rw [List.countP_eq_zero]
        intro p hp
        rcases List.mem_cons.1 hp with rfl | hp
        · simpa using hb
        · have := h2 p hp; simp; omega
      rw [e]
      cases i with
      | zero => simp [hb]
      | succ i =>
        have hi' : i < l.length := by simpa using hi
        have := h2 l[i] (List.getElem_mem hi')
        simp only [List.getElem_cons_succ]; omega
theorem ris_pair {l : List S37} (h : ris l = true) : ∀ i j (hj : j < l.length) (hij : i < j), (l[i]'(by omega)).f0 < l[j].f0 := by
  induction l with
  | nil => intro i j hj; simp at hj
  | cons b l ih =>
    obtain ⟨h1, h2⟩ := ris_head h
    intro i j hj hij
    obtain ⟨j, rfl⟩ : ∃ m, j = m + 1 := ⟨j - 1, by omega⟩
    have hj' : j < l.length := by simpa using hj
    cases i with
    | zero => simpa using h2 l[j] (List.getElem_mem hj')
    | succ i => simpa using ih h1 i j hj' (by omega)
theorem isKey_iff {l : List S37} (h : ris l = true) (a : Int) : isKey l a = true ↔ ∃ hn : lessN l a < l.length, l[lessN l a].f0 = a := by
  unfold isKey
  rw [List.any_eq_true]
  constructor
  · rintro ⟨p, hp, he⟩
    have he := of_decide_eq_true he
    obtain ⟨i, hi, rfl⟩ := List.getElem_of_mem hp
    have h1 := less_iff h a i hi
    rcases Nat.lt_trichotomy i (lessN l a) with hl | hl | hl
    · omega
    · subst hl; exact ⟨hi, he⟩
    · exfalso
      have hn : lessN l a < l.length := by omega
      have h2 := less_iff h a (lessN l a) hn
      have h3 := ris_pair h (lessN l a) i hi hl
      omega
  · rintro ⟨hn, he⟩
    exact ⟨_, List.getElem_mem hn, decide_eq_true he⟩
def pairs_Find.f (_k : Nat) (l0 : List S37) (a1 : Int) : Option (Int × Bool) := if ris l0 = true ∧ l0.length ≤ 1000000 then some ((lessN l0 a1 : Int), isKey l0 a1) else none
theorem pairs_Find.mono : ∀ a0 a1 k, LeO (pairs_Find.f k a0 a1) (pairs_Find.f (k + 1) a0 a1) := fun _ _ _ _ h => h
namespace FindWalk
set_option maxRecDepth 100000 in
theorem cmp_lt {x a : Int} (h : x < a) (y : Int) (W : World) : Calls Try.prog 60 #[.agg #[.int .i64 x, .int .i64 y], .int .i64 a] W fun e w' => e = .returned (.int .i64 (-1)) ∧ Below W.heap.size W w' := by
  have hu := Try.underlying37
  go_enter Try.func60, Try.ntmps60
  go_wp2
  go_ret
  exact ⟨rfl, below_alloc (Below.refl _ _) _⟩
set_option maxRecDepth 100000 in
theorem cmp_eq (x y : Int) (W : World) : Calls Try.prog 60 #[.agg #[.int .i64 x, .int .i64 y], .int .i64 x] W fun e w' => e = .returned (.int .i64 0) ∧ Below W.heap.size W w' := by
  have hu := Try.underlying37
  go_enter Try.func60, Try.ntmps60
  go_wp2
  go_ret
  exact ⟨rfl, below_alloc (Below.refl _ _) _⟩
set_option maxRecDepth 100000 in
theorem cmp_gt {x a : Int} (h : a < x) (y : Int) (W : World) : Calls Try.prog 60 #[.agg #[.int .i64 x, .int .i64 y], .int .i64 a] W fun e w' => e = .returned (.int .i64 1) ∧ Below W.heap.size W w' := by
  have hu := Try.underlying37
  have h2 : ¬ x < a := by omega
  go_enter Try.func60, Try.ntmps60
  go_wp2
  go_ret
  exact ⟨rfl, below_alloc (Below.refl _ _) _⟩
theorem getD_eq (l : List S37) (i : Nat) (hi : i < l.length) : rd_T37 l (i : Int) = l[i] := by unfold rd_T37; rw [Int.toNat_natCast]; simp [List.getD, hi]
end FindWalk
namespace FindWalk
set_option maxHeartbeats 4000000 in
set_option maxRecDepth 100000 in
theorem search (A0 : Option Addr) (c0 : Nat) (l : List S37) (a : Int) (w : World) (hr0 : Kd.C k37 w A0 l.length l) (hc0 : l.length ≤ c0) (hris : ris l = true) (hlen : l.length ≤ 1000000) :
    Calls Try.prog 59 #[.slice A0 l.length c0, .int .i64 a, .func (.func 60) #[] #[]] w fun e w' => e = .returned (.tuple #[.int .i64 (lessN l a : Int), .bool (isKey l a)]) ∧ Below w.heap.size w w' := by
  have hu := Try.underlying37
  have HR := Aside0.mk hr0
  have HC := Aside0.mk hc0
  have LI := Aside0.mk (less_iff hris a)
  have KI := Aside0.mk (isKey_iff hris a)
  have LL := Aside0.mk (lessN_le l a)
  have HB := Aside0.mk (Below.refl w.heap.size w)
  clear hr0 hc0 hris
  go_enter Try.func59, Try.ntmps59
  go_wp2
  go_loopg [9, 10] l.length (fun kx s9 s10 wr => ∃ lo hi : Nat, s9 = .int .i64 lo ∧ s10 = .int .i64 hi ∧ lo ≤ hi ∧ hi ≤ l.length ∧ hi - lo ≤ kx ∧ Aside0 (Below w.heap.size w wr) ∧ Aside0 (lo ≤ lessN l a ∧ lessN l a ≤ hi))
  case atStart => exact ⟨0, l.length, rfl, rfl, Nat.zero_le _, Nat.le_refl _, by omega, HB, ⟨⟨Nat.zero_le _, LL.out⟩⟩⟩
  case round =>
    clear HB
    obtain ⟨lo, hi, rfl, rfl, hlh, hin, hg, B1, I⟩ := hrel
    by_cases hlt : lo < hi
    · have hm : (lo + hi) / 2 < l.length := by omega
      have hmi : ((lo : Int) + (hi : Int)) / 2 = (((lo + hi) / 2 : Nat) : Int) := by omega
      obtain ⟨ad, hA, c1, c2⟩ := at_T37 (Kd.C_below HR.out B1.out) (((lo + hi) / 2 : Nat) : Int) (by omega) (by omega)
      rw [getD_eq l _ hm] at c1 c2
      rw [Int.toNat_natCast] at c1 c2
      have hi1 := LI.out ((lo + hi) / 2) hm
      generalize l[(lo + hi) / 2] = p at c1 c2 hi1
      have HI := Aside0.mk hi1
      have HM := Aside0.mk hmi
      subst hA
      clear hi1 hmi
      by_cases hp : p.f0 < a
      · go_wp2_with fail
        refine (cmp_lt hp _ _).mono ?_
        rintro e w2 ⟨rfl, hb⟩
        have HB2 := Aside0.mk hb
        clear hb
        go_wp2
        go_roundg (hi - ((lo + hi) / 2 + 1))
        case measure => omega
        case rel => exact ⟨(lo + hi) / 2 + 1, hi, by rw [HM.out]; go_num, rfl, by omega, hin, Nat.le_refl _, ⟨below_then B1.out B1.out.size HB2.out⟩, ⟨⟨HI.out.1 hp, I.out.2⟩⟩⟩
      · rcases Int.lt_or_eq_of_le (Int.not_lt.1 hp) with hq | hq
        · go_wp2_with fail
          refine (cmp_gt hq _ _).mono ?_
          rintro e w2 ⟨rfl, hb⟩
          have HB2 := Aside0.mk hb
          clear hb
          go_wp2
          go_roundg ((lo + hi) / 2 - lo)
          case measure => omega
          case rel => exact ⟨lo, (lo + hi) / 2, rfl, by rw [HM.out], by omega, by omega, Nat.le_refl _, ⟨below_then B1.out B1.out.size HB2.out⟩, ⟨⟨I.out.1, Nat.not_lt.1 (fun h => by have := HI.out.2 h; omega)⟩⟩⟩
        · subst hq
          go_wp2_with fail
          refine (cmp_eq _ _ _).mono ?_
          rintro e w2 ⟨rfl, hb⟩
          have HB2 := Aside0.mk hb
          clear hb
          go_wp2
          go_roundg ((lo + hi) / 2 - lo)
          case measure => omega
          case rel => exact ⟨lo, (lo + hi) / 2, rfl, by rw [HM.out], by omega, by omega, Nat.le_refl _, ⟨below_then B1.out B1.out.size HB2.out⟩, ⟨⟨I.out.1, Nat.not_lt.1 (fun h => by have := HI.out.2 h; omega)⟩⟩⟩
    · obtain rfl : hi = lo := by omega
      have hlo : lessN l a = hi := by have := I.out; omega
      have HN := Aside0.mk hlo
      clear hlo
      by_cases hn : hi < l.length
      · obtain ⟨ad, hA, c1, c2⟩ := at_T37 (Kd.C_below HR.out B1.out) (hi : Int) (by omega) (by omega)
        rw [getD_eq l _ hn] at c1 c2
        rw [Int.toNat_natCast] at c1 c2
        have hk : isKey l a = decide (l[hi].f0 = a) := by
          rw [Bool.eq_iff_iff, KI.out, decide_eq_true_eq, HN.out]
          exact ⟨fun ⟨_, h⟩ => h, fun h => ⟨hn, h⟩⟩
        have hnl : ¬ l[hi].f0 < a := fun h => by have := (LI.out hi hn).1 h; rw [HN.out] at this; omega
        generalize l[hi] = p at c1 c2 hk hnl
        subst hA
        rcases Int.lt_or_eq_of_le (Int.not_lt.1 hnl) with hq | hq
        · rw [decide_eq_false (by omega)] at hk
          have HK := Aside0.mk hk
          clear hk
          go_wp2_with fail
          refine (cmp_gt hq _ _).mono ?_
          rintro e w2 ⟨rfl, hb⟩
          have HB2 := Aside0.mk hb
          clear hb
          go_wp2
          go_ret2
          exact ⟨by rw [HK.out, HN.out] <;> rfl, below_then B1.out B1.out.size HB2.out⟩
        · rw [decide_eq_true hq.symm] at hk
          have HK := Aside0.mk hk
          clear hk
          subst hq
          go_wp2_with fail
          refine (cmp_eq _ _ _).mono ?_
          rintro e w2 ⟨rfl, hb⟩
          have HB2 := Aside0.mk hb
          clear hb
          go_wp2
          go_ret2
          exact ⟨by rw [HK.out, HN.out] <;> rfl, below_then B1.out B1.out.size HB2.out⟩
      · have hk : isKey l a = false := by
          cases h : isKey l a with
          | false => rfl
          | true => obtain ⟨h1, _⟩ := KI.out.1 h; rw [HN.out] at h1; exact absurd h1 hn
        have HK := Aside0.mk hk
        clear hk
        go_wp2
        go_ret2
        exact ⟨by rw [HK.out, HN.out] <;> rfl, B1.out⟩
end FindWalk
theorem pairs_Find.calls (k : Nat) (A0 : Option Addr) (c0 : Nat) (l0 : List (S37)) (a1 : Int) (r1 : Int) (r2 : Bool) (w : World) (hr0 : Kd.C k37 w A0 l0.length l0) (hc0 : l0.length ≤ c0) (h : pairs_Find.f k l0 a1 = some (r1, r2)) :
    Calls Try.prog 22 #[.slice A0 l0.length c0, .int .i64 a1] w fun e w' => e = .returned (.tuple #[.int .i64 r1, .bool r2]) ∧ Below w.heap.size w w' := by
  unfold pairs_Find.f at h
  by_cases hc : ris l0 = true ∧ l0.length ≤ 1000000
  · rw [if_pos hc] at h
    have h1 := Option.some.inj h
    obtain ⟨rfl, rfl⟩ : (lessN l0 a1 : Int) = r1 ∧ isKey l0 a1 = r2 := by injection h1 with h2 h3; exact ⟨h2, h3⟩
    have hs := FindWalk.search A0 c0 l0 a1 w hr0 hc0 hc.1 hc.2
    clear h1 h hr0 hc0 hc
    generalize lessN l0 a1 = n at hs
    generalize isKey l0 a1 = b at hs
    go_enter Try.func22, Try.ntmps22
    go_wp2_with (go_at_call 59; refine hs.mono ?_; rintro e w' ⟨rfl, hb⟩)
    go_ret2
    exact ⟨rfl, hb⟩
  · rw [if_neg hc] at h; cases h
namespace PutWalk
def encs : List S37 → List Value
  | [] => []
  | p :: l => .int .i64 p.f0 :: .int .i64 p.f1 :: encs l
theorem encs_length : ∀ l, (encs l).length = l.length * 2
  | [] => rfl
  | p :: l => by simp only [encs, List.length_cons, encs_length l]; omega
theorem encs_append : ∀ l m, encs (l ++ m) = encs l ++ encs m
  | [], _ => rfl
  | p :: l, m => by simp only [encs, List.cons_append, encs_append l m]
theorem encs_take (l : List S37) (n : Nat) : encs (l.take n) = (encs l).take (n * 2) := by
  rcases Nat.le_total n l.length with h | h
  · have e := encs_append (l.take n) (l.drop n)
    rw [List.take_append_drop] at e
    rw [e, List.take_left' (by rw [encs_length, List.length_take]; omega)]
  · rw [List.take_of_length_le h, List.take_of_length_le (by rw [encs_length]; omega)]
theorem encs_drop (l : List S37) (n : Nat) : encs (l.drop n) = (encs l).drop (n * 2) := by
  rcases Nat.le_total n l.length with h | h
  · have e := encs_append (l.take n) (l.drop n)
    rw [List.take_append_drop] at e
    rw [e, List.drop_left' (by rw [encs_length, List.length_take]; omega)]
  · rw [List.drop_eq_nil_of_le h, List.drop_eq_nil_of_le (by rw [encs_length]; omega)]
    rfl
theorem encs_one : ∀ l, ∀ u ∈ encs l, u.oneCell' = true
  | [], u, h => by simp [encs] at h
  | p :: l, u, h => by
    simp only [encs, List.mem_cons] at h
    rcases h with rfl | rfl | h
    · rfl
    · rfl
    · exact encs_one l u h
theorem reps_encs {Rr : S37 → List Value → Prop} (hR : ∀ x cs, Rr x cs → cs = [.int .i64 x.f0, .int .i64 x.f1]) : ∀ xs inner, Reps Rr 2 xs inner → inner = encs xs
  | [], inner, h => List.eq_nil_of_length_eq_zero (by rw [h.1]; rfl)
  | p :: l, inner, h => by
    have h0 := hR p _ (h.2 0 p rfl)
    have ht : Reps Rr 2 l (inner.drop 2) := ⟨by rw [List.length_drop, h.1, List.length_cons]; omega, fun j q hj => by
      have := h.2 (j + 1) q hj
      rw [List.drop_drop]
      rwa [show (j + 1) * 2 = 2 + j * 2 by omega] at this⟩
    have e := reps_encs hR l _ ht
    rw [Nat.zero_mul, List.drop_zero] at h0
    have h2 : inner = inner.take 2 ++ inner.drop 2 := (List.take_append_drop 2 inner).symm
    rw [h2, h0, e]
    rfl
theorem encs_reps {Rr : S37 → List Value → Prop} (hR : ∀ x : S37, Rr x [.int .i64 x.f0, .int .i64 x.f1]) : ∀ xs, Reps Rr 2 xs (encs xs)
  | [] => Reps.none _ _
  | p :: l => ⟨encs_length _, fun j q hj => by
    cases j with
    | zero =>
      simp only [List.getElem?_cons_zero, Option.some.injEq] at hj
      subst hj
      exact hR p
    | succ j =>
      have := (encs_reps hR l).2 j q (by simpa using hj)
      rw [show (j + 1) * 2 = j * 2 + 2 by omega]
      exact this⟩
theorem R_open {w : World} {base : Nat} {ok : Nat → Prop} {v : Value} {xs : List S37} (h : Kd.R k37 37 w base ok v xs) : (∀ k, v.ownBlock = some k → ok k) ∧ w.ownsRow base 37 2 v xs.length (encs xs) := by
  obtain ⟨h0, inner, ho, hr⟩ := h
  have e := reps_encs (fun x cs hx => k37_openM hx) xs inner hr
  subst e
  exact ⟨h0, ho⟩
theorem R_shut {w : World} {base : Nat} {ok : Nat → Prop} {v : Value} {xs : List S37} (h0 : ∀ k, v.ownBlock = some k → ok k) (h : w.ownsRow base 37 2 v xs.length (encs xs)) : Kd.R k37 37 w base ok v xs :=
  ⟨h0, encs xs, h, encs_reps (fun x => k37_mkM _ _ _ x) xs⟩
theorem C_cells {w : World} {A : Option Addr} {xs : List S37} (h : Kd.C k37 w A xs.length xs) (hp : 0 < xs.length) : ∃ ad, A = some ad ∧ ∀ j u, (encs xs)[j]? = some u → w.cell? (ad.add j) = some u := by
  obtain ⟨ad, hA, _⟩ := h.2.2 hp
  subst hA
  obtain ⟨inner, hr, hc⟩ := ReadsRow.inner_ h
  have e := reps_encs (fun x cs hx => k37_open hx) xs inner hr
  subst e
  exact ⟨ad, rfl, hc⟩
end PutWalk

/-! ### deadwoodref08_Put: function 57 -/
def deadwoodref08_Put.f (k : Nat) (l0 : List (S37)) (a1_0 : Int) (a1_1 : Int) : Option ((List (S37)) × Bool) := (deadwoodref08_At.f k l0 a1_0).bind fun bt109 => (if bt109.2 = true then (some (l0, false)) else ((some (([] : List (S37)) : List (S37))).bind fun y111 => (if 0 ≤ bt109.1 then (if bt109.1 ≤ (l0.length : Int) then ((some (l0.take (bt109.1 : Int).toNat : List (S37))).bind fun y114 => (if y111.length + y114.length < 8796093022208 then ((some (y111 ++ y114 : List (S37))).bind fun y119 => (if y119.length < 8796093022208 then ((some (y119 ++ [(⟨a1_0, a1_1⟩ : S37)] : List (S37))).bind fun y122 => ((some (l0.drop (bt109.1 : Int).toNat : List (S37))).bind fun y125 => (if y122.length + y125.length < 8796093022208 then (some ((y122 ++ y125), true)) else (none)))) else (none))) else (none))) else (none)) else (none))))
theorem deadwoodref08_Put.mono : ∀ a0 a1 a2 k, LeO (deadwoodref08_Put.f k a0 a1 a2) (deadwoodref08_Put.f (k + 1) a0 a1 a2) := by
  intro a0 a1 a2 k
  unfold deadwoodref08_Put.f
  repeat' first
      | (with_reducible exact deadwoodref08_At.mono _ _ _)
      | (with_reducible exact LeO.refl _)
      | (with_reducible exact LeO.none _)
      | (with_reducible refine LeO.ite ?_ ?_)
      | (with_reducible refine LeO.bind ?_ (fun _ => ?_))
      | exact deadwoodref08_At.mono _ _ _
      | exact LeO.none _
      | refine LeO.ite ?_ ?_
      | refine LeO.bind ?_ (fun _ => ?_)
set_option maxHeartbeats 8000000 in
set_option maxRecDepth 100000 in
theorem deadwoodref08_Put.calls (k : Nat) (P0_ : Nat → Prop) (A0 : Option Addr) (c0 : Nat) (l0 : List (S37)) (a1_0 : Int) (a1_1 : Int) (r1 : List (S37)) (r2 : Bool) (w : World) (hs0 : Kd.V k37 37 w w.heap.size (fun k_ => P0_ k_) (.slice A0 l0.length c0) l0) (h : deadwoodref08_Put.f k l0 a1_0 a1_1 = some (r1, r2)) :
    Calls Try.prog 57 #[.slice A0 l0.length c0, .agg #[.int .i64 a1_0, .int .i64 a1_1]] w fun e w' => ∃ v0_ : Value, e = .returned (.tuple #[v0_, .bool r2]) ∧ Kd.V k37 37 w' w.heap.size (fun k_ => (P0_ k_ ∨ w.heap.size ≤ k_)) v0_ r1 ∧ Below w.heap.size w w' := by
  have hu37 := Try.underlying37
  have HO0 := Aside0.mk (show Kd.V k37 37 w w.heap.size (fun k_ => (P0_ k_ ∨ w.heap.size ≤ k_)) (.slice A0 l0.length c0) l0 from Kd.V_mono hs0 (fun k_ hk => .inl hk))
  have HB := Aside0.mk (Below.refl w.heap.size w)
  have H : ((deadwoodref08_At.f k l0 a1_0).bind fun bt109 => (if bt109.2 = true then (some (l0, false)) else ((some (([] : List (S37)) : List (S37))).bind fun y111 => (if 0 ≤ bt109.1 then (if bt109.1 ≤ (l0.length : Int) then ((some (l0.take (bt109.1 : Int).toNat : List (S37))).bind fun y114 => (if y111.length + y114.length < 8796093022208 then ((some (y111 ++ y114 : List (S37))).bind fun y119 => (if y119.length < 8796093022208 then ((some (y119 ++ [(⟨a1_0, a1_1⟩ : S37)] : List (S37))).bind fun y122 => ((some (l0.drop (bt109.1 : Int).toNat : List (S37))).bind fun y125 => (if y122.length + y125.length < 8796093022208 then (some ((y122 ++ y125), true)) else (none)))) else (none))) else (none))) else (none)) else (none))))) = some (r1, r2) := h
  clear h
  replace H := Option.bind_eq_some_iff.mp H
  obtain ⟨⟨t109, t110⟩, A30, H⟩ := H
  replace H : (if t110 = true then (some (l0, false)) else ((some (([] : List (S37)) : List (S37))).bind fun y111 => (if 0 ≤ t109 then (if t109 ≤ (l0.length : Int) then ((some (l0.take (t109 : Int).toNat : List (S37))).bind fun y114 => (if y111.length + y114.length < 8796093022208 then ((some (y111 ++ y114 : List (S37))).bind fun y119 => (if y119.length < 8796093022208 then ((some (y119 ++ [(⟨a1_0, a1_1⟩ : S37)] : List (S37))).bind fun y122 => ((some (l0.drop (t109 : Int).toNat : List (S37))).bind fun y125 => (if y122.length + y125.length < 8796093022208 then (some ((y122 ++ y125), true)) else (none)))) else (none))) else (none))) else (none)) else (none)))) = some (r1, r2) := H
  have A3 := Aside0.mk A30
  clear A30
  by_cases c4 : t110 = true
  · subst c4
    have H1 : (some (l0, false)) = some (r1, r2) := by rw [if_pos rfl] at H; exact H
    clear H
    have H := H1
    clear H1
    simp only [Option.some.injEq, Prod.mk.injEq] at H
    obtain ⟨rfl, rfl⟩ := H
    go_enter Try.func57, Try.ntmps57
    go_wp2_with (first | ((with_reducible refine gate_dst (N := 3) rfl ?_); refine box_event ?hg (N := 3) ?hd (cs := #[.int .i64 a1_0, .int .i64 a1_1]) (t := 37) ?hr ?_; (case hd => rfl); (case hg => rfl); (case hr => first | (go_simp; done) | (go_simp; rfl)); intro gb108 hg w5 hbox hb; have n0_ := Aside0.mk (Kd.V_below (Kd.V_elderB (by (with_reducible repeat (first | apply Kd.V_alloc | apply Kd.V_drewN | apply Kd.V_drew)); exact HO0.out) gb108 (Nat.le_of_eq hg.symm)) hb); have n1_ := Aside0.mk (below_step (by repeat (first | (with_reducible first | exact HB.out | apply below_alloc | apply pw_below_drewN | apply below_drew1) | exact HB.out)) hb); have n2_ := Aside0.mk (hbox); have n3_ := Aside0.mk ((by rw [hg]; exact (below_size (by repeat (first | (with_reducible first | exact HB.out | apply below_alloc | apply pw_below_drewN | apply below_drew1) | exact HB.out))) : w.heap.size ≤ gb108)); have n4_ := Aside0.mk ((by rw [hg]; exact (below_size (by repeat (first | (with_reducible first | exact HB.out | apply below_alloc | apply pw_below_drewN | apply below_drew1) | exact HB.out))) : w.heap.size ≤ gb108)); clear HO0; clear HB; have HO0 := n0_; have HB := n1_; have BK108 := n2_; have GW108 := n3_; have GE108 := n4_; clear n0_ n1_ n2_ n3_ n4_; clear hb hbox hg; have hcz6_0 : w5.cell? ⟨gb108, 0, none⟩ = some (.int .i64 a1_0) := (blk_cell BK108.out 0).trans rfl; have hcz6_1 : w5.cell? ⟨gb108, 1, none⟩ = some (.int .i64 a1_1) := (blk_cell BK108.out 1).trans rfl; have hfz6_0 := blk_frozen BK108.out 0; have hfz6_1 := blk_frozen BK108.out 1) | ((with_reducible refine gate_callee (f := 96) rfl ?_); refine goesL_ (some 13) rfl rfl Try.func96 (by kernel_rfl) rfl #[.slice A0 l0.length c0, .int .i64 a1_0] rfl (by (try simp only [List.map_toArray, List.map_cons, List.map_nil]); first | done | rfl | (simp only [List.length_drop, List.length_take]; rfl)) ?_; (with_reducible refine (deadwoodref08_At.calls k _ _ l0 a1_0 t109 true _ ?side1 ?side2 A3.out).mono ?_); (case side1 => repeat (first | exact (Kd.V_reads' HO0.out).2.2 | (with_reducible refine Kd.C_alloc ?_ _) | (with_reducible refine Kd.C_drewN ?_ _) | (with_reducible refine Kd.C_drew ?_))); (case side2 => exact (Kd.V_reads' HO0.out).2.1); rintro e w' ⟨rfl, ⟨nd, rfl⟩⟩; refine ⟨_, rfl, ?_⟩))
    go_ret2
    exact ⟨_, by first | rfl | (simp [errW_none, errW_some] <;> rfl) | (simp [*, errW_none, errW_some] <;> rfl), by (with_reducible repeat (first | apply Kd.V_alloc | apply Kd.V_drewN | apply Kd.V_drew)); exact Kd.V_mono HO0.out (fun _ hk => hk.1), by repeat (first | (with_reducible first | exact HB.out | apply below_alloc | apply pw_below_drewN | apply below_drew1 | refine below_set ?_ GE108.out) | exact HB.out)⟩
  · replace c4 := Bool.eq_false_iff.mpr c4
    subst c4
    have H1 : ((some (([] : List (S37)) : List (S37))).bind fun y111 => (if 0 ≤ t109 then (if t109 ≤ (l0.length : Int) then ((some (l0.take (t109 : Int).toNat : List (S37))).bind fun y114 => (if y111.length + y114.length < 8796093022208 then ((some (y111 ++ y114 : List (S37))).bind fun y119 => (if y119.length < 8796093022208 then ((some (y119 ++ [(⟨a1_0, a1_1⟩ : S37)] : List (S37))).bind fun y122 => ((some (l0.drop (t109 : Int).toNat : List (S37))).bind fun y125 => (if y122.length + y125.length < 8796093022208 then (some ((y122 ++ y125), true)) else (none)))) else (none))) else (none))) else (none)) else (none))) = some (r1, r2) := by rw [if_neg (show ¬ (false = true) by decide)] at H; exact H
    clear H
    have H := H1
    clear H1
    obtain ⟨y111, hy111⟩ : ∃ y_ : List (S37), y_ = (([] : List (S37))) := ⟨_, rfl⟩
    replace H : (if 0 ≤ t109 then (if t109 ≤ (l0.length : Int) then ((some (l0.take (t109 : Int).toNat : List (S37))).bind fun y114 => (if y111.length + y114.length < 8796093022208 then ((some (y111 ++ y114 : List (S37))).bind fun y119 => (if y119.length < 8796093022208 then ((some (y119 ++ [(⟨a1_0, a1_1⟩ : S37)] : List (S37))).bind fun y122 => ((some (l0.drop (t109 : Int).toNat : List (S37))).bind fun y125 => (if y122.length + y125.length < 8796093022208 then (some ((y122 ++ y125), true)) else (none)))) else (none))) else (none))) else (none)) else (none)) = some (r1, r2) := by first | (rw [hy111]; with_reducible exact H) | (have H2_ := (Option.bind_some _ _).symm.trans H; rw [hy111]; with_reducible exact H2_) | (have H2_ := (Option.bind_some _ _).symm.trans H; with_reducible exact H2_) | with_reducible exact H | (rw [hy111]; exact H) | exact H
    have Ny111 := Aside0.mk hy111
    clear hy111
    by_cases c7 : 0 ≤ t109
    · rw [if_pos c7] at H
      have c7b0 := eq_true c7
      have c7b1 : decide (0 ≤ t109) = true := decide_eq_true c7
      clear c7
      by_cases c8 : t109 ≤ (l0.length : Int)
      · rw [if_pos c8] at H
        have c8b0 := eq_true c8
        have c8b1 : decide (t109 ≤ (l0.length : Int)) = true := decide_eq_true c8
        clear c8
        obtain ⟨y114, hy114⟩ : ∃ y_ : List (S37), y_ = (l0.take (t109 : Int).toNat) := ⟨_, rfl⟩
        replace H : (if y111.length + y114.length < 8796093022208 then ((some (y111 ++ y114 : List (S37))).bind fun y119 => (if y119.length < 8796093022208 then ((some (y119 ++ [(⟨a1_0, a1_1⟩ : S37)] : List (S37))).bind fun y122 => ((some (l0.drop (t109 : Int).toNat : List (S37))).bind fun y125 => (if y122.length + y125.length < 8796093022208 then (some ((y122 ++ y125), true)) else (none)))) else (none))) else (none)) = some (r1, r2) := by first | (rw [hy114]; with_reducible exact H) | (have H2_ := (Option.bind_some _ _).symm.trans H; rw [hy114]; with_reducible exact H2_) | (have H2_ := (Option.bind_some _ _).symm.trans H; with_reducible exact H2_) | with_reducible exact H | (rw [hy114]; exact H) | exact H
        have Ny114 := Aside0.mk hy114
        clear hy114
        by_cases c9 : y111.length + y114.length < 8796093022208
        · rw [if_pos c9] at H
          have LMc9 := Aside0.mk c9
          clear c9
          obtain ⟨y119, hy119⟩ : ∃ y_ : List (S37), y_ = (y111 ++ y114) := ⟨_, rfl⟩
          replace H : (if y119.length < 8796093022208 then ((some (y119 ++ [(⟨a1_0, a1_1⟩ : S37)] : List (S37))).bind fun y122 => ((some (l0.drop (t109 : Int).toNat : List (S37))).bind fun y125 => (if y122.length + y125.length < 8796093022208 then (some ((y122 ++ y125), true)) else (none)))) else (none)) = some (r1, r2) := by first | (rw [hy119]; with_reducible exact H) | (have H2_ := (Option.bind_some _ _).symm.trans H; rw [hy119]; with_reducible exact H2_) | (have H2_ := (Option.bind_some _ _).symm.trans H; with_reducible exact H2_) | with_reducible exact H | (rw [hy119]; exact H) | exact H
          have Ny119 := Aside0.mk hy119
          clear hy119
          by_cases c10 : y119.length < 8796093022208
          · rw [if_pos c10] at H
            have LMc10 := Aside0.mk c10
            clear c10
            obtain ⟨y122, hy122⟩ : ∃ y_ : List (S37), y_ = (y119 ++ [(⟨a1_0, a1_1⟩ : S37)]) := ⟨_, rfl⟩
            replace H : ((some (l0.drop (t109 : Int).toNat : List (S37))).bind fun y125 => (if y122.length + y125.length < 8796093022208 then (some ((y122 ++ y125), true)) else (none))) = some (r1, r2) := by first | (rw [hy122]; with_reducible exact H) | (have H2_ := (Option.bind_some _ _).symm.trans H; rw [hy122]; with_reducible exact H2_) | (have H2_ := (Option.bind_some _ _).symm.trans H; with_reducible exact H2_) | with_reducible exact H | (rw [hy122]; exact H) | exact H
            have Ny122 := Aside0.mk hy122
            clear hy122
            have c11b0 := eq_true (of_decide_eq_true (by first | (with_reducible assumption) | assumption) : 0 ≤ t109)
            have c12b0 := eq_true (of_decide_eq_true (by first | (with_reducible assumption) | assumption) : t109 ≤ (l0.length : Int))
            obtain ⟨y125, hy125⟩ : ∃ y_ : List (S37), y_ = (l0.drop (t109 : Int).toNat) := ⟨_, rfl⟩
            replace H : (if y122.length + y125.length < 8796093022208 then (some ((y122 ++ y125), true)) else (none)) = some (r1, r2) := by first | (rw [hy125]; with_reducible exact H) | (have H2_ := (Option.bind_some _ _).symm.trans H; rw [hy125]; with_reducible exact H2_) | (have H2_ := (Option.bind_some _ _).symm.trans H; with_reducible exact H2_) | with_reducible exact H | (rw [hy125]; exact H) | exact H
            have Ny125 := Aside0.mk hy125
            clear hy125
            by_cases c13 : y122.length + y125.length < 8796093022208
            · rw [if_pos c13] at H
              have LMc13 := Aside0.mk c13
              clear c13
              obtain ⟨y130, hy130⟩ : ∃ y_ : List (S37), y_ = (y122 ++ y125) := ⟨_, rfl⟩
              replace H : (some (y130, true)) = some (r1, r2) := by first | (rw [hy130]; with_reducible exact H) | (have H2_ := (Option.bind_some _ _).symm.trans H; rw [hy130]; with_reducible exact H2_) | (have H2_ := (Option.bind_some _ _).symm.trans H; with_reducible exact H2_) | with_reducible exact H | (rw [hy130]; exact H) | exact H
              have Ny130 := Aside0.mk hy130
              clear hy130
              simp only [Option.some.injEq, Prod.mk.injEq] at H
              obtain ⟨rfl, rfl⟩ := H
              go_enter Try.func57, Try.ntmps57
              go_wp2_with (first | ((with_reducible refine gate_dst (N := 3) rfl ?_); refine box_event ?hg (N := 3) ?hd (cs := #[.int .i64 a1_0, .int .i64 a1_1]) (t := 37) ?hr ?_; (case hd => rfl); (case hg => rfl); (case hr => first | (go_simp; done) | (go_simp; rfl)); intro gb108 hg w14 hbox hb; have n0_ := Aside0.mk (Kd.V_below (Kd.V_elderB (by (with_reducible repeat (first | apply Kd.V_alloc | apply Kd.V_drewN | apply Kd.V_drew)); exact HO0.out) gb108 (Nat.le_of_eq hg.symm)) hb); have n1_ := Aside0.mk (below_step (by repeat (first | (with_reducible first | exact HB.out | apply below_alloc | apply pw_below_drewN | apply below_drew1) | exact HB.out)) hb); have n2_ := Aside0.mk (hbox); have n3_ := Aside0.mk ((by rw [hg]; exact (below_size (by repeat (first | (with_reducible first | exact HB.out | apply below_alloc | apply pw_below_drewN | apply below_drew1) | exact HB.out))) : w.heap.size ≤ gb108)); have n4_ := Aside0.mk ((by rw [hg]; exact (below_size (by repeat (first | (with_reducible first | exact HB.out | apply below_alloc | apply pw_below_drewN | apply below_drew1) | exact HB.out))) : w.heap.size ≤ gb108)); clear HO0; clear HB; have HO0 := n0_; have HB := n1_; have BK108 := n2_; have GW108 := n3_; have GE108 := n4_; clear n0_ n1_ n2_ n3_ n4_; clear hb hbox hg; have hcz15_0 : w14.cell? ⟨gb108, 0, none⟩ = some (.int .i64 a1_0) := (blk_cell BK108.out 0).trans rfl; have hcz15_1 : w14.cell? ⟨gb108, 1, none⟩ = some (.int .i64 a1_1) := (blk_cell BK108.out 1).trans rfl; have hfz15_0 := blk_frozen BK108.out 0; have hfz15_1 := blk_frozen BK108.out 1) | ((with_reducible refine gate_callee (f := 96) rfl ?_); refine goesL_ (some 13) rfl rfl Try.func96 (by kernel_rfl) rfl #[.slice A0 l0.length c0, .int .i64 a1_0] rfl (by (try simp only [List.map_toArray, List.map_cons, List.map_nil]); first | done | rfl | (simp only [List.length_drop, List.length_take]; rfl)) ?_; (with_reducible refine (deadwoodref08_At.calls k _ _ l0 a1_0 t109 false _ ?side1 ?side2 A3.out).mono ?_); (case side1 => repeat (first | exact (Kd.V_reads' HO0.out).2.2 | (with_reducible refine Kd.C_alloc ?_ _) | (with_reducible refine Kd.C_drewN ?_ _) | (with_reducible refine Kd.C_drew ?_))); (case side2 => exact (Kd.V_reads' HO0.out).2.1); rintro e w' ⟨rfl, ⟨nd, rfl⟩⟩; refine ⟨_, rfl, ?_⟩) | ((with_reducible refine gate_dst (N := 18) rfl ?_); refine Kd.R_lit k37 _ 37 ?hg (N := 18) ?hd (xs := ([] : List (S37))) (inner := []) (ok := fun _ => True) (okp := fun _ => True) ?hr ?hp (fun _ hk => hk) trivial (Below.refl _ _) (Nat.le_refl _) (by simp) ?_; (case hd => rfl); (case hg => rfl); (case hr => first | (go_simp; done) | (go_simp; rfl)); (case hp => exact (Reps.none _ _)); intro v112 w16 ho17 hb hg_ hnew_; clear hg_ hnew_; (first | rw [← Ny111.out] at ho17 | (simp only [Int.reduceToNat] at ho17; rw [← Ny111.out] at ho17)); have n0_ := Aside0.mk (Kd.V_elder' (by (with_reducible repeat (first | apply Kd.V_alloc | apply Kd.V_drewN | apply Kd.V_drew)); exact HO0.out) (Kd.R_base ho17) hb); have n1_ := Aside0.mk (Kd.R_lower (Kd.R_newB (Kd.R_newM (M := fun k_ => (w.heap.size ≤ k_)) ho17 (below_size (by repeat (first | (with_reducible first | exact HB.out | apply below_alloc | apply pw_below_drewN | apply below_drew1 | refine below_set ?_ GE108.out) | exact HB.out))) (fun k_ h_ => h_)) (g := gb108) (o := .cells #[.int .i64 a1_0, .int .i64 a1_1] 37 (0, 0)) (by (with_reducible repeat (first | refine blk_drewN ?_ _ | refine blk_drew ?_ | refine blk_alloc ?_ _)); exact BK108.out)) (below_size (by repeat (first | (with_reducible first | exact HB.out | apply below_alloc | apply pw_below_drewN | apply below_drew1 | refine below_set ?_ GE108.out) | exact HB.out)))); have n2_ := Aside0.mk (blk_below (g := gb108) (o := .cells #[.int .i64 a1_0, .int .i64 a1_1] 37 (0, 0)) (by (with_reducible repeat (first | refine blk_drewN ?_ _ | refine blk_drew ?_ | refine blk_alloc ?_ _)); exact BK108.out) hb); have n3_ := Aside0.mk (below_step (by repeat (first | (with_reducible first | exact HB.out | apply below_alloc | apply pw_below_drewN | apply below_drew1 | refine below_set ?_ GE108.out) | exact HB.out)) hb); clear HO0; clear BK108; clear HB; have HO0 := n0_; have HO113 := n1_; have BK108 := n2_; have HB := n3_; clear n0_ n1_ n2_ n3_; clear hb ho17; have q18 : (t109 : Int) ≤ ((l0.length : Int) : Int) := of_decide_eq_true (by first | (with_reducible assumption) | assumption); obtain ⟨i018, hi018, _, hsz18, _⟩ := info_parts info37; have hroom18 : l0.length ≤ c0 := (Kd.V_reads' HO0.out).2.1; have hC18 : Kd.F k37 _ _ A0 l0.length l0 := (Kd.V_at (base := w.heap.size) HO0.out).2.2; have hcut18 := cut_to (P := Try.prog) 30 37 .i64 Try.underlying30 hi018 A0 l0.length c0 t109 (of_decide_eq_true (by first | (with_reducible assumption) | assumption)) q18 hroom18; have hr18 := Kd.F_take (m := (t109 : Int).toNat) hC18 (by omega); have hy18 : y114.length = (t109 : Int).toNat := (by rw [Ny114.out, List.length_take]; omega); rw [← Ny114.out] at hr18; rw [← hy18] at hcut18; have HO118 := Aside0.mk (show Kd.V k37 37 _ w.heap.size _ (.slice A0 y114.length c0) y114 from Kd.V_mk (by omega) hr18); have HC118 := Aside0.mk (show y114.length ≤ c0 from by omega); clear hr18 hC18 hroom18 hi018 hsz18; have KY18 := Aside0.mk hy18; clear hy18; replace q18 := eq_true q18) | ((with_reducible refine gate_builtin (b := .append) (xs := #[.tmp 18, .tmp 21]) rfl ?_); at_builtin; refine Kd.R_append_rows k37 (w0 := w) w.heap.size rfl (.tmp 18) (.tmp 21) 30 37 (.agg #[(.int .i64 0), (.int .i64 0)]) 16 rfl Try.underlying30 info37 rfl (by decide) (by omega) v112 y111 y114 _ _ _ (fun k_ => (w.heap.size ≤ k_) ∧ k_ ≠ gb108) (fun _ => False) rfl rfl ?aO ?aR (fun _ _ h => h) (fun _ h => h.elim) ?aF ?aB ?aS ?aL ?_; (case aR => repeat (first | exact (Kd.V_reads' HO118.out).2.2 | (with_reducible refine Kd.C_alloc ?_ _) | (with_reducible refine Kd.C_drewN ?_ _) | (with_reducible refine Kd.C_drew ?_))); (case aB => exact (by repeat (first | (with_reducible first | exact HB.out | apply below_alloc | apply pw_below_drewN | apply below_drew1 | refine below_set ?_ GE108.out) | exact HB.out))); (case aF => exact (fun k_ hk => ⟨(Nat.le_trans (below_size (by repeat (first | (with_reducible first | exact HB.out | apply below_alloc | apply pw_below_drewN | apply below_drew1 | refine below_set ?_ GE108.out) | exact HB.out))) hk), Kd.freshB (g := gb108) (o := .cells #[.int .i64 a1_0, .int .i64 a1_1] 37 (0, 0)) (by (with_reducible repeat (first | refine blk_drewN ?_ _ | refine blk_drew ?_ | refine blk_alloc ?_ _)); exact BK108.out) k_ hk⟩)); (case aO => exact (by (with_reducible repeat (first | apply Kd.R_alloc | apply Kd.R_drewN | apply Kd.R_drew)); exact Kd.R_mono HO113.out (fun _ hk => ⟨hk.1.1, hk.2⟩))); (case aS => exact (below_size (by repeat (first | (with_reducible first | exact HB.out | apply below_alloc | apply pw_below_drewN | apply below_drew1 | refine below_set ?_ GE108.out) | exact HB.out)))); (case aL => have := LMc9.out; omega); intro v120 w19 ho hb hg hat; rw [← Ny119.out] at ho; have n0_ := Aside0.mk (Kd.V_afterv (ok := (fun k_ => (P0_ k_ ∨ w.heap.size ≤ k_) ∧ k_ ≠ gb108)) (by (with_reducible repeat (first | apply Kd.V_alloc | apply Kd.V_drewN | apply Kd.V_drew)); exact HO0.out) hg hat); have n1_ := Aside0.mk (blk_grown (g := gb108) (o := .cells #[.int .i64 a1_0, .int .i64 a1_1] 37 (0, 0)) (by (with_reducible repeat (first | refine blk_drewN ?_ _ | refine blk_drew ?_ | refine blk_alloc ?_ _)); exact BK108.out) hg (Kd.R_away HO113.out (fun _ hk => hk.2))); have n2_ := Aside0.mk (Kd.V_afterv (ok := (fun k_ => (P0_ k_ ∨ w.heap.size ≤ k_) ∧ k_ ≠ gb108)) (by (with_reducible repeat (first | apply Kd.V_alloc | apply Kd.V_drewN | apply Kd.V_drew)); exact HO118.out) hg hat); have n3_ := Aside0.mk (hb); have n4_ := Aside0.mk (ho); clear HO0; clear BK108; clear HO118; clear HB; clear HO113; have HO0 := n0_; have BK108 := n1_; have HO118 := n2_; have HB := n3_; have HO121 := n4_; clear n0_ n1_ n2_ n3_ n4_; clear ho hb hg hat; have hcz20_0 : w19.cell? ⟨gb108, 0, none⟩ = some (.int .i64 a1_0) := (blk_cell BK108.out 0).trans rfl; have hcz20_1 : w19.cell? ⟨gb108, 1, none⟩ = some (.int .i64 a1_1) := (blk_cell BK108.out 1).trans rfl; have hfz20_0 := blk_frozen BK108.out 0; have hfz20_1 := blk_frozen BK108.out 1) | ((with_reducible refine gate_builtin (b := .append) (xs := #[.tmp 23, .tmp 25]) rfl ?_); at_builtin; refine Kd.R_append k37 (w0 := w) w.heap.size rfl (.tmp 23) (.tmp 25) 30 37 (.agg #[(.int .i64 0), (.int .i64 0)]) 16 rfl Try.underlying30 info37 rfl (by decide) (by omega) v120 y119 (⟨a1_0, a1_1⟩ : S37) [.int .i64 a1_0, .int .i64 a1_1] (fun k_ => (w.heap.size ≤ k_) ∧ k_ ≠ gb108) (fun _ => False) rfl rfl ?aP (fun _ hk => hk.elim) ?aF ?aO ?aB ?aS ?aL ?_; (case aP => exact k37_mkM _ _ _ (⟨a1_0, a1_1⟩ : S37)); (case aB => exact (by repeat (first | (with_reducible first | exact HB.out | apply below_alloc | apply pw_below_drewN | apply below_drew1 | refine below_set ?_ GE108.out) | exact HB.out))); (case aF => exact (fun k_ hk => ⟨(Nat.le_trans (below_size (by repeat (first | (with_reducible first | exact HB.out | apply below_alloc | apply pw_below_drewN | apply below_drew1 | refine below_set ?_ GE108.out) | exact HB.out))) hk), Kd.freshB (g := gb108) (o := .cells #[.int .i64 a1_0, .int .i64 a1_1] 37 (0, 0)) (by (with_reducible repeat (first | refine blk_drewN ?_ _ | refine blk_drew ?_ | refine blk_alloc ?_ _)); exact BK108.out) k_ hk⟩)); (case aO => exact (by (with_reducible repeat (first | apply Kd.R_alloc | apply Kd.R_drewN | apply Kd.R_drew)); exact HO121.out)); (case aS => exact (below_size (by repeat (first | (with_reducible first | exact HB.out | apply below_alloc | apply pw_below_drewN | apply below_drew1 | refine below_set ?_ GE108.out) | exact HB.out)))); (case aL => have := LMc10.out; omega); intro v123 w21 ho hb hg hat; rw [← Ny122.out] at ho; have n0_ := Aside0.mk (Kd.V_afterv (ok := (fun k_ => (P0_ k_ ∨ w.heap.size ≤ k_) ∧ k_ ≠ gb108)) (by (with_reducible repeat (first | apply Kd.V_alloc | apply Kd.V_drewN | apply Kd.V_drew)); exact HO0.out) hg hat); have n1_ := Aside0.mk (blk_grown (g := gb108) (o := .cells #[.int .i64 a1_0, .int .i64 a1_1] 37 (0, 0)) (by (with_reducible repeat (first | refine blk_drewN ?_ _ | refine blk_drew ?_ | refine blk_alloc ?_ _)); exact BK108.out) hg (Kd.R_away HO121.out (fun _ hk => hk.2))); have n2_ := Aside0.mk (Kd.V_afterv (ok := (fun k_ => (P0_ k_ ∨ w.heap.size ≤ k_) ∧ k_ ≠ gb108)) (by (with_reducible repeat (first | apply Kd.V_alloc | apply Kd.V_drewN | apply Kd.V_drew)); exact HO118.out) hg hat); have n3_ := Aside0.mk (hb); have n4_ := Aside0.mk (ho); clear HO0; clear BK108; clear HO118; clear HB; clear HO121; have HO0 := n0_; have BK108 := n1_; have HO118 := n2_; have HB := n3_; have HO124 := n4_; clear n0_ n1_ n2_ n3_ n4_; clear ho hb hg hat; have q22 : (t109 : Int) ≤ ((l0.length : Int) : Int) := of_decide_eq_true (by first | (with_reducible assumption) | assumption); obtain ⟨i022, hi022, _, hsz22, _⟩ := info_parts info37; have hroom22 : l0.length ≤ c0 := (Kd.V_reads' HO0.out).2.1; have hC22 : Kd.F k37 _ _ A0 l0.length l0 := (Kd.V_at (base := w.heap.size) HO0.out).2.2; have q022 : (0 : Int) ≤ (t109 : Int) := of_decide_eq_true (by first | (with_reducible assumption) | assumption); have hcut22 := cut_from (P := Try.prog) 30 37 .i64 Try.underlying30 hi022 2 hsz22 A0 l0.length c0 t109 q022 q22; have hr22 := Kd.F_cut (m := (t109 : Int).toNat) (c := c0) hC22 (by omega) hroom22; obtain ⟨A22, hA22⟩ : ∃ A1, A1 = (if c0 = (t109 : Int).toNat then A0 else (A0 : Option Addr).map (·.add ((t109 : Int).toNat * 2))) := ⟨_, rfl⟩; obtain ⟨c22, hc22⟩ : ∃ c1, c1 = c0 - (t109 : Int).toNat := ⟨_, rfl⟩; have hy22 : y125.length = l0.length - (t109 : Int).toNat := (by rw [Ny125.out, List.length_drop] <;> omega); rw [show (l0).drop (t109 : Int).toNat = y125 from Ny125.out.symm] at hr22; replace hr22 : Kd.F k37 _ _ A22 y125.length y125 := (by rw [hA22]; exact hr22); rw [← hy22, ← hA22, ← hc22] at hcut22; have HO129 := Aside0.mk (show Kd.V k37 37 _ w.heap.size _ (.slice A22 y125.length c22) y125 from Kd.V_mk (by rw [hy22, hc22]; exact Nat.sub_le_sub_right hroom22 _) hr22); have HC129 := Aside0.mk (show y125.length ≤ c22 from by rw [hy22, hc22]; exact Nat.sub_le_sub_right hroom22 _); clear hr22 hC22 hroom22 hi022 hsz22 hc22; have KY22 := Aside0.mk hy22; have KA22 := Aside0.mk hA22; clear hy22 hA22; replace q22 := eq_true q22) | ((with_reducible refine gate_builtin (b := .append) (xs := #[.tmp 27, .tmp 30]) rfl ?_); at_builtin; refine Kd.R_append_rows k37 (w0 := w) w.heap.size rfl (.tmp 27) (.tmp 30) 30 37 (.agg #[(.int .i64 0), (.int .i64 0)]) 16 rfl Try.underlying30 info37 rfl (by decide) (by omega) v123 y122 y125 _ _ _ (fun k_ => (w.heap.size ≤ k_) ∧ k_ ≠ gb108) (fun _ => False) rfl rfl ?aO ?aR (fun _ _ h => h) (fun _ h => h.elim) ?aF ?aB ?aS ?aL ?_; (case aR => repeat (first | exact (Kd.V_reads' HO129.out).2.2 | (with_reducible refine Kd.C_alloc ?_ _) | (with_reducible refine Kd.C_drewN ?_ _) | (with_reducible refine Kd.C_drew ?_))); (case aB => exact (by repeat (first | (with_reducible first | exact HB.out | apply below_alloc | apply pw_below_drewN | apply below_drew1 | refine below_set ?_ GE108.out) | exact HB.out))); (case aF => exact (fun k_ hk => ⟨(Nat.le_trans (below_size (by repeat (first | (with_reducible first | exact HB.out | apply below_alloc | apply pw_below_drewN | apply below_drew1 | refine below_set ?_ GE108.out) | exact HB.out))) hk), Kd.freshB (g := gb108) (o := .cells #[.int .i64 a1_0, .int .i64 a1_1] 37 (0, 0)) (by (with_reducible repeat (first | refine blk_drewN ?_ _ | refine blk_drew ?_ | refine blk_alloc ?_ _)); exact BK108.out) k_ hk⟩)); (case aO => exact (by (with_reducible repeat (first | apply Kd.R_alloc | apply Kd.R_drewN | apply Kd.R_drew)); exact HO124.out)); (case aS => exact (below_size (by repeat (first | (with_reducible first | exact HB.out | apply below_alloc | apply pw_below_drewN | apply below_drew1 | refine below_set ?_ GE108.out) | exact HB.out)))); (case aL => have := LMc13.out; omega); intro v131 w23 ho hb hg hat; rw [← Ny130.out] at ho; have n0_ := Aside0.mk (Kd.V_afterv (ok := (fun k_ => (P0_ k_ ∨ w.heap.size ≤ k_) ∧ k_ ≠ gb108)) (by (with_reducible repeat (first | apply Kd.V_alloc | apply Kd.V_drewN | apply Kd.V_drew)); exact HO0.out) hg hat); have n1_ := Aside0.mk (blk_grown (g := gb108) (o := .cells #[.int .i64 a1_0, .int .i64 a1_1] 37 (0, 0)) (by (with_reducible repeat (first | refine blk_drewN ?_ _ | refine blk_drew ?_ | refine blk_alloc ?_ _)); exact BK108.out) hg (Kd.R_away HO124.out (fun _ hk => hk.2))); have n2_ := Aside0.mk (Kd.V_afterv (ok := (fun k_ => (P0_ k_ ∨ w.heap.size ≤ k_) ∧ k_ ≠ gb108)) (by (with_reducible repeat (first | apply Kd.V_alloc | apply Kd.V_drewN | apply Kd.V_drew)); exact HO118.out) hg hat); have n3_ := Aside0.mk (Kd.V_afterv (ok := (fun k_ => (P0_ k_ ∨ w.heap.size ≤ k_) ∧ k_ ≠ gb108)) (by (with_reducible repeat (first | apply Kd.V_alloc | apply Kd.V_drewN | apply Kd.V_drew)); exact HO129.out) hg hat); have n4_ := Aside0.mk (hb); have n5_ := Aside0.mk (ho); clear HO0; clear BK108; clear HO118; clear HO129; clear HB; clear HO124; have HO0 := n0_; have BK108 := n1_; have HO118 := n2_; have HO129 := n3_; have HB := n4_; have HO132 := n5_; clear n0_ n1_ n2_ n3_ n4_ n5_; clear ho hb hg hat))
              go_ret2
              exact ⟨_, by first | rfl | (simp [errW_none, errW_some] <;> rfl) | (simp [*, errW_none, errW_some] <;> rfl), Kd.V_mono (Kd.R_V (by (with_reducible repeat (first | apply Kd.R_alloc | apply Kd.R_drewN | apply Kd.R_drew)); exact Kd.R_mono HO132.out (fun _ hk => hk.1))) (fun k_ hk => by first | exact ⟨(.inr (hk.1)), hk.2⟩ | exact (.inr (hk))), by repeat (first | (with_reducible first | exact HB.out | apply below_alloc | apply pw_below_drewN | apply below_drew1 | refine below_set ?_ GE108.out) | exact HB.out)⟩
            · rw [if_neg c13] at H
              exact absurd H (by simp)
          · rw [if_neg c10] at H
            exact absurd H (by simp)
        · rw [if_neg c9] at H
          exact absurd H (by simp)
      · rw [if_neg c8] at H
        exact absurd H (by simp)
    · rw [if_neg c7] at H
      exact absurd H (by simp)

/-! ### pairs_Put: function 63 : a hand text -/
def pairs_Put.f (_k : Nat) (l0 : List (S37)) (a1_0 : Int) (a1_1 : Int) : Option ((List (S37)) × Bool) := if ris l0 = true ∧ l0.length ≤ 1000000 then (if isKey l0 a1_0 = true then some (l0, false) else some (l0.take (lessN l0 a1_0) ++ ⟨a1_0, a1_1⟩ :: l0.drop (lessN l0 a1_0), true)) else none
theorem pairs_Put.mono : ∀ a0 a1 a2 k, LeO (pairs_Put.f k a0 a1 a2) (pairs_Put.f (k + 1) a0 a1 a2) := fun _ _ _ _ _ h => h
namespace PutWalk
theorem R_put {w : World} {base n : Nat} {v : Value} {l : List S37} {k x : Int} (hn : n ≤ l.length) (h : w.ownsRow base 37 2 v (l.length + 1) ((encs l).take (n * 2) ++ ([.int .i64 k, .int .i64 x] ++ (encs l).drop (n * 2)))) : Kd.R k37 37 w base (fun k_ => base ≤ k_) v (l.take n ++ ⟨k, x⟩ :: l.drop n) := by
  refine R_shut (fun g hg => own_base h g hg) ?_
  rw [show (l.take n ++ (⟨k, x⟩ : S37) :: l.drop n).length = l.length + 1 by simp only [List.length_append, List.length_take, List.length_cons, List.length_drop]; omega, encs_append, encs_take]
  have e : encs ((⟨k, x⟩ : S37) :: l.drop n) = [.int .i64 k, .int .i64 x] ++ (encs l).drop (n * 2) := by rw [← encs_drop]; rfl
  rw [e]
  exact h
set_option maxHeartbeats 4000000 in
set_option maxRecDepth 100000 in
theorem put_there (n : Int) (A : Option Addr) (c : Nat) (l : List (S37)) (k x : Int) (w : World) (hC : Kd.C k37 w A l.length l) (hc : l.length ≤ c) (hf : ∀ k_, pairs_Find.f k_ l k = some (n, true)) :
    Calls Try.prog 63 #[.slice A l.length c, .agg #[.int .i64 k, .int .i64 x]] w fun e w' => e = .returned (.tuple #[.slice A l.length c, .bool false]) ∧ Below w.heap.size w w' := by
  have hu := Try.underlying37
  have HC := Aside0.mk hC
  have HL := Aside0.mk hc
  have HF := Aside0.mk hf
  clear hC hc hf
  go_enter Try.func63, Try.ntmps63
  go_wp2_with fail
  refine (pairs_Find.calls 0 A c l k n true _ (Kd.C_below HC.out (below_alloc (Below.refl _ _) _)) HL.out (HF.out 0)).mono ?_
  rintro e w2 ⟨rfl, hb⟩
  have HB := Aside0.mk hb
  clear hb
  go_wp2
  go_ret2
  exact ⟨rfl, below_then (below_alloc (Below.refl _ _) _) (Below.size (below_alloc (Below.refl w.heap.size w) _)) HB.out⟩
set_option maxHeartbeats 4000000 in
set_option maxRecDepth 100000 in
theorem put_new (n : Nat) (A : Option Addr) (c : Nat) (l : List (S37)) (k x : Int) (w : World) (hC : Kd.C k37 w A l.length l) (hc : l.length ≤ c) (hl : l.length ≤ 1000000) (hn : n ≤ l.length) (hf : ∀ k_, pairs_Find.f k_ l k = some ((n : Int), false)) :
    Calls Try.prog 63 #[.slice A l.length c, .agg #[.int .i64 k, .int .i64 x]] w fun e w' => ∃ v, e = .returned (.tuple #[v, .bool true]) ∧ Kd.R k37 37 w' w.heap.size (fun k_ => w.heap.size ≤ k_) v (l.take n ++ ⟨k, x⟩ :: l.drop n) ∧ Below w.heap.size w w' := by
  have hu := Try.underlying37
  have HC := Aside0.mk hC
  have HL := Aside0.mk hc
  have HF := Aside0.mk hf
  clear hC hc hf
  go_enter Try.func63, Try.ntmps63
  go_wp2_with fail
  refine (pairs_Find.calls 0 A c l k n false _ (Kd.C_below HC.out (below_alloc (Below.refl _ _) _)) HL.out (HF.out 0)).mono ?_
  rintro e w2 ⟨rfl, hb⟩
  have HB := Aside0.mk hb
  clear hb
  have hbox : w2.heap[w.heap.size]? = some (.cells #[.int .i64 k, .int .i64 x] 37 (0, 0)) := blk_below (heap_alloc_new w _) HB.out
  have hcells : ∀ W : World, Below w2.heap.size w2 W → ∀ ad, A = some ad → ∀ j u, (encs l)[j]? = some u → W.cell? (ad.add j) = some u := by
    intro W hW ad hA j u hj
    have hCW := Kd.C_below HC.out (below_then (below_alloc (Below.refl _ _) _) (Below.size (below_alloc (Below.refl w.heap.size w) _)) (below_then HB.out (Below.size HB.out) hW))
    have hp : 0 < l.length := by
      have := (List.getElem?_eq_some_iff.1 hj).1
      rw [encs_length] at this
      omega
    obtain ⟨ad', hA', hc⟩ := C_cells hCW hp
    rw [hA] at hA'
    injection hA' with hA'
    subst hA'
    exact hc j u hj
  have hnil : A = none → l.length = 0 := by
    intro hA
    rcases Nat.eq_zero_or_pos l.length with h0 | h0
    · exact h0
    · obtain ⟨ad', hA', _⟩ := C_cells HC.out h0
      rw [hA] at hA'
      cases hA'
  have hsz : w.heap.size < w2.heap.size := (Array.getElem?_eq_some_iff.1 hbox).1
  have c0 : w2.cell? ⟨w.heap.size, 0, none⟩ = some (.int .i64 k) := by rw [cell_of_row w2 _ 0 _ 37 (0, 0) hbox]; rfl
  have c1 : w2.cell? ⟨w.heap.size, 1, none⟩ = some (.int .i64 x) := by rw [cell_of_row w2 _ 1 _ 37 (0, 0) hbox]; rfl
  have HX := Aside0.mk hbox
  have B2 := Aside0.mk (below_then (below_alloc (Below.refl w.heap.size w) (.cells #[.int .i64 k, .int .i64 x] 37 (0, 0))) (Below.size (below_alloc (Below.refl w.heap.size w) _)) HB.out)
  have HCE := Aside0.mk hcells
  have HN := Aside0.mk hnil
  have HZ := Aside0.mk hsz
  have mixed : Try.prog.follows Departure.mixedOrders = true := by kernel_rfl
  clear hbox hcells hnil hsz
  go_wp2_with fail
  go_region_with (first
    | (go_at_call 62; refine (InsW.clone_calls _ l.length (encs l) A c hl (encs_length l) (encs_one l) HN.out (HCE.out _ ?hb1)).mono ?_; (case hb1 => repeat (first | exact Below.refl _ _ | apply below_alloc | apply below_drew)); rintro e w4 ⟨v4, rfl, ho, hb⟩; have HO := Aside0.mk ho; have HB4 := Aside0.mk hb; clear ho hb; have HX4 := Aside0.mk (blk_below (show _ = _ by first | exact HX.out | exact blk_alloc HX.out _) HB4.out); have c04 : w4.cell? ⟨w.heap.size, 0, none⟩ = some (.int .i64 k) := (by rw [cell_of_row w4 _ 0 _ 37 (0, 0) HX4.out]; rfl); have c14 : w4.cell? ⟨w.heap.size, 1, none⟩ = some (.int .i64 x) := (by rw [cell_of_row w4 _ 1 _ 37 (0, 0) HX4.out]; rfl))
    | (go_at_call 98; refine (InsW.insert_calls _ w.heap.size l.length v4 (encs l) w4 n _ 1 k x _ hl hn HO.out ?j1 (encs_one l) ?j2 ?j3 ?j4 ?j5).mono ?_; (case j1 => first | exact Below.refl _ _ | exact below_alloc (Below.refl _ _) _); (case j2 => first | (have := HZ.out; simp; omega) | exact Nat.le_trans (Nat.le_of_lt HZ.out) (show w2.heap.size ≤ (w2.alloc _).heap.size by simp)); (case j3 => have := (Array.getElem?_eq_some_iff.1 HX4.out).1; simp; omega); (case j4 => first | exact .inl (Nat.le_refl _) | exact .inr (by simp) | exact .inr (show w2.heap.size < (w2.alloc _).heap.size by simp)); (case j5 => first | exact heap_alloc_new _ _ | exact blk_below (by exact heap_alloc_new w2 _) HB4.out); rintro e w6 ⟨v6, rfl, ho6, hb6⟩; have HO6 := Aside0.mk ho6; have HB6 := Aside0.mk hb6; clear ho6 hb6))
  all_goals go_wp2
  all_goals go_ret2
  all_goals
    refine ⟨v6, rfl, R_put hn HO6.out, ?_⟩
    have b4 : Below w.heap.size w w4 := by
      first
      | exact below_then (below_drew B2.out) (Below.size (below_drew B2.out)) HB4.out
      | exact below_then (below_drew (below_alloc B2.out _)) (Below.size (below_drew (below_alloc B2.out _))) HB4.out
    first
    | exact b4.trans HB6.out
    | exact (below_alloc b4 _).trans HB6.out
end PutWalk
theorem pairs_Put.calls (k : Nat) (P0_ : Nat → Prop) (A0 : Option Addr) (c0 : Nat) (l0 : List (S37)) (a1_0 : Int) (a1_1 : Int) (r1 : List (S37)) (r2 : Bool) (w : World) (hs0 : Kd.V k37 37 w w.heap.size (fun k_ => P0_ k_) (.slice A0 l0.length c0) l0) (h : pairs_Put.f k l0 a1_0 a1_1 = some (r1, r2)) :
    Calls Try.prog 63 #[.slice A0 l0.length c0, .agg #[.int .i64 a1_0, .int .i64 a1_1]] w fun e w' => ∃ v0_ : Value, e = .returned (.tuple #[v0_, .bool r2]) ∧ Kd.V k37 37 w' w.heap.size (fun k_ => (P0_ k_ ∨ w.heap.size ≤ k_)) v0_ r1 ∧ Below w.heap.size w w' := by
  unfold pairs_Put.f at h
  obtain ⟨_, hl, hC⟩ := Kd.V_reads' hs0
  by_cases hc : ris l0 = true ∧ l0.length ≤ 1000000
  · rw [if_pos hc] at h
    by_cases hk : isKey l0 a1_0 = true
    · rw [if_pos hk] at h
      obtain ⟨rfl, rfl⟩ : l0 = r1 ∧ false = r2 := by simpa using h
      have hf : ∀ k_, pairs_Find.f k_ l0 a1_0 = some ((lessN l0 a1_0 : Int), true) := fun k_ => by
        unfold pairs_Find.f
        rw [if_pos hc, hk]
      refine (PutWalk.put_there _ A0 c0 l0 a1_0 a1_1 w hC hl hf).mono ?_
      rintro e w' ⟨rfl, hb⟩
      exact ⟨_, rfl, Kd.V_mono (Kd.V_below hs0 hb) (fun _ hk => .inl hk), hb⟩
    · rw [if_neg hk] at h
      obtain ⟨rfl, rfl⟩ : l0.take (lessN l0 a1_0) ++ ⟨a1_0, a1_1⟩ :: l0.drop (lessN l0 a1_0) = r1 ∧ true = r2 := by simpa using h
      have hf : ∀ k_, pairs_Find.f k_ l0 a1_0 = some ((lessN l0 a1_0 : Int), false) := fun k_ => by
        unfold pairs_Find.f
        rw [if_pos hc, Bool.eq_false_iff.2 hk]
      refine (PutWalk.put_new _ A0 c0 l0 a1_0 a1_1 w hC hl hc.2 (lessN_le _ _) hf).mono ?_
      rintro e w' ⟨v, rfl, hr, hb⟩
      exact ⟨v, rfl, Kd.V_mono (Kd.R_V hr) (fun _ hk => .inr hk), hb⟩
  · rw [if_neg hc] at h
    cases h

/-! ### pairs_Rises: function 25 -/
def pairs_Rises.l0 : Nat → List (S37) → Int → Option (Bool)
  | 0, _, _ => none
  | k + 1, x0, x3 => if x3 < (x0.length : Int) then (if 0 ≤ (wrap64 (x3 - 1)) then (if (wrap64 (x3 - 1)) < (x0.length : Int) then (if 0 ≤ x3 then (if ((rd_T37 x0 (wrap64 (x3 - 1))).f0) ≥ ((rd_T37 x0 x3).f0) then (some false) else (pairs_Rises.l0 k x0 (wrap64 (x3 + 1)))) else (none)) else (none)) else (none)) else (some true)
def pairs_Rises.f (k : Nat) (l0 : List (S37)) : Option (Bool) := pairs_Rises.l0 k l0 1
theorem pairs_Rises.mono_l : ∀ k, (∀ y0 y1, LeO (pairs_Rises.l0 k y0 y1) (pairs_Rises.l0 (k + 1) y0 y1))
  | 0 => fun _ _ r h => by simp [pairs_Rises.l0] at h
  | k + 1 => by
    have ih0 := pairs_Rises.mono_l k
    · intro y0 y1
      unfold pairs_Rises.l0
      repeat' first
      | (with_reducible exact ih0 _ _)
      | (with_reducible exact LeO.refl _)
      | (with_reducible exact LeO.none _)
      | (with_reducible refine LeO.ite ?_ ?_)
      | (with_reducible refine LeO.bind ?_ (fun _ => ?_))
      | exact ih0 _ _
      | exact LeO.none _
      | refine LeO.ite ?_ ?_
      | refine LeO.bind ?_ (fun _ => ?_)
theorem pairs_Rises.mono : ∀ a0 k, LeO (pairs_Rises.f k a0) (pairs_Rises.f (k + 1) a0) := by
  intro a0 k
  have ih0 := pairs_Rises.mono_l k
  unfold pairs_Rises.f
  repeat' first
      | (with_reducible exact ih0 _ _)
      | (with_reducible exact LeO.refl _)
      | (with_reducible exact LeO.none _)
      | (with_reducible refine LeO.ite ?_ ?_)
      | (with_reducible refine LeO.bind ?_ (fun _ => ?_))
      | exact ih0 _ _
      | exact LeO.none _
      | refine LeO.ite ?_ ?_
      | refine LeO.bind ?_ (fun _ => ?_)
set_option maxHeartbeats 8000000 in
set_option maxRecDepth 100000 in
theorem pairs_Rises.calls (k : Nat) (A0 : Option Addr) (c0 : Nat) (l0 : List (S37)) (r : Bool) (w : World) (hr0 : Kd.C k37 w A0 l0.length l0) (hc0 : l0.length ≤ c0) (h : pairs_Rises.f k l0 = some r) :
    Calls Try.prog 25 #[.slice A0 l0.length c0] w fun e w' => e = .returned (.bool r) ∧ Drawn0 w w' := by
  have HR0 := Aside0.mk hr0
  have HC0 := Aside0.mk hc0
  clear hr0 hc0
  have H : (pairs_Rises.l0 k l0 1) = some r := h
  clear h
  have H' := Aside0.mk H
  clear H
  go_enter Try.func25, Try.ntmps25
  go_wp2
  repeat (go_quiet (fail); try go_wp2)
  go_loopg [3] k (fun kq v3 w' => ∃ (x3_1 : Int), v3 = .int .i64 x3_1 ∧ Aside0 (pairs_Rises.l0 kq l0 x3_1 = some r) ∧ Aside0 (kq ≤ k) ∧ Drawn0 w w')
  case atStart => exact ⟨(1), (by first | rfl | (simp; done) | (simp [*]; done)), H', ⟨Nat.le_refl _⟩, by repeat (first | exact Drawn0.refl _ | apply Drawn0.step)⟩
  case round =>
    clear H'
    obtain ⟨x3_1, rfl, HA, HK1, ⟨m1, rfl⟩⟩ := hrel
    cases gk with
    | zero => exact absurd HA.out (by simp [pairs_Rises.l0])
    | succ k1 =>
      have H := HA.out
      clear HA
      simp only [pairs_Rises.l0] at H
      by_cases c2 : x3_1 < (l0.length : Int)
      · rw [if_pos c2] at H
        have c2b0 : decide (x3_1 < (l0.length : Int)) = true := decide_eq_true c2
        clear c2
        obtain ⟨ji3, hji3⟩ : ∃ j_ : Int, (wrap64 (x3_1 - 1)) = j_ := ⟨_, rfl⟩
        replace H : (if 0 ≤ (ji3) then (if (ji3) < (l0.length : Int) then (if 0 ≤ x3_1 then (if ((rd_T37 l0 (ji3)).f0) ≥ ((rd_T37 l0 x3_1).f0) then (some false) else (pairs_Rises.l0 k1 l0 (wrap64 (x3_1 + 1)))) else (none)) else (none)) else (none)) = some r := by first | (rw [hji3] at H; exact H) | (simp only [hji3] at H ⊢; exact H)
        have hji3w : (IntKind.i64.wrap (x3_1 - 1)) = ji3 := (i64_w _).trans hji3
        by_cases c4 : 0 ≤ (ji3)
        · rw [if_pos c4] at H
          have c4b0 : decide (0 ≤ (ji3)) = true := decide_eq_true c4
          clear c4
          by_cases c5 : (ji3) < (l0.length : Int)
          · rw [if_pos c5] at H
            have c5b0 : decide ((ji3) < (l0.length : Int)) = true := decide_eq_true c5
            clear c5
            by_cases c6 : 0 ≤ x3_1
            · rw [if_pos c6] at H
              have c6b0 : decide (0 ≤ x3_1) = true := decide_eq_true c6
              clear c6
              by_cases c7 : ((rd_T37 l0 (ji3)).f0) ≥ ((rd_T37 l0 x3_1).f0)
              · rw [if_pos c7] at H
                have c7b0 : decide (((rd_T37 l0 x3_1).f0) ≤ ((rd_T37 l0 (ji3)).f0)) = true := decide_eq_true c7
                clear c7
                obtain rfl := Option.some.inj H
                have p136 : 0 ≤ ((ji3) : Int) := of_decide_eq_true (by first | (with_reducible assumption) | assumption)
                have q136 : (ji3) < (l0.length : Int) := of_decide_eq_true (by first | (with_reducible assumption) | assumption)
                obtain ⟨ad136, e136, hx136_0, hx136_1⟩ := at_T37 HR0.out (ji3) p136 q136
                cases e136
                replace p136 := eq_true p136
                replace q136 := eq_true q136
                have p137 : 0 ≤ (x3_1 : Int) := of_decide_eq_true (by first | (with_reducible assumption) | assumption)
                have q137 : x3_1 < (l0.length : Int) := of_decide_eq_true (by first | (with_reducible assumption) | assumption)
                obtain ⟨ad137, e137, hx137_0, hx137_1⟩ := at_T37 HR0.out x3_1 p137 q137
                obtain rfl : ad136 = ad137 := (by injection e137)
                replace p137 := eq_true p137
                replace q137 := eq_true q137
                go_wp2
                repeat (go_quiet (fail); try go_wp2)
                go_ret
                exact ⟨by first | rfl | (simp; done) | (simp only [← hji3] <;> (first | rfl | simp)) | (simp [*]; done), by repeat (first | exact Drawn0.refl _ | apply Drawn0.step)⟩
              · rw [if_neg c7] at H
                have c7b0 : decide (((rd_T37 l0 x3_1).f0) ≤ ((rd_T37 l0 (ji3)).f0)) = false := decide_eq_false c7
                clear c7
                have H' := Aside0.mk H
                clear H
                have p136 : 0 ≤ ((ji3) : Int) := of_decide_eq_true (by first | (with_reducible assumption) | assumption)
                have q136 : (ji3) < (l0.length : Int) := of_decide_eq_true (by first | (with_reducible assumption) | assumption)
                obtain ⟨ad136, e136, hx136_0, hx136_1⟩ := at_T37 HR0.out (ji3) p136 q136
                cases e136
                replace p136 := eq_true p136
                replace q136 := eq_true q136
                have p137 : 0 ≤ (x3_1 : Int) := of_decide_eq_true (by first | (with_reducible assumption) | assumption)
                have q137 : x3_1 < (l0.length : Int) := of_decide_eq_true (by first | (with_reducible assumption) | assumption)
                obtain ⟨ad137, e137, hx137_0, hx137_1⟩ := at_T37 HR0.out x3_1 p137 q137
                obtain rfl : ad136 = ad137 := (by injection e137)
                replace p137 := eq_true p137
                replace q137 := eq_true q137
                go_wp2
                repeat (go_quiet (fail); try go_wp2)
                go_roundg k1
                case measure => have := HK1.out; omega
                case rel => exact ⟨(wrap64 (x3_1 + 1)), (by first | rfl | (simp; done) | (simp [*]; done)), H', ⟨by have := HK1.out; omega⟩, by repeat (first | exact Drawn0.refl _ | apply Drawn0.step)⟩
            · rw [if_neg c6] at H
              exact absurd H (by simp)
          · rw [if_neg c5] at H
            exact absurd H (by simp)
        · rw [if_neg c4] at H
          exact absurd H (by simp)
      · rw [if_neg c2] at H
        have c2b0 : decide (x3_1 < (l0.length : Int)) = false := decide_eq_false c2
        clear c2
        obtain rfl := Option.some.inj H
        go_wp2
        repeat (go_quiet (fail); try go_wp2)
        go_ret
        exact ⟨by first | rfl | (simp; done) | (simp [*]; done), by repeat (first | exact Drawn0.refl _ | apply Drawn0.step)⟩

-- NOT PRINTED: function 4 (deadwoodlaw15_FrameOrders)

end Go.Proofs.Ytocmdcjbjhpooaa.PFrameOrders
