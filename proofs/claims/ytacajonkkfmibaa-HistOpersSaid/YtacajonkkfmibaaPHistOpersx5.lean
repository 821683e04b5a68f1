-- Printed by a program of this session (mkprint.py) out of the translation; Lean checks it.
import Derived.Test.YtacajonkkfmibaaHESame
import Derived.Test.YtacajonkkfmibaaHistOpen2
import Derived.Test.YtacajonkkfmibaaPHistOpersx2
import Derived.Test.YtacajonkkfmibaaPHistOpersx0
import Derived.Test.YtacajonkkfmibaaPHistOpersx1
import Derived.Test.YtacajonkkfmibaaPHistOpersx3
import Derived.Test.YtacajonkkfmibaaPHistOpersx4
namespace Go.Proofs.Ytacajonkkfmibaa.PHistOpers
open Go.RowKit Go.Proofs.YtacajonkkfmibaaW.PrintWords Go.Proofs.YtacajonkkfmibaaW.PrintLast Go.Proofs.YtacajonkkfmibaaW.PrintMore
attribute [local go_sem] max2_int min2_int max_two min_two max_three min_three max_four min_four   -- for this text's walks alone
set_option linter.unusedVariables false
set_option linter.unusedSimpArgs false

attribute [local go_sem high] eqA28
/-! ### deadwoodref11_Threads: function 37 -/
mutual
def deadwoodref11_Threads.l0 : Nat → List (S33) → Int → Int → Option (Int)
  | 0, _, _, _ => none
  | k + 1, x0, x3, x4 => if x4 < (x0.length : Int) then ((deadwoodref11_May.f k x0).bind fun t122 => (deadwoodref11_Threads.j1 k x0 x3 x4 t122)) else (deadwoodref11_Threads.j1 k x0 x3 x4 false)
def deadwoodref11_Threads.j1 : Nat → List (S33) → Int → Int → Bool → Option (Int)
  | 0, _, _, _, _ => none
  | k + 1, x0, x3, x4, x12 => if x12 = true then (if 0 ≤ x4 then (if x4 < (x0.length : Int) then (if ((rd_T33 x0 x4).f0) ≥ x3 then (deadwoodref11_Threads.l0 k x0 (wrap64 (((rd_T33 x0 x4).f0) + 1)) (wrap64 (x4 + 1))) else (deadwoodref11_Threads.l0 k x0 x3 (wrap64 (x4 + 1)))) else (none)) else (none)) else (some x3)
end
def deadwoodref11_Threads.f (k : Nat) (l0 : List (S33)) : Option (Int) := deadwoodref11_Threads.l0 k l0 0 0
theorem deadwoodref11_Threads.mono_l : ∀ k, (∀ y0 y1 y2, LeO (deadwoodref11_Threads.l0 k y0 y1 y2) (deadwoodref11_Threads.l0 (k + 1) y0 y1 y2)) ∧ (∀ y0 y1 y2 y3, LeO (deadwoodref11_Threads.j1 k y0 y1 y2 y3) (deadwoodref11_Threads.j1 (k + 1) y0 y1 y2 y3))
  | 0 => ⟨fun _ _ _ r h => by simp [deadwoodref11_Threads.l0] at h, fun _ _ _ _ r h => by simp [deadwoodref11_Threads.j1] at h⟩
  | k + 1 => by
    obtain ⟨ih0, ih1⟩ := deadwoodref11_Threads.mono_l k
    refine ⟨?_, ?_⟩
    · intro y0 y1 y2
      unfold deadwoodref11_Threads.l0
      repeat' first
      | (with_reducible exact ih0 _ _ _)
      | (with_reducible exact ih1 _ _ _ _)
      | (with_reducible exact deadwoodref11_May.mono _ _)
      | (with_reducible exact LeO.refl _)
      | (with_reducible exact LeO.none _)
      | (with_reducible refine LeO.ite ?_ ?_)
      | (with_reducible refine LeO.bind ?_ (fun _ => ?_))
      | exact ih0 _ _ _
      | exact ih1 _ _ _ _
      | exact deadwoodref11_May.mono _ _
      | exact LeO.none _
      | refine LeO.ite ?_ ?_
      | refine LeO.bind ?_ (fun _ => ?_)
    · intro y0 y1 y2 y3
      unfold deadwoodref11_Threads.j1
      repeat' first
      | (with_reducible exact ih0 _ _ _)
      | (with_reducible exact ih1 _ _ _ _)
      | (with_reducible exact deadwoodref11_May.mono _ _)
      | (with_reducible exact LeO.refl _)
      | (with_reducible exact LeO.none _)
      | (with_reducible refine LeO.ite ?_ ?_)
      | (with_reducible refine LeO.bind ?_ (fun _ => ?_))
      | exact ih0 _ _ _
      | exact ih1 _ _ _ _
      | exact deadwoodref11_May.mono _ _
      | exact LeO.none _
      | refine LeO.ite ?_ ?_
      | refine LeO.bind ?_ (fun _ => ?_)
theorem deadwoodref11_Threads.mono : ∀ a0 k, LeO (deadwoodref11_Threads.f k a0) (deadwoodref11_Threads.f (k + 1) a0) := by
  intro a0 k
  obtain ⟨ih0, ih1⟩ := deadwoodref11_Threads.mono_l k
  unfold deadwoodref11_Threads.f
  repeat' first
      | (with_reducible exact ih0 _ _ _)
      | (with_reducible exact ih1 _ _ _ _)
      | (with_reducible exact deadwoodref11_May.mono _ _)
      | (with_reducible exact LeO.refl _)
      | (with_reducible exact LeO.none _)
      | (with_reducible refine LeO.ite ?_ ?_)
      | (with_reducible refine LeO.bind ?_ (fun _ => ?_))
      | exact ih0 _ _ _
      | exact ih1 _ _ _ _
      | exact deadwoodref11_May.mono _ _
      | exact LeO.none _
      | refine LeO.ite ?_ ?_
      | refine LeO.bind ?_ (fun _ => ?_)
set_option maxHeartbeats 8000000 in
set_option maxRecDepth 100000 in
theorem deadwoodref11_Threads.calls (k : Nat) (A0 : Option Addr) (c0 : Nat) (l0 : List (S33)) (r : Int) (w : World) (hr0 : Kd.C k33 w A0 l0.length l0) (hc0 : l0.length ≤ c0) (h : deadwoodref11_Threads.f k l0 = some r) :
    Calls Try.prog 37 #[.slice A0 l0.length c0] w fun e w' => e = .returned (.int .i64 r) ∧ Drawn0 w w' := by
  have HR0 := Aside0.mk hr0
  have HC0 := Aside0.mk hc0
  clear hr0 hc0
  have H : (deadwoodref11_Threads.l0 k l0 0 0) = some r := h
  clear h
  have H' := Aside0.mk H
  clear H
  go_enter Try.func37, Try.ntmps37
  go_wp2
  go_loopg [3, 4] k (fun kq v3 v4 w' => ∃ (x3_1 : Int) (x4_1 : Int), v3 = .int .i64 x3_1 ∧ v4 = .int .i64 x4_1 ∧ Aside0 (deadwoodref11_Threads.l0 kq l0 x3_1 x4_1 = some r) ∧ Aside0 (kq ≤ k) ∧ Drawn0 w w')
  case atStart => exact ⟨(0), (0), (by first | rfl | (simp; done) | (simp [*]; done)), (by first | rfl | (simp; done) | (simp [*]; done)), H', ⟨Nat.le_refl _⟩, by repeat (first | exact Drawn0.refl _ | apply Drawn0.step)⟩
  case round =>
    clear H'
    obtain ⟨x3_1, x4_1, rfl, rfl, HA, HK1, ⟨m1, rfl⟩⟩ := hrel
    cases gk with
    | zero => exact absurd HA.out (by simp [deadwoodref11_Threads.l0])
    | succ k1 =>
      have H := HA.out
      clear HA
      simp only [deadwoodref11_Threads.l0] at H
      have HC2 := Aside0.mk H
      clear H
      go_upto_region 3 with (fail)
      go_cut [12] (fun v12 wc => ∃ (kq : Nat) (x12_1 : Bool), v12 = .bool x12_1 ∧ Aside0 (deadwoodref11_Threads.j1 kq l0 x3_1 x4_1 x12_1 = some r) ∧ Aside0 (kq ≤ k1) ∧ Drawn0 w wc)
      case first =>
        have H := HC2.out
        clear HC2
        by_cases c3 : x4_1 < (l0.length : Int)
        · rw [if_pos c3] at H
          have c3b0 : decide (x4_1 < (l0.length : Int)) = true := decide_eq_true c3
          clear c3
          (first | rw [c3b0] | (simp only [i64_w, i32_w]; rw [c3b0]) | skip)
          replace H := Option.bind_eq_some_iff.mp H
          obtain ⟨t122, A40, H⟩ := H
          replace H : (deadwoodref11_Threads.j1 k1 l0 x3_1 x4_1 t122) = some r := H
          have A4 := Aside0.mk A40
          clear A40
          have H' := Aside0.mk H
          clear H
          go_wp2_with (first | (go_at_call 35; (with_reducible refine (deadwoodref11_May.calls k1 _ _ l0 t122 _ ?side1 ?side2 A4.out).mono ?_); (case side1 => repeat (first | exact HR0.out | (with_reducible refine Kd.C_alloc ?_ _) | (with_reducible refine Kd.C_drewN ?_ _) | (with_reducible refine Kd.C_drew ?_))); (case side2 => exact HC0.out); rintro e w' ⟨rfl, ⟨nd, rfl⟩⟩))
          go_meet
          case rel => exact ⟨_, (t122), (by first | rfl | (simp; done) | (simp [*]; done)), H', ⟨by have := HK1.out; first | omega | exact Nat.le_refl _⟩, by repeat (first | exact Drawn0.refl _ | apply Drawn0.step)⟩
        · rw [if_neg c3] at H
          have c3b0 : decide (x4_1 < (l0.length : Int)) = false := decide_eq_false c3
          clear c3
          (first | rw [c3b0] | (simp only [i64_w, i32_w]; rw [c3b0]) | skip)
          have H' := Aside0.mk H
          clear H
          go_wp2
          go_meet
          case rel => exact ⟨_, (false), (by first | rfl | (simp; done) | (simp [*]; done)), H', ⟨by have := HK1.out; first | omega | exact Nat.le_refl _⟩, by repeat (first | exact Drawn0.refl _ | apply Drawn0.step)⟩
      case rest =>
        clear HC2
        try clear p2
        try clear c3
        try clear c3b0
        obtain ⟨kq, x12_1, rfl, HA, HJ1, ⟨mc1, rfl⟩⟩ := hcut
        cases kq with
        | zero => exact absurd HA.out (by simp [deadwoodref11_Threads.j1])
        | succ kj1 =>
          have H := HA.out
          clear HA
          simp only [deadwoodref11_Threads.j1] at H
          by_cases c5 : x12_1 = true
          · subst c5
            have H1 : (if 0 ≤ x4_1 then (if x4_1 < (l0.length : Int) then (if ((rd_T33 l0 x4_1).f0) ≥ x3_1 then (deadwoodref11_Threads.l0 kj1 l0 (wrap64 (((rd_T33 l0 x4_1).f0) + 1)) (wrap64 (x4_1 + 1))) else (deadwoodref11_Threads.l0 kj1 l0 x3_1 (wrap64 (x4_1 + 1)))) else (none)) else (none)) = some r := by rw [if_pos rfl] at H; exact H
            clear H
            have H := H1
            clear H1
            by_cases c6 : 0 ≤ x4_1
            · rw [if_pos c6] at H
              have c6b0 : decide (0 ≤ x4_1) = true := decide_eq_true c6
              clear c6
              by_cases c7 : x4_1 < (l0.length : Int)
              · rw [if_pos c7] at H
                have c7b0 : decide (x4_1 < (l0.length : Int)) = true := decide_eq_true c7
                clear c7
                by_cases c8 : ((rd_T33 l0 x4_1).f0) ≥ x3_1
                · rw [if_pos c8] at H
                  have c8b0 : decide (x3_1 ≤ ((rd_T33 l0 x4_1).f0)) = true := decide_eq_true c8
                  clear c8
                  have H' := Aside0.mk H
                  clear H
                  have p123 : 0 ≤ (x4_1 : Int) := of_decide_eq_true (by first | (with_reducible assumption) | assumption)
                  have q123 : x4_1 < (l0.length : Int) := of_decide_eq_true (by first | (with_reducible assumption) | assumption)
                  obtain ⟨ad123, A123_11, c123_11, e123, hx123_0, hx123_1, hx123_2, hx123_3, hx123_4, hx123_5, hx123_6, hx123_7, hx123_8, hx123_9, hx123_10, hx123_11, hl123_11, hi123_11⟩ := at_T33 HR0.out x4_1 p123 q123
                  cases e123
                  have HR123_11 := Aside0.mk hi123_11
                  have HC123_11 := Aside0.mk hl123_11
                  clear hi123_11 hl123_11
                  replace p123 := eq_true p123
                  replace q123 := eq_true q123
                  have p124 : 0 ≤ (x4_1 : Int) := of_decide_eq_true (by first | (with_reducible assumption) | assumption)
                  have q124 : x4_1 < (l0.length : Int) := of_decide_eq_true (by first | (with_reducible assumption) | assumption)
                  obtain ⟨ad124, A124_11, c124_11, e124, hx124_0, hx124_1, hx124_2, hx124_3, hx124_4, hx124_5, hx124_6, hx124_7, hx124_8, hx124_9, hx124_10, hx124_11, hl124_11, hi124_11⟩ := at_T33 HR0.out x4_1 p124 q124
                  obtain rfl : ad123 = ad124 := (by injection e124)
                  have HR124_11 := Aside0.mk hi124_11
                  have HC124_11 := Aside0.mk hl124_11
                  clear hi124_11 hl124_11
                  replace p124 := eq_true p124
                  replace q124 := eq_true q124
                  have ea_ := Option.some.inj (hx123_11.symm.trans hx124_11)
                  injection ea_ with ea_ en_ ec_
                  subst ea_
                  subst ec_
                  clear en_
                  go_wp2
                  go_roundg kj1
                  case measure => have := HK1.out; have := HJ1.out; omega
                  case rel => exact ⟨(wrap64 (((rd_T33 l0 x4_1).f0) + 1)), (wrap64 (x4_1 + 1)), (by first | rfl | (simp; done) | (simp [*]; done)), (by first | rfl | (simp; done) | (simp [*]; done)), H', ⟨by have := HK1.out; have := HJ1.out; omega⟩, by repeat (first | exact Drawn0.refl _ | apply Drawn0.step)⟩
                · rw [if_neg c8] at H
                  have c8b0 : decide (x3_1 ≤ ((rd_T33 l0 x4_1).f0)) = false := decide_eq_false c8
                  clear c8
                  have H' := Aside0.mk H
                  clear H
                  have p123 : 0 ≤ (x4_1 : Int) := of_decide_eq_true (by first | (with_reducible assumption) | assumption)
                  have q123 : x4_1 < (l0.length : Int) := of_decide_eq_true (by first | (with_reducible assumption) | assumption)
                  obtain ⟨ad123, A123_11, c123_11, e123, hx123_0, hx123_1, hx123_2, hx123_3, hx123_4, hx123_5, hx123_6, hx123_7, hx123_8, hx123_9, hx123_10, hx123_11, hl123_11, hi123_11⟩ := at_T33 HR0.out x4_1 p123 q123
                  cases e123
                  have HR123_11 := Aside0.mk hi123_11
                  have HC123_11 := Aside0.mk hl123_11
                  clear hi123_11 hl123_11
                  replace p123 := eq_true p123
                  replace q123 := eq_true q123
                  go_wp2
                  go_roundg kj1
                  case measure => have := HK1.out; have := HJ1.out; omega
                  case rel => exact ⟨(x3_1), (wrap64 (x4_1 + 1)), (by first | rfl | (simp; done) | (simp [*]; done)), (by first | rfl | (simp; done) | (simp [*]; done)), H', ⟨by have := HK1.out; have := HJ1.out; omega⟩, by repeat (first | exact Drawn0.refl _ | apply Drawn0.step)⟩
              · rw [if_neg c7] at H
                exact absurd H (by simp)
            · rw [if_neg c6] at H
              exact absurd H (by simp)
          · replace c5 := Bool.eq_false_iff.mpr c5
            subst c5
            have H1 : (some x3_1) = some r := by rw [if_neg (show ¬ (false = true) by decide)] at H; exact H
            clear H
            have H := H1
            clear H1
            obtain rfl := Option.some.inj H
            go_wp2
            go_ret
            exact ⟨by first | rfl | (simp; done) | (simp [*]; done), by repeat (first | exact Drawn0.refl _ | apply Drawn0.step)⟩

/-! ### hist_Threads: function 36 : a hand text -/
namespace HistW
open Go.Proofs.Ytacajonkkfmibaa.GRow
def topT : Int → List Ev → Int
  | n, [] => n
  | n, e :: l => topT (max n (e.f0 + 1)) l
def threadsF (l : List Ev) : Int := if mayF l = true then topT 0 l else 0
set_option maxHeartbeats 1000000 in
set_option maxRecDepth 100000 in
theorem threads_calls (l : List Ev) (A : Option Addr) (c : Nat) (w : World) (hr : Kd.C k33 w A l.length l) (hc : l.length ≤ c) (hl : l.length ≤ 1000000) :
    Calls Try.prog 36 #[.slice A l.length c] w fun e w' => e = .returned (.int .i64 (threadsF l)) ∧ Below w.heap.size w w' := by
  have hu := Try.underlying33
  have hu3 := Try.underlying31
  have hu4 := Try.underlying28
  have HR := Aside0.mk hr
  cases hm : mayF l with
  | false =>
    have HM := Aside0.mk (may_calls l A c w hr hc hl false hm)
    have TF : threadsF l = 0 := by unfold threadsF; rw [hm, if_neg (by decide)]
    rw [TF]
    clear hm TF hr hc
    go_enter Try.func36, Try.ntmps36
    go_wp2_with fail
    refine HM.out.mono ?_
    rintro e w2 ⟨rfl, hb⟩
    have HB := Aside0.mk hb
    clear hb
    go_wp2
    go_ret
    exact ⟨rfl, HB.out⟩
  | true =>
    have HM := Aside0.mk (may_calls l A c w hr hc hl true hm)
    have MR := Aside0.mk (show mrun st0 l = true from hm)
    have TF : threadsF l = topT 0 l := by unfold threadsF; rw [hm, if_pos rfl]
    rw [TF]
    clear hm TF hr hc
    go_enter Try.func36, Try.ntmps36
    go_wp2_with fail
    refine HM.out.mono ?_
    rintro e w2 ⟨rfl, hb⟩
    have HB := Aside0.mk hb
    clear hb HM
    go_wp2
    go_loopg [3, 11] l.length (fun kx s3 s11 wr => ∃ (i : Nat) (st : List Bool) (n : Int), s3 = .int .i64 n ∧ s11 = .int .i64 i ∧ i + kx = l.length ∧ 0 ≤ n ∧ n ≤ 6 ∧ Aside0 (mrun st (l.drop i) = true) ∧ Aside0 (topT n (l.drop i) = topT 0 l) ∧ Aside0 (Below w.heap.size w wr))
    case atStart => exact ⟨0, st0, 0, rfl, rfl, by omega, by omega, by omega, ⟨by rw [List.drop_zero]; exact MR.out⟩, ⟨by rw [List.drop_zero]⟩, HB⟩
    case round =>
      clear HB MR
      obtain ⟨i, st, n, rfl, rfl, hi, n0, n6, MR, TT, B1⟩ := hrel
      by_cases hlt : i < l.length
      · obtain ⟨ad, A11, c11, hA, ⟨h0, h1, h2, h3, h4, h5, h6, h7, h8, h9, h10, h11⟩, _, _⟩ := ev_at (Kd.C_below HR.out B1.out) i hlt
        subst hA
        have MR2 := MR.out
        have TT2 := TT.out
        rw [mrun_drop st l i hlt, Bool.and_eq_true] at MR2
        rw [List.drop_eq_getElem_cons hlt, topT] at TT2
        have QI : (i : Int) < (l.length : Int) := by omega
        generalize l[i] = e at h0 h1 h2 h3 h4 h5 h6 h7 h8 h9 h10 h11 MR2 TT2
        obtain ⟨f0, f1, ⟨q0, q1, q2, q3, q4⟩, ⟨a0, a1, a2, a3, a4⟩⟩ := e
        obtain ⟨hok, hmr⟩ := MR2
        obtain ⟨t0, t6, _⟩ := okE_true hok
        dsimp only at h0 h1 h2 h3 h4 h5 h6 h7 h8 h9 h10 h11 t0 t6 hmr TT2
        have MR3 := Aside0.mk hmr
        have TT3 := Aside0.mk TT2
        clear MR TT hok hmr TT2
        go_wp2
        · go_roundg (l.length - (i + 1))
          case measure => omega
          case rel =>
            have e : max n (f0 + 1) = f0 + 1 := by omega
            exact ⟨i + 1, _, f0 + 1, rfl, by go_num, by omega, by omega, by omega, MR3, ⟨by have := TT3.out; rwa [e] at this⟩, ⟨below_alloc B1.out _⟩⟩
        · go_roundg (l.length - (i + 1))
          case measure => omega
          case rel =>
            have e : max n (f0 + 1) = n := by omega
            exact ⟨i + 1, _, n, rfl, by go_num, by omega, by omega, by omega, MR3, ⟨by have := TT3.out; rwa [e] at this⟩, ⟨below_alloc B1.out _⟩⟩
      · have QI : ¬ (i : Int) < (l.length : Int) := by omega
        have TT2 := TT.out
        rw [List.drop_of_length_le (by omega), topT] at TT2
        have TT3 := Aside0.mk TT2
        clear MR TT TT2 hlt
        go_wp2
        go_ret
        exact ⟨by rw [← TT3.out] <;> rfl, B1.out⟩
end HistW
def hist_Threads.f (_k : Nat) (l0 : List (S33)) : Option (Int) := if l0.length ≤ 1000000 then some (HistW.threadsF l0) else none
theorem hist_Threads.mono : ∀ a0 k, LeO (hist_Threads.f k a0) (hist_Threads.f (k + 1) a0) := fun _ _ _ h => h
theorem hist_Threads.calls (k : Nat) (A0 : Option Addr) (c0 : Nat) (l0 : List (S33)) (r : Int) (w : World) (hr0 : Kd.C k33 w A0 l0.length l0) (hc0 : l0.length ≤ c0) (h : hist_Threads.f k l0 = some r) :
    Calls Try.prog 36 #[.slice A0 l0.length c0] w fun e w' => e = .returned (.int .i64 r) ∧ Below w.heap.size w w' := by
  unfold hist_Threads.f at h
  by_cases hl : l0.length ≤ 1000000
  · rw [if_pos hl] at h
    obtain rfl := Option.some.inj h
    exact HistW.threads_calls l0 A0 c0 w hr0 hc0 hl
  · rw [if_neg hl] at h
    cases h

/-! ### hist_Open: function 38 : a hand text -/
namespace HistW
theorem topT_le : ∀ (l : List Ev) (st : List Bool) (n : Int), mrun st l = true → 0 ≤ n → n ≤ 6 → 0 ≤ topT n l ∧ topT n l ≤ 6
  | [], _, n, _, h0, h6 => ⟨h0, h6⟩
  | e :: l, st, n, h, h0, h6 => by
    have h' := mrun_drop st (e :: l) 0 (by simp)
    rw [List.drop_zero] at h'
    rw [h', Bool.and_eq_true] at h
    obtain ⟨hok, hm⟩ := h
    obtain ⟨t0, t6, _⟩ := okE_true hok
    rw [topT]
    exact topT_le l _ _ hm (by omega) (by simp only [List.getElem_cons_zero] at t0 t6; omega)
theorem threadsF_le (l : List Ev) : 0 ≤ threadsF l ∧ threadsF l ≤ 6 := by
  unfold threadsF
  by_cases h : mayF l = true
  · rw [if_pos h]
    exact topT_le l st0 0 h (by omega) (by omega)
  · rw [if_neg h]
    omega
def openF (l : List Ev) : Int := ((HistOpen.openU l (threadsF l).toNat : Nat) : Int)
end HistW
def hist_Open.f (_k : Nat) (l0 : List (S33)) : Option (Int) := if l0.length ≤ 1000000 then some (HistW.openF l0) else none
theorem hist_Open.mono : ∀ a0 k, LeO (hist_Open.f k a0) (hist_Open.f (k + 1) a0) := fun _ _ _ h => h
theorem hist_Open.calls (k : Nat) (A0 : Option Addr) (c0 : Nat) (l0 : List (S33)) (r : Int) (w : World) (hr0 : Kd.C k33 w A0 l0.length l0) (hc0 : l0.length ≤ c0) (h : hist_Open.f k l0 = some r) :
    Calls Try.prog 38 #[.slice A0 l0.length c0] w fun e w' => e = .returned (.int .i64 r) ∧ Below w.heap.size w w' := by
  unfold hist_Open.f at h
  by_cases hl : l0.length ≤ 1000000
  · rw [if_pos hl] at h
    obtain rfl := Option.some.inj h
    have hT := HistW.threadsF_le l0
    have e : (((HistW.threadsF l0).toNat : Nat) : Int) = HistW.threadsF l0 := Int.toNat_of_nonneg hT.1
    refine HistOpen.open_calls l0 A0 c0 (HistW.threadsF l0).toNat w hr0 hc0 hl (by omega) (fun W hb => ?_)
    rw [e]
    exact HistW.threads_calls l0 A0 c0 W (Kd.C_below hr0 hb) hc0 hl
  · rw [if_neg hl] at h
    cases h

end Go.Proofs.Ytacajonkkfmibaa.PHistOpers
