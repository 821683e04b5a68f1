-- Printed by a program of this session (mkprint.py) out of the translation; Lean checks it.
import Derived.Test.YtdbenonbjklkdaaPWordBitsx0
import Derived.Test.YtdbenonbjklkdaaPWordBitsx1
namespace Go.Proofs.Ytdbenonbjklkdaa.PWordBits
open Go.RowKit Go.Proofs.YtdbenonbjklkdaaW.PrintWords Go.Proofs.YtdbenonbjklkdaaW.PrintLast Go.Proofs.YtdbenonbjklkdaaW.PrintMore
attribute [local go_sem] max2_int min2_int max_two min_two max_three min_three max_four min_four   -- for this text's walks alone
set_option linter.unusedVariables false
set_option linter.unusedSimpArgs false

/-! ### deadwoodlaw01_WordBits: function 8 -/
def deadwoodlaw01_WordBits.j0 : Nat → Int → Int → Bool → Int → Option (Bool)
  | 0, _, _, _, _ => none
  | k + 1, x0, x1, x2, x7 => (word_Bit.f x0 x1).bind fun t135 => ((deadwoodref01_Field.f k x0 x1 1).bind fun t136 => (if (t135 == (t136 == 1)) = true then ((word_Turned.f x0 x1 x2).bind fun t137 => ((deadwoodref01_With.f k x0 x1 1 x7).bind fun t138 => (if t137 = t138 then ((deadwoodlaw01_lives.f).bind fun t139 => (some t139)) else (some false)))) else (some false)))
def deadwoodlaw01_WordBits.f (k : Nat) (a0 : Int) (a1 : Int) (a2 : Bool) : Option (Bool) := if a2 = true then (deadwoodlaw01_WordBits.j0 k a0 a1 a2 1) else (deadwoodlaw01_WordBits.j0 k a0 a1 a2 0)
theorem deadwoodlaw01_WordBits.mono_l : ∀ k, (∀ y0 y1 y2 y3, LeO (deadwoodlaw01_WordBits.j0 k y0 y1 y2 y3) (deadwoodlaw01_WordBits.j0 (k + 1) y0 y1 y2 y3))
  | 0 => fun _ _ _ _ r h => by simp [deadwoodlaw01_WordBits.j0] at h
  | k + 1 => by
    have ih0 := deadwoodlaw01_WordBits.mono_l k
    · intro y0 y1 y2 y3
      unfold deadwoodlaw01_WordBits.j0
      repeat' first
      | (with_reducible exact ih0 _ _ _ _)
      | (with_reducible exact deadwoodref01_Field.mono _ _ _ _)
      | (with_reducible exact deadwoodref01_With.mono _ _ _ _ _)
      | (with_reducible exact LeO.refl _)
      | (with_reducible exact LeO.none _)
      | (with_reducible refine LeO.ite ?_ ?_)
      | (with_reducible refine LeO.bind ?_ (fun _ => ?_))
      | exact ih0 _ _ _ _
      | exact deadwoodref01_Field.mono _ _ _ _
      | exact deadwoodref01_With.mono _ _ _ _ _
      | exact LeO.none _
      | refine LeO.ite ?_ ?_
      | refine LeO.bind ?_ (fun _ => ?_)
theorem deadwoodlaw01_WordBits.mono : ∀ a0 a1 a2 k, LeO (deadwoodlaw01_WordBits.f k a0 a1 a2) (deadwoodlaw01_WordBits.f (k + 1) a0 a1 a2) := by
  intro a0 a1 a2 k
  have ih0 := deadwoodlaw01_WordBits.mono_l k
  unfold deadwoodlaw01_WordBits.f
  repeat' first
      | (with_reducible exact ih0 _ _ _ _)
      | (with_reducible exact deadwoodref01_Field.mono _ _ _ _)
      | (with_reducible exact deadwoodref01_With.mono _ _ _ _ _)
      | (with_reducible exact LeO.refl _)
      | (with_reducible exact LeO.none _)
      | (with_reducible refine LeO.ite ?_ ?_)
      | (with_reducible refine LeO.bind ?_ (fun _ => ?_))
      | exact ih0 _ _ _ _
      | exact deadwoodref01_Field.mono _ _ _ _
      | exact deadwoodref01_With.mono _ _ _ _ _
      | exact LeO.none _
      | refine LeO.ite ?_ ?_
      | refine LeO.bind ?_ (fun _ => ?_)
set_option maxHeartbeats 8000000 in
set_option maxRecDepth 100000 in
theorem deadwoodlaw01_WordBits.calls (k : Nat) (a0 : Int) (a1 : Int) (a2 : Bool) (r : Bool) (w : World) (hr_ : r = true) (h : deadwoodlaw01_WordBits.f k a0 a1 a2 = some r) :
    Calls Try.prog 8 #[.int .u64 a0, .int .i64 a1, .bool a2] w fun e w' => e = .returned (.bool r) ∧ Below w.heap.size w w' := by
  have HRT := Aside0.mk hr_
  clear hr_
  have HB := Aside0.mk (Below.refl w.heap.size w)
  have H : (if a2 = true then (deadwoodlaw01_WordBits.j0 k a0 a1 a2 1) else (deadwoodlaw01_WordBits.j0 k a0 a1 a2 0)) = some r := h
  clear h
  have HC4 := Aside0.mk H
  clear H
  go_enter Try.func8, Try.ntmps8
  go_upto_if 8 with (fail)
  go_cut [7] (fun v7 wc => ∃ (kq : Nat) (x7_3 : Int), v7 = .int .u64 x7_3 ∧ Aside0 (deadwoodlaw01_WordBits.j0 kq a0 a1 a2 x7_3 = some r) ∧ Aside0 (kq ≤ k) ∧ Aside0 (Below w.heap.size w wc))
  case first =>
    have H := HC4.out
    clear HC4
    by_cases c5 : a2 = true
    · subst c5
      have H1 : (deadwoodlaw01_WordBits.j0 k a0 a1 true 1) = some r := by rw [if_pos rfl] at H; exact H
      clear H
      have H := H1
      clear H1
      have H' := Aside0.mk H
      clear H
      go_wp2
      go_meet
      case rel => exact ⟨_, (1), (by first | rfl | (simp; done) | (simp [*]; done)), H', ⟨by first | omega | exact Nat.le_refl _⟩, ⟨by repeat (first | (with_reducible first | exact HB.out | apply below_alloc | apply pw_below_drewN | apply below_drew1) | exact HB.out)⟩⟩
    · replace c5 := Bool.eq_false_iff.mpr c5
      subst c5
      have H1 : (deadwoodlaw01_WordBits.j0 k a0 a1 false 0) = some r := by rw [if_neg (show ¬ (false = true) by decide)] at H; exact H
      clear H
      have H := H1
      clear H1
      have H' := Aside0.mk H
      clear H
      go_wp2
      go_meet
      case rel => exact ⟨_, (0), (by first | rfl | (simp; done) | (simp [*]; done)), H', ⟨by first | omega | exact Nat.le_refl _⟩, ⟨by repeat (first | (with_reducible first | exact HB.out | apply below_alloc | apply pw_below_drewN | apply below_drew1) | exact HB.out)⟩⟩
  case rest =>
    clear HC4
    try clear p2
    try clear c5
    obtain ⟨kq, x7_3, rfl, HA, HJ3, HB⟩ := hcut
    cases kq with
    | zero => exact absurd HA.out (by simp [deadwoodlaw01_WordBits.j0])
    | succ kj3 =>
      have H := HA.out
      clear HA
      simp only [deadwoodlaw01_WordBits.j0] at H
      replace H := Option.bind_eq_some_iff.mp H
      obtain ⟨t135, A60, H⟩ := H
      replace H : ((deadwoodref01_Field.f kj3 a0 a1 1).bind fun t136 => (if (t135 == (t136 == 1)) = true then ((word_Turned.f a0 a1 a2).bind fun t137 => ((deadwoodref01_With.f kj3 a0 a1 1 x7_3).bind fun t138 => (if t137 = t138 then ((deadwoodlaw01_lives.f).bind fun t139 => (some t139)) else (some false)))) else (some false))) = some r := H
      have A6 := Aside0.mk A60
      clear A60
      replace H := Option.bind_eq_some_iff.mp H
      obtain ⟨t136, A70, H⟩ := H
      replace H : (if (t135 == (t136 == 1)) = true then ((word_Turned.f a0 a1 a2).bind fun t137 => ((deadwoodref01_With.f kj3 a0 a1 1 x7_3).bind fun t138 => (if t137 = t138 then ((deadwoodlaw01_lives.f).bind fun t139 => (some t139)) else (some false)))) else (some false)) = some r := H
      have A7 := Aside0.mk A70
      clear A70
      by_cases c8 : (t135 == (t136 == 1)) = true
      · rw [if_pos c8] at H
        have c8b0 : (t135 == (t136 == 1)) = true := c8
        (try (have c8b1 : decide (t135 = (t136 == 1)) = true := by simpa using c8))
        (try (have c8b2 : (t135 == (t136 == 1)) = true := by simpa using c8))
        clear c8
        replace H := Option.bind_eq_some_iff.mp H
        obtain ⟨t137, A90, H⟩ := H
        replace H : ((deadwoodref01_With.f kj3 a0 a1 1 x7_3).bind fun t138 => (if t137 = t138 then ((deadwoodlaw01_lives.f).bind fun t139 => (some t139)) else (some false))) = some r := H
        have A9 := Aside0.mk A90
        clear A90
        replace H := Option.bind_eq_some_iff.mp H
        obtain ⟨t138, A100, H⟩ := H
        replace H : (if t137 = t138 then ((deadwoodlaw01_lives.f).bind fun t139 => (some t139)) else (some false)) = some r := H
        have A10 := Aside0.mk A100
        clear A100
        by_cases c11 : t137 = t138
        · rw [if_pos c11] at H
          have c11b0 : (t137 == t138) = true := beq_iff_eq.mpr c11
          have c11b1 : (t137 != t138) = false := bne_eq_false_iff_eq.mpr c11
          clear c11
          replace H := Option.bind_eq_some_iff.mp H
          obtain ⟨t139, A120, H⟩ := H
          replace H : (some t139) = some r := H
          have A12 := Aside0.mk A120
          clear A120
          obtain rfl := Option.some.inj H
          go_wp2_with (first | ((with_reducible refine gate_callee (f := 30) rfl ?_); refine goesL_ (some 11) rfl rfl Try.func30 (by kernel_rfl) rfl #[.int .u64 a0, .int .i64 a1] rfl (by (try simp only [List.map_toArray, List.map_cons, List.map_nil]); first | done | rfl | (simp only [List.length_drop, List.length_take]; rfl)) ?_; (with_reducible refine (word_Bit.calls a0 a1 t135 _ A6.out).mono ?_); rintro e w' ⟨rfl, ⟨nd, rfl⟩⟩; refine ⟨_, rfl, ?_⟩) | ((with_reducible refine gate_callee (f := 23) rfl ?_); refine goesL_ (some 14) rfl rfl Try.func23 (by kernel_rfl) rfl #[.int .u64 a0, .int .i64 a1, .int .i64 1] rfl (by (try simp only [List.map_toArray, List.map_cons, List.map_nil]); first | done | rfl | (simp only [List.length_drop, List.length_take]; rfl)) ?_; (with_reducible refine (deadwoodref01_Field.calls kj3 a0 a1 1 t136 _ A7.out).mono ?_); rintro e w13 ⟨rfl, hb⟩; refine ⟨_, rfl, ?_⟩; have n0_ := Aside0.mk (below_step (by repeat (first | (with_reducible first | exact HB.out | apply below_alloc | apply pw_below_drewN | apply below_drew1) | exact HB.out)) hb); clear HB; have HB := n0_; clear n0_; (try clear hb); (try clear hb2); (try clear hk); (try clear hi)) | (go_at_call 31; (with_reducible refine (word_Turned.calls a0 a1 a2 t137 _ A9.out).mono ?_); rintro e w' ⟨rfl, ⟨nd, rfl⟩⟩) | (go_at_call 25; (with_reducible refine (deadwoodref01_With.calls kj3 a0 a1 1 x7_3 t138 _ A10.out).mono ?_); rintro e w14 ⟨rfl, hb⟩; have n0_ := Aside0.mk (below_step (by repeat (first | (with_reducible first | exact HB.out | apply below_alloc | apply pw_below_drewN | apply below_drew1) | exact HB.out)) hb); clear HB; have HB := n0_; clear n0_; (try clear hb); (try clear hb2); (try clear hk); (try clear hi)) | (go_at_call 21; (with_reducible refine (deadwoodlaw01_lives.calls  t139 _ A12.out).mono ?_); rintro e w' ⟨rfl, ⟨nd, rfl⟩⟩))
          go_ret
          exact ⟨by first | rfl | (simp [errW_none, errW_some] <;> rfl) | (simp [*, errW_none, errW_some] <;> rfl), by repeat (first | (with_reducible first | exact HB.out | apply below_alloc | apply pw_below_drewN | apply below_drew1) | exact HB.out)⟩
        · rw [if_neg c11] at H
          have c11b0 : (t137 == t138) = false := beq_eq_false_iff_ne.mpr c11
          have c11b1 : (t137 != t138) = true := bne_iff_ne.mpr c11
          exact absurd (Option.some.inj H) (by rw [HRT.out]; decide)
      · rw [if_neg c8] at H
        have c8b0 : (t135 == (t136 == 1)) = false := by simpa using c8
        (try (have c8b1 : decide (t135 = (t136 == 1)) = false := by simpa using c8))
        (try (have c8b2 : (t135 == (t136 == 1)) = false := by simpa using c8))
        (try (have c8b3 : ¬ (t135 = (t136 == 1)) := by simpa using c8))
        clear c8
        exact absurd (Option.some.inj H) (by rw [HRT.out]; decide)

/-- THE ONE PURE STATEMENT of deadwoodlaw01_WordBits: yours. -/
def deadwoodlaw01_WordBits.Pure : Prop := ∀ (a0 : Int) (a1 : Int) (a2 : Bool), (Lit.int .u64 a0).wf = true → (Lit.int .i64 a1).wf = true → ∃ k, deadwoodlaw01_WordBits.f k a0 a1 a2 = some true
theorem deadwoodlaw01_WordBits.walk (P : deadwoodlaw01_WordBits.Pure) (a0 : Int) (a1 : Int) (a2 : Bool) (w : World) (w0 : (Lit.int .u64 a0).wf = true) (w1 : (Lit.int .i64 a1).wf = true) :
    Calls Try.prog 8 #[.int .u64 a0, .int .i64 a1, .bool a2] w fun e w' => e = .returned (.bool true) ∧ Below w.heap.size w w' := by
  obtain ⟨k, h⟩ := P a0 a1 a2 w0 w1
  refine (deadwoodlaw01_WordBits.calls k a0 a1 a2 true w rfl h).mono ?_
  rintro e w' ⟨rfl, hd⟩
  exact ⟨rfl, hd⟩

end Go.Proofs.Ytdbenonbjklkdaa.PWordBits
