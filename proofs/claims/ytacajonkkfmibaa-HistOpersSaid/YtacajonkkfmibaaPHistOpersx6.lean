-- Printed by a program of this session (mkprint.py) out of the translation; Lean checks it.
import Derived.Test.YtacajonkkfmibaaPHistOpersx0
import Derived.Test.YtacajonkkfmibaaPHistOpersx3
import Derived.Test.YtacajonkkfmibaaPHistOpersx4
import Derived.Test.YtacajonkkfmibaaPHistOpersx5
namespace Go.Proofs.Ytacajonkkfmibaa.PHistOpers
open Go.RowKit Go.Proofs.YtacajonkkfmibaaW.PrintWords Go.Proofs.YtacajonkkfmibaaW.PrintLast Go.Proofs.YtacajonkkfmibaaW.PrintMore
attribute [local go_sem] max2_int min2_int max_two min_two max_three min_three max_four min_four   -- for this text's walks alone
set_option linter.unusedVariables false
set_option linter.unusedSimpArgs false

/-! ### deadwoodlaw11_HistOpers: function 6 -/
mutual
def deadwoodlaw11_HistOpers.j0 : Nat → List (S33) → List (S35) → List (S35) → Bool → Option (Bool)
  | 0, _, _, _, _ => none
  | k + 1, x0, x3, x4, x32 => if x32 = true then (some false) else (deadwoodlaw11_HistOpers.l0 k x0 x3 x4 0 0)
def deadwoodlaw11_HistOpers.l0 : Nat → List (S33) → List (S35) → List (S35) → Int → Int → Option (Bool)
  | 0, _, _, _, _, _ => none
  | k + 1, x0, x3, x4, x5, x6 => if x6 < (x3.length : Int) then (if 0 ≤ x6 then (if x6 < (x4.length : Int) then ((deadwoodref11_Same.f k ((rd_T35 x3 x6).f0) ((rd_T35 x3 x6).f1.f0) ((rd_T35 x3 x6).f1.f1) ((rd_T35 x3 x6).f1.f2) ((rd_T35 x3 x6).f1.f3) ((rd_T35 x3 x6).f1.f4) ((rd_T35 x3 x6).f2.f0) ((rd_T35 x3 x6).f2.f1) ((rd_T35 x3 x6).f2.f2) ((rd_T35 x3 x6).f2.f3) ((rd_T35 x3 x6).f2.f4) ((rd_T35 x3 x6).f3) ((rd_T35 x3 x6).f4) ((rd_T35 x4 x6).f0) ((rd_T35 x4 x6).f1.f0) ((rd_T35 x4 x6).f1.f1) ((rd_T35 x4 x6).f1.f2) ((rd_T35 x4 x6).f1.f3) ((rd_T35 x4 x6).f1.f4) ((rd_T35 x4 x6).f2.f0) ((rd_T35 x4 x6).f2.f1) ((rd_T35 x4 x6).f2.f2) ((rd_T35 x4 x6).f2.f3) ((rd_T35 x4 x6).f2.f4) ((rd_T35 x4 x6).f3) ((rd_T35 x4 x6).f4)).bind fun t147 => (if t147 = true then (if ((rd_T35 x4 x6).f4) < 0 then (deadwoodlaw11_HistOpers.l0 k x0 x3 x4 (wrap64 (x5 + 1)) (wrap64 (x6 + 1))) else (deadwoodlaw11_HistOpers.l0 k x0 x3 x4 x5 (wrap64 (x6 + 1)))) else (some false))) else (none)) else (none)) else ((hist_Open.f k x0).bind fun t143 => (if t143 = x5 then ((deadwoodlaw11_lives.f).bind fun t144 => (some t144)) else (some false)))
end
def deadwoodlaw11_HistOpers.f (k : Nat) (l0 : List (S33)) : Option (Bool) := (deadwoodlaw11_great.f k l0).bind fun t131 => (if t131 = true then ((deadwoodlaw11_lives.f).bind fun t132 => (some t132)) else ((hist_Opers.f l0).bind fun t133 => ((deadwoodref11_Opers.f l0).bind fun t136 => ((hist_May.f k l0).bind fun t139 => ((deadwoodref11_May.f k l0).bind fun t140 => (if (t139 != t140) = true then (deadwoodlaw11_HistOpers.j0 k l0 t133 t136 true) else (if (t133.length : Int) = (t136.length : Int) then ((hist_Threads.f k l0).bind fun t141 => ((deadwoodref11_Threads.f k l0).bind fun t142 => (deadwoodlaw11_HistOpers.j0 k l0 t133 t136 (t141 != t142)))) else (deadwoodlaw11_HistOpers.j0 k l0 t133 t136 true))))))))
theorem deadwoodlaw11_HistOpers.mono_l : ∀ k, (∀ y0 y1 y2 y3, LeO (deadwoodlaw11_HistOpers.j0 k y0 y1 y2 y3) (deadwoodlaw11_HistOpers.j0 (k + 1) y0 y1 y2 y3)) ∧ (∀ y0 y1 y2 y3 y4, LeO (deadwoodlaw11_HistOpers.l0 k y0 y1 y2 y3 y4) (deadwoodlaw11_HistOpers.l0 (k + 1) y0 y1 y2 y3 y4))
  | 0 => ⟨fun _ _ _ _ r h => by simp [deadwoodlaw11_HistOpers.j0] at h, fun _ _ _ _ _ r h => by simp [deadwoodlaw11_HistOpers.l0] at h⟩
  | k + 1 => by
    obtain ⟨ih0, ih1⟩ := deadwoodlaw11_HistOpers.mono_l k
    refine ⟨?_, ?_⟩
    · intro y0 y1 y2 y3
      unfold deadwoodlaw11_HistOpers.j0
      repeat' first
      | (with_reducible exact ih0 _ _ _ _)
      | (with_reducible exact ih1 _ _ _ _ _)
      | (with_reducible exact deadwoodlaw11_great.mono _ _)
      | (with_reducible exact deadwoodref11_May.mono _ _)
      | (with_reducible exact deadwoodref11_Same.mono _ _ _ _ _ _ _ _ _ _ _ _ _ _ _ _ _ _ _ _ _ _ _ _ _ _ _)
      | (with_reducible exact deadwoodref11_Threads.mono _ _)
      | (with_reducible exact hist_May.mono _ _)
      | (with_reducible exact hist_Open.mono _ _)
      | (with_reducible exact hist_Threads.mono _ _)
      | (with_reducible exact LeO.refl _)
      | (with_reducible exact LeO.none _)
      | (with_reducible refine LeO.ite ?_ ?_)
      | (with_reducible refine LeO.bind ?_ (fun _ => ?_))
      | exact ih0 _ _ _ _
      | exact ih1 _ _ _ _ _
      | exact deadwoodlaw11_great.mono _ _
      | exact deadwoodref11_May.mono _ _
      | exact deadwoodref11_Same.mono _ _ _ _ _ _ _ _ _ _ _ _ _ _ _ _ _ _ _ _ _ _ _ _ _ _ _
      | exact deadwoodref11_Threads.mono _ _
      | exact hist_May.mono _ _
      | exact hist_Open.mono _ _
      | exact hist_Threads.mono _ _
      | exact LeO.none _
      | refine LeO.ite ?_ ?_
      | refine LeO.bind ?_ (fun _ => ?_)
    · intro y0 y1 y2 y3 y4
      unfold deadwoodlaw11_HistOpers.l0
      repeat' first
      | (with_reducible exact ih0 _ _ _ _)
      | (with_reducible exact ih1 _ _ _ _ _)
      | (with_reducible exact deadwoodlaw11_great.mono _ _)
      | (with_reducible exact deadwoodref11_May.mono _ _)
      | (with_reducible exact deadwoodref11_Same.mono _ _ _ _ _ _ _ _ _ _ _ _ _ _ _ _ _ _ _ _ _ _ _ _ _ _ _)
      | (with_reducible exact deadwoodref11_Threads.mono _ _)
      | (with_reducible exact hist_May.mono _ _)
      | (with_reducible exact hist_Open.mono _ _)
      | (with_reducible exact hist_Threads.mono _ _)
      | (with_reducible exact LeO.refl _)
      | (with_reducible exact LeO.none _)
      | (with_reducible refine LeO.ite ?_ ?_)
      | (with_reducible refine LeO.bind ?_ (fun _ => ?_))
      | exact ih0 _ _ _ _
      | exact ih1 _ _ _ _ _
      | exact deadwoodlaw11_great.mono _ _
      | exact deadwoodref11_May.mono _ _
      | exact deadwoodref11_Same.mono _ _ _ _ _ _ _ _ _ _ _ _ _ _ _ _ _ _ _ _ _ _ _ _ _ _ _
      | exact deadwoodref11_Threads.mono _ _
      | exact hist_May.mono _ _
      | exact hist_Open.mono _ _
      | exact hist_Threads.mono _ _
      | exact LeO.none _
      | refine LeO.ite ?_ ?_
      | refine LeO.bind ?_ (fun _ => ?_)
theorem deadwoodlaw11_HistOpers.mono : ∀ a0 k, LeO (deadwoodlaw11_HistOpers.f k a0) (deadwoodlaw11_HistOpers.f (k + 1) a0) := by
  intro a0 k
  obtain ⟨ih0, ih1⟩ := deadwoodlaw11_HistOpers.mono_l k
  unfold deadwoodlaw11_HistOpers.f
  repeat' first
      | (with_reducible exact ih0 _ _ _ _)
      | (with_reducible exact ih1 _ _ _ _ _)
      | (with_reducible exact deadwoodlaw11_great.mono _ _)
      | (with_reducible exact deadwoodref11_May.mono _ _)
      | (with_reducible exact deadwoodref11_Same.mono _ _ _ _ _ _ _ _ _ _ _ _ _ _ _ _ _ _ _ _ _ _ _ _ _ _ _)
      | (with_reducible exact deadwoodref11_Threads.mono _ _)
      | (with_reducible exact hist_May.mono _ _)
      | (with_reducible exact hist_Open.mono _ _)
      | (with_reducible exact hist_Threads.mono _ _)
      | (with_reducible exact LeO.refl _)
      | (with_reducible exact LeO.none _)
      | (with_reducible refine LeO.ite ?_ ?_)
      | (with_reducible refine LeO.bind ?_ (fun _ => ?_))
      | exact ih0 _ _ _ _
      | exact ih1 _ _ _ _ _
      | exact deadwoodlaw11_great.mono _ _
      | exact deadwoodref11_May.mono _ _
      | exact deadwoodref11_Same.mono _ _ _ _ _ _ _ _ _ _ _ _ _ _ _ _ _ _ _ _ _ _ _ _ _ _ _
      | exact deadwoodref11_Threads.mono _ _
      | exact hist_May.mono _ _
      | exact hist_Open.mono _ _
      | exact hist_Threads.mono _ _
      | exact LeO.none _
      | refine LeO.ite ?_ ?_
      | refine LeO.bind ?_ (fun _ => ?_)
def deadwoodlaw11_HistOpers.T10 : Bool × List (List Nat × List Nat) := (true, [([], []), ([], []), ([0, 1], [0, 1]), ([2], [2]), ([], []), ([], []), ([4, 5], [4, 5]), ([6], [6]), ([3, 7], [3, 7]), ([8], [8])])
def deadwoodlaw11_HistOpers.B10 : List Nat := [0, 0, 3, 7, 0, 0, 48, 112, 255, 511]
theorem deadwoodlaw11_HistOpers.tab10 : rtab .any (opsOf Try.f6 10) = deadwoodlaw11_HistOpers.T10 := by kernel_rfl
theorem deadwoodlaw11_HistOpers.bits10 : waitsOk deadwoodlaw11_HistOpers.T10.2 deadwoodlaw11_HistOpers.B10 = true := by kernel_rfl
set_option maxHeartbeats 8000000 in
set_option maxRecDepth 100000 in
theorem deadwoodlaw11_HistOpers.calls (k : Nat) (A0 : Option Addr) (c0 : Nat) (l0 : List (S33)) (r : Bool) (w : World) (hr0 : Kd.C k33 w A0 l0.length l0) (hc0 : l0.length ≤ c0) (hr_ : r = true) (h : deadwoodlaw11_HistOpers.f k l0 = some r) :
    Calls Try.prog 6 #[.slice A0 l0.length c0] w fun e w' => e = .returned (.bool r) ∧ Below w.heap.size w w' := by
  have HRT := Aside0.mk hr_
  clear hr_
  have hu35 := Try.underlying35
  have HR0 := Aside0.mk hr0
  have HC0 := Aside0.mk hc0
  clear hr0 hc0
  have HB := Aside0.mk (Below.refl w.heap.size w)
  have H : ((deadwoodlaw11_great.f k l0).bind fun t131 => (if t131 = true then ((deadwoodlaw11_lives.f).bind fun t132 => (some t132)) else ((hist_Opers.f l0).bind fun t133 => ((deadwoodref11_Opers.f l0).bind fun t136 => ((hist_May.f k l0).bind fun t139 => ((deadwoodref11_May.f k l0).bind fun t140 => (if (t139 != t140) = true then (deadwoodlaw11_HistOpers.j0 k l0 t133 t136 true) else (if (t133.length : Int) = (t136.length : Int) then ((hist_Threads.f k l0).bind fun t141 => ((deadwoodref11_Threads.f k l0).bind fun t142 => (deadwoodlaw11_HistOpers.j0 k l0 t133 t136 (t141 != t142)))) else (deadwoodlaw11_HistOpers.j0 k l0 t133 t136 true))))))))) = some r := h
  clear h
  replace H := Option.bind_eq_some_iff.mp H
  obtain ⟨t131, A20, H⟩ := H
  replace H : (if t131 = true then ((deadwoodlaw11_lives.f).bind fun t132 => (some t132)) else ((hist_Opers.f l0).bind fun t133 => ((deadwoodref11_Opers.f l0).bind fun t136 => ((hist_May.f k l0).bind fun t139 => ((deadwoodref11_May.f k l0).bind fun t140 => (if (t139 != t140) = true then (deadwoodlaw11_HistOpers.j0 k l0 t133 t136 true) else (if (t133.length : Int) = (t136.length : Int) then ((hist_Threads.f k l0).bind fun t141 => ((deadwoodref11_Threads.f k l0).bind fun t142 => (deadwoodlaw11_HistOpers.j0 k l0 t133 t136 (t141 != t142)))) else (deadwoodlaw11_HistOpers.j0 k l0 t133 t136 true)))))))) = some r := H
  have A2 := Aside0.mk A20
  clear A20
  by_cases c3 : t131 = true
  · subst c3
    have H1 : ((deadwoodlaw11_lives.f).bind fun t132 => (some t132)) = some r := by rw [if_pos rfl] at H; exact H
    clear H
    have H := H1
    clear H1
    replace H := Option.bind_eq_some_iff.mp H
    obtain ⟨t132, A40, H⟩ := H
    replace H : (some t132) = some r := H
    have A4 := Aside0.mk A40
    clear A40
    obtain rfl := Option.some.inj H
    go_enter Try.func6, Try.ntmps6
    go_wp2_with (first | ((with_reducible refine gate_callee (f := 13) rfl ?_); refine goesL_ (some 8) rfl rfl Try.func13 (by kernel_rfl) rfl #[.slice A0 l0.length c0] rfl (by (try simp only [List.map_toArray, List.map_cons, List.map_nil]); first | done | rfl | (simp only [List.length_drop, List.length_take]; rfl)) ?_; (with_reducible refine (deadwoodlaw11_great.calls k _ _ l0 true _ ?side1 ?side2 A2.out).mono ?_); (case side1 => repeat (first | exact HR0.out | (with_reducible refine Kd.C_alloc ?_ _) | (with_reducible refine Kd.C_drewN ?_ _) | (with_reducible refine Kd.C_drew ?_))); (case side2 => exact HC0.out); rintro e w' ⟨rfl, ⟨nd, rfl⟩⟩; refine ⟨_, rfl, ?_⟩) | ((with_reducible refine gate_callee (f := 15) rfl ?_); refine goesL_ (some 9) rfl rfl Try.func15 (by kernel_rfl) rfl #[] rfl (by (try simp only [List.map_toArray, List.map_cons, List.map_nil]); first | done | rfl | (simp only [List.length_drop, List.length_take]; rfl)) ?_; (with_reducible refine (deadwoodlaw11_lives.calls  t132 _ A4.out).mono ?_); rintro e w5 ⟨rfl, hb⟩; refine ⟨_, rfl, ?_⟩; have n0_ := Aside0.mk (below_step (by repeat (first | (with_reducible first | exact HB.out | apply below_alloc | apply pw_below_drewN | apply below_drew1) | exact HB.out)) hb); clear HB; have HB := n0_; clear n0_; (try clear hb); (try clear hb2); (try clear hk); (try clear hi)))
    go_ret
    exact ⟨by first | rfl | (simp [errW_none, errW_some] <;> rfl) | (simp [*, errW_none, errW_some] <;> rfl), by repeat (first | (with_reducible first | exact HB.out | apply below_alloc | apply pw_below_drewN | apply below_drew1) | exact HB.out)⟩
  · replace c3 := Bool.eq_false_iff.mpr c3
    subst c3
    have H1 : ((hist_Opers.f l0).bind fun t133 => ((deadwoodref11_Opers.f l0).bind fun t136 => ((hist_May.f k l0).bind fun t139 => ((deadwoodref11_May.f k l0).bind fun t140 => (if (t139 != t140) = true then (deadwoodlaw11_HistOpers.j0 k l0 t133 t136 true) else (if (t133.length : Int) = (t136.length : Int) then ((hist_Threads.f k l0).bind fun t141 => ((deadwoodref11_Threads.f k l0).bind fun t142 => (deadwoodlaw11_HistOpers.j0 k l0 t133 t136 (t141 != t142)))) else (deadwoodlaw11_HistOpers.j0 k l0 t133 t136 true))))))) = some r := by rw [if_neg (show ¬ (false = true) by decide)] at H; exact H
    clear H
    have H := H1
    clear H1
    replace H := Option.bind_eq_some_iff.mp H
    obtain ⟨t133, A60, H⟩ := H
    replace H : ((deadwoodref11_Opers.f l0).bind fun t136 => ((hist_May.f k l0).bind fun t139 => ((deadwoodref11_May.f k l0).bind fun t140 => (if (t139 != t140) = true then (deadwoodlaw11_HistOpers.j0 k l0 t133 t136 true) else (if (t133.length : Int) = (t136.length : Int) then ((hist_Threads.f k l0).bind fun t141 => ((deadwoodref11_Threads.f k l0).bind fun t142 => (deadwoodlaw11_HistOpers.j0 k l0 t133 t136 (t141 != t142)))) else (deadwoodlaw11_HistOpers.j0 k l0 t133 t136 true)))))) = some r := H
    have A6 := Aside0.mk A60
    clear A60
    replace H := Option.bind_eq_some_iff.mp H
    obtain ⟨t136, A70, H⟩ := H
    replace H : ((hist_May.f k l0).bind fun t139 => ((deadwoodref11_May.f k l0).bind fun t140 => (if (t139 != t140) = true then (deadwoodlaw11_HistOpers.j0 k l0 t133 t136 true) else (if (t133.length : Int) = (t136.length : Int) then ((hist_Threads.f k l0).bind fun t141 => ((deadwoodref11_Threads.f k l0).bind fun t142 => (deadwoodlaw11_HistOpers.j0 k l0 t133 t136 (t141 != t142)))) else (deadwoodlaw11_HistOpers.j0 k l0 t133 t136 true))))) = some r := H
    have A7 := Aside0.mk A70
    clear A70
    have HC8 := Aside0.mk H
    clear H
    go_enter Try.func6, Try.ntmps6
    go_upto_region 4 with (first | ((with_reducible refine gate_callee (f := 13) rfl ?_); refine goesL_ (some 8) rfl rfl Try.func13 (by kernel_rfl) rfl #[.slice A0 l0.length c0] rfl (by (try simp only [List.map_toArray, List.map_cons, List.map_nil]); first | done | rfl | (simp only [List.length_drop, List.length_take]; rfl)) ?_; (with_reducible refine (deadwoodlaw11_great.calls k _ _ l0 false _ ?side1 ?side2 A2.out).mono ?_); (case side1 => repeat (first | exact HR0.out | (with_reducible refine Kd.C_alloc ?_ _) | (with_reducible refine Kd.C_drewN ?_ _) | (with_reducible refine Kd.C_drew ?_))); (case side2 => exact HC0.out); rintro e w' ⟨rfl, ⟨nd, rfl⟩⟩; refine ⟨_, rfl, ?_⟩) | ((with_reducible refine gate_callee (f := 16) rfl ?_); refine goesL_ (some 11) rfl rfl Try.func16 (by kernel_rfl) rfl #[.slice A0 l0.length c0] rfl (by (try simp only [List.map_toArray, List.map_cons, List.map_nil]); first | done | rfl | (simp only [List.length_drop, List.length_take]; rfl)) ?_; (with_reducible refine (hist_Opers.calls (fun k_ => k_ < w.heap.size) _ _ l0 t133 _ ?side1 A6.out).mono ?_); (case side1 => exact Kd.V_mk HC0.out (Kd.F_below (Kd.C_F k33_heap HR0.out) (by repeat (first | (with_reducible first | exact HB.out | apply below_alloc | apply pw_below_drewN | apply below_drew1) | exact HB.out)))); rintro e w9 ⟨v134, rfl, ho0, hb⟩; refine ⟨_, rfl, ?_⟩; have n0_ := Aside0.mk (Kd.V_lower (Kd.V_mono (ok' := fun k_ => True) ho0 (fun k_ hk_ => trivial)) (below_size (by repeat (first | (with_reducible first | exact HB.out | apply below_alloc | apply pw_below_drewN | apply below_drew1) | exact HB.out)))); have n1_ := Aside0.mk (below_step (by repeat (first | (with_reducible first | exact HB.out | apply below_alloc | apply pw_below_drewN | apply below_drew1) | exact HB.out)) hb); clear HB; have HO135 := n0_; have HB := n1_; clear n0_ n1_; (try clear hb); (try clear hb2); (try clear hk); (try clear hi); (try clear ho0)) | ((with_reducible refine gate_callee (f := 18) rfl ?_); refine goesL_ (some 13) rfl rfl Try.func18 (by kernel_rfl) rfl #[.slice A0 l0.length c0] rfl (by (try simp only [List.map_toArray, List.map_cons, List.map_nil]); first | done | rfl | (simp only [List.length_drop, List.length_take]; rfl)) ?_; (with_reducible refine (deadwoodref11_Opers.calls (fun k_ => k_ < w.heap.size) _ _ l0 t136 _ ?side1 A7.out).mono ?_); (case side1 => exact Kd.V_mk HC0.out (Kd.F_below (Kd.C_F k33_heap HR0.out) (by repeat (first | (with_reducible first | exact HB.out | apply below_alloc | apply pw_below_drewN | apply below_drew1) | exact HB.out)))); rintro e w10 ⟨v137, rfl, ho0, hb⟩; refine ⟨_, rfl, ?_⟩; have n0_ := Aside0.mk (Kd.V_below (by (with_reducible repeat (first | apply Kd.V_alloc | apply Kd.V_drewN | apply Kd.V_drew)); exact HO135.out) hb); have n1_ := Aside0.mk (Kd.V_lower (Kd.V_mono (ok' := fun k_ => True) ho0 (fun k_ hk_ => trivial)) (below_size (by repeat (first | (with_reducible first | exact HB.out | apply below_alloc | apply pw_below_drewN | apply below_drew1) | exact HB.out)))); have n2_ := Aside0.mk (below_step (by repeat (first | (with_reducible first | exact HB.out | apply below_alloc | apply pw_below_drewN | apply below_drew1) | exact HB.out)) hb); clear HO135; clear HB; have HO135 := n0_; have HO138 := n1_; have HB := n2_; clear n0_ n1_ n2_; (try clear hb); (try clear hb2); (try clear hk); (try clear hi); (try clear ho0)))
    (try simp only [Act.put, List.setIfInBounds_toArray, List.set_cons_zero, List.set_cons_succ])
    go_cut [32] (fun v32 wc => ∃ (kq : Nat) (x32_7 : Bool), v32 = .bool x32_7 ∧ Aside0 (deadwoodlaw11_HistOpers.j0 kq l0 t133 t136 x32_7 = some r) ∧ Aside0 (kq ≤ k) ∧ Aside0 (Kd.V k35 35 wc w.heap.size (fun _ => True) v134 t133) ∧ Aside0 (Kd.V k35 35 wc w.heap.size (fun _ => True) v137 t136) ∧ Aside0 (Below w.heap.size w wc))
    case first =>
      have H := HC8.out
      clear HC8
      replace H := Option.bind_eq_some_iff.mp H
      obtain ⟨t139, A110, H⟩ := H
      replace H : ((deadwoodref11_May.f k l0).bind fun t140 => (if (t139 != t140) = true then (deadwoodlaw11_HistOpers.j0 k l0 t133 t136 true) else (if (t133.length : Int) = (t136.length : Int) then ((hist_Threads.f k l0).bind fun t141 => ((deadwoodref11_Threads.f k l0).bind fun t142 => (deadwoodlaw11_HistOpers.j0 k l0 t133 t136 (t141 != t142)))) else (deadwoodlaw11_HistOpers.j0 k l0 t133 t136 true)))) = some r := H
      have A11 := Aside0.mk A110
      clear A110
      replace H := Option.bind_eq_some_iff.mp H
      obtain ⟨t140, A120, H⟩ := H
      replace H : (if (t139 != t140) = true then (deadwoodlaw11_HistOpers.j0 k l0 t133 t136 true) else (if (t133.length : Int) = (t136.length : Int) then ((hist_Threads.f k l0).bind fun t141 => ((deadwoodref11_Threads.f k l0).bind fun t142 => (deadwoodlaw11_HistOpers.j0 k l0 t133 t136 (t141 != t142)))) else (deadwoodlaw11_HistOpers.j0 k l0 t133 t136 true))) = some r := H
      have A12 := Aside0.mk A120
      clear A120
      by_cases c13 : (t139 != t140) = true
      · rw [if_pos c13] at H
        have c13b0 : (t139 != t140) = true := c13
        (try (have c13b1 : decide (t139 = t140) = false := by simpa using c13))
        (try (have c13b2 : (t139 == t140) = false := by simpa using c13))
        (try (have c13b3 : ¬ (t139 = t140) := by simpa using c13))
        clear c13
        (first | rw [c13b0] | (simp only [i64_w, i32_w]; rw [c13b0]) | skip)
        have H' := Aside0.mk H
        clear H
        go_wp2_with (first | ((with_reducible refine gate_callee (f := 14) rfl ?_); refine goesL_ (some 15) rfl rfl Try.func14 (by kernel_rfl) rfl #[.slice A0 l0.length c0] rfl (by (try simp only [List.map_toArray, List.map_cons, List.map_nil]); first | done | rfl | (simp only [List.length_drop, List.length_take]; rfl)) ?_; (with_reducible refine (hist_May.calls k _ _ l0 t139 _ ?side1 ?side2 A11.out).mono ?_); (case side1 => repeat (first | exact (Kd.C_below HR0.out HB.out) | (with_reducible refine Kd.C_alloc ?_ _) | (with_reducible refine Kd.C_drewN ?_ _) | (with_reducible refine Kd.C_drew ?_))); (case side2 => exact HC0.out); rintro e w14 ⟨rfl, hb⟩; refine ⟨_, rfl, ?_⟩; have n0_ := Aside0.mk (Kd.V_below (by (with_reducible repeat (first | apply Kd.V_alloc | apply Kd.V_drewN | apply Kd.V_drew)); exact HO135.out) hb); have n1_ := Aside0.mk (Kd.V_below (by (with_reducible repeat (first | apply Kd.V_alloc | apply Kd.V_drewN | apply Kd.V_drew)); exact HO138.out) hb); have n2_ := Aside0.mk (below_step (by repeat (first | (with_reducible first | exact HB.out | apply below_alloc | apply pw_below_drewN | apply below_drew1) | exact HB.out)) hb); clear HO135; clear HO138; clear HB; have HO135 := n0_; have HO138 := n1_; have HB := n2_; clear n0_ n1_ n2_; (try clear hb); (try clear hb2); (try clear hk); (try clear hi)) | ((with_reducible refine gate_callee (f := 35) rfl ?_); refine goesL_ (some 17) rfl rfl Try.func35 (by kernel_rfl) rfl #[.slice A0 l0.length c0] rfl (by (try simp only [List.map_toArray, List.map_cons, List.map_nil]); first | done | rfl | (simp only [List.length_drop, List.length_take]; rfl)) ?_; (with_reducible refine (deadwoodref11_May.calls k _ _ l0 t140 _ ?side1 ?side2 A12.out).mono ?_); (case side1 => repeat (first | exact (Kd.C_below HR0.out HB.out) | (with_reducible refine Kd.C_alloc ?_ _) | (with_reducible refine Kd.C_drewN ?_ _) | (with_reducible refine Kd.C_drew ?_))); (case side2 => exact HC0.out); rintro e w' ⟨rfl, ⟨nd, rfl⟩⟩; refine ⟨_, rfl, ?_⟩))
        go_meet
        case rel => exact ⟨_, (true), (by first | rfl | (simp; done) | (simp [*]; done)), H', ⟨by first | omega | exact Nat.le_refl _⟩, ⟨by (with_reducible repeat (first | apply Kd.V_alloc | apply Kd.V_drewN | apply Kd.V_drew)); exact HO135.out⟩, ⟨by (with_reducible repeat (first | apply Kd.V_alloc | apply Kd.V_drewN | apply Kd.V_drew)); exact HO138.out⟩, ⟨by repeat (first | (with_reducible first | exact HB.out | apply below_alloc | apply pw_below_drewN | apply below_drew1) | exact HB.out)⟩⟩
      · rw [if_neg c13] at H
        have c13b0 : (t139 != t140) = false := by simpa using c13
        (try (have c13b1 : decide (t139 = t140) = true := by simpa using c13))
        (try (have c13b2 : (t139 == t140) = true := by simpa using c13))
        clear c13
        (first | rw [c13b0] | (simp only [i64_w, i32_w]; rw [c13b0]) | skip)
        by_cases c15 : (t133.length : Int) = (t136.length : Int)
        · rw [if_pos c15] at H
          have c15b0 : ((t133.length : Int) == (t136.length : Int)) = true := beq_iff_eq.mpr c15
          have c15b1 : ((t133.length : Int) != (t136.length : Int)) = false := bne_eq_false_iff_eq.mpr c15
          have c15b2 : (t133.length == t136.length) = true := by first | simpa using c15 | (simp at c15 ⊢; omega)
          clear c15
          replace H := Option.bind_eq_some_iff.mp H
          obtain ⟨t141, A160, H⟩ := H
          replace H : ((deadwoodref11_Threads.f k l0).bind fun t142 => (deadwoodlaw11_HistOpers.j0 k l0 t133 t136 (t141 != t142))) = some r := H
          have A16 := Aside0.mk A160
          clear A160
          replace H := Option.bind_eq_some_iff.mp H
          obtain ⟨t142, A170, H⟩ := H
          replace H : (deadwoodlaw11_HistOpers.j0 k l0 t133 t136 (t141 != t142)) = some r := H
          have A17 := Aside0.mk A170
          clear A170
          have H' := Aside0.mk H
          clear H
          go_wp2_with (first | ((with_reducible refine gate_callee (f := 14) rfl ?_); refine goesL_ (some 15) rfl rfl Try.func14 (by kernel_rfl) rfl #[.slice A0 l0.length c0] rfl (by (try simp only [List.map_toArray, List.map_cons, List.map_nil]); first | done | rfl | (simp only [List.length_drop, List.length_take]; rfl)) ?_; (with_reducible refine (hist_May.calls k _ _ l0 t139 _ ?side1 ?side2 A11.out).mono ?_); (case side1 => repeat (first | exact (Kd.C_below HR0.out HB.out) | (with_reducible refine Kd.C_alloc ?_ _) | (with_reducible refine Kd.C_drewN ?_ _) | (with_reducible refine Kd.C_drew ?_))); (case side2 => exact HC0.out); rintro e w18 ⟨rfl, hb⟩; refine ⟨_, rfl, ?_⟩; have n0_ := Aside0.mk (Kd.V_below (by (with_reducible repeat (first | apply Kd.V_alloc | apply Kd.V_drewN | apply Kd.V_drew)); exact HO135.out) hb); have n1_ := Aside0.mk (Kd.V_below (by (with_reducible repeat (first | apply Kd.V_alloc | apply Kd.V_drewN | apply Kd.V_drew)); exact HO138.out) hb); have n2_ := Aside0.mk (below_step (by repeat (first | (with_reducible first | exact HB.out | apply below_alloc | apply pw_below_drewN | apply below_drew1) | exact HB.out)) hb); clear HO135; clear HO138; clear HB; have HO135 := n0_; have HO138 := n1_; have HB := n2_; clear n0_ n1_ n2_; (try clear hb); (try clear hb2); (try clear hk); (try clear hi)) | ((with_reducible refine gate_callee (f := 35) rfl ?_); refine goesL_ (some 17) rfl rfl Try.func35 (by kernel_rfl) rfl #[.slice A0 l0.length c0] rfl (by (try simp only [List.map_toArray, List.map_cons, List.map_nil]); first | done | rfl | (simp only [List.length_drop, List.length_take]; rfl)) ?_; (with_reducible refine (deadwoodref11_May.calls k _ _ l0 t140 _ ?side1 ?side2 A12.out).mono ?_); (case side1 => repeat (first | exact (Kd.C_below HR0.out HB.out) | (with_reducible refine Kd.C_alloc ?_ _) | (with_reducible refine Kd.C_drewN ?_ _) | (with_reducible refine Kd.C_drew ?_))); (case side2 => exact HC0.out); rintro e w' ⟨rfl, ⟨nd, rfl⟩⟩; refine ⟨_, rfl, ?_⟩; obtain ⟨Ao19, co19, eo19⟩ := Kd.V_slice HO135.out; subst eo19; obtain ⟨Ao20, co20, eo20⟩ := Kd.V_slice HO138.out; subst eo20) | (go_at_call 36; (with_reducible refine (hist_Threads.calls k _ _ l0 t141 _ ?side1 ?side2 A16.out).mono ?_); (case side1 => repeat (first | exact (Kd.C_below HR0.out (by repeat (first | (with_reducible first | exact HB.out | apply below_alloc | apply pw_below_drewN | apply below_drew1) | exact HB.out))) | (with_reducible refine Kd.C_alloc ?_ _) | (with_reducible refine Kd.C_drewN ?_ _) | (with_reducible refine Kd.C_drew ?_))); (case side2 => exact HC0.out); rintro e w21 ⟨rfl, hb⟩; have n0_ := Aside0.mk (Kd.V_below (by (with_reducible repeat (first | apply Kd.V_alloc | apply Kd.V_drewN | apply Kd.V_drew)); exact HO135.out) hb); have n1_ := Aside0.mk (Kd.V_below (by (with_reducible repeat (first | apply Kd.V_alloc | apply Kd.V_drewN | apply Kd.V_drew)); exact HO138.out) hb); have n2_ := Aside0.mk (below_step (by repeat (first | (with_reducible first | exact HB.out | apply below_alloc | apply pw_below_drewN | apply below_drew1) | exact HB.out)) hb); clear HO135; clear HO138; clear HB; have HO135 := n0_; have HO138 := n1_; have HB := n2_; clear n0_ n1_ n2_; (try clear hb); (try clear hb2); (try clear hk); (try clear hi)) | (go_at_call 37; (with_reducible refine (deadwoodref11_Threads.calls k _ _ l0 t142 _ ?side1 ?side2 A17.out).mono ?_); (case side1 => repeat (first | exact (Kd.C_below HR0.out HB.out) | (with_reducible refine Kd.C_alloc ?_ _) | (with_reducible refine Kd.C_drewN ?_ _) | (with_reducible refine Kd.C_drew ?_))); (case side2 => exact HC0.out); rintro e w' ⟨rfl, ⟨nd, rfl⟩⟩))
          go_meet
          case rel => exact ⟨_, ((t141 != t142)), (by first | rfl | (simp; done) | (simp [*]; done)), H', ⟨by first | omega | exact Nat.le_refl _⟩, ⟨by (with_reducible repeat (first | apply Kd.V_alloc | apply Kd.V_drewN | apply Kd.V_drew)); exact HO135.out⟩, ⟨by (with_reducible repeat (first | apply Kd.V_alloc | apply Kd.V_drewN | apply Kd.V_drew)); exact HO138.out⟩, ⟨by repeat (first | (with_reducible first | exact HB.out | apply below_alloc | apply pw_below_drewN | apply below_drew1) | exact HB.out)⟩⟩
        · rw [if_neg c15] at H
          have c15b0 : ((t133.length : Int) == (t136.length : Int)) = false := beq_eq_false_iff_ne.mpr c15
          have c15b1 : ((t133.length : Int) != (t136.length : Int)) = true := bne_iff_ne.mpr c15
          have c15b2 : (t133.length == t136.length) = false := by first | simpa using c15 | (simp at c15 ⊢; omega)
          have H' := Aside0.mk H
          clear H
          go_wp2_with (first | ((with_reducible refine gate_callee (f := 14) rfl ?_); refine goesL_ (some 15) rfl rfl Try.func14 (by kernel_rfl) rfl #[.slice A0 l0.length c0] rfl (by (try simp only [List.map_toArray, List.map_cons, List.map_nil]); first | done | rfl | (simp only [List.length_drop, List.length_take]; rfl)) ?_; (with_reducible refine (hist_May.calls k _ _ l0 t139 _ ?side1 ?side2 A11.out).mono ?_); (case side1 => repeat (first | exact (Kd.C_below HR0.out HB.out) | (with_reducible refine Kd.C_alloc ?_ _) | (with_reducible refine Kd.C_drewN ?_ _) | (with_reducible refine Kd.C_drew ?_))); (case side2 => exact HC0.out); rintro e w22 ⟨rfl, hb⟩; refine ⟨_, rfl, ?_⟩; have n0_ := Aside0.mk (Kd.V_below (by (with_reducible repeat (first | apply Kd.V_alloc | apply Kd.V_drewN | apply Kd.V_drew)); exact HO135.out) hb); have n1_ := Aside0.mk (Kd.V_below (by (with_reducible repeat (first | apply Kd.V_alloc | apply Kd.V_drewN | apply Kd.V_drew)); exact HO138.out) hb); have n2_ := Aside0.mk (below_step (by repeat (first | (with_reducible first | exact HB.out | apply below_alloc | apply pw_below_drewN | apply below_drew1) | exact HB.out)) hb); clear HO135; clear HO138; clear HB; have HO135 := n0_; have HO138 := n1_; have HB := n2_; clear n0_ n1_ n2_; (try clear hb); (try clear hb2); (try clear hk); (try clear hi)) | ((with_reducible refine gate_callee (f := 35) rfl ?_); refine goesL_ (some 17) rfl rfl Try.func35 (by kernel_rfl) rfl #[.slice A0 l0.length c0] rfl (by (try simp only [List.map_toArray, List.map_cons, List.map_nil]); first | done | rfl | (simp only [List.length_drop, List.length_take]; rfl)) ?_; (with_reducible refine (deadwoodref11_May.calls k _ _ l0 t140 _ ?side1 ?side2 A12.out).mono ?_); (case side1 => repeat (first | exact (Kd.C_below HR0.out HB.out) | (with_reducible refine Kd.C_alloc ?_ _) | (with_reducible refine Kd.C_drewN ?_ _) | (with_reducible refine Kd.C_drew ?_))); (case side2 => exact HC0.out); rintro e w' ⟨rfl, ⟨nd, rfl⟩⟩; refine ⟨_, rfl, ?_⟩; obtain ⟨Ao23, co23, eo23⟩ := Kd.V_slice HO135.out; subst eo23; obtain ⟨Ao24, co24, eo24⟩ := Kd.V_slice HO138.out; subst eo24))
          go_meet
          case rel => exact ⟨_, (true), (by first | rfl | (simp; done) | (simp [*]; done)), H', ⟨by first | omega | exact Nat.le_refl _⟩, ⟨by (with_reducible repeat (first | apply Kd.V_alloc | apply Kd.V_drewN | apply Kd.V_drew)); exact HO135.out⟩, ⟨by (with_reducible repeat (first | apply Kd.V_alloc | apply Kd.V_drewN | apply Kd.V_drew)); exact HO138.out⟩, ⟨by repeat (first | (with_reducible first | exact HB.out | apply below_alloc | apply pw_below_drewN | apply below_drew1) | exact HB.out)⟩⟩
    case rest =>
      clear HC8
      try clear c1
      try clear p2
      try clear c3
      try clear c6
      try clear c13
      try clear c13b0
      try clear c13b1
      try clear c13b2
      try clear c14
      try clear c15
      try clear c15b0
      try clear c15b1
      try clear c15b2
      try clear c16
      try clear c18
      obtain ⟨kq, x32_7, rfl, HA, HJ7, HO_3, HO_4, HB⟩ := hcut
      cases kq with
      | zero => exact absurd HA.out (by simp [deadwoodlaw11_HistOpers.j0])
      | succ kj7 =>
        have H := HA.out
        clear HA
        simp only [deadwoodlaw11_HistOpers.j0] at H
        by_cases c25 : x32_7 = true
        · subst c25
          have H1 : (some false) = some r := by rw [if_pos rfl] at H; exact H
          clear H
          have H := H1
          clear H1
          exact absurd (Option.some.inj H) (by rw [HRT.out]; decide)
        · replace c25 := Bool.eq_false_iff.mpr c25
          subst c25
          have H1 : (deadwoodlaw11_HistOpers.l0 kj7 l0 t133 t136 0 0) = some r := by rw [if_neg (show ¬ (false = true) by decide)] at H; exact H
          clear H
          have H := H1
          clear H1
          have H' := Aside0.mk H
          clear H
          go_wp2
          go_loopg [5, 6] kj7 (fun kq v5 v6 w' => ∃ (x5_2 : Int) (x6_2 : Int), v5 = .int .i64 x5_2 ∧ v6 = .int .i64 x6_2 ∧ Aside0 (deadwoodlaw11_HistOpers.l0 kq l0 t133 t136 x5_2 x6_2 = some r) ∧ Aside0 (kq ≤ kj7) ∧ Aside0 (Kd.V k35 35 w' w.heap.size (fun _ => True) v134 t133) ∧ Aside0 (Kd.V k35 35 w' w.heap.size (fun _ => True) v137 t136) ∧ Aside0 (Below w.heap.size w w'))
          case atStart => exact ⟨(0), (0), (by first | rfl | (simp; done) | (simp [*]; done)), (by first | rfl | (simp; done) | (simp [*]; done)), H', ⟨Nat.le_refl _⟩, ⟨by (with_reducible repeat (first | apply Kd.V_alloc | apply Kd.V_drewN | apply Kd.V_drew)); exact HO_3.out⟩, ⟨by (with_reducible repeat (first | apply Kd.V_alloc | apply Kd.V_drewN | apply Kd.V_drew)); exact HO_4.out⟩, ⟨by repeat (first | (with_reducible first | exact HB.out | apply below_alloc | apply pw_below_drewN | apply below_drew1) | exact HB.out)⟩⟩
          case round =>
            clear H'
            try clear c1
            try clear c2
            try clear p2
            try clear c3
            try clear c6
            try clear c13
            try clear c13b0
            try clear c13b1
            try clear c13b2
            try clear c14
            try clear c15
            try clear c15b0
            try clear c15b1
            try clear c15b2
            try clear c16
            try clear c18
            try clear c25
            try clear p2
            obtain ⟨x5_2, x6_2, rfl, rfl, HA, HK2, HO_3, HO_4, HB⟩ := hrel
            cases gk with
            | zero => exact absurd HA.out (by simp [deadwoodlaw11_HistOpers.l0])
            | succ k2 =>
              have H := HA.out
              clear HA
              simp only [deadwoodlaw11_HistOpers.l0] at H
              by_cases c26 : x6_2 < (t133.length : Int)
              · rw [if_pos c26] at H
                have c26b0 : decide (x6_2 < (t133.length : Int)) = true := decide_eq_true c26
                clear c26
                by_cases c27 : 0 ≤ x6_2
                · rw [if_pos c27] at H
                  have c27b0 : decide (0 ≤ x6_2) = true := decide_eq_true c27
                  clear c27
                  by_cases c28 : x6_2 < (t136.length : Int)
                  · rw [if_pos c28] at H
                    have c28b0 : decide (x6_2 < (t136.length : Int)) = true := decide_eq_true c28
                    clear c28
                    replace H := Option.bind_eq_some_iff.mp H
                    obtain ⟨t147, A290, H⟩ := H
                    replace H : (if t147 = true then (if ((rd_T35 t136 x6_2).f4) < 0 then (deadwoodlaw11_HistOpers.l0 k2 l0 t133 t136 (wrap64 (x5_2 + 1)) (wrap64 (x6_2 + 1))) else (deadwoodlaw11_HistOpers.l0 k2 l0 t133 t136 x5_2 (wrap64 (x6_2 + 1)))) else (some false)) = some r := H
                    have A29 := Aside0.mk A290
                    clear A290
                    by_cases c30 : t147 = true
                    · subst c30
                      have H1 : (if ((rd_T35 t136 x6_2).f4) < 0 then (deadwoodlaw11_HistOpers.l0 k2 l0 t133 t136 (wrap64 (x5_2 + 1)) (wrap64 (x6_2 + 1))) else (deadwoodlaw11_HistOpers.l0 k2 l0 t133 t136 x5_2 (wrap64 (x6_2 + 1)))) = some r := by rw [if_pos rfl] at H; exact H
                      clear H
                      have H := H1
                      clear H1
                      by_cases c31 : ((rd_T35 t136 x6_2).f4) < 0
                      · rw [if_pos c31] at H
                        have c31b0 : decide (((rd_T35 t136 x6_2).f4) < 0) = true := decide_eq_true c31
                        clear c31
                        have H' := Aside0.mk H
                        clear H
                        obtain ⟨Ao32, co32, eo32⟩ := Kd.V_slice HO_3.out
                        subst eo32
                        try go_wp2
                        have n0_ := Aside0.mk (Kd.V_drew HO_3.out)
                        have n1_ := Aside0.mk (Kd.V_drew HO_4.out)
                        have n2_ := Aside0.mk (below_drew1 HB.out)
                        clear HO_3
                        clear HO_4
                        clear HB
                        have HO_3 := n0_
                        have HO_4 := n1_
                        have HB := n2_
                        clear n0_ n1_ n2_
                        have p145 : 0 ≤ (x6_2 : Int) := of_decide_eq_true (by first | (with_reducible assumption) | assumption)
                        have q145 : x6_2 < (t133.length : Int) := of_decide_eq_true (by first | (with_reducible assumption) | assumption)
                        obtain ⟨ad145, A145_10, c145_10, e145, hx145_0, hx145_1, hx145_2, hx145_3, hx145_4, hx145_5, hx145_6, hx145_7, hx145_8, hx145_9, hx145_10, hx145_11, hx145_12, hl145_10, hi145_10⟩ := at_T35 (Kd.V_reads' HO_3.out).2.2 x6_2 p145 q145
                        cases e145
                        obtain ⟨ce145, hce145, hMe145, hcc145⟩ := Kd.V_get HO_3.out z35 x6_2 p145 (by first | exact q145 | exact of_decide_eq_true (by first | (with_reducible assumption) | assumption) | (have e_ := (Kd.V_reads' HO_3.out).1; omega))
                        obtain ⟨ua145_10, uc145_10, rfl, ul145_10, ge145_10⟩ := k35_openF hMe145
                        have hv145_10 := hcc145 10 _ rfl
                        rw [add_field _ _ 10 (by omega)] at hv145_10
                        replace hv145_10 := Option.some.inj (hv145_10.symm.trans hx145_10)
                        injection hv145_10 with hva_ hvn_ hvc_
                        rw [hva_] at ge145_10
                        rw [hvc_] at ul145_10
                        have HL145_10 := Aside0.mk (show Kd.V k104 104 _ w.heap.size _ _ ((rd_T35 t133 x6_2).f2.f4) from Kd.V_mk ul145_10 ge145_10)
                        clear hva_ hvn_ hvc_ ge145_10 ul145_10
                        clear hcc145 hce145
                        have HR145_10 := Aside0.mk hi145_10
                        have HC145_10 := Aside0.mk hl145_10
                        clear hi145_10 hl145_10
                        replace p145 := eq_true p145
                        replace q145 := eq_true q145
                        obtain ⟨Ao34, co34, eo34⟩ := Kd.V_slice HO_4.out
                        (first | subst eo34 | (injection eo34 with f1_ f2_ f3_; have f4_ := f1_.symm; have f5_ := f3_.symm; clear f1_ f2_ f3_; subst f4_; subst f5_))
                        have p146 : 0 ≤ (x6_2 : Int) := of_decide_eq_true (by first | (with_reducible assumption) | assumption)
                        have q146 : x6_2 < (t136.length : Int) := of_decide_eq_true (by first | (with_reducible assumption) | assumption)
                        obtain ⟨ad146, A146_10, c146_10, e146, hx146_0, hx146_1, hx146_2, hx146_3, hx146_4, hx146_5, hx146_6, hx146_7, hx146_8, hx146_9, hx146_10, hx146_11, hx146_12, hl146_10, hi146_10⟩ := at_T35 (Kd.V_reads' HO_4.out).2.2 x6_2 p146 q146
                        cases e146
                        obtain ⟨ce146, hce146, hMe146, hcc146⟩ := Kd.V_get HO_4.out z35 x6_2 p146 (by first | exact q146 | exact of_decide_eq_true (by first | (with_reducible assumption) | assumption) | (have e_ := (Kd.V_reads' HO_4.out).1; omega))
                        obtain ⟨ua146_10, uc146_10, rfl, ul146_10, ge146_10⟩ := k35_openF hMe146
                        have hv146_10 := hcc146 10 _ rfl
                        rw [add_field _ _ 10 (by omega)] at hv146_10
                        replace hv146_10 := Option.some.inj (hv146_10.symm.trans hx146_10)
                        injection hv146_10 with hva_ hvn_ hvc_
                        rw [hva_] at ge146_10
                        rw [hvc_] at ul146_10
                        have HL146_10 := Aside0.mk (show Kd.V k104 104 _ w.heap.size _ _ ((rd_T35 t136 x6_2).f2.f4) from Kd.V_mk ul146_10 ge146_10)
                        clear hva_ hvn_ hvc_ ge146_10 ul146_10
                        clear hcc146 hce146
                        have HR146_10 := Aside0.mk hi146_10
                        have HC146_10 := Aside0.mk hl146_10
                        clear hi146_10 hl146_10
                        replace p146 := eq_true p146
                        replace q146 := eq_true q146
                        refine start_ (n := 10) (S := fun w' => w'.cell? (ad145.add ((x6_2).toNat * 13)) = some (.int .i64 ((rd_T35 t133 x6_2).f0)) ∧ w'.cell? ⟨(ad145.add ((x6_2).toNat * 13)).block, (ad145.add ((x6_2).toNat * 13)).off + 1, none⟩ = some (.int .i64 ((rd_T35 t133 x6_2).f1.f0)) ∧ w'.cell? ⟨(ad145.add ((x6_2).toNat * 13)).block, (ad145.add ((x6_2).toNat * 13)).off + 2, none⟩ = some (.int .i64 ((rd_T35 t133 x6_2).f1.f1)) ∧ w'.cell? ⟨(ad145.add ((x6_2).toNat * 13)).block, (ad145.add ((x6_2).toNat * 13)).off + 3, none⟩ = some (.int .i64 ((rd_T35 t133 x6_2).f1.f2)) ∧ w'.cell? ⟨(ad145.add ((x6_2).toNat * 13)).block, (ad145.add ((x6_2).toNat * 13)).off + 4, none⟩ = some (.int .i64 ((rd_T35 t133 x6_2).f1.f3)) ∧ w'.cell? ⟨(ad145.add ((x6_2).toNat * 13)).block, (ad145.add ((x6_2).toNat * 13)).off + 5, none⟩ = some (.int .i64 ((rd_T35 t133 x6_2).f1.f4)) ∧ w'.cell? ⟨(ad145.add ((x6_2).toNat * 13)).block, (ad145.add ((x6_2).toNat * 13)).off + 6, none⟩ = some (.int .i64 ((rd_T35 t133 x6_2).f2.f0)) ∧ w'.cell? ⟨(ad145.add ((x6_2).toNat * 13)).block, (ad145.add ((x6_2).toNat * 13)).off + 7, none⟩ = some (.int .i64 ((rd_T35 t133 x6_2).f2.f1)) ∧ w'.cell? ⟨(ad145.add ((x6_2).toNat * 13)).block, (ad145.add ((x6_2).toNat * 13)).off + 8, none⟩ = some (.int .i64 ((rd_T35 t133 x6_2).f2.f2)) ∧ w'.cell? ⟨(ad145.add ((x6_2).toNat * 13)).block, (ad145.add ((x6_2).toNat * 13)).off + 9, none⟩ = some (.int .i64 ((rd_T35 t133 x6_2).f2.f3)) ∧ w'.cell? ⟨(ad145.add ((x6_2).toNat * 13)).block, (ad145.add ((x6_2).toNat * 13)).off + 10, none⟩ = some (.slice A145_10 ((rd_T35 t133 x6_2).f2.f4).length c145_10) ∧ w'.cell? ⟨(ad145.add ((x6_2).toNat * 13)).block, (ad145.add ((x6_2).toNat * 13)).off + 11, none⟩ = some (.int .i64 ((rd_T35 t133 x6_2).f3)) ∧ w'.cell? ⟨(ad145.add ((x6_2).toNat * 13)).block, (ad145.add ((x6_2).toNat * 13)).off + 12, none⟩ = some (.int .i64 ((rd_T35 t133 x6_2).f4)) ∧ w'.cell? (ad146.add ((x6_2).toNat * 13)) = some (.int .i64 ((rd_T35 t136 x6_2).f0)) ∧ w'.cell? ⟨(ad146.add ((x6_2).toNat * 13)).block, (ad146.add ((x6_2).toNat * 13)).off + 1, none⟩ = some (.int .i64 ((rd_T35 t136 x6_2).f1.f0)) ∧ w'.cell? ⟨(ad146.add ((x6_2).toNat * 13)).block, (ad146.add ((x6_2).toNat * 13)).off + 2, none⟩ = some (.int .i64 ((rd_T35 t136 x6_2).f1.f1)) ∧ w'.cell? ⟨(ad146.add ((x6_2).toNat * 13)).block, (ad146.add ((x6_2).toNat * 13)).off + 3, none⟩ = some (.int .i64 ((rd_T35 t136 x6_2).f1.f2)) ∧ w'.cell? ⟨(ad146.add ((x6_2).toNat * 13)).block, (ad146.add ((x6_2).toNat * 13)).off + 4, none⟩ = some (.int .i64 ((rd_T35 t136 x6_2).f1.f3)) ∧ w'.cell? ⟨(ad146.add ((x6_2).toNat * 13)).block, (ad146.add ((x6_2).toNat * 13)).off + 5, none⟩ = some (.int .i64 ((rd_T35 t136 x6_2).f1.f4)) ∧ w'.cell? ⟨(ad146.add ((x6_2).toNat * 13)).block, (ad146.add ((x6_2).toNat * 13)).off + 6, none⟩ = some (.int .i64 ((rd_T35 t136 x6_2).f2.f0)) ∧ w'.cell? ⟨(ad146.add ((x6_2).toNat * 13)).block, (ad146.add ((x6_2).toNat * 13)).off + 7, none⟩ = some (.int .i64 ((rd_T35 t136 x6_2).f2.f1)) ∧ w'.cell? ⟨(ad146.add ((x6_2).toNat * 13)).block, (ad146.add ((x6_2).toNat * 13)).off + 8, none⟩ = some (.int .i64 ((rd_T35 t136 x6_2).f2.f2)) ∧ w'.cell? ⟨(ad146.add ((x6_2).toNat * 13)).block, (ad146.add ((x6_2).toNat * 13)).off + 9, none⟩ = some (.int .i64 ((rd_T35 t136 x6_2).f2.f3)) ∧ w'.cell? ⟨(ad146.add ((x6_2).toNat * 13)).block, (ad146.add ((x6_2).toNat * 13)).off + 10, none⟩ = some (.slice A146_10 ((rd_T35 t136 x6_2).f2.f4).length c146_10) ∧ w'.cell? ⟨(ad146.add ((x6_2).toNat * 13)).block, (ad146.add ((x6_2).toNat * 13)).off + 11, none⟩ = some (.int .i64 ((rd_T35 t136 x6_2).f3)) ∧ w'.cell? ⟨(ad146.add ((x6_2).toNat * 13)).block, (ad146.add ((x6_2).toNat * 13)).off + 12, none⟩ = some (.int .i64 ((rd_T35 t136 x6_2).f4))) (ds := []) #[false, false, false, false, false, false, false, false, false, false] (by kernel_rfl) rfl rfl ⟨hx145_0, hx145_1, hx145_2, hx145_3, hx145_4, hx145_5, hx145_6, hx145_7, hx145_8, hx145_9, hx145_10, hx145_11, hx145_12, hx146_0, hx146_1, hx146_2, hx146_3, hx146_4, hx146_5, hx146_6, hx146_7, hx146_8, hx146_9, hx146_10, hx146_11, hx146_12⟩ (fun hHeld => ?_); refine with_tabW deadwoodlaw11_HistOpers.tab10 deadwoodlaw11_HistOpers.bits10 (fun HT_ HW_ => ?_)
                        generalize wr.drew = w33 at HO_3 HO_4 HB HL145_10 HL146_10 HR145_10 HR146_10 hx145_0 hx145_1 hx145_10 hx145_11 hx145_12 hx145_2 hx145_3 hx145_4 hx145_5 hx145_6 hx145_7 hx145_8 hx145_9 hx146_0 hx146_1 hx146_10 hx146_11 hx146_12 hx146_2 hx146_3 hx146_4 hx146_5 hx146_6 hx146_7 hx146_8 hx146_9 hHeld ⊢
                        refine pure_ (i := 0) (N := some 39) (v := ?_) (a' := ?_) #[true, false, false, false, false, false, false, false, false, false] rfl rfl (any_of HT_.out (by kernel_rfl)) (fun _ _ _ h => h) (Or.inl ⟨by rfl, ?_⟩) ?_ ?_
                        rotate_left
                        · intro w'
                          go_simp
                          with_reducible rfl
                        rotate_left
                        · simp only [Act.put, List.setIfInBounds_toArray, List.set_cons_zero, List.set_cons_succ, i64_w, i32_w]
                          rfl
                        refine pure_ (i := 1) (N := some 40) (v := ?_) (a' := ?_) #[true, true, false, false, false, false, false, false, false, false] rfl rfl (any_of HT_.out (by kernel_rfl)) (fun _ _ _ h => h) (Or.inl ⟨by rfl, ?_⟩) ?_ ?_
                        rotate_left
                        · intro w'
                          go_simp
                          with_reducible rfl
                        rotate_left
                        · simp only [Act.put, List.setIfInBounds_toArray, List.set_cons_zero, List.set_cons_succ, i64_w, i32_w]
                          rfl
                        refine pure_ (i := 2) (N := some 41) (v := ?_) (a' := ?_) #[true, true, true, false, false, false, false, false, false, false] rfl rfl (any_of HT_.out (by kernel_rfl)) (fun _ _ _ h => h) (Or.inl ⟨by rfl, ?_⟩) ?_ ?_
                        rotate_left
                        · intro w'
                          go_simp
                          with_reducible rfl
                        rotate_left
                        · simp only [Act.put, List.setIfInBounds_toArray, List.set_cons_zero, List.set_cons_succ, i64_w, i32_w]
                          rfl
                        refine pure_ (i := 4) (N := some 43) (v := ?_) (a' := ?_) #[true, true, true, false, true, false, false, false, false, false] rfl rfl (any_of HT_.out (by kernel_rfl)) (fun _ _ _ h => h) (Or.inl ⟨by rfl, ?_⟩) ?_ ?_
                        rotate_left
                        · intro w'
                          go_simp
                          with_reducible rfl
                        rotate_left
                        · simp only [Act.put, List.setIfInBounds_toArray, List.set_cons_zero, List.set_cons_succ, i64_w, i32_w]
                          rfl
                        refine pure_ (i := 5) (N := some 44) (v := ?_) (a' := ?_) #[true, true, true, false, true, true, false, false, false, false] rfl rfl (any_of HT_.out (by kernel_rfl)) (fun _ _ _ h => h) (Or.inl ⟨by rfl, ?_⟩) ?_ ?_
                        rotate_left
                        · intro w'
                          go_simp
                          with_reducible rfl
                        rotate_left
                        · simp only [Act.put, List.setIfInBounds_toArray, List.set_cons_zero, List.set_cons_succ, i64_w, i32_w]
                          rfl
                        refine pure_ (i := 6) (N := some 45) (v := ?_) (a' := ?_) #[true, true, true, false, true, true, true, false, false, false] rfl rfl (any_of HT_.out (by kernel_rfl)) (fun _ _ _ h => h) (Or.inl ⟨by rfl, ?_⟩) ?_ ?_
                        rotate_left
                        · intro w'
                          go_simp
                          with_reducible rfl
                        rotate_left
                        · simp only [Act.put, List.setIfInBounds_toArray, List.set_cons_zero, List.set_cons_succ, i64_w, i32_w]
                          rfl
                        refine take_ (i := 3) (N := some 42) (v := ?_) (a' := ?_) #[true, true, true, true, true, true, true, false, false, false] rfl rfl (take_ofW HT_.out HW_.out (by kernel_rfl)) (fun _ _ _ h => h) (Or.inl ⟨by rfl, ?_⟩) hHeld ?_ ?_
                        rotate_left
                        · rintro w' ⟨s0, s1, s2, s3, s4, s5, s6, s7, s8, s9, s10, s11, s12, s13, s14, s15, s16, s17, s18, s19, s20, s21, s22, s23, s24, s25⟩
                          go_simp
                          with_reducible rfl
                        rotate_left
                        · simp only [Act.put, List.setIfInBounds_toArray, List.set_cons_zero, List.set_cons_succ, i64_w, i32_w]
                          rfl
                        refine take_ (i := 7) (N := some 46) (v := ?_) (a' := ?_) #[true, true, true, true, true, true, true, true, false, false] rfl rfl (take_ofW HT_.out HW_.out (by kernel_rfl)) (fun _ _ _ h => h) (Or.inl ⟨by rfl, ?_⟩) hHeld ?_ ?_
                        rotate_left
                        · rintro w' ⟨s0, s1, s2, s3, s4, s5, s6, s7, s8, s9, s10, s11, s12, s13, s14, s15, s16, s17, s18, s19, s20, s21, s22, s23, s24, s25⟩
                          go_simp
                          with_reducible rfl
                        rotate_left
                        · simp only [Act.put, List.setIfInBounds_toArray, List.set_cons_zero, List.set_cons_succ, i64_w, i32_w]
                          rfl
                        refine one_ (i := 8) (N := some 47) #[true, true, true, true, true, true, true, true, true, false] rfl rfl (one_of HT_.out (by kernel_rfl)) (by decide) (fun K hK => ?_)
                        refine goes_ Try.func21 (by kernel_rfl) rfl #[.agg #[.int .i64 ((rd_T35 t133 x6_2).f0), .int .i64 ((rd_T35 t133 x6_2).f1.f0), .int .i64 ((rd_T35 t133 x6_2).f1.f1), .int .i64 ((rd_T35 t133 x6_2).f1.f2), .int .i64 ((rd_T35 t133 x6_2).f1.f3), .int .i64 ((rd_T35 t133 x6_2).f1.f4), .int .i64 ((rd_T35 t133 x6_2).f2.f0), .int .i64 ((rd_T35 t133 x6_2).f2.f1), .int .i64 ((rd_T35 t133 x6_2).f2.f2), .int .i64 ((rd_T35 t133 x6_2).f2.f3), .slice A145_10 ((rd_T35 t133 x6_2).f2.f4).length c145_10, .int .i64 ((rd_T35 t133 x6_2).f3), .int .i64 ((rd_T35 t133 x6_2).f4)], .agg #[.int .i64 ((rd_T35 t136 x6_2).f0), .int .i64 ((rd_T35 t136 x6_2).f1.f0), .int .i64 ((rd_T35 t136 x6_2).f1.f1), .int .i64 ((rd_T35 t136 x6_2).f1.f2), .int .i64 ((rd_T35 t136 x6_2).f1.f3), .int .i64 ((rd_T35 t136 x6_2).f1.f4), .int .i64 ((rd_T35 t136 x6_2).f2.f0), .int .i64 ((rd_T35 t136 x6_2).f2.f1), .int .i64 ((rd_T35 t136 x6_2).f2.f2), .int .i64 ((rd_T35 t136 x6_2).f2.f3), .slice A146_10 ((rd_T35 t136 x6_2).f2.f4).length c146_10, .int .i64 ((rd_T35 t136 x6_2).f3), .int .i64 ((rd_T35 t136 x6_2).f4)]] (by rfl) rfl rfl (by (try simp only [List.map_toArray, List.map_cons, List.map_nil]); first | done | rfl | (simp only [List.length_drop, List.length_take]; rfl)) ?_
                        with_reducible refine (deadwoodref11_Same.calls k2 ((rd_T35 t133 x6_2).f0) ((rd_T35 t133 x6_2).f1.f0) ((rd_T35 t133 x6_2).f1.f1) ((rd_T35 t133 x6_2).f1.f2) ((rd_T35 t133 x6_2).f1.f3) ((rd_T35 t133 x6_2).f1.f4) ((rd_T35 t133 x6_2).f2.f0) ((rd_T35 t133 x6_2).f2.f1) ((rd_T35 t133 x6_2).f2.f2) ((rd_T35 t133 x6_2).f2.f3) _ _ ((rd_T35 t133 x6_2).f2.f4) ((rd_T35 t133 x6_2).f3) ((rd_T35 t133 x6_2).f4) ((rd_T35 t136 x6_2).f0) ((rd_T35 t136 x6_2).f1.f0) ((rd_T35 t136 x6_2).f1.f1) ((rd_T35 t136 x6_2).f1.f2) ((rd_T35 t136 x6_2).f1.f3) ((rd_T35 t136 x6_2).f1.f4) ((rd_T35 t136 x6_2).f2.f0) ((rd_T35 t136 x6_2).f2.f1) ((rd_T35 t136 x6_2).f2.f2) ((rd_T35 t136 x6_2).f2.f3) _ _ ((rd_T35 t136 x6_2).f2.f4) ((rd_T35 t136 x6_2).f3) ((rd_T35 t136 x6_2).f4) true _ ?side1 ?side2 ?side3 ?side4 A29.out).mono ?_
                        (case side1 => repeat (first | exact (by repeat (first | (with_reducible exact HR145_10.out) | (with_reducible refine Kd.C_alloc ?_ _) | (with_reducible refine Kd.C_drewN ?_ _) | (with_reducible refine Kd.C_drew ?_) | exact HR145_10.out)) | (with_reducible refine Kd.C_alloc ?_ _) | (with_reducible refine Kd.C_drewN ?_ _) | (with_reducible refine Kd.C_drew ?_)))
                        (case side2 => exact HC145_10.out)
                        (case side3 => repeat (first | exact (by repeat (first | (with_reducible exact HR146_10.out) | (with_reducible refine Kd.C_alloc ?_ _) | (with_reducible refine Kd.C_drewN ?_ _) | (with_reducible refine Kd.C_drew ?_) | exact HR146_10.out)) | (with_reducible refine Kd.C_alloc ?_ _) | (with_reducible refine Kd.C_drewN ?_ _) | (with_reducible refine Kd.C_drew ?_)))
                        (case side4 => exact HC146_10.out)
                        rintro e w35 ⟨rfl, hb⟩
                        have HS0_ := (hb.cell (World.block_lt_of_cell? _ _ (hHeld.1))).trans (hHeld.1)
                        have HS1_ := (hb.cell (World.block_lt_of_cell? _ _ (hHeld.2.1))).trans (hHeld.2.1)
                        have HS2_ := (hb.cell (World.block_lt_of_cell? _ _ (hHeld.2.2.1))).trans (hHeld.2.2.1)
                        have HS3_ := (hb.cell (World.block_lt_of_cell? _ _ (hHeld.2.2.2.1))).trans (hHeld.2.2.2.1)
                        have HS4_ := (hb.cell (World.block_lt_of_cell? _ _ (hHeld.2.2.2.2.1))).trans (hHeld.2.2.2.2.1)
                        have HS5_ := (hb.cell (World.block_lt_of_cell? _ _ (hHeld.2.2.2.2.2.1))).trans (hHeld.2.2.2.2.2.1)
                        have HS6_ := (hb.cell (World.block_lt_of_cell? _ _ (hHeld.2.2.2.2.2.2.1))).trans (hHeld.2.2.2.2.2.2.1)
                        have HS7_ := (hb.cell (World.block_lt_of_cell? _ _ (hHeld.2.2.2.2.2.2.2.1))).trans (hHeld.2.2.2.2.2.2.2.1)
                        have HS8_ := (hb.cell (World.block_lt_of_cell? _ _ (hHeld.2.2.2.2.2.2.2.2.1))).trans (hHeld.2.2.2.2.2.2.2.2.1)
                        have HS9_ := (hb.cell (World.block_lt_of_cell? _ _ (hHeld.2.2.2.2.2.2.2.2.2.1))).trans (hHeld.2.2.2.2.2.2.2.2.2.1)
                        have HS10_ := (hb.cell (World.block_lt_of_cell? _ _ (hHeld.2.2.2.2.2.2.2.2.2.2.1))).trans (hHeld.2.2.2.2.2.2.2.2.2.2.1)
                        have HS11_ := (hb.cell (World.block_lt_of_cell? _ _ (hHeld.2.2.2.2.2.2.2.2.2.2.2.1))).trans (hHeld.2.2.2.2.2.2.2.2.2.2.2.1)
                        have HS12_ := (hb.cell (World.block_lt_of_cell? _ _ (hHeld.2.2.2.2.2.2.2.2.2.2.2.2.1))).trans (hHeld.2.2.2.2.2.2.2.2.2.2.2.2.1)
                        have HS13_ := (hb.cell (World.block_lt_of_cell? _ _ (hHeld.2.2.2.2.2.2.2.2.2.2.2.2.2.1))).trans (hHeld.2.2.2.2.2.2.2.2.2.2.2.2.2.1)
                        have HS14_ := (hb.cell (World.block_lt_of_cell? _ _ (hHeld.2.2.2.2.2.2.2.2.2.2.2.2.2.2.1))).trans (hHeld.2.2.2.2.2.2.2.2.2.2.2.2.2.2.1)
                        have HS15_ := (hb.cell (World.block_lt_of_cell? _ _ (hHeld.2.2.2.2.2.2.2.2.2.2.2.2.2.2.2.1))).trans (hHeld.2.2.2.2.2.2.2.2.2.2.2.2.2.2.2.1)
                        have HS16_ := (hb.cell (World.block_lt_of_cell? _ _ (hHeld.2.2.2.2.2.2.2.2.2.2.2.2.2.2.2.2.1))).trans (hHeld.2.2.2.2.2.2.2.2.2.2.2.2.2.2.2.2.1)
                        have HS17_ := (hb.cell (World.block_lt_of_cell? _ _ (hHeld.2.2.2.2.2.2.2.2.2.2.2.2.2.2.2.2.2.1))).trans (hHeld.2.2.2.2.2.2.2.2.2.2.2.2.2.2.2.2.2.1)
                        have HS18_ := (hb.cell (World.block_lt_of_cell? _ _ (hHeld.2.2.2.2.2.2.2.2.2.2.2.2.2.2.2.2.2.2.1))).trans (hHeld.2.2.2.2.2.2.2.2.2.2.2.2.2.2.2.2.2.2.1)
                        have HS19_ := (hb.cell (World.block_lt_of_cell? _ _ (hHeld.2.2.2.2.2.2.2.2.2.2.2.2.2.2.2.2.2.2.2.1))).trans (hHeld.2.2.2.2.2.2.2.2.2.2.2.2.2.2.2.2.2.2.2.1)
                        have HS20_ := (hb.cell (World.block_lt_of_cell? _ _ (hHeld.2.2.2.2.2.2.2.2.2.2.2.2.2.2.2.2.2.2.2.2.1))).trans (hHeld.2.2.2.2.2.2.2.2.2.2.2.2.2.2.2.2.2.2.2.2.1)
                        have HS21_ := (hb.cell (World.block_lt_of_cell? _ _ (hHeld.2.2.2.2.2.2.2.2.2.2.2.2.2.2.2.2.2.2.2.2.2.1))).trans (hHeld.2.2.2.2.2.2.2.2.2.2.2.2.2.2.2.2.2.2.2.2.2.1)
                        have HS22_ := (hb.cell (World.block_lt_of_cell? _ _ (hHeld.2.2.2.2.2.2.2.2.2.2.2.2.2.2.2.2.2.2.2.2.2.2.1))).trans (hHeld.2.2.2.2.2.2.2.2.2.2.2.2.2.2.2.2.2.2.2.2.2.2.1)
                        have HS23_ := (hb.cell (World.block_lt_of_cell? _ _ (hHeld.2.2.2.2.2.2.2.2.2.2.2.2.2.2.2.2.2.2.2.2.2.2.2.1))).trans (hHeld.2.2.2.2.2.2.2.2.2.2.2.2.2.2.2.2.2.2.2.2.2.2.2.1)
                        have HS24_ := (hb.cell (World.block_lt_of_cell? _ _ (hHeld.2.2.2.2.2.2.2.2.2.2.2.2.2.2.2.2.2.2.2.2.2.2.2.2.1))).trans (hHeld.2.2.2.2.2.2.2.2.2.2.2.2.2.2.2.2.2.2.2.2.2.2.2.2.1)
                        have HS25_ := (hb.cell (World.block_lt_of_cell? _ _ (hHeld.2.2.2.2.2.2.2.2.2.2.2.2.2.2.2.2.2.2.2.2.2.2.2.2.2))).trans (hHeld.2.2.2.2.2.2.2.2.2.2.2.2.2.2.2.2.2.2.2.2.2.2.2.2.2)
                        refine ⟨_, rfl, ?_⟩
                        have n0_ := Aside0.mk (Kd.V_below (by (with_reducible repeat (first | apply Kd.V_alloc | apply Kd.V_drewN | apply Kd.V_drew)); exact HO_3.out) hb)
                        have n1_ := Aside0.mk (Kd.V_below (by (with_reducible repeat (first | apply Kd.V_alloc | apply Kd.V_drewN | apply Kd.V_drew)); exact HO_4.out) hb)
                        have n2_ := Aside0.mk (Kd.V_below (by (with_reducible repeat (first | apply Kd.V_alloc | apply Kd.V_drewN | apply Kd.V_drew)); exact HL145_10.out) hb)
                        have n3_ := Aside0.mk (Kd.V_below (by (with_reducible repeat (first | apply Kd.V_alloc | apply Kd.V_drewN | apply Kd.V_drew)); exact HL146_10.out) hb)
                        have n4_ := Aside0.mk (Kd.C_below (by repeat (first | (with_reducible exact HR145_10.out) | (with_reducible refine Kd.C_alloc ?_ _) | (with_reducible refine Kd.C_drewN ?_ _) | (with_reducible refine Kd.C_drew ?_) | exact HR145_10.out)) hb)
                        have n5_ := Aside0.mk (Kd.C_below (by repeat (first | (with_reducible exact HR146_10.out) | (with_reducible refine Kd.C_alloc ?_ _) | (with_reducible refine Kd.C_drewN ?_ _) | (with_reducible refine Kd.C_drew ?_) | exact HR146_10.out)) hb)
                        have n6_ := Aside0.mk (below_step (by repeat (first | (with_reducible first | exact HB.out | apply below_alloc | apply pw_below_drewN | apply below_drew1) | exact HB.out)) hb)
                        clear HO_3
                        clear HO_4
                        clear HL145_10
                        clear HL146_10
                        clear HR145_10
                        clear HR146_10
                        clear HB
                        have HO_3 := n0_
                        have HO_4 := n1_
                        have HL145_10 := n2_
                        have HL146_10 := n3_
                        have HR145_10 := n4_
                        have HR146_10 := n5_
                        have HB := n6_
                        clear n0_ n1_ n2_ n3_ n4_ n5_ n6_
                        (try clear hb)
                        (try clear hb2)
                        (try clear hk)
                        (try clear hi)
                        refine hK.out _ _ ⟨HS0_, HS1_, HS2_, HS3_, HS4_, HS5_, HS6_, HS7_, HS8_, HS9_, HS10_, HS11_, HS12_, HS13_, HS14_, HS15_, HS16_, HS17_, HS18_, HS19_, HS20_, HS21_, HS22_, HS23_, HS24_, HS25_⟩ (fun hHeld => ?_)
                        clear hK K
                        refine norm_ (a' := ?_) ?_ ?_
                        rotate_left
                        · show Act.put _ (some 47) _ = _
                          simp only [Act.put, List.setIfInBounds_toArray, List.set_cons_zero, List.set_cons_succ, i64_w, i32_w]
                          rfl
                        refine pure_ (i := 9) (N := some 48) (v := ?_) (a' := ?_) #[true, true, true, true, true, true, true, true, true, true] rfl rfl (any_of HT_.out (by kernel_rfl)) (fun _ _ _ h => h) (Or.inl ⟨by rfl, ?_⟩) ?_ ?_
                        rotate_left
                        · intro w'
                          go_simp
                          with_reducible rfl
                        rotate_left
                        · simp only [Act.put, List.setIfInBounds_toArray, List.set_cons_zero, List.set_cons_succ, i64_w, i32_w]
                          rfl
                        refine done_ (done_of HT_.out (by kernel_rfl)) ?_
                        have p148 : 0 ≤ (x6_2 : Int) := of_decide_eq_true (by first | (with_reducible assumption) | assumption)
                        have q148 : x6_2 < (t136.length : Int) := of_decide_eq_true (by first | (with_reducible assumption) | assumption)
                        obtain ⟨ad148, A148_10, c148_10, e148, hx148_0, hx148_1, hx148_2, hx148_3, hx148_4, hx148_5, hx148_6, hx148_7, hx148_8, hx148_9, hx148_10, hx148_11, hx148_12, hl148_10, hi148_10⟩ := at_T35 (Kd.V_reads' HO_4.out).2.2 x6_2 p148 q148
                        obtain rfl : ad146 = ad148 := (by injection e148)
                        obtain ⟨ce148, hce148, hMe148, hcc148⟩ := Kd.V_get HO_4.out z35 x6_2 p148 (by first | exact q148 | exact of_decide_eq_true (by first | (with_reducible assumption) | assumption) | (have e_ := (Kd.V_reads' HO_4.out).1; omega))
                        obtain ⟨ua148_10, uc148_10, rfl, ul148_10, ge148_10⟩ := k35_openF hMe148
                        have hv148_10 := hcc148 10 _ rfl
                        rw [add_field _ _ 10 (by omega)] at hv148_10
                        replace hv148_10 := Option.some.inj (hv148_10.symm.trans hx148_10)
                        injection hv148_10 with hva_ hvn_ hvc_
                        rw [hva_] at ge148_10
                        rw [hvc_] at ul148_10
                        have HL148_10 := Aside0.mk (show Kd.V k104 104 _ w.heap.size _ _ ((rd_T35 t136 x6_2).f2.f4) from Kd.V_mk ul148_10 ge148_10)
                        clear hva_ hvn_ hvc_ ge148_10 ul148_10
                        clear hcc148 hce148
                        have HR148_10 := Aside0.mk hi148_10
                        have HC148_10 := Aside0.mk hl148_10
                        clear hi148_10 hl148_10
                        replace p148 := eq_true p148
                        replace q148 := eq_true q148
                        try go_wp2
                        go_roundg k2
                        case measure => have := HJ7.out; have := HK2.out; omega
                        case rel => exact ⟨(wrap64 (x5_2 + 1)), (wrap64 (x6_2 + 1)), (by first | rfl | (simp; done) | (simp [*]; done)), (by first | rfl | (simp; done) | (simp [*]; done)), H', ⟨by have := HJ7.out; have := HK2.out; omega⟩, ⟨by (with_reducible repeat (first | apply Kd.V_alloc | apply Kd.V_drewN | apply Kd.V_drew)); exact HO_3.out⟩, ⟨by (with_reducible repeat (first | apply Kd.V_alloc | apply Kd.V_drewN | apply Kd.V_drew)); exact HO_4.out⟩, ⟨by repeat (first | (with_reducible first | exact HB.out | apply below_alloc | apply pw_below_drewN | apply below_drew1) | exact HB.out)⟩⟩
                      · rw [if_neg c31] at H
                        have c31b0 : decide (((rd_T35 t136 x6_2).f4) < 0) = false := decide_eq_false c31
                        clear c31
                        have H' := Aside0.mk H
                        clear H
                        obtain ⟨Ao36, co36, eo36⟩ := Kd.V_slice HO_3.out
                        subst eo36
                        try go_wp2
                        have n0_ := Aside0.mk (Kd.V_drew HO_3.out)
                        have n1_ := Aside0.mk (Kd.V_drew HO_4.out)
                        have n2_ := Aside0.mk (below_drew1 HB.out)
                        clear HO_3
                        clear HO_4
                        clear HB
                        have HO_3 := n0_
                        have HO_4 := n1_
                        have HB := n2_
                        clear n0_ n1_ n2_
                        have p145 : 0 ≤ (x6_2 : Int) := of_decide_eq_true (by first | (with_reducible assumption) | assumption)
                        have q145 : x6_2 < (t133.length : Int) := of_decide_eq_true (by first | (with_reducible assumption) | assumption)
                        obtain ⟨ad145, A145_10, c145_10, e145, hx145_0, hx145_1, hx145_2, hx145_3, hx145_4, hx145_5, hx145_6, hx145_7, hx145_8, hx145_9, hx145_10, hx145_11, hx145_12, hl145_10, hi145_10⟩ := at_T35 (Kd.V_reads' HO_3.out).2.2 x6_2 p145 q145
                        cases e145
                        obtain ⟨ce145, hce145, hMe145, hcc145⟩ := Kd.V_get HO_3.out z35 x6_2 p145 (by first | exact q145 | exact of_decide_eq_true (by first | (with_reducible assumption) | assumption) | (have e_ := (Kd.V_reads' HO_3.out).1; omega))
                        obtain ⟨ua145_10, uc145_10, rfl, ul145_10, ge145_10⟩ := k35_openF hMe145
                        have hv145_10 := hcc145 10 _ rfl
                        rw [add_field _ _ 10 (by omega)] at hv145_10
                        replace hv145_10 := Option.some.inj (hv145_10.symm.trans hx145_10)
                        injection hv145_10 with hva_ hvn_ hvc_
                        rw [hva_] at ge145_10
                        rw [hvc_] at ul145_10
                        have HL145_10 := Aside0.mk (show Kd.V k104 104 _ w.heap.size _ _ ((rd_T35 t133 x6_2).f2.f4) from Kd.V_mk ul145_10 ge145_10)
                        clear hva_ hvn_ hvc_ ge145_10 ul145_10
                        clear hcc145 hce145
                        have HR145_10 := Aside0.mk hi145_10
                        have HC145_10 := Aside0.mk hl145_10
                        clear hi145_10 hl145_10
                        replace p145 := eq_true p145
                        replace q145 := eq_true q145
                        obtain ⟨Ao38, co38, eo38⟩ := Kd.V_slice HO_4.out
                        (first | subst eo38 | (injection eo38 with f1_ f2_ f3_; have f4_ := f1_.symm; have f5_ := f3_.symm; clear f1_ f2_ f3_; subst f4_; subst f5_))
                        have p146 : 0 ≤ (x6_2 : Int) := of_decide_eq_true (by first | (with_reducible assumption) | assumption)
                        have q146 : x6_2 < (t136.length : Int) := of_decide_eq_true (by first | (with_reducible assumption) | assumption)
                        obtain ⟨ad146, A146_10, c146_10, e146, hx146_0, hx146_1, hx146_2, hx146_3, hx146_4, hx146_5, hx146_6, hx146_7, hx146_8, hx146_9, hx146_10, hx146_11, hx146_12, hl146_10, hi146_10⟩ := at_T35 (Kd.V_reads' HO_4.out).2.2 x6_2 p146 q146
                        cases e146
                        obtain ⟨ce146, hce146, hMe146, hcc146⟩ := Kd.V_get HO_4.out z35 x6_2 p146 (by first | exact q146 | exact of_decide_eq_true (by first | (with_reducible assumption) | assumption) | (have e_ := (Kd.V_reads' HO_4.out).1; omega))
                        obtain ⟨ua146_10, uc146_10, rfl, ul146_10, ge146_10⟩ := k35_openF hMe146
                        have hv146_10 := hcc146 10 _ rfl
                        rw [add_field _ _ 10 (by omega)] at hv146_10
                        replace hv146_10 := Option.some.inj (hv146_10.symm.trans hx146_10)
                        injection hv146_10 with hva_ hvn_ hvc_
                        rw [hva_] at ge146_10
                        rw [hvc_] at ul146_10
                        have HL146_10 := Aside0.mk (show Kd.V k104 104 _ w.heap.size _ _ ((rd_T35 t136 x6_2).f2.f4) from Kd.V_mk ul146_10 ge146_10)
                        clear hva_ hvn_ hvc_ ge146_10 ul146_10
                        clear hcc146 hce146
                        have HR146_10 := Aside0.mk hi146_10
                        have HC146_10 := Aside0.mk hl146_10
                        clear hi146_10 hl146_10
                        replace p146 := eq_true p146
                        replace q146 := eq_true q146
                        refine start_ (n := 10) (S := fun w' => w'.cell? (ad145.add ((x6_2).toNat * 13)) = some (.int .i64 ((rd_T35 t133 x6_2).f0)) ∧ w'.cell? ⟨(ad145.add ((x6_2).toNat * 13)).block, (ad145.add ((x6_2).toNat * 13)).off + 1, none⟩ = some (.int .i64 ((rd_T35 t133 x6_2).f1.f0)) ∧ w'.cell? ⟨(ad145.add ((x6_2).toNat * 13)).block, (ad145.add ((x6_2).toNat * 13)).off + 2, none⟩ = some (.int .i64 ((rd_T35 t133 x6_2).f1.f1)) ∧ w'.cell? ⟨(ad145.add ((x6_2).toNat * 13)).block, (ad145.add ((x6_2).toNat * 13)).off + 3, none⟩ = some (.int .i64 ((rd_T35 t133 x6_2).f1.f2)) ∧ w'.cell? ⟨(ad145.add ((x6_2).toNat * 13)).block, (ad145.add ((x6_2).toNat * 13)).off + 4, none⟩ = some (.int .i64 ((rd_T35 t133 x6_2).f1.f3)) ∧ w'.cell? ⟨(ad145.add ((x6_2).toNat * 13)).block, (ad145.add ((x6_2).toNat * 13)).off + 5, none⟩ = some (.int .i64 ((rd_T35 t133 x6_2).f1.f4)) ∧ w'.cell? ⟨(ad145.add ((x6_2).toNat * 13)).block, (ad145.add ((x6_2).toNat * 13)).off + 6, none⟩ = some (.int .i64 ((rd_T35 t133 x6_2).f2.f0)) ∧ w'.cell? ⟨(ad145.add ((x6_2).toNat * 13)).block, (ad145.add ((x6_2).toNat * 13)).off + 7, none⟩ = some (.int .i64 ((rd_T35 t133 x6_2).f2.f1)) ∧ w'.cell? ⟨(ad145.add ((x6_2).toNat * 13)).block, (ad145.add ((x6_2).toNat * 13)).off + 8, none⟩ = some (.int .i64 ((rd_T35 t133 x6_2).f2.f2)) ∧ w'.cell? ⟨(ad145.add ((x6_2).toNat * 13)).block, (ad145.add ((x6_2).toNat * 13)).off + 9, none⟩ = some (.int .i64 ((rd_T35 t133 x6_2).f2.f3)) ∧ w'.cell? ⟨(ad145.add ((x6_2).toNat * 13)).block, (ad145.add ((x6_2).toNat * 13)).off + 10, none⟩ = some (.slice A145_10 ((rd_T35 t133 x6_2).f2.f4).length c145_10) ∧ w'.cell? ⟨(ad145.add ((x6_2).toNat * 13)).block, (ad145.add ((x6_2).toNat * 13)).off + 11, none⟩ = some (.int .i64 ((rd_T35 t133 x6_2).f3)) ∧ w'.cell? ⟨(ad145.add ((x6_2).toNat * 13)).block, (ad145.add ((x6_2).toNat * 13)).off + 12, none⟩ = some (.int .i64 ((rd_T35 t133 x6_2).f4)) ∧ w'.cell? (ad146.add ((x6_2).toNat * 13)) = some (.int .i64 ((rd_T35 t136 x6_2).f0)) ∧ w'.cell? ⟨(ad146.add ((x6_2).toNat * 13)).block, (ad146.add ((x6_2).toNat * 13)).off + 1, none⟩ = some (.int .i64 ((rd_T35 t136 x6_2).f1.f0)) ∧ w'.cell? ⟨(ad146.add ((x6_2).toNat * 13)).block, (ad146.add ((x6_2).toNat * 13)).off + 2, none⟩ = some (.int .i64 ((rd_T35 t136 x6_2).f1.f1)) ∧ w'.cell? ⟨(ad146.add ((x6_2).toNat * 13)).block, (ad146.add ((x6_2).toNat * 13)).off + 3, none⟩ = some (.int .i64 ((rd_T35 t136 x6_2).f1.f2)) ∧ w'.cell? ⟨(ad146.add ((x6_2).toNat * 13)).block, (ad146.add ((x6_2).toNat * 13)).off + 4, none⟩ = some (.int .i64 ((rd_T35 t136 x6_2).f1.f3)) ∧ w'.cell? ⟨(ad146.add ((x6_2).toNat * 13)).block, (ad146.add ((x6_2).toNat * 13)).off + 5, none⟩ = some (.int .i64 ((rd_T35 t136 x6_2).f1.f4)) ∧ w'.cell? ⟨(ad146.add ((x6_2).toNat * 13)).block, (ad146.add ((x6_2).toNat * 13)).off + 6, none⟩ = some (.int .i64 ((rd_T35 t136 x6_2).f2.f0)) ∧ w'.cell? ⟨(ad146.add ((x6_2).toNat * 13)).block, (ad146.add ((x6_2).toNat * 13)).off + 7, none⟩ = some (.int .i64 ((rd_T35 t136 x6_2).f2.f1)) ∧ w'.cell? ⟨(ad146.add ((x6_2).toNat * 13)).block, (ad146.add ((x6_2).toNat * 13)).off + 8, none⟩ = some (.int .i64 ((rd_T35 t136 x6_2).f2.f2)) ∧ w'.cell? ⟨(ad146.add ((x6_2).toNat * 13)).block, (ad146.add ((x6_2).toNat * 13)).off + 9, none⟩ = some (.int .i64 ((rd_T35 t136 x6_2).f2.f3)) ∧ w'.cell? ⟨(ad146.add ((x6_2).toNat * 13)).block, (ad146.add ((x6_2).toNat * 13)).off + 10, none⟩ = some (.slice A146_10 ((rd_T35 t136 x6_2).f2.f4).length c146_10) ∧ w'.cell? ⟨(ad146.add ((x6_2).toNat * 13)).block, (ad146.add ((x6_2).toNat * 13)).off + 11, none⟩ = some (.int .i64 ((rd_T35 t136 x6_2).f3)) ∧ w'.cell? ⟨(ad146.add ((x6_2).toNat * 13)).block, (ad146.add ((x6_2).toNat * 13)).off + 12, none⟩ = some (.int .i64 ((rd_T35 t136 x6_2).f4))) (ds := []) #[false, false, false, false, false, false, false, false, false, false] (by kernel_rfl) rfl rfl ⟨hx145_0, hx145_1, hx145_2, hx145_3, hx145_4, hx145_5, hx145_6, hx145_7, hx145_8, hx145_9, hx145_10, hx145_11, hx145_12, hx146_0, hx146_1, hx146_2, hx146_3, hx146_4, hx146_5, hx146_6, hx146_7, hx146_8, hx146_9, hx146_10, hx146_11, hx146_12⟩ (fun hHeld => ?_); refine with_tabW deadwoodlaw11_HistOpers.tab10 deadwoodlaw11_HistOpers.bits10 (fun HT_ HW_ => ?_)
                        generalize wr.drew = w37 at HO_3 HO_4 HB HL145_10 HL146_10 HR145_10 HR146_10 hx145_0 hx145_1 hx145_10 hx145_11 hx145_12 hx145_2 hx145_3 hx145_4 hx145_5 hx145_6 hx145_7 hx145_8 hx145_9 hx146_0 hx146_1 hx146_10 hx146_11 hx146_12 hx146_2 hx146_3 hx146_4 hx146_5 hx146_6 hx146_7 hx146_8 hx146_9 hHeld ⊢
                        refine pure_ (i := 0) (N := some 39) (v := ?_) (a' := ?_) #[true, false, false, false, false, false, false, false, false, false] rfl rfl (any_of HT_.out (by kernel_rfl)) (fun _ _ _ h => h) (Or.inl ⟨by rfl, ?_⟩) ?_ ?_
                        rotate_left
                        · intro w'
                          go_simp
                          with_reducible rfl
                        rotate_left
                        · simp only [Act.put, List.setIfInBounds_toArray, List.set_cons_zero, List.set_cons_succ, i64_w, i32_w]
                          rfl
                        refine pure_ (i := 1) (N := some 40) (v := ?_) (a' := ?_) #[true, true, false, false, false, false, false, false, false, false] rfl rfl (any_of HT_.out (by kernel_rfl)) (fun _ _ _ h => h) (Or.inl ⟨by rfl, ?_⟩) ?_ ?_
                        rotate_left
                        · intro w'
                          go_simp
                          with_reducible rfl
                        rotate_left
                        · simp only [Act.put, List.setIfInBounds_toArray, List.set_cons_zero, List.set_cons_succ, i64_w, i32_w]
                          rfl
                        refine pure_ (i := 2) (N := some 41) (v := ?_) (a' := ?_) #[true, true, true, false, false, false, false, false, false, false] rfl rfl (any_of HT_.out (by kernel_rfl)) (fun _ _ _ h => h) (Or.inl ⟨by rfl, ?_⟩) ?_ ?_
                        rotate_left
                        · intro w'
                          go_simp
                          with_reducible rfl
                        rotate_left
                        · simp only [Act.put, List.setIfInBounds_toArray, List.set_cons_zero, List.set_cons_succ, i64_w, i32_w]
                          rfl
                        refine pure_ (i := 4) (N := some 43) (v := ?_) (a' := ?_) #[true, true, true, false, true, false, false, false, false, false] rfl rfl (any_of HT_.out (by kernel_rfl)) (fun _ _ _ h => h) (Or.inl ⟨by rfl, ?_⟩) ?_ ?_
                        rotate_left
                        · intro w'
                          go_simp
                          with_reducible rfl
                        rotate_left
                        · simp only [Act.put, List.setIfInBounds_toArray, List.set_cons_zero, List.set_cons_succ, i64_w, i32_w]
                          rfl
                        refine pure_ (i := 5) (N := some 44) (v := ?_) (a' := ?_) #[true, true, true, false, true, true, false, false, false, false] rfl rfl (any_of HT_.out (by kernel_rfl)) (fun _ _ _ h => h) (Or.inl ⟨by rfl, ?_⟩) ?_ ?_
                        rotate_left
                        · intro w'
                          go_simp
                          with_reducible rfl
                        rotate_left
                        · simp only [Act.put, List.setIfInBounds_toArray, List.set_cons_zero, List.set_cons_succ, i64_w, i32_w]
                          rfl
                        refine pure_ (i := 6) (N := some 45) (v := ?_) (a' := ?_) #[true, true, true, false, true, true, true, false, false, false] rfl rfl (any_of HT_.out (by kernel_rfl)) (fun _ _ _ h => h) (Or.inl ⟨by rfl, ?_⟩) ?_ ?_
                        rotate_left
                        · intro w'
                          go_simp
                          with_reducible rfl
                        rotate_left
                        · simp only [Act.put, List.setIfInBounds_toArray, List.set_cons_zero, List.set_cons_succ, i64_w, i32_w]
                          rfl
                        refine take_ (i := 3) (N := some 42) (v := ?_) (a' := ?_) #[true, true, true, true, true, true, true, false, false, false] rfl rfl (take_ofW HT_.out HW_.out (by kernel_rfl)) (fun _ _ _ h => h) (Or.inl ⟨by rfl, ?_⟩) hHeld ?_ ?_
                        rotate_left
                        · rintro w' ⟨s0, s1, s2, s3, s4, s5, s6, s7, s8, s9, s10, s11, s12, s13, s14, s15, s16, s17, s18, s19, s20, s21, s22, s23, s24, s25⟩
                          go_simp
                          with_reducible rfl
                        rotate_left
                        · simp only [Act.put, List.setIfInBounds_toArray, List.set_cons_zero, List.set_cons_succ, i64_w, i32_w]
                          rfl
                        refine take_ (i := 7) (N := some 46) (v := ?_) (a' := ?_) #[true, true, true, true, true, true, true, true, false, false] rfl rfl (take_ofW HT_.out HW_.out (by kernel_rfl)) (fun _ _ _ h => h) (Or.inl ⟨by rfl, ?_⟩) hHeld ?_ ?_
                        rotate_left
                        · rintro w' ⟨s0, s1, s2, s3, s4, s5, s6, s7, s8, s9, s10, s11, s12, s13, s14, s15, s16, s17, s18, s19, s20, s21, s22, s23, s24, s25⟩
                          go_simp
                          with_reducible rfl
                        rotate_left
                        · simp only [Act.put, List.setIfInBounds_toArray, List.set_cons_zero, List.set_cons_succ, i64_w, i32_w]
                          rfl
                        refine one_ (i := 8) (N := some 47) #[true, true, true, true, true, true, true, true, true, false] rfl rfl (one_of HT_.out (by kernel_rfl)) (by decide) (fun K hK => ?_)
                        refine goes_ Try.func21 (by kernel_rfl) rfl #[.agg #[.int .i64 ((rd_T35 t133 x6_2).f0), .int .i64 ((rd_T35 t133 x6_2).f1.f0), .int .i64 ((rd_T35 t133 x6_2).f1.f1), .int .i64 ((rd_T35 t133 x6_2).f1.f2), .int .i64 ((rd_T35 t133 x6_2).f1.f3), .int .i64 ((rd_T35 t133 x6_2).f1.f4), .int .i64 ((rd_T35 t133 x6_2).f2.f0), .int .i64 ((rd_T35 t133 x6_2).f2.f1), .int .i64 ((rd_T35 t133 x6_2).f2.f2), .int .i64 ((rd_T35 t133 x6_2).f2.f3), .slice A145_10 ((rd_T35 t133 x6_2).f2.f4).length c145_10, .int .i64 ((rd_T35 t133 x6_2).f3), .int .i64 ((rd_T35 t133 x6_2).f4)], .agg #[.int .i64 ((rd_T35 t136 x6_2).f0), .int .i64 ((rd_T35 t136 x6_2).f1.f0), .int .i64 ((rd_T35 t136 x6_2).f1.f1), .int .i64 ((rd_T35 t136 x6_2).f1.f2), .int .i64 ((rd_T35 t136 x6_2).f1.f3), .int .i64 ((rd_T35 t136 x6_2).f1.f4), .int .i64 ((rd_T35 t136 x6_2).f2.f0), .int .i64 ((rd_T35 t136 x6_2).f2.f1), .int .i64 ((rd_T35 t136 x6_2).f2.f2), .int .i64 ((rd_T35 t136 x6_2).f2.f3), .slice A146_10 ((rd_T35 t136 x6_2).f2.f4).length c146_10, .int .i64 ((rd_T35 t136 x6_2).f3), .int .i64 ((rd_T35 t136 x6_2).f4)]] (by rfl) rfl rfl (by (try simp only [List.map_toArray, List.map_cons, List.map_nil]); first | done | rfl | (simp only [List.length_drop, List.length_take]; rfl)) ?_
                        with_reducible refine (deadwoodref11_Same.calls k2 ((rd_T35 t133 x6_2).f0) ((rd_T35 t133 x6_2).f1.f0) ((rd_T35 t133 x6_2).f1.f1) ((rd_T35 t133 x6_2).f1.f2) ((rd_T35 t133 x6_2).f1.f3) ((rd_T35 t133 x6_2).f1.f4) ((rd_T35 t133 x6_2).f2.f0) ((rd_T35 t133 x6_2).f2.f1) ((rd_T35 t133 x6_2).f2.f2) ((rd_T35 t133 x6_2).f2.f3) _ _ ((rd_T35 t133 x6_2).f2.f4) ((rd_T35 t133 x6_2).f3) ((rd_T35 t133 x6_2).f4) ((rd_T35 t136 x6_2).f0) ((rd_T35 t136 x6_2).f1.f0) ((rd_T35 t136 x6_2).f1.f1) ((rd_T35 t136 x6_2).f1.f2) ((rd_T35 t136 x6_2).f1.f3) ((rd_T35 t136 x6_2).f1.f4) ((rd_T35 t136 x6_2).f2.f0) ((rd_T35 t136 x6_2).f2.f1) ((rd_T35 t136 x6_2).f2.f2) ((rd_T35 t136 x6_2).f2.f3) _ _ ((rd_T35 t136 x6_2).f2.f4) ((rd_T35 t136 x6_2).f3) ((rd_T35 t136 x6_2).f4) true _ ?side1 ?side2 ?side3 ?side4 A29.out).mono ?_
                        (case side1 => repeat (first | exact (by repeat (first | (with_reducible exact HR145_10.out) | (with_reducible refine Kd.C_alloc ?_ _) | (with_reducible refine Kd.C_drewN ?_ _) | (with_reducible refine Kd.C_drew ?_) | exact HR145_10.out)) | (with_reducible refine Kd.C_alloc ?_ _) | (with_reducible refine Kd.C_drewN ?_ _) | (with_reducible refine Kd.C_drew ?_)))
                        (case side2 => exact HC145_10.out)
                        (case side3 => repeat (first | exact (by repeat (first | (with_reducible exact HR146_10.out) | (with_reducible refine Kd.C_alloc ?_ _) | (with_reducible refine Kd.C_drewN ?_ _) | (with_reducible refine Kd.C_drew ?_) | exact HR146_10.out)) | (with_reducible refine Kd.C_alloc ?_ _) | (with_reducible refine Kd.C_drewN ?_ _) | (with_reducible refine Kd.C_drew ?_)))
                        (case side4 => exact HC146_10.out)
                        rintro e w39 ⟨rfl, hb⟩
                        have HS0_ := (hb.cell (World.block_lt_of_cell? _ _ (hHeld.1))).trans (hHeld.1)
                        have HS1_ := (hb.cell (World.block_lt_of_cell? _ _ (hHeld.2.1))).trans (hHeld.2.1)
                        have HS2_ := (hb.cell (World.block_lt_of_cell? _ _ (hHeld.2.2.1))).trans (hHeld.2.2.1)
                        have HS3_ := (hb.cell (World.block_lt_of_cell? _ _ (hHeld.2.2.2.1))).trans (hHeld.2.2.2.1)
                        have HS4_ := (hb.cell (World.block_lt_of_cell? _ _ (hHeld.2.2.2.2.1))).trans (hHeld.2.2.2.2.1)
                        have HS5_ := (hb.cell (World.block_lt_of_cell? _ _ (hHeld.2.2.2.2.2.1))).trans (hHeld.2.2.2.2.2.1)
                        have HS6_ := (hb.cell (World.block_lt_of_cell? _ _ (hHeld.2.2.2.2.2.2.1))).trans (hHeld.2.2.2.2.2.2.1)
                        have HS7_ := (hb.cell (World.block_lt_of_cell? _ _ (hHeld.2.2.2.2.2.2.2.1))).trans (hHeld.2.2.2.2.2.2.2.1)
                        have HS8_ := (hb.cell (World.block_lt_of_cell? _ _ (hHeld.2.2.2.2.2.2.2.2.1))).trans (hHeld.2.2.2.2.2.2.2.2.1)
                        have HS9_ := (hb.cell (World.block_lt_of_cell? _ _ (hHeld.2.2.2.2.2.2.2.2.2.1))).trans (hHeld.2.2.2.2.2.2.2.2.2.1)
                        have HS10_ := (hb.cell (World.block_lt_of_cell? _ _ (hHeld.2.2.2.2.2.2.2.2.2.2.1))).trans (hHeld.2.2.2.2.2.2.2.2.2.2.1)
                        have HS11_ := (hb.cell (World.block_lt_of_cell? _ _ (hHeld.2.2.2.2.2.2.2.2.2.2.2.1))).trans (hHeld.2.2.2.2.2.2.2.2.2.2.2.1)
                        have HS12_ := (hb.cell (World.block_lt_of_cell? _ _ (hHeld.2.2.2.2.2.2.2.2.2.2.2.2.1))).trans (hHeld.2.2.2.2.2.2.2.2.2.2.2.2.1)
                        have HS13_ := (hb.cell (World.block_lt_of_cell? _ _ (hHeld.2.2.2.2.2.2.2.2.2.2.2.2.2.1))).trans (hHeld.2.2.2.2.2.2.2.2.2.2.2.2.2.1)
                        have HS14_ := (hb.cell (World.block_lt_of_cell? _ _ (hHeld.2.2.2.2.2.2.2.2.2.2.2.2.2.2.1))).trans (hHeld.2.2.2.2.2.2.2.2.2.2.2.2.2.2.1)
                        have HS15_ := (hb.cell (World.block_lt_of_cell? _ _ (hHeld.2.2.2.2.2.2.2.2.2.2.2.2.2.2.2.1))).trans (hHeld.2.2.2.2.2.2.2.2.2.2.2.2.2.2.2.1)
                        have HS16_ := (hb.cell (World.block_lt_of_cell? _ _ (hHeld.2.2.2.2.2.2.2.2.2.2.2.2.2.2.2.2.1))).trans (hHeld.2.2.2.2.2.2.2.2.2.2.2.2.2.2.2.2.1)
                        have HS17_ := (hb.cell (World.block_lt_of_cell? _ _ (hHeld.2.2.2.2.2.2.2.2.2.2.2.2.2.2.2.2.2.1))).trans (hHeld.2.2.2.2.2.2.2.2.2.2.2.2.2.2.2.2.2.1)
                        have HS18_ := (hb.cell (World.block_lt_of_cell? _ _ (hHeld.2.2.2.2.2.2.2.2.2.2.2.2.2.2.2.2.2.2.1))).trans (hHeld.2.2.2.2.2.2.2.2.2.2.2.2.2.2.2.2.2.2.1)
                        have HS19_ := (hb.cell (World.block_lt_of_cell? _ _ (hHeld.2.2.2.2.2.2.2.2.2.2.2.2.2.2.2.2.2.2.2.1))).trans (hHeld.2.2.2.2.2.2.2.2.2.2.2.2.2.2.2.2.2.2.2.1)
                        have HS20_ := (hb.cell (World.block_lt_of_cell? _ _ (hHeld.2.2.2.2.2.2.2.2.2.2.2.2.2.2.2.2.2.2.2.2.1))).trans (hHeld.2.2.2.2.2.2.2.2.2.2.2.2.2.2.2.2.2.2.2.2.1)
                        have HS21_ := (hb.cell (World.block_lt_of_cell? _ _ (hHeld.2.2.2.2.2.2.2.2.2.2.2.2.2.2.2.2.2.2.2.2.2.1))).trans (hHeld.2.2.2.2.2.2.2.2.2.2.2.2.2.2.2.2.2.2.2.2.2.1)
                        have HS22_ := (hb.cell (World.block_lt_of_cell? _ _ (hHeld.2.2.2.2.2.2.2.2.2.2.2.2.2.2.2.2.2.2.2.2.2.2.1))).trans (hHeld.2.2.2.2.2.2.2.2.2.2.2.2.2.2.2.2.2.2.2.2.2.2.1)
                        have HS23_ := (hb.cell (World.block_lt_of_cell? _ _ (hHeld.2.2.2.2.2.2.2.2.2.2.2.2.2.2.2.2.2.2.2.2.2.2.2.1))).trans (hHeld.2.2.2.2.2.2.2.2.2.2.2.2.2.2.2.2.2.2.2.2.2.2.2.1)
                        have HS24_ := (hb.cell (World.block_lt_of_cell? _ _ (hHeld.2.2.2.2.2.2.2.2.2.2.2.2.2.2.2.2.2.2.2.2.2.2.2.2.1))).trans (hHeld.2.2.2.2.2.2.2.2.2.2.2.2.2.2.2.2.2.2.2.2.2.2.2.2.1)
                        have HS25_ := (hb.cell (World.block_lt_of_cell? _ _ (hHeld.2.2.2.2.2.2.2.2.2.2.2.2.2.2.2.2.2.2.2.2.2.2.2.2.2))).trans (hHeld.2.2.2.2.2.2.2.2.2.2.2.2.2.2.2.2.2.2.2.2.2.2.2.2.2)
                        refine ⟨_, rfl, ?_⟩
                        have n0_ := Aside0.mk (Kd.V_below (by (with_reducible repeat (first | apply Kd.V_alloc | apply Kd.V_drewN | apply Kd.V_drew)); exact HO_3.out) hb)
                        have n1_ := Aside0.mk (Kd.V_below (by (with_reducible repeat (first | apply Kd.V_alloc | apply Kd.V_drewN | apply Kd.V_drew)); exact HO_4.out) hb)
                        have n2_ := Aside0.mk (Kd.V_below (by (with_reducible repeat (first | apply Kd.V_alloc | apply Kd.V_drewN | apply Kd.V_drew)); exact HL145_10.out) hb)
                        have n3_ := Aside0.mk (Kd.V_below (by (with_reducible repeat (first | apply Kd.V_alloc | apply Kd.V_drewN | apply Kd.V_drew)); exact HL146_10.out) hb)
                        have n4_ := Aside0.mk (Kd.C_below (by repeat (first | (with_reducible exact HR145_10.out) | (with_reducible refine Kd.C_alloc ?_ _) | (with_reducible refine Kd.C_drewN ?_ _) | (with_reducible refine Kd.C_drew ?_) | exact HR145_10.out)) hb)
                        have n5_ := Aside0.mk (Kd.C_below (by repeat (first | (with_reducible exact HR146_10.out) | (with_reducible refine Kd.C_alloc ?_ _) | (with_reducible refine Kd.C_drewN ?_ _) | (with_reducible refine Kd.C_drew ?_) | exact HR146_10.out)) hb)
                        have n6_ := Aside0.mk (below_step (by repeat (first | (with_reducible first | exact HB.out | apply below_alloc | apply pw_below_drewN | apply below_drew1) | exact HB.out)) hb)
                        clear HO_3
                        clear HO_4
                        clear HL145_10
                        clear HL146_10
                        clear HR145_10
                        clear HR146_10
                        clear HB
                        have HO_3 := n0_
                        have HO_4 := n1_
                        have HL145_10 := n2_
                        have HL146_10 := n3_
                        have HR145_10 := n4_
                        have HR146_10 := n5_
                        have HB := n6_
                        clear n0_ n1_ n2_ n3_ n4_ n5_ n6_
                        (try clear hb)
                        (try clear hb2)
                        (try clear hk)
                        (try clear hi)
                        refine hK.out _ _ ⟨HS0_, HS1_, HS2_, HS3_, HS4_, HS5_, HS6_, HS7_, HS8_, HS9_, HS10_, HS11_, HS12_, HS13_, HS14_, HS15_, HS16_, HS17_, HS18_, HS19_, HS20_, HS21_, HS22_, HS23_, HS24_, HS25_⟩ (fun hHeld => ?_)
                        clear hK K
                        refine norm_ (a' := ?_) ?_ ?_
                        rotate_left
                        · show Act.put _ (some 47) _ = _
                          simp only [Act.put, List.setIfInBounds_toArray, List.set_cons_zero, List.set_cons_succ, i64_w, i32_w]
                          rfl
                        refine pure_ (i := 9) (N := some 48) (v := ?_) (a' := ?_) #[true, true, true, true, true, true, true, true, true, true] rfl rfl (any_of HT_.out (by kernel_rfl)) (fun _ _ _ h => h) (Or.inl ⟨by rfl, ?_⟩) ?_ ?_
                        rotate_left
                        · intro w'
                          go_simp
                          with_reducible rfl
                        rotate_left
                        · simp only [Act.put, List.setIfInBounds_toArray, List.set_cons_zero, List.set_cons_succ, i64_w, i32_w]
                          rfl
                        refine done_ (done_of HT_.out (by kernel_rfl)) ?_
                        have p148 : 0 ≤ (x6_2 : Int) := of_decide_eq_true (by first | (with_reducible assumption) | assumption)
                        have q148 : x6_2 < (t136.length : Int) := of_decide_eq_true (by first | (with_reducible assumption) | assumption)
                        obtain ⟨ad148, A148_10, c148_10, e148, hx148_0, hx148_1, hx148_2, hx148_3, hx148_4, hx148_5, hx148_6, hx148_7, hx148_8, hx148_9, hx148_10, hx148_11, hx148_12, hl148_10, hi148_10⟩ := at_T35 (Kd.V_reads' HO_4.out).2.2 x6_2 p148 q148
                        obtain rfl : ad146 = ad148 := (by injection e148)
                        obtain ⟨ce148, hce148, hMe148, hcc148⟩ := Kd.V_get HO_4.out z35 x6_2 p148 (by first | exact q148 | exact of_decide_eq_true (by first | (with_reducible assumption) | assumption) | (have e_ := (Kd.V_reads' HO_4.out).1; omega))
                        obtain ⟨ua148_10, uc148_10, rfl, ul148_10, ge148_10⟩ := k35_openF hMe148
                        have hv148_10 := hcc148 10 _ rfl
                        rw [add_field _ _ 10 (by omega)] at hv148_10
                        replace hv148_10 := Option.some.inj (hv148_10.symm.trans hx148_10)
                        injection hv148_10 with hva_ hvn_ hvc_
                        rw [hva_] at ge148_10
                        rw [hvc_] at ul148_10
                        have HL148_10 := Aside0.mk (show Kd.V k104 104 _ w.heap.size _ _ ((rd_T35 t136 x6_2).f2.f4) from Kd.V_mk ul148_10 ge148_10)
                        clear hva_ hvn_ hvc_ ge148_10 ul148_10
                        clear hcc148 hce148
                        have HR148_10 := Aside0.mk hi148_10
                        have HC148_10 := Aside0.mk hl148_10
                        clear hi148_10 hl148_10
                        replace p148 := eq_true p148
                        replace q148 := eq_true q148
                        try go_wp2
                        go_roundg k2
                        case measure => have := HJ7.out; have := HK2.out; omega
                        case rel => exact ⟨(x5_2), (wrap64 (x6_2 + 1)), (by first | rfl | (simp; done) | (simp [*]; done)), (by first | rfl | (simp; done) | (simp [*]; done)), H', ⟨by have := HJ7.out; have := HK2.out; omega⟩, ⟨by (with_reducible repeat (first | apply Kd.V_alloc | apply Kd.V_drewN | apply Kd.V_drew)); exact HO_3.out⟩, ⟨by (with_reducible repeat (first | apply Kd.V_alloc | apply Kd.V_drewN | apply Kd.V_drew)); exact HO_4.out⟩, ⟨by repeat (first | (with_reducible first | exact HB.out | apply below_alloc | apply pw_below_drewN | apply below_drew1) | exact HB.out)⟩⟩
                    · replace c30 := Bool.eq_false_iff.mpr c30
                      subst c30
                      have H1 : (some false) = some r := by rw [if_neg (show ¬ (false = true) by decide)] at H; exact H
                      clear H
                      have H := H1
                      clear H1
                      exact absurd (Option.some.inj H) (by rw [HRT.out]; decide)
                  · rw [if_neg c28] at H
                    exact absurd H (by simp)
                · rw [if_neg c27] at H
                  exact absurd H (by simp)
              · rw [if_neg c26] at H
                have c26b0 : decide (x6_2 < (t133.length : Int)) = false := decide_eq_false c26
                clear c26
                replace H := Option.bind_eq_some_iff.mp H
                obtain ⟨t143, A400, H⟩ := H
                replace H : (if t143 = x5_2 then ((deadwoodlaw11_lives.f).bind fun t144 => (some t144)) else (some false)) = some r := H
                have A40 := Aside0.mk A400
                clear A400
                by_cases c41 : t143 = x5_2
                · rw [if_pos c41] at H
                  have c41b0 : (t143 == x5_2) = true := beq_iff_eq.mpr c41
                  have c41b1 : (t143 != x5_2) = false := bne_eq_false_iff_eq.mpr c41
                  clear c41
                  replace H := Option.bind_eq_some_iff.mp H
                  obtain ⟨t144, A420, H⟩ := H
                  replace H : (some t144) = some r := H
                  have A42 := Aside0.mk A420
                  clear A420
                  obtain rfl := Option.some.inj H
                  obtain ⟨Ao43, co43, eo43⟩ := Kd.V_slice HO_3.out
                  subst eo43
                  go_wp2_with (first | ((with_reducible refine gate_callee (f := 38) rfl ?_); refine goesL_ (some 58) rfl rfl Try.func38 (by kernel_rfl) rfl #[.slice A0 l0.length c0] rfl (by (try simp only [List.map_toArray, List.map_cons, List.map_nil]); first | done | rfl | (simp only [List.length_drop, List.length_take]; rfl)) ?_; (with_reducible refine (hist_Open.calls k2 _ _ l0 t143 _ ?side1 ?side2 A40.out).mono ?_); (case side1 => repeat (first | exact (Kd.C_below HR0.out HB.out) | (with_reducible refine Kd.C_alloc ?_ _) | (with_reducible refine Kd.C_drewN ?_ _) | (with_reducible refine Kd.C_drew ?_))); (case side2 => exact HC0.out); rintro e w44 ⟨rfl, hb⟩; refine ⟨_, rfl, ?_⟩; have n0_ := Aside0.mk (Kd.V_below (by (with_reducible repeat (first | apply Kd.V_alloc | apply Kd.V_drewN | apply Kd.V_drew)); exact HO_3.out) hb); have n1_ := Aside0.mk (Kd.V_below (by (with_reducible repeat (first | apply Kd.V_alloc | apply Kd.V_drewN | apply Kd.V_drew)); exact HO_4.out) hb); have n2_ := Aside0.mk (below_step (by repeat (first | (with_reducible first | exact HB.out | apply below_alloc | apply pw_below_drewN | apply below_drew1) | exact HB.out)) hb); clear HO_3; clear HO_4; clear HB; have HO_3 := n0_; have HO_4 := n1_; have HB := n2_; clear n0_ n1_ n2_; (try clear hb); (try clear hb2); (try clear hk); (try clear hi)) | (go_at_call 15; (with_reducible refine (deadwoodlaw11_lives.calls  t144 _ A42.out).mono ?_); rintro e w45 ⟨rfl, hb⟩; have n0_ := Aside0.mk (Kd.V_below (by (with_reducible repeat (first | apply Kd.V_alloc | apply Kd.V_drewN | apply Kd.V_drew)); exact HO_3.out) hb); have n1_ := Aside0.mk (Kd.V_below (by (with_reducible repeat (first | apply Kd.V_alloc | apply Kd.V_drewN | apply Kd.V_drew)); exact HO_4.out) hb); have n2_ := Aside0.mk (below_step (by repeat (first | (with_reducible first | exact HB.out | apply below_alloc | apply pw_below_drewN | apply below_drew1) | exact HB.out)) hb); clear HO_3; clear HO_4; clear HB; have HO_3 := n0_; have HO_4 := n1_; have HB := n2_; clear n0_ n1_ n2_; (try clear hb); (try clear hb2); (try clear hk); (try clear hi)))
                  go_ret
                  exact ⟨by first | rfl | (simp [errW_none, errW_some] <;> rfl) | (simp [*, errW_none, errW_some] <;> rfl), by repeat (first | (with_reducible first | exact HB.out | apply below_alloc | apply pw_below_drewN | apply below_drew1) | exact HB.out)⟩
                · rw [if_neg c41] at H
                  have c41b0 : (t143 == x5_2) = false := beq_eq_false_iff_ne.mpr c41
                  have c41b1 : (t143 != x5_2) = true := bne_iff_ne.mpr c41
                  exact absurd (Option.some.inj H) (by rw [HRT.out]; decide)

/-- What is known of a value of type 28 that came in. -/
def ok28 (x : S28) : Prop := ((Lit.int .i64 x.f0).wf = true) ∧ ((Lit.int .i64 x.f1).wf = true) ∧ ((Lit.int .i64 x.f2).wf = true) ∧ ((Lit.int .i64 x.f3).wf = true) ∧ ((Lit.int .i64 x.f4).wf = true)
/-- What is known of a value of type 104 that came in. -/
def ok104 (x : S104) : Prop := ((Lit.int .i64 x.f0).wf = true) ∧ ((Lit.int .i64 x.f1).wf = true)
/-- What is known of a value of type 31 that came in. -/
def ok31 (x : S31) : Prop := ((Lit.int .i64 x.f0).wf = true) ∧ ((Lit.int .i64 x.f1).wf = true) ∧ ((Lit.int .i64 x.f2).wf = true) ∧ ((Lit.int .i64 x.f3).wf = true) ∧ (x.f4.length * 16 ≤ 140737488351232 ∧ ∀ a ∈ x.f4, ok104 a)
/-- What is known of a value of type 33 that came in. -/
def ok33 (x : S33) : Prop := ((Lit.int .i64 x.f0).wf = true) ∧ (True) ∧ (ok28 x.f2) ∧ (ok31 x.f3)
/-- The one pure statement of deadwoodlaw11_HistOpers. -/
def deadwoodlaw11_HistOpers.Pure : Prop := ∀ (l0 : List (S33)), (l0.length * 112 ≤ 140737488351232 ∧ ∀ a ∈ l0, ok33 a) → ∃ k, deadwoodlaw11_HistOpers.f k l0 = some true
theorem deadwoodlaw11_HistOpers.walk (P : deadwoodlaw11_HistOpers.Pure) (l0 : List (S33)) (A0 : Option Addr) (c0 : Nat) (w : World) (w0 : l0.length * 112 ≤ 140737488351232 ∧ ∀ a ∈ l0, ok33 a) (hr0 : Kd.C k33 w A0 l0.length l0) (hc0 : l0.length ≤ c0) :
    Calls Try.prog 6 #[.slice A0 l0.length c0] w fun e w' => e = .returned (.bool true) ∧ Below w.heap.size w w' := by
  obtain ⟨k, h⟩ := P l0 w0
  refine (deadwoodlaw11_HistOpers.calls k _ _ l0 true w hr0 hc0 rfl h).mono ?_
  rintro e w' ⟨rfl, hd⟩
  exact ⟨rfl, hd⟩

end Go.Proofs.Ytacajonkkfmibaa.PHistOpers
