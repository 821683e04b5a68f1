-- Printed by a program of this session (mkprint.py) out of the translation; Lean checks it.
import Derived.Test.YtdbenonbjklkdaaPEdgeKeepsx0
import Derived.Test.YtdbenonbjklkdaaPEdgeKeepsx1
namespace Go.Proofs.Ytdbenonbjklkdaa.PEdgeKeeps
open Go.RowKit Go.Proofs.YtdbenonbjklkdaaW.PrintWords Go.Proofs.YtdbenonbjklkdaaW.PrintLast Go.Proofs.YtdbenonbjklkdaaW.PrintMore
attribute [local go_sem] max2_int min2_int max_two min_two max_three min_three max_four min_four   -- for this text's walks alone
set_option linter.unusedVariables false
set_option linter.unusedSimpArgs false

/-! ### deadwoodlaw03_EdgeKeeps: function 12 -/
mutual
def deadwoodlaw03_EdgeKeeps.j0 : Nat → Int → Int → Bool → Option (Bool)
  | 0, _, _, _ => none
  | k + 1, x0, x4, x63 => if x63 = true then (some false) else ((edge_Edge_Slot.f x0).bind fun t141 => ((edge_Edge_Gen.f x0).bind fun t142 => ((edge_Make.f t141 t142).bind fun t143 => ((edge_Edge_Flag.f x0).bind fun t144 => (if t144 = true then ((edge_Edge_Flagged.f t143).bind fun t145 => (deadwoodlaw03_EdgeKeeps.j1 k x0 x4 t145)) else (deadwoodlaw03_EdgeKeeps.j1 k x0 x4 t143))))))
def deadwoodlaw03_EdgeKeeps.j1 : Nat → Int → Int → Int → Option (Bool)
  | 0, _, _, _ => none
  | k + 1, x0, x4, x6 => (edge_Edge_Tag.f x0).bind fun t146 => (if t146 = true then ((edge_Edge_Tagged.f x6).bind fun t147 => (deadwoodlaw03_EdgeKeeps.j2 k x0 x4 t147)) else (deadwoodlaw03_EdgeKeeps.j2 k x0 x4 x6))
def deadwoodlaw03_EdgeKeeps.j2 : Nat → Int → Int → Int → Option (Bool)
  | 0, _, _, _ => none
  | k + 1, x0, x4, x6 => if x6 = x0 then ((edge_Edge_Node.f x0).bind fun t148 => ((edge_Edge_Plain.f t148).bind fun t149 => (if t149 = true then ((edge_Edge_Plain.f x0).bind fun t150 => ((edge_Edge_Flag.f x0).bind fun t151 => (if t151 = true then (if (t150 == false) = true then (if x4 = (Go.bits .or .u64 x0 9223372036854775808) then ((deadwoodlaw03_lives.f).bind fun t152 => (some t152)) else (some false)) else (some false)) else ((edge_Edge_Tag.f x0).bind fun t153 => (if (t150 == (!t153)) = true then (if x4 = (Go.bits .or .u64 x0 9223372036854775808) then ((deadwoodlaw03_lives.f).bind fun t154 => (some t154)) else (some false)) else (some false)))))) else (some false)))) else (some false)
end
def deadwoodlaw03_EdgeKeeps.f (k : Nat) (a0 : Int) : Option (Bool) := (edge_Edge_Flagged.f a0).bind fun t126 => ((edge_Edge_Tagged.f a0).bind fun t127 => ((edge_Edge_Keep.f a0).bind fun t128 => ((edge_Edge_To.f t126 a0).bind fun t129 => (if t129 = true then ((edge_Edge_To.f t127 a0).bind fun t130 => (if t130 = true then ((edge_Edge_To.f t128 a0).bind fun t131 => (if t131 = true then ((edge_Edge_Flag.f t126).bind fun t132 => (if t132 = true then ((edge_Edge_Tag.f t126).bind fun t133 => ((edge_Edge_Tag.f a0).bind fun t134 => (if (t133 != t134) = true then (deadwoodlaw03_EdgeKeeps.j0 k a0 t127 true) else ((edge_Edge_Tag.f t127).bind fun t135 => (if t135 = true then ((edge_Edge_Flag.f t127).bind fun t136 => ((edge_Edge_Flag.f a0).bind fun t137 => (if (t136 != t137) = true then (deadwoodlaw03_EdgeKeeps.j0 k a0 t127 true) else ((edge_Edge_Tag.f t128).bind fun t138 => (if t138 = true then (deadwoodlaw03_EdgeKeeps.j0 k a0 t127 true) else ((edge_Edge_Flag.f t128).bind fun t139 => ((edge_Edge_Flag.f a0).bind fun t140 => (deadwoodlaw03_EdgeKeeps.j0 k a0 t127 (t139 != t140))))))))) else (deadwoodlaw03_EdgeKeeps.j0 k a0 t127 true)))))) else (deadwoodlaw03_EdgeKeeps.j0 k a0 t127 true))) else (deadwoodlaw03_EdgeKeeps.j0 k a0 t127 true))) else (deadwoodlaw03_EdgeKeeps.j0 k a0 t127 true))) else (deadwoodlaw03_EdgeKeeps.j0 k a0 t127 true)))))
theorem deadwoodlaw03_EdgeKeeps.mono_l : ∀ k, (∀ y0 y1 y2, LeO (deadwoodlaw03_EdgeKeeps.j0 k y0 y1 y2) (deadwoodlaw03_EdgeKeeps.j0 (k + 1) y0 y1 y2)) ∧ (∀ y0 y1 y2, LeO (deadwoodlaw03_EdgeKeeps.j1 k y0 y1 y2) (deadwoodlaw03_EdgeKeeps.j1 (k + 1) y0 y1 y2)) ∧ (∀ y0 y1 y2, LeO (deadwoodlaw03_EdgeKeeps.j2 k y0 y1 y2) (deadwoodlaw03_EdgeKeeps.j2 (k + 1) y0 y1 y2))
  | 0 => ⟨fun _ _ _ r h => by simp [deadwoodlaw03_EdgeKeeps.j0] at h, fun _ _ _ r h => by simp [deadwoodlaw03_EdgeKeeps.j1] at h, fun _ _ _ r h => by simp [deadwoodlaw03_EdgeKeeps.j2] at h⟩
  | k + 1 => by
    obtain ⟨ih0, ih1, ih2⟩ := deadwoodlaw03_EdgeKeeps.mono_l k
    refine ⟨?_, ?_, ?_⟩
    · intro y0 y1 y2
      unfold deadwoodlaw03_EdgeKeeps.j0
      repeat' first
      | (with_reducible exact ih0 _ _ _)
      | (with_reducible exact ih1 _ _ _)
      | (with_reducible exact ih2 _ _ _)
      | (with_reducible exact LeO.refl _)
      | (with_reducible exact LeO.none _)
      | (with_reducible refine LeO.ite ?_ ?_)
      | (with_reducible refine LeO.bind ?_ (fun _ => ?_))
      | exact ih0 _ _ _
      | exact ih1 _ _ _
      | exact ih2 _ _ _
      | exact LeO.none _
      | refine LeO.ite ?_ ?_
      | refine LeO.bind ?_ (fun _ => ?_)
    · intro y0 y1 y2
      unfold deadwoodlaw03_EdgeKeeps.j1
      repeat' first
      | (with_reducible exact ih0 _ _ _)
      | (with_reducible exact ih1 _ _ _)
      | (with_reducible exact ih2 _ _ _)
      | (with_reducible exact LeO.refl _)
      | (with_reducible exact LeO.none _)
      | (with_reducible refine LeO.ite ?_ ?_)
      | (with_reducible refine LeO.bind ?_ (fun _ => ?_))
      | exact ih0 _ _ _
      | exact ih1 _ _ _
      | exact ih2 _ _ _
      | exact LeO.none _
      | refine LeO.ite ?_ ?_
      | refine LeO.bind ?_ (fun _ => ?_)
    · intro y0 y1 y2
      unfold deadwoodlaw03_EdgeKeeps.j2
      repeat' first
      | (with_reducible exact ih0 _ _ _)
      | (with_reducible exact ih1 _ _ _)
      | (with_reducible exact ih2 _ _ _)
      | (with_reducible exact LeO.refl _)
      | (with_reducible exact LeO.none _)
      | (with_reducible refine LeO.ite ?_ ?_)
      | (with_reducible refine LeO.bind ?_ (fun _ => ?_))
      | exact ih0 _ _ _
      | exact ih1 _ _ _
      | exact ih2 _ _ _
      | exact LeO.none _
      | refine LeO.ite ?_ ?_
      | refine LeO.bind ?_ (fun _ => ?_)
theorem deadwoodlaw03_EdgeKeeps.mono : ∀ a0 k, LeO (deadwoodlaw03_EdgeKeeps.f k a0) (deadwoodlaw03_EdgeKeeps.f (k + 1) a0) := by
  intro a0 k
  obtain ⟨ih0, ih1, ih2⟩ := deadwoodlaw03_EdgeKeeps.mono_l k
  unfold deadwoodlaw03_EdgeKeeps.f
  repeat' first
      | (with_reducible exact ih0 _ _ _)
      | (with_reducible exact ih1 _ _ _)
      | (with_reducible exact ih2 _ _ _)
      | (with_reducible exact LeO.refl _)
      | (with_reducible exact LeO.none _)
      | (with_reducible refine LeO.ite ?_ ?_)
      | (with_reducible refine LeO.bind ?_ (fun _ => ?_))
      | exact ih0 _ _ _
      | exact ih1 _ _ _
      | exact ih2 _ _ _
      | exact LeO.none _
      | refine LeO.ite ?_ ?_
      | refine LeO.bind ?_ (fun _ => ?_)
set_option maxHeartbeats 8000000 in
set_option maxRecDepth 100000 in
theorem deadwoodlaw03_EdgeKeeps.calls (k : Nat) (a0 : Int) (r : Bool) (w : World) (hr_ : r = true) (h : deadwoodlaw03_EdgeKeeps.f k a0 = some r) :
    Calls Try.prog 12 #[.int .u64 a0] w fun e w' => e = .returned (.bool r) ∧ Drawn0 w w' := by
  have HRT := Aside0.mk hr_
  clear hr_
  have H : ((edge_Edge_Flagged.f a0).bind fun t126 => ((edge_Edge_Tagged.f a0).bind fun t127 => ((edge_Edge_Keep.f a0).bind fun t128 => ((edge_Edge_To.f t126 a0).bind fun t129 => (if t129 = true then ((edge_Edge_To.f t127 a0).bind fun t130 => (if t130 = true then ((edge_Edge_To.f t128 a0).bind fun t131 => (if t131 = true then ((edge_Edge_Flag.f t126).bind fun t132 => (if t132 = true then ((edge_Edge_Tag.f t126).bind fun t133 => ((edge_Edge_Tag.f a0).bind fun t134 => (if (t133 != t134) = true then (deadwoodlaw03_EdgeKeeps.j0 k a0 t127 true) else ((edge_Edge_Tag.f t127).bind fun t135 => (if t135 = true then ((edge_Edge_Flag.f t127).bind fun t136 => ((edge_Edge_Flag.f a0).bind fun t137 => (if (t136 != t137) = true then (deadwoodlaw03_EdgeKeeps.j0 k a0 t127 true) else ((edge_Edge_Tag.f t128).bind fun t138 => (if t138 = true then (deadwoodlaw03_EdgeKeeps.j0 k a0 t127 true) else ((edge_Edge_Flag.f t128).bind fun t139 => ((edge_Edge_Flag.f a0).bind fun t140 => (deadwoodlaw03_EdgeKeeps.j0 k a0 t127 (t139 != t140))))))))) else (deadwoodlaw03_EdgeKeeps.j0 k a0 t127 true)))))) else (deadwoodlaw03_EdgeKeeps.j0 k a0 t127 true))) else (deadwoodlaw03_EdgeKeeps.j0 k a0 t127 true))) else (deadwoodlaw03_EdgeKeeps.j0 k a0 t127 true))) else (deadwoodlaw03_EdgeKeeps.j0 k a0 t127 true)))))) = some r := h
  clear h
  replace H := Option.bind_eq_some_iff.mp H
  obtain ⟨t126, A20, H⟩ := H
  replace H : ((edge_Edge_Tagged.f a0).bind fun t127 => ((edge_Edge_Keep.f a0).bind fun t128 => ((edge_Edge_To.f t126 a0).bind fun t129 => (if t129 = true then ((edge_Edge_To.f t127 a0).bind fun t130 => (if t130 = true then ((edge_Edge_To.f t128 a0).bind fun t131 => (if t131 = true then ((edge_Edge_Flag.f t126).bind fun t132 => (if t132 = true then ((edge_Edge_Tag.f t126).bind fun t133 => ((edge_Edge_Tag.f a0).bind fun t134 => (if (t133 != t134) = true then (deadwoodlaw03_EdgeKeeps.j0 k a0 t127 true) else ((edge_Edge_Tag.f t127).bind fun t135 => (if t135 = true then ((edge_Edge_Flag.f t127).bind fun t136 => ((edge_Edge_Flag.f a0).bind fun t137 => (if (t136 != t137) = true then (deadwoodlaw03_EdgeKeeps.j0 k a0 t127 true) else ((edge_Edge_Tag.f t128).bind fun t138 => (if t138 = true then (deadwoodlaw03_EdgeKeeps.j0 k a0 t127 true) else ((edge_Edge_Flag.f t128).bind fun t139 => ((edge_Edge_Flag.f a0).bind fun t140 => (deadwoodlaw03_EdgeKeeps.j0 k a0 t127 (t139 != t140))))))))) else (deadwoodlaw03_EdgeKeeps.j0 k a0 t127 true)))))) else (deadwoodlaw03_EdgeKeeps.j0 k a0 t127 true))) else (deadwoodlaw03_EdgeKeeps.j0 k a0 t127 true))) else (deadwoodlaw03_EdgeKeeps.j0 k a0 t127 true))) else (deadwoodlaw03_EdgeKeeps.j0 k a0 t127 true))))) = some r := H
  have A2 := Aside0.mk A20
  clear A20
  replace H := Option.bind_eq_some_iff.mp H
  obtain ⟨t127, A30, H⟩ := H
  replace H : ((edge_Edge_Keep.f a0).bind fun t128 => ((edge_Edge_To.f t126 a0).bind fun t129 => (if t129 = true then ((edge_Edge_To.f t127 a0).bind fun t130 => (if t130 = true then ((edge_Edge_To.f t128 a0).bind fun t131 => (if t131 = true then ((edge_Edge_Flag.f t126).bind fun t132 => (if t132 = true then ((edge_Edge_Tag.f t126).bind fun t133 => ((edge_Edge_Tag.f a0).bind fun t134 => (if (t133 != t134) = true then (deadwoodlaw03_EdgeKeeps.j0 k a0 t127 true) else ((edge_Edge_Tag.f t127).bind fun t135 => (if t135 = true then ((edge_Edge_Flag.f t127).bind fun t136 => ((edge_Edge_Flag.f a0).bind fun t137 => (if (t136 != t137) = true then (deadwoodlaw03_EdgeKeeps.j0 k a0 t127 true) else ((edge_Edge_Tag.f t128).bind fun t138 => (if t138 = true then (deadwoodlaw03_EdgeKeeps.j0 k a0 t127 true) else ((edge_Edge_Flag.f t128).bind fun t139 => ((edge_Edge_Flag.f a0).bind fun t140 => (deadwoodlaw03_EdgeKeeps.j0 k a0 t127 (t139 != t140))))))))) else (deadwoodlaw03_EdgeKeeps.j0 k a0 t127 true)))))) else (deadwoodlaw03_EdgeKeeps.j0 k a0 t127 true))) else (deadwoodlaw03_EdgeKeeps.j0 k a0 t127 true))) else (deadwoodlaw03_EdgeKeeps.j0 k a0 t127 true))) else (deadwoodlaw03_EdgeKeeps.j0 k a0 t127 true)))) = some r := H
  have A3 := Aside0.mk A30
  clear A30
  replace H := Option.bind_eq_some_iff.mp H
  obtain ⟨t128, A40, H⟩ := H
  replace H : ((edge_Edge_To.f t126 a0).bind fun t129 => (if t129 = true then ((edge_Edge_To.f t127 a0).bind fun t130 => (if t130 = true then ((edge_Edge_To.f t128 a0).bind fun t131 => (if t131 = true then ((edge_Edge_Flag.f t126).bind fun t132 => (if t132 = true then ((edge_Edge_Tag.f t126).bind fun t133 => ((edge_Edge_Tag.f a0).bind fun t134 => (if (t133 != t134) = true then (deadwoodlaw03_EdgeKeeps.j0 k a0 t127 true) else ((edge_Edge_Tag.f t127).bind fun t135 => (if t135 = true then ((edge_Edge_Flag.f t127).bind fun t136 => ((edge_Edge_Flag.f a0).bind fun t137 => (if (t136 != t137) = true then (deadwoodlaw03_EdgeKeeps.j0 k a0 t127 true) else ((edge_Edge_Tag.f t128).bind fun t138 => (if t138 = true then (deadwoodlaw03_EdgeKeeps.j0 k a0 t127 true) else ((edge_Edge_Flag.f t128).bind fun t139 => ((edge_Edge_Flag.f a0).bind fun t140 => (deadwoodlaw03_EdgeKeeps.j0 k a0 t127 (t139 != t140))))))))) else (deadwoodlaw03_EdgeKeeps.j0 k a0 t127 true)))))) else (deadwoodlaw03_EdgeKeeps.j0 k a0 t127 true))) else (deadwoodlaw03_EdgeKeeps.j0 k a0 t127 true))) else (deadwoodlaw03_EdgeKeeps.j0 k a0 t127 true))) else (deadwoodlaw03_EdgeKeeps.j0 k a0 t127 true))) = some r := H
  have A4 := Aside0.mk A40
  clear A40
  have HC5 := Aside0.mk H
  clear H
  go_enter Try.func12, Try.ntmps12
  go_upto_region 2 with (first | ((with_reducible refine gate_callee (f := 38) rfl ?_); refine goesL_ (some 8) rfl rfl Try.func38 (by kernel_rfl) rfl #[.int .u64 a0] rfl (by (try simp only [List.map_toArray, List.map_cons, List.map_nil]); first | done | rfl | (simp only [List.length_drop, List.length_take]; rfl)) ?_; (with_reducible refine (edge_Edge_Flagged.calls a0 t126 _ A2.out).mono ?_); rintro e w' ⟨rfl, ⟨nd, rfl⟩⟩; refine ⟨_, rfl, ?_⟩) | ((with_reducible refine gate_callee (f := 39) rfl ?_); refine goesL_ (some 10) rfl rfl Try.func39 (by kernel_rfl) rfl #[.int .u64 a0] rfl (by (try simp only [List.map_toArray, List.map_cons, List.map_nil]); first | done | rfl | (simp only [List.length_drop, List.length_take]; rfl)) ?_; (with_reducible refine (edge_Edge_Tagged.calls a0 t127 _ A3.out).mono ?_); rintro e w' ⟨rfl, ⟨nd, rfl⟩⟩; refine ⟨_, rfl, ?_⟩) | ((with_reducible refine gate_callee (f := 40) rfl ?_); refine goesL_ (some 12) rfl rfl Try.func40 (by kernel_rfl) rfl #[.int .u64 a0] rfl (by (try simp only [List.map_toArray, List.map_cons, List.map_nil]); first | done | rfl | (simp only [List.length_drop, List.length_take]; rfl)) ?_; (with_reducible refine (edge_Edge_Keep.calls a0 t128 _ A4.out).mono ?_); rintro e w' ⟨rfl, ⟨nd, rfl⟩⟩; refine ⟨_, rfl, ?_⟩))
  (try simp only [Act.put, List.setIfInBounds_toArray, List.set_cons_zero, List.set_cons_succ])
  go_cut [63] (fun v63 wc => ∃ (kq : Nat) (x63_4 : Bool), v63 = .bool x63_4 ∧ Aside0 (deadwoodlaw03_EdgeKeeps.j0 kq a0 t127 x63_4 = some r) ∧ Aside0 (kq ≤ k) ∧ Drawn0 w wc)
  case first =>
    have H := HC5.out
    clear HC5
    replace H := Option.bind_eq_some_iff.mp H
    obtain ⟨t129, A60, H⟩ := H
    replace H : (if t129 = true then ((edge_Edge_To.f t127 a0).bind fun t130 => (if t130 = true then ((edge_Edge_To.f t128 a0).bind fun t131 => (if t131 = true then ((edge_Edge_Flag.f t126).bind fun t132 => (if t132 = true then ((edge_Edge_Tag.f t126).bind fun t133 => ((edge_Edge_Tag.f a0).bind fun t134 => (if (t133 != t134) = true then (deadwoodlaw03_EdgeKeeps.j0 k a0 t127 true) else ((edge_Edge_Tag.f t127).bind fun t135 => (if t135 = true then ((edge_Edge_Flag.f t127).bind fun t136 => ((edge_Edge_Flag.f a0).bind fun t137 => (if (t136 != t137) = true then (deadwoodlaw03_EdgeKeeps.j0 k a0 t127 true) else ((edge_Edge_Tag.f t128).bind fun t138 => (if t138 = true then (deadwoodlaw03_EdgeKeeps.j0 k a0 t127 true) else ((edge_Edge_Flag.f t128).bind fun t139 => ((edge_Edge_Flag.f a0).bind fun t140 => (deadwoodlaw03_EdgeKeeps.j0 k a0 t127 (t139 != t140))))))))) else (deadwoodlaw03_EdgeKeeps.j0 k a0 t127 true)))))) else (deadwoodlaw03_EdgeKeeps.j0 k a0 t127 true))) else (deadwoodlaw03_EdgeKeeps.j0 k a0 t127 true))) else (deadwoodlaw03_EdgeKeeps.j0 k a0 t127 true))) else (deadwoodlaw03_EdgeKeeps.j0 k a0 t127 true)) = some r := H
    have A6 := Aside0.mk A60
    clear A60
    by_cases c7 : t129 = true
    · subst c7
      have H1 : ((edge_Edge_To.f t127 a0).bind fun t130 => (if t130 = true then ((edge_Edge_To.f t128 a0).bind fun t131 => (if t131 = true then ((edge_Edge_Flag.f t126).bind fun t132 => (if t132 = true then ((edge_Edge_Tag.f t126).bind fun t133 => ((edge_Edge_Tag.f a0).bind fun t134 => (if (t133 != t134) = true then (deadwoodlaw03_EdgeKeeps.j0 k a0 t127 true) else ((edge_Edge_Tag.f t127).bind fun t135 => (if t135 = true then ((edge_Edge_Flag.f t127).bind fun t136 => ((edge_Edge_Flag.f a0).bind fun t137 => (if (t136 != t137) = true then (deadwoodlaw03_EdgeKeeps.j0 k a0 t127 true) else ((edge_Edge_Tag.f t128).bind fun t138 => (if t138 = true then (deadwoodlaw03_EdgeKeeps.j0 k a0 t127 true) else ((edge_Edge_Flag.f t128).bind fun t139 => ((edge_Edge_Flag.f a0).bind fun t140 => (deadwoodlaw03_EdgeKeeps.j0 k a0 t127 (t139 != t140))))))))) else (deadwoodlaw03_EdgeKeeps.j0 k a0 t127 true)))))) else (deadwoodlaw03_EdgeKeeps.j0 k a0 t127 true))) else (deadwoodlaw03_EdgeKeeps.j0 k a0 t127 true))) else (deadwoodlaw03_EdgeKeeps.j0 k a0 t127 true))) = some r := by rw [if_pos rfl] at H; exact H
      clear H
      have H := H1
      clear H1
      replace H := Option.bind_eq_some_iff.mp H
      obtain ⟨t130, A80, H⟩ := H
      replace H : (if t130 = true then ((edge_Edge_To.f t128 a0).bind fun t131 => (if t131 = true then ((edge_Edge_Flag.f t126).bind fun t132 => (if t132 = true then ((edge_Edge_Tag.f t126).bind fun t133 => ((edge_Edge_Tag.f a0).bind fun t134 => (if (t133 != t134) = true then (deadwoodlaw03_EdgeKeeps.j0 k a0 t127 true) else ((edge_Edge_Tag.f t127).bind fun t135 => (if t135 = true then ((edge_Edge_Flag.f t127).bind fun t136 => ((edge_Edge_Flag.f a0).bind fun t137 => (if (t136 != t137) = true then (deadwoodlaw03_EdgeKeeps.j0 k a0 t127 true) else ((edge_Edge_Tag.f t128).bind fun t138 => (if t138 = true then (deadwoodlaw03_EdgeKeeps.j0 k a0 t127 true) else ((edge_Edge_Flag.f t128).bind fun t139 => ((edge_Edge_Flag.f a0).bind fun t140 => (deadwoodlaw03_EdgeKeeps.j0 k a0 t127 (t139 != t140))))))))) else (deadwoodlaw03_EdgeKeeps.j0 k a0 t127 true)))))) else (deadwoodlaw03_EdgeKeeps.j0 k a0 t127 true))) else (deadwoodlaw03_EdgeKeeps.j0 k a0 t127 true))) else (deadwoodlaw03_EdgeKeeps.j0 k a0 t127 true)) = some r := H
      have A8 := Aside0.mk A80
      clear A80
      by_cases c9 : t130 = true
      · subst c9
        have H1 : ((edge_Edge_To.f t128 a0).bind fun t131 => (if t131 = true then ((edge_Edge_Flag.f t126).bind fun t132 => (if t132 = true then ((edge_Edge_Tag.f t126).bind fun t133 => ((edge_Edge_Tag.f a0).bind fun t134 => (if (t133 != t134) = true then (deadwoodlaw03_EdgeKeeps.j0 k a0 t127 true) else ((edge_Edge_Tag.f t127).bind fun t135 => (if t135 = true then ((edge_Edge_Flag.f t127).bind fun t136 => ((edge_Edge_Flag.f a0).bind fun t137 => (if (t136 != t137) = true then (deadwoodlaw03_EdgeKeeps.j0 k a0 t127 true) else ((edge_Edge_Tag.f t128).bind fun t138 => (if t138 = true then (deadwoodlaw03_EdgeKeeps.j0 k a0 t127 true) else ((edge_Edge_Flag.f t128).bind fun t139 => ((edge_Edge_Flag.f a0).bind fun t140 => (deadwoodlaw03_EdgeKeeps.j0 k a0 t127 (t139 != t140))))))))) else (deadwoodlaw03_EdgeKeeps.j0 k a0 t127 true)))))) else (deadwoodlaw03_EdgeKeeps.j0 k a0 t127 true))) else (deadwoodlaw03_EdgeKeeps.j0 k a0 t127 true))) = some r := by rw [if_pos rfl] at H; exact H
        clear H
        have H := H1
        clear H1
        replace H := Option.bind_eq_some_iff.mp H
        obtain ⟨t131, A100, H⟩ := H
        replace H : (if t131 = true then ((edge_Edge_Flag.f t126).bind fun t132 => (if t132 = true then ((edge_Edge_Tag.f t126).bind fun t133 => ((edge_Edge_Tag.f a0).bind fun t134 => (if (t133 != t134) = true then (deadwoodlaw03_EdgeKeeps.j0 k a0 t127 true) else ((edge_Edge_Tag.f t127).bind fun t135 => (if t135 = true then ((edge_Edge_Flag.f t127).bind fun t136 => ((edge_Edge_Flag.f a0).bind fun t137 => (if (t136 != t137) = true then (deadwoodlaw03_EdgeKeeps.j0 k a0 t127 true) else ((edge_Edge_Tag.f t128).bind fun t138 => (if t138 = true then (deadwoodlaw03_EdgeKeeps.j0 k a0 t127 true) else ((edge_Edge_Flag.f t128).bind fun t139 => ((edge_Edge_Flag.f a0).bind fun t140 => (deadwoodlaw03_EdgeKeeps.j0 k a0 t127 (t139 != t140))))))))) else (deadwoodlaw03_EdgeKeeps.j0 k a0 t127 true)))))) else (deadwoodlaw03_EdgeKeeps.j0 k a0 t127 true))) else (deadwoodlaw03_EdgeKeeps.j0 k a0 t127 true)) = some r := H
        have A10 := Aside0.mk A100
        clear A100
        by_cases c11 : t131 = true
        · subst c11
          have H1 : ((edge_Edge_Flag.f t126).bind fun t132 => (if t132 = true then ((edge_Edge_Tag.f t126).bind fun t133 => ((edge_Edge_Tag.f a0).bind fun t134 => (if (t133 != t134) = true then (deadwoodlaw03_EdgeKeeps.j0 k a0 t127 true) else ((edge_Edge_Tag.f t127).bind fun t135 => (if t135 = true then ((edge_Edge_Flag.f t127).bind fun t136 => ((edge_Edge_Flag.f a0).bind fun t137 => (if (t136 != t137) = true then (deadwoodlaw03_EdgeKeeps.j0 k a0 t127 true) else ((edge_Edge_Tag.f t128).bind fun t138 => (if t138 = true then (deadwoodlaw03_EdgeKeeps.j0 k a0 t127 true) else ((edge_Edge_Flag.f t128).bind fun t139 => ((edge_Edge_Flag.f a0).bind fun t140 => (deadwoodlaw03_EdgeKeeps.j0 k a0 t127 (t139 != t140))))))))) else (deadwoodlaw03_EdgeKeeps.j0 k a0 t127 true)))))) else (deadwoodlaw03_EdgeKeeps.j0 k a0 t127 true))) = some r := by rw [if_pos rfl] at H; exact H
          clear H
          have H := H1
          clear H1
          replace H := Option.bind_eq_some_iff.mp H
          obtain ⟨t132, A120, H⟩ := H
          replace H : (if t132 = true then ((edge_Edge_Tag.f t126).bind fun t133 => ((edge_Edge_Tag.f a0).bind fun t134 => (if (t133 != t134) = true then (deadwoodlaw03_EdgeKeeps.j0 k a0 t127 true) else ((edge_Edge_Tag.f t127).bind fun t135 => (if t135 = true then ((edge_Edge_Flag.f t127).bind fun t136 => ((edge_Edge_Flag.f a0).bind fun t137 => (if (t136 != t137) = true then (deadwoodlaw03_EdgeKeeps.j0 k a0 t127 true) else ((edge_Edge_Tag.f t128).bind fun t138 => (if t138 = true then (deadwoodlaw03_EdgeKeeps.j0 k a0 t127 true) else ((edge_Edge_Flag.f t128).bind fun t139 => ((edge_Edge_Flag.f a0).bind fun t140 => (deadwoodlaw03_EdgeKeeps.j0 k a0 t127 (t139 != t140))))))))) else (deadwoodlaw03_EdgeKeeps.j0 k a0 t127 true)))))) else (deadwoodlaw03_EdgeKeeps.j0 k a0 t127 true)) = some r := H
          have A12 := Aside0.mk A120
          clear A120
          by_cases c13 : t132 = true
          · subst c13
            have H1 : ((edge_Edge_Tag.f t126).bind fun t133 => ((edge_Edge_Tag.f a0).bind fun t134 => (if (t133 != t134) = true then (deadwoodlaw03_EdgeKeeps.j0 k a0 t127 true) else ((edge_Edge_Tag.f t127).bind fun t135 => (if t135 = true then ((edge_Edge_Flag.f t127).bind fun t136 => ((edge_Edge_Flag.f a0).bind fun t137 => (if (t136 != t137) = true then (deadwoodlaw03_EdgeKeeps.j0 k a0 t127 true) else ((edge_Edge_Tag.f t128).bind fun t138 => (if t138 = true then (deadwoodlaw03_EdgeKeeps.j0 k a0 t127 true) else ((edge_Edge_Flag.f t128).bind fun t139 => ((edge_Edge_Flag.f a0).bind fun t140 => (deadwoodlaw03_EdgeKeeps.j0 k a0 t127 (t139 != t140))))))))) else (deadwoodlaw03_EdgeKeeps.j0 k a0 t127 true)))))) = some r := by rw [if_pos rfl] at H; exact H
            clear H
            have H := H1
            clear H1
            replace H := Option.bind_eq_some_iff.mp H
            obtain ⟨t133, A140, H⟩ := H
            replace H : ((edge_Edge_Tag.f a0).bind fun t134 => (if (t133 != t134) = true then (deadwoodlaw03_EdgeKeeps.j0 k a0 t127 true) else ((edge_Edge_Tag.f t127).bind fun t135 => (if t135 = true then ((edge_Edge_Flag.f t127).bind fun t136 => ((edge_Edge_Flag.f a0).bind fun t137 => (if (t136 != t137) = true then (deadwoodlaw03_EdgeKeeps.j0 k a0 t127 true) else ((edge_Edge_Tag.f t128).bind fun t138 => (if t138 = true then (deadwoodlaw03_EdgeKeeps.j0 k a0 t127 true) else ((edge_Edge_Flag.f t128).bind fun t139 => ((edge_Edge_Flag.f a0).bind fun t140 => (deadwoodlaw03_EdgeKeeps.j0 k a0 t127 (t139 != t140))))))))) else (deadwoodlaw03_EdgeKeeps.j0 k a0 t127 true))))) = some r := H
            have A14 := Aside0.mk A140
            clear A140
            replace H := Option.bind_eq_some_iff.mp H
            obtain ⟨t134, A150, H⟩ := H
            replace H : (if (t133 != t134) = true then (deadwoodlaw03_EdgeKeeps.j0 k a0 t127 true) else ((edge_Edge_Tag.f t127).bind fun t135 => (if t135 = true then ((edge_Edge_Flag.f t127).bind fun t136 => ((edge_Edge_Flag.f a0).bind fun t137 => (if (t136 != t137) = true then (deadwoodlaw03_EdgeKeeps.j0 k a0 t127 true) else ((edge_Edge_Tag.f t128).bind fun t138 => (if t138 = true then (deadwoodlaw03_EdgeKeeps.j0 k a0 t127 true) else ((edge_Edge_Flag.f t128).bind fun t139 => ((edge_Edge_Flag.f a0).bind fun t140 => (deadwoodlaw03_EdgeKeeps.j0 k a0 t127 (t139 != t140))))))))) else (deadwoodlaw03_EdgeKeeps.j0 k a0 t127 true)))) = some r := H
            have A15 := Aside0.mk A150
            clear A150
            by_cases c16 : (t133 != t134) = true
            · rw [if_pos c16] at H
              have c16b0 : (t133 != t134) = true := c16
              (try (have c16b1 : decide (t133 = t134) = false := by simpa using c16))
              (try (have c16b2 : (t133 == t134) = false := by simpa using c16))
              (try (have c16b3 : ¬ (t133 = t134) := by simpa using c16))
              clear c16
              (first | rw [c16b0] | (simp only [i64_w, i32_w]; rw [c16b0]) | skip)
              have H' := Aside0.mk H
              clear H
              go_wp2_with (first | ((with_reducible refine gate_callee (f := 41) rfl ?_); refine goesL_ (some 15) rfl rfl Try.func41 (by kernel_rfl) rfl #[.int .u64 t126, .int .u64 a0] rfl (by (try simp only [List.map_toArray, List.map_cons, List.map_nil]); first | done | rfl | (simp only [List.length_drop, List.length_take]; rfl)) ?_; (with_reducible refine (edge_Edge_To.calls t126 a0 true _ A6.out).mono ?_); rintro e w' ⟨rfl, ⟨nd, rfl⟩⟩; refine ⟨_, rfl, ?_⟩) | (go_at_call 41; (with_reducible refine (edge_Edge_To.calls t127 a0 true _ A8.out).mono ?_); rintro e w' ⟨rfl, ⟨nd, rfl⟩⟩) | (go_at_call 41; (with_reducible refine (edge_Edge_To.calls t128 a0 true _ A10.out).mono ?_); rintro e w' ⟨rfl, ⟨nd, rfl⟩⟩) | (go_at_call 44; (with_reducible refine (edge_Edge_Flag.calls t126 true _ A12.out).mono ?_); rintro e w' ⟨rfl, ⟨nd, rfl⟩⟩) | (go_at_call 45; (with_reducible refine (edge_Edge_Tag.calls t126 t133 _ A14.out).mono ?_); rintro e w' ⟨rfl, ⟨nd, rfl⟩⟩) | (go_at_call 45; (with_reducible refine (edge_Edge_Tag.calls a0 t134 _ A15.out).mono ?_); rintro e w' ⟨rfl, ⟨nd, rfl⟩⟩))
              go_meet
              case rel => exact ⟨_, (true), (by first | rfl | (simp; done) | (simp [*]; done)), H', ⟨by first | omega | exact Nat.le_refl _⟩, by repeat (first | exact Drawn0.refl _ | apply Drawn0.step)⟩
            · rw [if_neg c16] at H
              have c16b0 : (t133 != t134) = false := by simpa using c16
              (try (have c16b1 : decide (t133 = t134) = true := by simpa using c16))
              (try (have c16b2 : (t133 == t134) = true := by simpa using c16))
              clear c16
              (first | rw [c16b0] | (simp only [i64_w, i32_w]; rw [c16b0]) | skip)
              replace H := Option.bind_eq_some_iff.mp H
              obtain ⟨t135, A170, H⟩ := H
              replace H : (if t135 = true then ((edge_Edge_Flag.f t127).bind fun t136 => ((edge_Edge_Flag.f a0).bind fun t137 => (if (t136 != t137) = true then (deadwoodlaw03_EdgeKeeps.j0 k a0 t127 true) else ((edge_Edge_Tag.f t128).bind fun t138 => (if t138 = true then (deadwoodlaw03_EdgeKeeps.j0 k a0 t127 true) else ((edge_Edge_Flag.f t128).bind fun t139 => ((edge_Edge_Flag.f a0).bind fun t140 => (deadwoodlaw03_EdgeKeeps.j0 k a0 t127 (t139 != t140))))))))) else (deadwoodlaw03_EdgeKeeps.j0 k a0 t127 true)) = some r := H
              have A17 := Aside0.mk A170
              clear A170
              by_cases c18 : t135 = true
              · subst c18
                have H1 : ((edge_Edge_Flag.f t127).bind fun t136 => ((edge_Edge_Flag.f a0).bind fun t137 => (if (t136 != t137) = true then (deadwoodlaw03_EdgeKeeps.j0 k a0 t127 true) else ((edge_Edge_Tag.f t128).bind fun t138 => (if t138 = true then (deadwoodlaw03_EdgeKeeps.j0 k a0 t127 true) else ((edge_Edge_Flag.f t128).bind fun t139 => ((edge_Edge_Flag.f a0).bind fun t140 => (deadwoodlaw03_EdgeKeeps.j0 k a0 t127 (t139 != t140))))))))) = some r := by rw [if_pos rfl] at H; exact H
                clear H
                have H := H1
                clear H1
                replace H := Option.bind_eq_some_iff.mp H
                obtain ⟨t136, A190, H⟩ := H
                replace H : ((edge_Edge_Flag.f a0).bind fun t137 => (if (t136 != t137) = true then (deadwoodlaw03_EdgeKeeps.j0 k a0 t127 true) else ((edge_Edge_Tag.f t128).bind fun t138 => (if t138 = true then (deadwoodlaw03_EdgeKeeps.j0 k a0 t127 true) else ((edge_Edge_Flag.f t128).bind fun t139 => ((edge_Edge_Flag.f a0).bind fun t140 => (deadwoodlaw03_EdgeKeeps.j0 k a0 t127 (t139 != t140)))))))) = some r := H
                have A19 := Aside0.mk A190
                clear A190
                replace H := Option.bind_eq_some_iff.mp H
                obtain ⟨t137, A200, H⟩ := H
                replace H : (if (t136 != t137) = true then (deadwoodlaw03_EdgeKeeps.j0 k a0 t127 true) else ((edge_Edge_Tag.f t128).bind fun t138 => (if t138 = true then (deadwoodlaw03_EdgeKeeps.j0 k a0 t127 true) else ((edge_Edge_Flag.f t128).bind fun t139 => ((edge_Edge_Flag.f a0).bind fun t140 => (deadwoodlaw03_EdgeKeeps.j0 k a0 t127 (t139 != t140))))))) = some r := H
                have A20 := Aside0.mk A200
                clear A200
                by_cases c21 : (t136 != t137) = true
                · rw [if_pos c21] at H
                  have c21b0 : (t136 != t137) = true := c21
                  (try (have c21b1 : decide (t136 = t137) = false := by simpa using c21))
                  (try (have c21b2 : (t136 == t137) = false := by simpa using c21))
                  (try (have c21b3 : ¬ (t136 = t137) := by simpa using c21))
                  clear c21
                  have H' := Aside0.mk H
                  clear H
                  go_wp2_with (first | ((with_reducible refine gate_callee (f := 41) rfl ?_); refine goesL_ (some 15) rfl rfl Try.func41 (by kernel_rfl) rfl #[.int .u64 t126, .int .u64 a0] rfl (by (try simp only [List.map_toArray, List.map_cons, List.map_nil]); first | done | rfl | (simp only [List.length_drop, List.length_take]; rfl)) ?_; (with_reducible refine (edge_Edge_To.calls t126 a0 true _ A6.out).mono ?_); rintro e w' ⟨rfl, ⟨nd, rfl⟩⟩; refine ⟨_, rfl, ?_⟩) | (go_at_call 41; (with_reducible refine (edge_Edge_To.calls t127 a0 true _ A8.out).mono ?_); rintro e w' ⟨rfl, ⟨nd, rfl⟩⟩) | (go_at_call 41; (with_reducible refine (edge_Edge_To.calls t128 a0 true _ A10.out).mono ?_); rintro e w' ⟨rfl, ⟨nd, rfl⟩⟩) | (go_at_call 44; (with_reducible refine (edge_Edge_Flag.calls t126 true _ A12.out).mono ?_); rintro e w' ⟨rfl, ⟨nd, rfl⟩⟩) | (go_at_call 45; (with_reducible refine (edge_Edge_Tag.calls t126 t133 _ A14.out).mono ?_); rintro e w' ⟨rfl, ⟨nd, rfl⟩⟩) | (go_at_call 45; (with_reducible refine (edge_Edge_Tag.calls a0 t134 _ A15.out).mono ?_); rintro e w' ⟨rfl, ⟨nd, rfl⟩⟩) | (go_at_call 45; (with_reducible refine (edge_Edge_Tag.calls t127 true _ A17.out).mono ?_); rintro e w' ⟨rfl, ⟨nd, rfl⟩⟩) | (go_at_call 44; (with_reducible refine (edge_Edge_Flag.calls t127 t136 _ A19.out).mono ?_); rintro e w' ⟨rfl, ⟨nd, rfl⟩⟩) | (go_at_call 44; (with_reducible refine (edge_Edge_Flag.calls a0 t137 _ A20.out).mono ?_); rintro e w' ⟨rfl, ⟨nd, rfl⟩⟩))
                  go_meet
                  case rel => exact ⟨_, (true), (by first | rfl | (simp; done) | (simp [*]; done)), H', ⟨by first | omega | exact Nat.le_refl _⟩, by repeat (first | exact Drawn0.refl _ | apply Drawn0.step)⟩
                · rw [if_neg c21] at H
                  have c21b0 : (t136 != t137) = false := by simpa using c21
                  (try (have c21b1 : decide (t136 = t137) = true := by simpa using c21))
                  (try (have c21b2 : (t136 == t137) = true := by simpa using c21))
                  clear c21
                  replace H := Option.bind_eq_some_iff.mp H
                  obtain ⟨t138, A220, H⟩ := H
                  replace H : (if t138 = true then (deadwoodlaw03_EdgeKeeps.j0 k a0 t127 true) else ((edge_Edge_Flag.f t128).bind fun t139 => ((edge_Edge_Flag.f a0).bind fun t140 => (deadwoodlaw03_EdgeKeeps.j0 k a0 t127 (t139 != t140))))) = some r := H
                  have A22 := Aside0.mk A220
                  clear A220
                  by_cases c23 : t138 = true
                  · subst c23
                    have H1 : (deadwoodlaw03_EdgeKeeps.j0 k a0 t127 true) = some r := by rw [if_pos rfl] at H; exact H
                    clear H
                    have H := H1
                    clear H1
                    have H' := Aside0.mk H
                    clear H
                    go_wp2_with (first | ((with_reducible refine gate_callee (f := 41) rfl ?_); refine goesL_ (some 15) rfl rfl Try.func41 (by kernel_rfl) rfl #[.int .u64 t126, .int .u64 a0] rfl (by (try simp only [List.map_toArray, List.map_cons, List.map_nil]); first | done | rfl | (simp only [List.length_drop, List.length_take]; rfl)) ?_; (with_reducible refine (edge_Edge_To.calls t126 a0 true _ A6.out).mono ?_); rintro e w' ⟨rfl, ⟨nd, rfl⟩⟩; refine ⟨_, rfl, ?_⟩) | (go_at_call 41; (with_reducible refine (edge_Edge_To.calls t127 a0 true _ A8.out).mono ?_); rintro e w' ⟨rfl, ⟨nd, rfl⟩⟩) | (go_at_call 41; (with_reducible refine (edge_Edge_To.calls t128 a0 true _ A10.out).mono ?_); rintro e w' ⟨rfl, ⟨nd, rfl⟩⟩) | (go_at_call 44; (with_reducible refine (edge_Edge_Flag.calls t126 true _ A12.out).mono ?_); rintro e w' ⟨rfl, ⟨nd, rfl⟩⟩) | (go_at_call 45; (with_reducible refine (edge_Edge_Tag.calls t126 t133 _ A14.out).mono ?_); rintro e w' ⟨rfl, ⟨nd, rfl⟩⟩) | (go_at_call 45; (with_reducible refine (edge_Edge_Tag.calls a0 t134 _ A15.out).mono ?_); rintro e w' ⟨rfl, ⟨nd, rfl⟩⟩) | (go_at_call 45; (with_reducible refine (edge_Edge_Tag.calls t127 true _ A17.out).mono ?_); rintro e w' ⟨rfl, ⟨nd, rfl⟩⟩) | (go_at_call 44; (with_reducible refine (edge_Edge_Flag.calls t127 t136 _ A19.out).mono ?_); rintro e w' ⟨rfl, ⟨nd, rfl⟩⟩) | (go_at_call 44; (with_reducible refine (edge_Edge_Flag.calls a0 t137 _ A20.out).mono ?_); rintro e w' ⟨rfl, ⟨nd, rfl⟩⟩) | (go_at_call 45; (with_reducible refine (edge_Edge_Tag.calls t128 true _ A22.out).mono ?_); rintro e w' ⟨rfl, ⟨nd, rfl⟩⟩))
                    go_meet
                    case rel => exact ⟨_, (true), (by first | rfl | (simp; done) | (simp [*]; done)), H', ⟨by first | omega | exact Nat.le_refl _⟩, by repeat (first | exact Drawn0.refl _ | apply Drawn0.step)⟩
                  · replace c23 := Bool.eq_false_iff.mpr c23
                    subst c23
                    have H1 : ((edge_Edge_Flag.f t128).bind fun t139 => ((edge_Edge_Flag.f a0).bind fun t140 => (deadwoodlaw03_EdgeKeeps.j0 k a0 t127 (t139 != t140)))) = some r := by rw [if_neg (show ¬ (false = true) by decide)] at H; exact H
                    clear H
                    have H := H1
                    clear H1
                    replace H := Option.bind_eq_some_iff.mp H
                    obtain ⟨t139, A240, H⟩ := H
                    replace H : ((edge_Edge_Flag.f a0).bind fun t140 => (deadwoodlaw03_EdgeKeeps.j0 k a0 t127 (t139 != t140))) = some r := H
                    have A24 := Aside0.mk A240
                    clear A240
                    replace H := Option.bind_eq_some_iff.mp H
                    obtain ⟨t140, A250, H⟩ := H
                    have e_ : t137 = t140 := Option.some.inj (A20.out.symm.trans A250)
                    subst e_
                    replace H : (deadwoodlaw03_EdgeKeeps.j0 k a0 t127 (t139 != t137)) = some r := H
                    have A25 := Aside0.mk A250
                    clear A250
                    have H' := Aside0.mk H
                    clear H
                    go_wp2_with (first | ((with_reducible refine gate_callee (f := 41) rfl ?_); refine goesL_ (some 15) rfl rfl Try.func41 (by kernel_rfl) rfl #[.int .u64 t126, .int .u64 a0] rfl (by (try simp only [List.map_toArray, List.map_cons, List.map_nil]); first | done | rfl | (simp only [List.length_drop, List.length_take]; rfl)) ?_; (with_reducible refine (edge_Edge_To.calls t126 a0 true _ A6.out).mono ?_); rintro e w' ⟨rfl, ⟨nd, rfl⟩⟩; refine ⟨_, rfl, ?_⟩) | (go_at_call 41; (with_reducible refine (edge_Edge_To.calls t127 a0 true _ A8.out).mono ?_); rintro e w' ⟨rfl, ⟨nd, rfl⟩⟩) | (go_at_call 41; (with_reducible refine (edge_Edge_To.calls t128 a0 true _ A10.out).mono ?_); rintro e w' ⟨rfl, ⟨nd, rfl⟩⟩) | (go_at_call 44; (with_reducible refine (edge_Edge_Flag.calls t126 true _ A12.out).mono ?_); rintro e w' ⟨rfl, ⟨nd, rfl⟩⟩) | (go_at_call 45; (with_reducible refine (edge_Edge_Tag.calls t126 t133 _ A14.out).mono ?_); rintro e w' ⟨rfl, ⟨nd, rfl⟩⟩) | (go_at_call 45; (with_reducible refine (edge_Edge_Tag.calls a0 t134 _ A15.out).mono ?_); rintro e w' ⟨rfl, ⟨nd, rfl⟩⟩) | (go_at_call 45; (with_reducible refine (edge_Edge_Tag.calls t127 true _ A17.out).mono ?_); rintro e w' ⟨rfl, ⟨nd, rfl⟩⟩) | (go_at_call 44; (with_reducible refine (edge_Edge_Flag.calls t127 t136 _ A19.out).mono ?_); rintro e w' ⟨rfl, ⟨nd, rfl⟩⟩) | (go_at_call 44; (with_reducible refine (edge_Edge_Flag.calls a0 t137 _ A20.out).mono ?_); rintro e w' ⟨rfl, ⟨nd, rfl⟩⟩) | (go_at_call 45; (with_reducible refine (edge_Edge_Tag.calls t128 false _ A22.out).mono ?_); rintro e w' ⟨rfl, ⟨nd, rfl⟩⟩) | (go_at_call 44; (with_reducible refine (edge_Edge_Flag.calls t128 t139 _ A24.out).mono ?_); rintro e w' ⟨rfl, ⟨nd, rfl⟩⟩) | (go_at_call 44; (with_reducible refine (edge_Edge_Flag.calls a0 t137 _ A25.out).mono ?_); rintro e w' ⟨rfl, ⟨nd, rfl⟩⟩))
                    go_meet
                    case rel => exact ⟨_, ((t139 != t137)), (by first | rfl | (simp; done) | (simp [*]; done)), H', ⟨by first | omega | exact Nat.le_refl _⟩, by repeat (first | exact Drawn0.refl _ | apply Drawn0.step)⟩
              · replace c18 := Bool.eq_false_iff.mpr c18
                subst c18
                have H1 : (deadwoodlaw03_EdgeKeeps.j0 k a0 t127 true) = some r := by rw [if_neg (show ¬ (false = true) by decide)] at H; exact H
                clear H
                have H := H1
                clear H1
                have H' := Aside0.mk H
                clear H
                go_wp2_with (first | ((with_reducible refine gate_callee (f := 41) rfl ?_); refine goesL_ (some 15) rfl rfl Try.func41 (by kernel_rfl) rfl #[.int .u64 t126, .int .u64 a0] rfl (by (try simp only [List.map_toArray, List.map_cons, List.map_nil]); first | done | rfl | (simp only [List.length_drop, List.length_take]; rfl)) ?_; (with_reducible refine (edge_Edge_To.calls t126 a0 true _ A6.out).mono ?_); rintro e w' ⟨rfl, ⟨nd, rfl⟩⟩; refine ⟨_, rfl, ?_⟩) | (go_at_call 41; (with_reducible refine (edge_Edge_To.calls t127 a0 true _ A8.out).mono ?_); rintro e w' ⟨rfl, ⟨nd, rfl⟩⟩) | (go_at_call 41; (with_reducible refine (edge_Edge_To.calls t128 a0 true _ A10.out).mono ?_); rintro e w' ⟨rfl, ⟨nd, rfl⟩⟩) | (go_at_call 44; (with_reducible refine (edge_Edge_Flag.calls t126 true _ A12.out).mono ?_); rintro e w' ⟨rfl, ⟨nd, rfl⟩⟩) | (go_at_call 45; (with_reducible refine (edge_Edge_Tag.calls t126 t133 _ A14.out).mono ?_); rintro e w' ⟨rfl, ⟨nd, rfl⟩⟩) | (go_at_call 45; (with_reducible refine (edge_Edge_Tag.calls a0 t134 _ A15.out).mono ?_); rintro e w' ⟨rfl, ⟨nd, rfl⟩⟩) | (go_at_call 45; (with_reducible refine (edge_Edge_Tag.calls t127 false _ A17.out).mono ?_); rintro e w' ⟨rfl, ⟨nd, rfl⟩⟩))
                go_meet
                case rel => exact ⟨_, (true), (by first | rfl | (simp; done) | (simp [*]; done)), H', ⟨by first | omega | exact Nat.le_refl _⟩, by repeat (first | exact Drawn0.refl _ | apply Drawn0.step)⟩
          · replace c13 := Bool.eq_false_iff.mpr c13
            subst c13
            have H1 : (deadwoodlaw03_EdgeKeeps.j0 k a0 t127 true) = some r := by rw [if_neg (show ¬ (false = true) by decide)] at H; exact H
            clear H
            have H := H1
            clear H1
            have H' := Aside0.mk H
            clear H
            go_wp2_with (first | ((with_reducible refine gate_callee (f := 41) rfl ?_); refine goesL_ (some 15) rfl rfl Try.func41 (by kernel_rfl) rfl #[.int .u64 t126, .int .u64 a0] rfl (by (try simp only [List.map_toArray, List.map_cons, List.map_nil]); first | done | rfl | (simp only [List.length_drop, List.length_take]; rfl)) ?_; (with_reducible refine (edge_Edge_To.calls t126 a0 true _ A6.out).mono ?_); rintro e w' ⟨rfl, ⟨nd, rfl⟩⟩; refine ⟨_, rfl, ?_⟩) | (go_at_call 41; (with_reducible refine (edge_Edge_To.calls t127 a0 true _ A8.out).mono ?_); rintro e w' ⟨rfl, ⟨nd, rfl⟩⟩) | (go_at_call 41; (with_reducible refine (edge_Edge_To.calls t128 a0 true _ A10.out).mono ?_); rintro e w' ⟨rfl, ⟨nd, rfl⟩⟩) | (go_at_call 44; (with_reducible refine (edge_Edge_Flag.calls t126 false _ A12.out).mono ?_); rintro e w' ⟨rfl, ⟨nd, rfl⟩⟩))
            go_meet
            case rel => exact ⟨_, (true), (by first | rfl | (simp; done) | (simp [*]; done)), H', ⟨by first | omega | exact Nat.le_refl _⟩, by repeat (first | exact Drawn0.refl _ | apply Drawn0.step)⟩
        · replace c11 := Bool.eq_false_iff.mpr c11
          subst c11
          have H1 : (deadwoodlaw03_EdgeKeeps.j0 k a0 t127 true) = some r := by rw [if_neg (show ¬ (false = true) by decide)] at H; exact H
          clear H
          have H := H1
          clear H1
          have H' := Aside0.mk H
          clear H
          go_wp2_with (first | ((with_reducible refine gate_callee (f := 41) rfl ?_); refine goesL_ (some 15) rfl rfl Try.func41 (by kernel_rfl) rfl #[.int .u64 t126, .int .u64 a0] rfl (by (try simp only [List.map_toArray, List.map_cons, List.map_nil]); first | done | rfl | (simp only [List.length_drop, List.length_take]; rfl)) ?_; (with_reducible refine (edge_Edge_To.calls t126 a0 true _ A6.out).mono ?_); rintro e w' ⟨rfl, ⟨nd, rfl⟩⟩; refine ⟨_, rfl, ?_⟩) | (go_at_call 41; (with_reducible refine (edge_Edge_To.calls t127 a0 true _ A8.out).mono ?_); rintro e w' ⟨rfl, ⟨nd, rfl⟩⟩) | (go_at_call 41; (with_reducible refine (edge_Edge_To.calls t128 a0 false _ A10.out).mono ?_); rintro e w' ⟨rfl, ⟨nd, rfl⟩⟩))
          go_meet
          case rel => exact ⟨_, (true), (by first | rfl | (simp; done) | (simp [*]; done)), H', ⟨by first | omega | exact Nat.le_refl _⟩, by repeat (first | exact Drawn0.refl _ | apply Drawn0.step)⟩
      · replace c9 := Bool.eq_false_iff.mpr c9
        subst c9
        have H1 : (deadwoodlaw03_EdgeKeeps.j0 k a0 t127 true) = some r := by rw [if_neg (show ¬ (false = true) by decide)] at H; exact H
        clear H
        have H := H1
        clear H1
        have H' := Aside0.mk H
        clear H
        go_wp2_with (first | ((with_reducible refine gate_callee (f := 41) rfl ?_); refine goesL_ (some 15) rfl rfl Try.func41 (by kernel_rfl) rfl #[.int .u64 t126, .int .u64 a0] rfl (by (try simp only [List.map_toArray, List.map_cons, List.map_nil]); first | done | rfl | (simp only [List.length_drop, List.length_take]; rfl)) ?_; (with_reducible refine (edge_Edge_To.calls t126 a0 true _ A6.out).mono ?_); rintro e w' ⟨rfl, ⟨nd, rfl⟩⟩; refine ⟨_, rfl, ?_⟩) | (go_at_call 41; (with_reducible refine (edge_Edge_To.calls t127 a0 false _ A8.out).mono ?_); rintro e w' ⟨rfl, ⟨nd, rfl⟩⟩))
        go_meet
        case rel => exact ⟨_, (true), (by first | rfl | (simp; done) | (simp [*]; done)), H', ⟨by first | omega | exact Nat.le_refl _⟩, by repeat (first | exact Drawn0.refl _ | apply Drawn0.step)⟩
    · replace c7 := Bool.eq_false_iff.mpr c7
      subst c7
      have H1 : (deadwoodlaw03_EdgeKeeps.j0 k a0 t127 true) = some r := by rw [if_neg (show ¬ (false = true) by decide)] at H; exact H
      clear H
      have H := H1
      clear H1
      have H' := Aside0.mk H
      clear H
      go_wp2_with (first | ((with_reducible refine gate_callee (f := 41) rfl ?_); refine goesL_ (some 15) rfl rfl Try.func41 (by kernel_rfl) rfl #[.int .u64 t126, .int .u64 a0] rfl (by (try simp only [List.map_toArray, List.map_cons, List.map_nil]); first | done | rfl | (simp only [List.length_drop, List.length_take]; rfl)) ?_; (with_reducible refine (edge_Edge_To.calls t126 a0 false _ A6.out).mono ?_); rintro e w' ⟨rfl, ⟨nd, rfl⟩⟩; refine ⟨_, rfl, ?_⟩))
      go_meet
      case rel => exact ⟨_, (true), (by first | rfl | (simp; done) | (simp [*]; done)), H', ⟨by first | omega | exact Nat.le_refl _⟩, by repeat (first | exact Drawn0.refl _ | apply Drawn0.step)⟩
  case rest =>
    clear HC5
    try clear c1
    try clear c2
    try clear p2
    try clear c3
    try clear c4
    try clear c7
    try clear c9
    try clear c11
    try clear c12
    try clear c13
    try clear c16
    try clear c16b0
    try clear c16b1
    try clear c16b2
    try clear c18
    try clear c21
    try clear c21b0
    try clear c21b1
    try clear c21b2
    try clear c23
    obtain ⟨kq, x63_4, rfl, HA, HJ4, ⟨mc4, rfl⟩⟩ := hcut
    cases kq with
    | zero => exact absurd HA.out (by simp [deadwoodlaw03_EdgeKeeps.j0])
    | succ kj4 =>
      have H := HA.out
      clear HA
      simp only [deadwoodlaw03_EdgeKeeps.j0] at H
      by_cases c26 : x63_4 = true
      · subst c26
        have H1 : (some false) = some r := by rw [if_pos rfl] at H; exact H
        clear H
        have H := H1
        clear H1
        exact absurd (Option.some.inj H) (by rw [HRT.out]; decide)
      · replace c26 := Bool.eq_false_iff.mpr c26
        subst c26
        have H1 : ((edge_Edge_Slot.f a0).bind fun t141 => ((edge_Edge_Gen.f a0).bind fun t142 => ((edge_Make.f t141 t142).bind fun t143 => ((edge_Edge_Flag.f a0).bind fun t144 => (if t144 = true then ((edge_Edge_Flagged.f t143).bind fun t145 => (deadwoodlaw03_EdgeKeeps.j1 kj4 a0 t127 t145)) else (deadwoodlaw03_EdgeKeeps.j1 kj4 a0 t127 t143)))))) = some r := by rw [if_neg (show ¬ (false = true) by decide)] at H; exact H
        clear H
        have H := H1
        clear H1
        replace H := Option.bind_eq_some_iff.mp H
        obtain ⟨t141, A270, H⟩ := H
        replace H : ((edge_Edge_Gen.f a0).bind fun t142 => ((edge_Make.f t141 t142).bind fun t143 => ((edge_Edge_Flag.f a0).bind fun t144 => (if t144 = true then ((edge_Edge_Flagged.f t143).bind fun t145 => (deadwoodlaw03_EdgeKeeps.j1 kj4 a0 t127 t145)) else (deadwoodlaw03_EdgeKeeps.j1 kj4 a0 t127 t143))))) = some r := H
        have A27 := Aside0.mk A270
        clear A270
        replace H := Option.bind_eq_some_iff.mp H
        obtain ⟨t142, A280, H⟩ := H
        replace H : ((edge_Make.f t141 t142).bind fun t143 => ((edge_Edge_Flag.f a0).bind fun t144 => (if t144 = true then ((edge_Edge_Flagged.f t143).bind fun t145 => (deadwoodlaw03_EdgeKeeps.j1 kj4 a0 t127 t145)) else (deadwoodlaw03_EdgeKeeps.j1 kj4 a0 t127 t143)))) = some r := H
        have A28 := Aside0.mk A280
        clear A280
        replace H := Option.bind_eq_some_iff.mp H
        obtain ⟨t143, A290, H⟩ := H
        replace H : ((edge_Edge_Flag.f a0).bind fun t144 => (if t144 = true then ((edge_Edge_Flagged.f t143).bind fun t145 => (deadwoodlaw03_EdgeKeeps.j1 kj4 a0 t127 t145)) else (deadwoodlaw03_EdgeKeeps.j1 kj4 a0 t127 t143))) = some r := H
        have A29 := Aside0.mk A290
        clear A290
        replace H := Option.bind_eq_some_iff.mp H
        obtain ⟨t144, A300, H⟩ := H
        replace H : (if t144 = true then ((edge_Edge_Flagged.f t143).bind fun t145 => (deadwoodlaw03_EdgeKeeps.j1 kj4 a0 t127 t145)) else (deadwoodlaw03_EdgeKeeps.j1 kj4 a0 t127 t143)) = some r := H
        have A30 := Aside0.mk A300
        clear A300
        have HC31 := Aside0.mk H
        clear H
        go_upto_if 70 with (first | ((with_reducible refine gate_callee (f := 42) rfl ?_); refine goesL_ (some 65) rfl rfl Try.func42 (by kernel_rfl) rfl #[.int .u64 a0] rfl (by (try simp only [List.map_toArray, List.map_cons, List.map_nil]); first | done | rfl | (simp only [List.length_drop, List.length_take]; rfl)) ?_; (with_reducible refine (edge_Edge_Slot.calls a0 t141 _ A27.out).mono ?_); rintro e w' ⟨rfl, ⟨nd, rfl⟩⟩; refine ⟨_, rfl, ?_⟩) | ((with_reducible refine gate_callee (f := 43) rfl ?_); refine goesL_ (some 67) rfl rfl Try.func43 (by kernel_rfl) rfl #[.int .u64 a0] rfl (by (try simp only [List.map_toArray, List.map_cons, List.map_nil]); first | done | rfl | (simp only [List.length_drop, List.length_take]; rfl)) ?_; (with_reducible refine (edge_Edge_Gen.calls a0 t142 _ A28.out).mono ?_); rintro e w' ⟨rfl, ⟨nd, rfl⟩⟩; refine ⟨_, rfl, ?_⟩) | ((with_reducible refine gate_callee (f := 27) rfl ?_); refine goesL_ (some 68) rfl rfl Try.func27 (by kernel_rfl) rfl #[.int .i64 t141, .int .u64 t142] rfl (by (try simp only [List.map_toArray, List.map_cons, List.map_nil]); first | done | rfl | (simp only [List.length_drop, List.length_take]; rfl)) ?_; (with_reducible refine (edge_Make.calls t141 t142 t143 _ A29.out).mono ?_); rintro e w' ⟨rfl, ⟨nd, rfl⟩⟩; refine ⟨_, rfl, ?_⟩) | ((with_reducible refine gate_callee (f := 44) rfl ?_); refine goesL_ (some 70) rfl rfl Try.func44 (by kernel_rfl) rfl #[.int .u64 a0] rfl (by (try simp only [List.map_toArray, List.map_cons, List.map_nil]); first | done | rfl | (simp only [List.length_drop, List.length_take]; rfl)) ?_; (with_reducible refine (edge_Edge_Flag.calls a0 t144 _ A30.out).mono ?_); rintro e w' ⟨rfl, ⟨nd, rfl⟩⟩; refine ⟨_, rfl, ?_⟩))
        (try simp only [Act.put, List.setIfInBounds_toArray, List.set_cons_zero, List.set_cons_succ])
        go_cut [6] (fun v6 wc => ∃ (kq : Nat) (x6_30 : Int), v6 = .int .u64 x6_30 ∧ Aside0 (deadwoodlaw03_EdgeKeeps.j1 kq a0 t127 x6_30 = some r) ∧ Aside0 (kq ≤ kj4) ∧ Drawn0 w wc)
        case first =>
          have H := HC31.out
          clear HC31
          by_cases c32 : t144 = true
          · subst c32
            have H1 : ((edge_Edge_Flagged.f t143).bind fun t145 => (deadwoodlaw03_EdgeKeeps.j1 kj4 a0 t127 t145)) = some r := by rw [if_pos rfl] at H; exact H
            clear H
            have H := H1
            clear H1
            replace H := Option.bind_eq_some_iff.mp H
            obtain ⟨t145, A330, H⟩ := H
            replace H : (deadwoodlaw03_EdgeKeeps.j1 kj4 a0 t127 t145) = some r := H
            have A33 := Aside0.mk A330
            clear A330
            have H' := Aside0.mk H
            clear H
            go_wp2_with (first | ((with_reducible refine gate_callee (f := 38) rfl ?_); refine goesL_ (some 72) rfl rfl Try.func38 (by kernel_rfl) rfl #[.int .u64 t143] rfl (by (try simp only [List.map_toArray, List.map_cons, List.map_nil]); first | done | rfl | (simp only [List.length_drop, List.length_take]; rfl)) ?_; (with_reducible refine (edge_Edge_Flagged.calls t143 t145 _ A33.out).mono ?_); rintro e w' ⟨rfl, ⟨nd, rfl⟩⟩; refine ⟨_, rfl, ?_⟩))
            go_meet
            case rel => exact ⟨_, (t145), (by first | rfl | (simp; done) | (simp [*]; done)), H', ⟨by have := HJ4.out; first | omega | exact Nat.le_refl _⟩, by repeat (first | exact Drawn0.refl _ | apply Drawn0.step)⟩
          · replace c32 := Bool.eq_false_iff.mpr c32
            subst c32
            have H1 : (deadwoodlaw03_EdgeKeeps.j1 kj4 a0 t127 t143) = some r := by rw [if_neg (show ¬ (false = true) by decide)] at H; exact H
            clear H
            have H := H1
            clear H1
            have H' := Aside0.mk H
            clear H
            go_wp2
            go_meet
            case rel => exact ⟨_, (t143), (by first | rfl | (simp; done) | (simp [*]; done)), H', ⟨by have := HJ4.out; first | omega | exact Nat.le_refl _⟩, by repeat (first | exact Drawn0.refl _ | apply Drawn0.step)⟩
        case rest =>
          clear HC31
          try clear c1
          try clear c2
          try clear p2
          try clear c3
          try clear c4
          try clear c7
          try clear c9
          try clear c11
          try clear c12
          try clear c13
          try clear c16
          try clear c16b0
          try clear c16b1
          try clear c16b2
          try clear c18
          try clear c21
          try clear c21b0
          try clear c21b1
          try clear c21b2
          try clear c23
          try clear c26
          try clear c27
          try clear c32
          try clear p2
          obtain ⟨kq, x6_30, rfl, HA, HJ30, ⟨mc30, rfl⟩⟩ := hcut
          cases kq with
          | zero => exact absurd HA.out (by simp [deadwoodlaw03_EdgeKeeps.j1])
          | succ kj30 =>
            have H := HA.out
            clear HA
            simp only [deadwoodlaw03_EdgeKeeps.j1] at H
            replace H := Option.bind_eq_some_iff.mp H
            obtain ⟨t146, A340, H⟩ := H
            replace H : (if t146 = true then ((edge_Edge_Tagged.f x6_30).bind fun t147 => (deadwoodlaw03_EdgeKeeps.j2 kj30 a0 t127 t147)) else (deadwoodlaw03_EdgeKeeps.j2 kj30 a0 t127 x6_30)) = some r := H
            have A34 := Aside0.mk A340
            clear A340
            have HC35 := Aside0.mk H
            clear H
            go_upto_if 74 with (first | ((with_reducible refine gate_callee (f := 45) rfl ?_); refine goesL_ (some 74) rfl rfl Try.func45 (by kernel_rfl) rfl #[.int .u64 a0] rfl (by (try simp only [List.map_toArray, List.map_cons, List.map_nil]); first | done | rfl | (simp only [List.length_drop, List.length_take]; rfl)) ?_; (with_reducible refine (edge_Edge_Tag.calls a0 t146 _ A34.out).mono ?_); rintro e w' ⟨rfl, ⟨nd, rfl⟩⟩; refine ⟨_, rfl, ?_⟩))
            (try simp only [Act.put, List.setIfInBounds_toArray, List.set_cons_zero, List.set_cons_succ])
            go_cut [6] (fun v6 wc => ∃ (kq : Nat) (x6_34 : Int), v6 = .int .u64 x6_34 ∧ Aside0 (deadwoodlaw03_EdgeKeeps.j2 kq a0 t127 x6_34 = some r) ∧ Aside0 (kq ≤ kj30) ∧ Drawn0 w wc)
            case first =>
              have H := HC35.out
              clear HC35
              by_cases c36 : t146 = true
              · subst c36
                have H1 : ((edge_Edge_Tagged.f x6_30).bind fun t147 => (deadwoodlaw03_EdgeKeeps.j2 kj30 a0 t127 t147)) = some r := by rw [if_pos rfl] at H; exact H
                clear H
                have H := H1
                clear H1
                replace H := Option.bind_eq_some_iff.mp H
                obtain ⟨t147, A370, H⟩ := H
                replace H : (deadwoodlaw03_EdgeKeeps.j2 kj30 a0 t127 t147) = some r := H
                have A37 := Aside0.mk A370
                clear A370
                have H' := Aside0.mk H
                clear H
                go_wp2_with (first | ((with_reducible refine gate_callee (f := 39) rfl ?_); refine goesL_ (some 76) rfl rfl Try.func39 (by kernel_rfl) rfl #[.int .u64 x6_30] rfl (by (try simp only [List.map_toArray, List.map_cons, List.map_nil]); first | done | rfl | (simp only [List.length_drop, List.length_take]; rfl)) ?_; (with_reducible refine (edge_Edge_Tagged.calls x6_30 t147 _ A37.out).mono ?_); rintro e w' ⟨rfl, ⟨nd, rfl⟩⟩; refine ⟨_, rfl, ?_⟩))
                go_meet
                case rel => exact ⟨_, (t147), (by first | rfl | (simp; done) | (simp [*]; done)), H', ⟨by have := HJ4.out; have := HJ30.out; first | omega | exact Nat.le_refl _⟩, by repeat (first | exact Drawn0.refl _ | apply Drawn0.step)⟩
              · replace c36 := Bool.eq_false_iff.mpr c36
                subst c36
                have H1 : (deadwoodlaw03_EdgeKeeps.j2 kj30 a0 t127 x6_30) = some r := by rw [if_neg (show ¬ (false = true) by decide)] at H; exact H
                clear H
                have H := H1
                clear H1
                have H' := Aside0.mk H
                clear H
                go_wp2
                go_meet
                case rel => exact ⟨_, (x6_30), (by first | rfl | (simp; done) | (simp [*]; done)), H', ⟨by have := HJ4.out; have := HJ30.out; first | omega | exact Nat.le_refl _⟩, by repeat (first | exact Drawn0.refl _ | apply Drawn0.step)⟩
            case rest =>
              clear HC35
              try clear c1
              try clear c2
              try clear p2
              try clear c3
              try clear c4
              try clear c7
              try clear c9
              try clear c11
              try clear c12
              try clear c13
              try clear c16
              try clear c16b0
              try clear c16b1
              try clear c16b2
              try clear c18
              try clear c21
              try clear c21b0
              try clear c21b1
              try clear c21b2
              try clear c23
              try clear c26
              try clear c27
              try clear c30
              try clear c32
              try clear c36
              try clear p2
              obtain ⟨kq, x6_34, rfl, HA, HJ34, ⟨mc34, rfl⟩⟩ := hcut
              cases kq with
              | zero => exact absurd HA.out (by simp [deadwoodlaw03_EdgeKeeps.j2])
              | succ kj34 =>
                have H := HA.out
                clear HA
                simp only [deadwoodlaw03_EdgeKeeps.j2] at H
                by_cases c38 : x6_34 = a0
                · rw [if_pos c38] at H
                  have c38b0 : (x6_34 == a0) = true := beq_iff_eq.mpr c38
                  have c38b1 : (x6_34 != a0) = false := bne_eq_false_iff_eq.mpr c38
                  clear c38
                  replace H := Option.bind_eq_some_iff.mp H
                  obtain ⟨t148, A390, H⟩ := H
                  replace H : ((edge_Edge_Plain.f t148).bind fun t149 => (if t149 = true then ((edge_Edge_Plain.f a0).bind fun t150 => ((edge_Edge_Flag.f a0).bind fun t151 => (if t151 = true then (if (t150 == false) = true then (if t127 = (Go.bits .or .u64 a0 9223372036854775808) then ((deadwoodlaw03_lives.f).bind fun t152 => (some t152)) else (some false)) else (some false)) else ((edge_Edge_Tag.f a0).bind fun t153 => (if (t150 == (!t153)) = true then (if t127 = (Go.bits .or .u64 a0 9223372036854775808) then ((deadwoodlaw03_lives.f).bind fun t154 => (some t154)) else (some false)) else (some false)))))) else (some false))) = some r := H
                  have A39 := Aside0.mk A390
                  clear A390
                  replace H := Option.bind_eq_some_iff.mp H
                  obtain ⟨t149, A400, H⟩ := H
                  replace H : (if t149 = true then ((edge_Edge_Plain.f a0).bind fun t150 => ((edge_Edge_Flag.f a0).bind fun t151 => (if t151 = true then (if (t150 == false) = true then (if t127 = (Go.bits .or .u64 a0 9223372036854775808) then ((deadwoodlaw03_lives.f).bind fun t152 => (some t152)) else (some false)) else (some false)) else ((edge_Edge_Tag.f a0).bind fun t153 => (if (t150 == (!t153)) = true then (if t127 = (Go.bits .or .u64 a0 9223372036854775808) then ((deadwoodlaw03_lives.f).bind fun t154 => (some t154)) else (some false)) else (some false)))))) else (some false)) = some r := H
                  have A40 := Aside0.mk A400
                  clear A400
                  by_cases c41 : t149 = true
                  · subst c41
                    have H1 : ((edge_Edge_Plain.f a0).bind fun t150 => ((edge_Edge_Flag.f a0).bind fun t151 => (if t151 = true then (if (t150 == false) = true then (if t127 = (Go.bits .or .u64 a0 9223372036854775808) then ((deadwoodlaw03_lives.f).bind fun t152 => (some t152)) else (some false)) else (some false)) else ((edge_Edge_Tag.f a0).bind fun t153 => (if (t150 == (!t153)) = true then (if t127 = (Go.bits .or .u64 a0 9223372036854775808) then ((deadwoodlaw03_lives.f).bind fun t154 => (some t154)) else (some false)) else (some false)))))) = some r := by rw [if_pos rfl] at H; exact H
                    clear H
                    have H := H1
                    clear H1
                    replace H := Option.bind_eq_some_iff.mp H
                    obtain ⟨t150, A420, H⟩ := H
                    replace H : ((edge_Edge_Flag.f a0).bind fun t151 => (if t151 = true then (if (t150 == false) = true then (if t127 = (Go.bits .or .u64 a0 9223372036854775808) then ((deadwoodlaw03_lives.f).bind fun t152 => (some t152)) else (some false)) else (some false)) else ((edge_Edge_Tag.f a0).bind fun t153 => (if (t150 == (!t153)) = true then (if t127 = (Go.bits .or .u64 a0 9223372036854775808) then ((deadwoodlaw03_lives.f).bind fun t154 => (some t154)) else (some false)) else (some false))))) = some r := H
                    have A42 := Aside0.mk A420
                    clear A420
                    replace H := Option.bind_eq_some_iff.mp H
                    obtain ⟨t151, A430, H⟩ := H
                    replace H : (if t151 = true then (if (t150 == false) = true then (if t127 = (Go.bits .or .u64 a0 9223372036854775808) then ((deadwoodlaw03_lives.f).bind fun t152 => (some t152)) else (some false)) else (some false)) else ((edge_Edge_Tag.f a0).bind fun t153 => (if (t150 == (!t153)) = true then (if t127 = (Go.bits .or .u64 a0 9223372036854775808) then ((deadwoodlaw03_lives.f).bind fun t154 => (some t154)) else (some false)) else (some false)))) = some r := H
                    have A43 := Aside0.mk A430
                    clear A430
                    by_cases c44 : t151 = true
                    · subst c44
                      have H1 : (if (t150 == false) = true then (if t127 = (Go.bits .or .u64 a0 9223372036854775808) then ((deadwoodlaw03_lives.f).bind fun t152 => (some t152)) else (some false)) else (some false)) = some r := by rw [if_pos rfl] at H; exact H
                      clear H
                      have H := H1
                      clear H1
                      by_cases c45 : (t150 == false) = true
                      · rw [if_pos c45] at H
                        have c45b0 : (t150 == false) = true := c45
                        (try (have c45b1 : decide (t150 = false) = true := by simpa using c45))
                        (try (have c45b2 : (t150 == false) = true := by simpa using c45))
                        clear c45
                        by_cases c46 : t127 = (Go.bits .or .u64 a0 9223372036854775808)
                        · rw [if_pos c46] at H
                          have c46b0 : (t127 == (Go.bits .or .u64 a0 9223372036854775808)) = true := beq_iff_eq.mpr c46
                          have c46b1 : (t127 != (Go.bits .or .u64 a0 9223372036854775808)) = false := bne_eq_false_iff_eq.mpr c46
                          clear c46
                          replace H := Option.bind_eq_some_iff.mp H
                          obtain ⟨t152, A470, H⟩ := H
                          replace H : (some t152) = some r := H
                          have A47 := Aside0.mk A470
                          clear A470
                          obtain rfl := Option.some.inj H
                          go_wp2_with (first | (go_at_call 47; (with_reducible refine (edge_Edge_Node.calls a0 t148 _ A39.out).mono ?_); rintro e w' ⟨rfl, ⟨nd, rfl⟩⟩) | (go_at_call 46; (with_reducible refine (edge_Edge_Plain.calls t148 true _ A40.out).mono ?_); rintro e w' ⟨rfl, ⟨nd, rfl⟩⟩) | (go_at_call 46; (with_reducible refine (edge_Edge_Plain.calls a0 t150 _ A42.out).mono ?_); rintro e w' ⟨rfl, ⟨nd, rfl⟩⟩) | (go_at_call 44; (with_reducible refine (edge_Edge_Flag.calls a0 true _ A43.out).mono ?_); rintro e w' ⟨rfl, ⟨nd, rfl⟩⟩) | (go_at_call 29; (with_reducible refine (deadwoodlaw03_lives.calls  t152 _ A47.out).mono ?_); rintro e w' ⟨rfl, ⟨nd, rfl⟩⟩))
                          go_ret
                          exact ⟨by first | rfl | (simp; done) | (simp [*]; done), by repeat (first | exact Drawn0.refl _ | apply Drawn0.step)⟩
                        · rw [if_neg c46] at H
                          have c46b0 : (t127 == (Go.bits .or .u64 a0 9223372036854775808)) = false := beq_eq_false_iff_ne.mpr c46
                          have c46b1 : (t127 != (Go.bits .or .u64 a0 9223372036854775808)) = true := bne_iff_ne.mpr c46
                          exact absurd (Option.some.inj H) (by rw [HRT.out]; decide)
                      · rw [if_neg c45] at H
                        have c45b0 : (t150 == false) = false := by simpa using c45
                        (try (have c45b1 : decide (t150 = false) = false := by simpa using c45))
                        (try (have c45b2 : (t150 == false) = false := by simpa using c45))
                        (try (have c45b3 : ¬ (t150 = false) := by simpa using c45))
                        clear c45
                        exact absurd (Option.some.inj H) (by rw [HRT.out]; decide)
                    · replace c44 := Bool.eq_false_iff.mpr c44
                      subst c44
                      have H1 : ((edge_Edge_Tag.f a0).bind fun t153 => (if (t150 == (!t153)) = true then (if t127 = (Go.bits .or .u64 a0 9223372036854775808) then ((deadwoodlaw03_lives.f).bind fun t154 => (some t154)) else (some false)) else (some false))) = some r := by rw [if_neg (show ¬ (false = true) by decide)] at H; exact H
                      clear H
                      have H := H1
                      clear H1
                      replace H := Option.bind_eq_some_iff.mp H
                      obtain ⟨t153, A480, H⟩ := H
                      replace H : (if (t150 == (!t153)) = true then (if t127 = (Go.bits .or .u64 a0 9223372036854775808) then ((deadwoodlaw03_lives.f).bind fun t154 => (some t154)) else (some false)) else (some false)) = some r := H
                      have A48 := Aside0.mk A480
                      clear A480
                      by_cases c49 : (t150 == (!t153)) = true
                      · rw [if_pos c49] at H
                        have c49b0 : (t150 == (!t153)) = true := c49
                        (try (have c49b1 : decide (t150 = (!t153)) = true := by simpa using c49))
                        (try (have c49b2 : (t150 == (!t153)) = true := by simpa using c49))
                        clear c49
                        by_cases c50 : t127 = (Go.bits .or .u64 a0 9223372036854775808)
                        · rw [if_pos c50] at H
                          have c50b0 : (t127 == (Go.bits .or .u64 a0 9223372036854775808)) = true := beq_iff_eq.mpr c50
                          have c50b1 : (t127 != (Go.bits .or .u64 a0 9223372036854775808)) = false := bne_eq_false_iff_eq.mpr c50
                          clear c50
                          replace H := Option.bind_eq_some_iff.mp H
                          obtain ⟨t154, A510, H⟩ := H
                          replace H : (some t154) = some r := H
                          have A51 := Aside0.mk A510
                          clear A510
                          obtain rfl := Option.some.inj H
                          go_wp2_with (first | (go_at_call 47; (with_reducible refine (edge_Edge_Node.calls a0 t148 _ A39.out).mono ?_); rintro e w' ⟨rfl, ⟨nd, rfl⟩⟩) | (go_at_call 46; (with_reducible refine (edge_Edge_Plain.calls t148 true _ A40.out).mono ?_); rintro e w' ⟨rfl, ⟨nd, rfl⟩⟩) | (go_at_call 46; (with_reducible refine (edge_Edge_Plain.calls a0 t150 _ A42.out).mono ?_); rintro e w' ⟨rfl, ⟨nd, rfl⟩⟩) | (go_at_call 44; (with_reducible refine (edge_Edge_Flag.calls a0 false _ A43.out).mono ?_); rintro e w' ⟨rfl, ⟨nd, rfl⟩⟩) | (go_at_call 45; (with_reducible refine (edge_Edge_Tag.calls a0 t153 _ A48.out).mono ?_); rintro e w' ⟨rfl, ⟨nd, rfl⟩⟩) | (go_at_call 29; (with_reducible refine (deadwoodlaw03_lives.calls  t154 _ A51.out).mono ?_); rintro e w' ⟨rfl, ⟨nd, rfl⟩⟩))
                          go_ret
                          exact ⟨by first | rfl | (simp; done) | (simp [*]; done), by repeat (first | exact Drawn0.refl _ | apply Drawn0.step)⟩
                        · rw [if_neg c50] at H
                          have c50b0 : (t127 == (Go.bits .or .u64 a0 9223372036854775808)) = false := beq_eq_false_iff_ne.mpr c50
                          have c50b1 : (t127 != (Go.bits .or .u64 a0 9223372036854775808)) = true := bne_iff_ne.mpr c50
                          exact absurd (Option.some.inj H) (by rw [HRT.out]; decide)
                      · rw [if_neg c49] at H
                        have c49b0 : (t150 == (!t153)) = false := by simpa using c49
                        (try (have c49b1 : decide (t150 = (!t153)) = false := by simpa using c49))
                        (try (have c49b2 : (t150 == (!t153)) = false := by simpa using c49))
                        (try (have c49b3 : ¬ (t150 = (!t153)) := by simpa using c49))
                        clear c49
                        exact absurd (Option.some.inj H) (by rw [HRT.out]; decide)
                  · replace c41 := Bool.eq_false_iff.mpr c41
                    subst c41
                    have H1 : (some false) = some r := by rw [if_neg (show ¬ (false = true) by decide)] at H; exact H
                    clear H
                    have H := H1
                    clear H1
                    exact absurd (Option.some.inj H) (by rw [HRT.out]; decide)
                · rw [if_neg c38] at H
                  have c38b0 : (x6_34 == a0) = false := beq_eq_false_iff_ne.mpr c38
                  have c38b1 : (x6_34 != a0) = true := bne_iff_ne.mpr c38
                  exact absurd (Option.some.inj H) (by rw [HRT.out]; decide)

/-- THE ONE PURE STATEMENT of deadwoodlaw03_EdgeKeeps: yours. -/
def deadwoodlaw03_EdgeKeeps.Pure : Prop := ∀ (a0 : Int), (Lit.int .u64 a0).wf = true → ∃ k, deadwoodlaw03_EdgeKeeps.f k a0 = some true
theorem deadwoodlaw03_EdgeKeeps.walk (P : deadwoodlaw03_EdgeKeeps.Pure) (a0 : Int) (w : World) (w0 : (Lit.int .u64 a0).wf = true) :
    Calls Try.prog 12 #[.int .u64 a0] w fun e w' => e = .returned (.bool true) ∧ Below w.heap.size w w' := by
  obtain ⟨k, h⟩ := P a0 w0
  refine (deadwoodlaw03_EdgeKeeps.calls k a0 true w rfl h).mono ?_
  rintro e w' ⟨rfl, hd⟩
  exact ⟨rfl, hd.below⟩

end Go.Proofs.Ytdbenonbjklkdaa.PEdgeKeeps
