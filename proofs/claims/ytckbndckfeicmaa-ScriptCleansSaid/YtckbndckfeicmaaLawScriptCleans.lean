-- Printed by a program of this session (mkprint.py) out of the translation; Lean checks it.
import Derived.Test.YtckbndckfeicmaaRows
import Derived.Test.YtckbndckfeicmaaPScriptCleansx9
import Derived.Test.YtckbndckfeicmaaPureScriptCleans
import Derived.WalkKit
import Derived.ProofKit
import Derived.OpenShut
import Derived.ShutString
import Derived.ChangeOld
import Derived.Below
import Derived.SizedLaws
import Derived.Test.YtckbndckfeicmaaRead
set_option linter.unusedVariables false
namespace Go.Proofs.Ytckbndckfeicmaa.scriptCleans
open Go.ChangeShapes Go.WideShapes Go.ChangeAt Go.RowKit Go.Proofs.YtckbndckfeicmaaW.PrintWords Go.Proofs.Ytckbndckfeicmaa.Read
open Go.Proofs.Ytckbndckfeicmaa.PScriptCleans
open Go.ChangeMaps (open_string shut_string)
theorem own : ownKnob Try.prog.godebug = none := by kernel_rfl
theorem laidOut : laidOutB Try.prog = true := by kernel_rfl
theorem rd24 : Rd Try.prog 24 k24 ok24 :=
  (((Rd.struct Try.underlying24 (by kernel_rfl) (by kernel_rfl) (RdF.cons (off := 0) (off' := 1) (Rd.int Try.underlying3 (by kernel_rfl)) (by kernel_rfl) (RdF.cons (off := 1) (off' := 2) (Rd.int Try.underlying3 (by kernel_rfl)) (by kernel_rfl) (RdF.one (off := 2) (Rd.int Try.underlying22 (by kernel_rfl)))))).iso (fun x : S24 => (x.f0, x.f1, x.f2)) (fun a => (⟨a.1, a.2.1, a.2.2⟩ : S24)) (fun _ => rfl)) : Rd Try.prog 24 k24 _).mono (fun _ h => h)
theorem rd38 : Rd Try.prog 38 k38 ok38 :=
  (((Rd.struct Try.underlying38 (by kernel_rfl) (by kernel_rfl) (RdF.cons (off := 0) (off' := 1) (Rd.int Try.underlying3 (by kernel_rfl)) (by kernel_rfl) (RdF.cons (off := 1) (off' := 2) (Rd.int Try.underlying2 (by kernel_rfl)) (by kernel_rfl) (RdF.cons (off := 2) (off' := 3) (Rd.int Try.underlying2 (by kernel_rfl)) (by kernel_rfl) (RdF.cons (off := 3) (off' := 4) (Rd.int Try.underlying2 (by kernel_rfl)) (by kernel_rfl) (RdF.one (off := 4) (Rd.int Try.underlying3 (by kernel_rfl)))))))).iso (fun x : S38 => (x.f0, x.f1, x.f2, x.f3, x.f4)) (fun a => (⟨a.1, a.2.1, a.2.2.1, a.2.2.2.1, a.2.2.2.2⟩ : S38)) (fun _ => rfl)) : Rd Try.prog 38 k38 _).mono (fun _ h => h)
theorem rd75 : Rd Try.prog 75 k75 ok75 :=
  (((Rd.struct Try.underlying75 (by kernel_rfl) (by kernel_rfl) (RdF.cons (off := 0) (off' := 1) (Rd.int Try.underlying3 (by kernel_rfl)) (by kernel_rfl) (RdF.cons (off := 1) (off' := 2) (Rd.bool Try.underlying4 (by kernel_rfl)) (by kernel_rfl) (RdF.one (off := 2) rd38)))).iso (fun x : S75 => (x.f0, x.f1, x.f2)) (fun a => (⟨a.1, a.2.1, a.2.2⟩ : S75)) (fun _ => rfl)) : Rd Try.prog 75 k75 _).mono (fun _ h => h)
theorem rd27 : Rd Try.prog 27 k27 ok27 :=
  (((Rd.struct Try.underlying27 (by kernel_rfl) (by kernel_rfl) (RdF.cons (off := 0) (off' := 3) rd24 (by kernel_rfl) (RdF.one (off := 3) (Rd.slice Try.underlying25 (by kernel_rfl) rd75 (B := 56) (by kernel_rfl))))).iso (fun x : S27 => (x.f0, x.f1)) (fun a => (⟨a.1, a.2⟩ : S27)) (fun _ => rfl)) : Rd Try.prog 27 k27 _).mono (fun _ h => h)
set_option maxRecDepth 100000 in
theorem lifted (os : Os) (started : os.Started) (H : Type) (enc : TypeId × Value → H) :
    ReturnsInHanded {} Try.checked os 4 .any (Rows.scriptCleansSpec.pre6 enc Try.prog Try.f4 Rows.scriptCleansRow.domain false) (Rows.scriptCleansSpec.post enc Try.prog Try.f4 false true false false) := by
  refine returnsInHanded_of_change_sized (C := Try.checked) own started (by kernel_rfl) Try.func4
    (ChangeSpec.witness6 (enc := enc) (C := Try.checked) false ⟨#[], #[.agg #[.int .i64 0, .int .i64 0, .int .u64 0, .slice none 0 0]], []⟩ 8 (by kernel_rfl) (by kernel_rfl) (by kernel_rfl) (by kernel_rfl)) ?_
  intro W base args ds gs before hval0 hW hcnd hsz0 _
  have hsz : (DataW.weightsEach Try.prog (Try.f4.params.toList ++ Rows.scriptCleansSpec.plain.varTypes Try.prog) (ds ++ gs)).all (· ≤ reachBytes) = true := hsz0
  have hval : ∀ (j : Nat) t v, Try.f4.params[j]? = some t → args[j]? = some v → Value.okWide Try.prog W .any base t v := hval0
  have hW' := hW
  obtain ⟨p, q, hA0, hV, rfl, hfz, hnd⟩ := hW
  have hA : DataW.TrodAll enc Try.prog W 0 (fun _ => true) true Try.f4.params.toList args.toList ds p := hA0
  rw [Try.params4] at hA hval hsz
  obtain ⟨v0, vs0, d0, ds0, p0, q0, hargs, rfl, rfl, h0, r0⟩ := trodAll_cons hA
  obtain ⟨rfl, rfl, rfl⟩ := trodAll_nil r0
  obtain rfl : args = #[v0] := by cases args; simp_all
  obtain ⟨rfl, rfl⟩ := trodVars_none hV
  have k0_ := h0
  have lt0 : ∀ x ∈ p0, x.block < W.heap.size := by obtain ⟨m, hm⟩ := k0_; exact DataW.trod_lt m _ _ _ hm
  obtain ⟨cs0, rfl, _⟩ := okWide_struct Try.underlying27 (hval 0 27 v0 rfl rfl)
  obtain ⟨x0, hK0, w0⟩ := of_trod rd27 hsz (j := 0) rfl rfl h0
  obtain ⟨A0_3, c0_3, e0, hc0_3, hr0_3⟩ := k27_open hK0
  obtain rfl := Array.ext' (ys := (#[.int .i64 x0.f0.f0, .int .i64 x0.f0.f1, .int .u64 x0.f0.f2, .slice A0_3 x0.f1.length c0_3] : Array Value)) e0
  clear hA0 hval0 hsz0 hsz
  refine (PScriptCleans.deadwoodlaw14_ScriptCleans.walk Pure.ScriptCleans x0 A0_3 c0_3 W w0 hr0_3 hc0_3).mono fun e W' ⟨he, bel⟩ => ?_
  subst he
  exact ⟨_, rfl, _, _, _, [], _, [], hW', trodAll_mk1 (shut_bool Try.underlying4 _), (trodAll_cons_mk (Below.trod laidOut (by kernel_rfl) (of_decide_eq_true (by kernel_rfl)) k0_ bel lt0) trodAll_mk0), rfl, bel.frame _, fun h => by cases h⟩
theorem over : Rows.scriptCleansRow.holds Try.pinned (OpenSpec.ofChange Rows.scriptCleansSpec) :=
  OpenClaim.holds_of_wide 4 Try.f4 rfl rfl rfl rfl rfl rfl rfl ⟨rfl, rfl, rfl, rfl, rfl⟩ rfl rfl rfl rfl rfl (by kernel_rfl) Try.func4 (by kernel_rfl)
    (of_decide_eq_true (by kernel_rfl)) (by unfold Func.isWrapper; first | (rw [if_pos (by decide +kernel)]; kernel_rfl) | (rw [if_neg (by decide +kernel)]; exact ⟨rfl, rfl⟩))
    (fun os started H enc _ => lifted os started H enc)
theorem proved : Rows.ScriptCleansSaid := over
#print axioms proved
end Go.Proofs.Ytckbndckfeicmaa.scriptCleans
namespace Go.Proofs.Ytckbndckfeicmaa
/-- The row, under a short name, for the claim. -/
theorem scriptCleans_holds : Rows.ScriptCleansSaid := scriptCleans.proved
end Go.Proofs.Ytckbndckfeicmaa
