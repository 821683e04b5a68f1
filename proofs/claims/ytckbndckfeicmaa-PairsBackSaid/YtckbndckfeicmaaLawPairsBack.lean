-- Printed by a program of this session (mkprint.py) out of the translation; Lean checks it.
import Derived.Test.YtckbndckfeicmaaRows
import Derived.Test.YtckbndckfeicmaaPPairsBackx4
import Derived.Test.YtckbndckfeicmaaPurePairsBack
import Derived.WalkKit
import Derived.ProofKit
import Derived.OpenShut
import Derived.ShutString
import Derived.ChangeOld
import Derived.Below
import Derived.SizedLaws
import Derived.Test.YtckbndckfeicmaaRead
set_option linter.unusedVariables false
namespace Go.Proofs.Ytckbndckfeicmaa.pairsBack
open Go.ChangeShapes Go.WideShapes Go.ChangeAt Go.RowKit Go.Proofs.YtckbndckfeicmaaW.PrintWords Go.Proofs.Ytckbndckfeicmaa.Read
open Go.Proofs.Ytckbndckfeicmaa.PPairsBack
open Go.ChangeMaps (open_string shut_string)
theorem own : ownKnob Try.prog.godebug = none := by kernel_rfl
theorem laidOut : laidOutB Try.prog = true := by kernel_rfl
theorem rd61 : Rd Try.prog 61 k61 ok61 :=
  (((Rd.struct Try.underlying61 (by kernel_rfl) (by kernel_rfl) (RdF.cons (off := 0) (off' := 1) (Rd.int Try.underlying2 (by kernel_rfl)) (by kernel_rfl) (RdF.one (off := 1) (Rd.int Try.underlying2 (by kernel_rfl))))).iso (fun x : S61 => (x.f0, x.f1)) (fun a => (⟨a.1, a.2⟩ : S61)) (fun _ => rfl)) : Rd Try.prog 61 k61 _).mono (fun _ h => h)
set_option maxRecDepth 100000 in
theorem lifted (os : Os) (started : os.Started) (H : Type) (enc : TypeId × Value → H) :
    ReturnsInHanded {} Try.checked os 13 .any (Rows.pairsBackSpec.pre6 enc Try.prog Try.f13 Rows.pairsBackRow.domain false) (Rows.pairsBackSpec.post enc Try.prog Try.f13 false true false false) := by
  refine returnsInHanded_of_change_sized (C := Try.checked) own started (by kernel_rfl) Try.func13
    (ChangeSpec.witness6 (enc := enc) (C := Try.checked) false ⟨#[], #[.slice none 0 0, .agg #[.int .i64 0, .int .i64 0]], []⟩ 8 (by kernel_rfl) (by kernel_rfl) (by kernel_rfl) (by kernel_rfl)) ?_
  intro W base args ds gs before hval0 hW hcnd hsz0 _
  have hsz : (DataW.weightsEach Try.prog (Try.f13.params.toList ++ Rows.pairsBackSpec.plain.varTypes Try.prog) (ds ++ gs)).all (· ≤ reachBytes) = true := hsz0
  have hval : ∀ (j : Nat) t v, Try.f13.params[j]? = some t → args[j]? = some v → Value.okWide Try.prog W .any base t v := hval0
  have hW' := hW
  obtain ⟨p, q, hA0, hV, rfl, hfz, hnd⟩ := hW
  have hA : DataW.TrodAll enc Try.prog W 0 (fun _ => true) true Try.f13.params.toList args.toList ds p := hA0
  rw [Try.params13] at hA hval hsz
  obtain ⟨v0, vs0, d0, ds0, p0, q0, hargs, rfl, rfl, h0, r0⟩ := trodAll_cons hA
  obtain ⟨v1, vs1, d1, ds1, p1, q1, rfl, rfl, rfl, h1, r1⟩ := trodAll_cons r0
  obtain ⟨rfl, rfl, rfl⟩ := trodAll_nil r1
  obtain rfl : args = #[v0, v1] := by cases args; simp_all
  obtain ⟨rfl, rfl⟩ := trodVars_none hV
  have k0_ := h0
  have lt0 : ∀ x ∈ p0, x.block < W.heap.size := by obtain ⟨m, hm⟩ := k0_; exact DataW.trod_lt m _ _ _ hm
  obtain ⟨a0_, len0_, cap0_, rfl⟩ := okWide_slice Try.underlying39 (hval 0 39 v0 rfl rfl)
  obtain ⟨l0, hK0, w0⟩ := of_trod (Rd.slice Try.underlying39 (by kernel_rfl) rd61 (B := 16) (by kernel_rfl)) hsz (j := 0) rfl rfl h0
  obtain ⟨A0, c0, e0, hc0, hr0⟩ := hK0
  obtain ⟨ea_, el_, ec_⟩ : a0_ = A0 ∧ len0_ = l0.length ∧ cap0_ = c0 := by simpa [Value.cells] using e0
  obtain rfl := ea_.symm
  obtain rfl := el_.symm
  obtain rfl := ec_.symm
  have k1_ := h1
  have lt1 : ∀ x ∈ p1, x.block < W.heap.size := by obtain ⟨m, hm⟩ := k1_; exact DataW.trod_lt m _ _ _ hm
  obtain ⟨cs1, rfl, _⟩ := okWide_struct Try.underlying61 (hval 1 61 v1 rfl rfl)
  obtain ⟨x1, hK1, w1⟩ := of_trod rd61 hsz (j := 1) rfl rfl h1
  have e1 := k61_open hK1
  obtain rfl := Array.ext' (ys := (#[.int .i64 x1.f0, .int .i64 x1.f1] : Array Value)) e1
  clear hA0 hval0 hsz0 hsz
  refine (PPairsBack.deadwoodlaw08_PairsBack.walk Pure.PairsBack l0 A0 c0 x1 W w0 w1 hr0 hc0).mono fun e W' ⟨he, bel⟩ => ?_
  subst he
  exact ⟨_, rfl, _, _, _, [], _, [], hW', trodAll_mk1 (shut_bool Try.underlying4 _), (trodAll_cons_mk (Below.trod laidOut (by kernel_rfl) (of_decide_eq_true (by kernel_rfl)) k0_ bel lt0) (trodAll_cons_mk (Below.trod laidOut (by kernel_rfl) (of_decide_eq_true (by kernel_rfl)) k1_ bel lt1) trodAll_mk0)), rfl, bel.frame _, fun h => by cases h⟩
theorem over : Rows.pairsBackRow.holds Try.pinned (OpenSpec.ofChange Rows.pairsBackSpec) :=
  OpenClaim.holds_of_wide 13 Try.f13 rfl rfl rfl rfl rfl rfl rfl ⟨rfl, rfl, rfl, rfl, rfl⟩ rfl rfl rfl rfl rfl (by kernel_rfl) Try.func13 (by kernel_rfl)
    (of_decide_eq_true (by kernel_rfl)) (by unfold Func.isWrapper; first | (rw [if_pos (by decide +kernel)]; kernel_rfl) | (rw [if_neg (by decide +kernel)]; exact ⟨rfl, rfl⟩))
    (fun os started H enc _ => lifted os started H enc)
theorem proved : Rows.PairsBackSaid := over
#print axioms proved
end Go.Proofs.Ytckbndckfeicmaa.pairsBack
namespace Go.Proofs.Ytckbndckfeicmaa
/-- The row, under a short name, for the claim. -/
theorem pairsBack_holds : Rows.PairsBackSaid := pairsBack.proved
end Go.Proofs.Ytckbndckfeicmaa
