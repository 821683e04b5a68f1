-- Printed by a program of this session (mkprint.py) out of the translation; Lean checks it.
import Derived.Test.YtkkneaefjahihaaRows
import Derived.Test.YtkkneaefjahihaaZOkModelTold
import Derived.Test.YtkkneaefjahihaaZModLt
import Derived.WalkKit
import Derived.ProofKit
import Derived.OpenShut
import Derived.ShutString
import Derived.ChangeOld
import Derived.Below
import Derived.SizedLaws
import Derived.Test.YtkkneaefjahihaaZRead
set_option linter.unusedVariables false
namespace Go.Proofs.Ytkkneaefjahihaa.modelTold
open Go.ChangeShapes Go.WideShapes Go.ChangeAt Go.RowKit Go.Proofs.YtkkneaefjahihaaW.PrintWords Go.Proofs.Ytkkneaefjahihaa.Read
open Go.Proofs.Ytkkneaefjahihaa.PModelTold
open Go.ChangeMaps (open_string shut_string)
theorem own : ownKnob Try.prog.godebug = none := by kernel_rfl
theorem laidOut : laidOutB Try.prog = true := by kernel_rfl
theorem rd38 : Rd Try.prog 38 k38 ok38 :=
  (((Rd.struct Try.underlying38 (by kernel_rfl) (by kernel_rfl) (RdF.cons (off := 0) (off' := 1) (Rd.int Try.underlying3 (by kernel_rfl)) (by kernel_rfl) (RdF.cons (off := 1) (off' := 2) (Rd.int Try.underlying2 (by kernel_rfl)) (by kernel_rfl) (RdF.cons (off := 2) (off' := 3) (Rd.int Try.underlying2 (by kernel_rfl)) (by kernel_rfl) (RdF.cons (off := 3) (off' := 4) (Rd.int Try.underlying2 (by kernel_rfl)) (by kernel_rfl) (RdF.one (off := 4) (Rd.int Try.underlying3 (by kernel_rfl)))))))).iso (fun x : S38 => (x.f0, x.f1, x.f2, x.f3, x.f4)) (fun a => (⟨a.1, a.2.1, a.2.2.1, a.2.2.2.1, a.2.2.2.2⟩ : S38)) (fun _ => rfl)) : Rd Try.prog 38 k38 _).mono (fun _ h => h)
theorem rd49 : Rd Try.prog 49 k49 ok49 :=
  (((Rd.struct Try.underlying49 (by kernel_rfl) (by kernel_rfl) (RdF.cons (off := 0) (off' := 1) (Rd.int Try.underlying2 (by kernel_rfl)) (by kernel_rfl) (RdF.one (off := 1) (Rd.int Try.underlying2 (by kernel_rfl))))).iso (fun x : S49 => (x.f0, x.f1)) (fun a => (⟨a.1, a.2⟩ : S49)) (fun _ => rfl)) : Rd Try.prog 49 k49 _).mono (fun _ h => h)
theorem rd34 : Rd Try.prog 34 k34 ok34 :=
  (((Rd.struct Try.underlying34 (by kernel_rfl) (by kernel_rfl) (RdF.cons (off := 0) (off' := 1) (Rd.int Try.underlying3 (by kernel_rfl)) (by kernel_rfl) (RdF.cons (off := 1) (off' := 2) (Rd.int Try.underlying2 (by kernel_rfl)) (by kernel_rfl) (RdF.cons (off := 2) (off' := 3) (Rd.int Try.underlying2 (by kernel_rfl)) (by kernel_rfl) (RdF.cons (off := 3) (off' := 4) (Rd.int Try.underlying3 (by kernel_rfl)) (by kernel_rfl) (RdF.one (off := 4) (Rd.slice Try.underlying24 (by kernel_rfl) rd49 (B := 16) (by kernel_rfl)))))))).iso (fun x : S34 => (x.f0, x.f1, x.f2, x.f3, x.f4)) (fun a => (⟨a.1, a.2.1, a.2.2.1, a.2.2.2.1, a.2.2.2.2⟩ : S34)) (fun _ => rfl)) : Rd Try.prog 34 k34 _).mono (fun _ h => h)
theorem rd40 : Rd Try.prog 40 k40 ok40 :=
  (((Rd.struct Try.underlying40 (by kernel_rfl) (by kernel_rfl) (RdF.cons (off := 0) (off' := 1) (Rd.int Try.underlying3 (by kernel_rfl)) (by kernel_rfl) (RdF.cons (off := 1) (off' := 6) rd38 (by kernel_rfl) (RdF.one (off := 6) rd34)))).iso (fun x : S40 => (x.f0, x.f1, x.f2)) (fun a => (⟨a.1, a.2.1, a.2.2⟩ : S40)) (fun _ => rfl)) : Rd Try.prog 40 k40 _).mono (fun _ h => h)
set_option maxRecDepth 100000 in
theorem lifted (os : Os) (started : os.Started) (H : Type) (enc : TypeId × Value → H) :
    ReturnsInHanded {} Try.checked os 5 .any (Rows.modelToldSpec.pre6 enc Try.prog Try.f5 Rows.modelToldRow.domain false) (Rows.modelToldSpec.post enc Try.prog Try.f5 false true false false) := by
  refine returnsInHanded_of_change_sized (C := Try.checked) own started (by kernel_rfl) Try.func5
    (ChangeSpec.witness6 (enc := enc) (C := Try.checked) false ⟨#[], #[.int .i64 0, .slice none 0 0], []⟩ 8 (by kernel_rfl) (by kernel_rfl) (by kernel_rfl) (by kernel_rfl)) ?_
  intro W base args ds gs before hval0 hW hcnd hsz0 _
  have hsz : (DataW.weightsEach Try.prog (Try.f5.params.toList ++ Rows.modelToldSpec.plain.varTypes Try.prog) (ds ++ gs)).all (· ≤ reachBytes) = true := hsz0
  have hval : ∀ (j : Nat) t v, Try.f5.params[j]? = some t → args[j]? = some v → Value.okWide Try.prog W .any base t v := hval0
  have hW' := hW
  obtain ⟨p, q, hA0, hV, rfl, hfz, hnd⟩ := hW
  have hA : DataW.TrodAll enc Try.prog W 0 (fun _ => true) true Try.f5.params.toList args.toList ds p := hA0
  rw [Try.params5] at hA hval hsz
  obtain ⟨v0, vs0, d0, ds0, p0, q0, hargs, rfl, rfl, h0, r0⟩ := trodAll_cons hA
  obtain ⟨v1, vs1, d1, ds1, p1, q1, rfl, rfl, rfl, h1, r1⟩ := trodAll_cons r0
  obtain ⟨rfl, rfl, rfl⟩ := trodAll_nil r1
  obtain rfl : args = #[v0, v1] := by cases args; simp_all
  obtain ⟨rfl, rfl⟩ := trodVars_none hV
  obtain ⟨a0, rfl, rfl, rfl, w0⟩ := open_int Try.underlying3 (hval 0 3 v0 rfl rfl) h0
  have k1_ := h1
  have lt1 : ∀ x ∈ p1, x.block < W.heap.size := by obtain ⟨m, hm⟩ := k1_; exact DataW.trod_lt m _ _ _ hm
  obtain ⟨a1_, len1_, cap1_, rfl⟩ := okWide_slice Try.underlying22 (hval 1 22 v1 rfl rfl)
  obtain ⟨l1, hK1, w1⟩ := of_trod (Rd.slice Try.underlying22 (by kernel_rfl) rd40 (B := 104) (by kernel_rfl)) hsz (j := 1) rfl rfl h1
  obtain ⟨A1, c1, e1, hc1, hr1⟩ := hK1
  obtain ⟨ea_, el_, ec_⟩ : a1_ = A1 ∧ len1_ = l1.length ∧ cap1_ = c1 := by simpa [Value.cells] using e1
  obtain rfl := ea_.symm
  obtain rfl := el_.symm
  obtain rfl := ec_.symm
  clear hA0 hval0 hsz0 hsz
  refine (Go.Proofs.Ytkkneaefjahihaa.ModLt.told_walk a0 l1 A1 c1 W hr1 hc1).mono fun e W' ⟨he, bel⟩ => ?_
  subst he
  exact ⟨_, rfl, _, _, _, [], _, [], hW', trodAll_mk1 (shut_bool Try.underlying4 _), (trodAll_cons_mk (shut_int Try.underlying3 w0) (trodAll_cons_mk (Below.trod laidOut (by kernel_rfl) (of_decide_eq_true (by kernel_rfl)) k1_ bel lt1) trodAll_mk0)), rfl, bel.frame _, fun h => by cases h⟩
theorem over : Rows.modelToldRow.holds Try.pinned (OpenSpec.ofChange Rows.modelToldSpec) :=
  OpenClaim.holds_of_wide 5 Try.f5 rfl rfl rfl rfl rfl rfl rfl ⟨rfl, rfl, rfl, rfl, rfl⟩ rfl rfl rfl rfl rfl (by kernel_rfl) Try.func5 (by kernel_rfl)
    (of_decide_eq_true (by kernel_rfl)) (by unfold Func.isWrapper; first | (rw [if_pos (by decide +kernel)]; kernel_rfl) | (rw [if_neg (by decide +kernel)]; exact ⟨rfl, rfl⟩))
    (fun os started H enc _ => lifted os started H enc)
theorem proved : Rows.ModelToldSaid := over
#print axioms proved
end Go.Proofs.Ytkkneaefjahihaa.modelTold
namespace Go.Proofs.Ytkkneaefjahihaa
/-- The row, under a short name, for the claim. -/
theorem modelTold_holds : Rows.ModelToldSaid := modelTold.proved
end Go.Proofs.Ytkkneaefjahihaa
