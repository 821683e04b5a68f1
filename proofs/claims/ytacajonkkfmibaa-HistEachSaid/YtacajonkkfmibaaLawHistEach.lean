-- Printed by a program of this session (mkprint.py) out of the translation; Lean checks it.
import Derived.Test.YtacajonkkfmibaaRows
import Derived.Test.YtacajonkkfmibaaHistLawE
import Derived.WalkKit
import Derived.ProofKit
import Derived.OpenShut
import Derived.ShutString
import Derived.ChangeOld
import Derived.Below
import Derived.SizedLaws
import Derived.Test.YtacajonkkfmibaaRead
set_option linter.unusedVariables false
namespace Go.Proofs.Ytacajonkkfmibaa.histEach
open Go.ChangeShapes Go.WideShapes Go.ChangeAt Go.RowKit Go.Proofs.YtacajonkkfmibaaW.PrintWords Go.Proofs.Ytacajonkkfmibaa.Read
open Go.Proofs.Ytacajonkkfmibaa.HistLawE
open Go.Proofs.Ytacajonkkfmibaa.PHistOpers
open Go.ChangeMaps (open_string shut_string)
theorem own : ownKnob Try.prog.godebug = none := by kernel_rfl
theorem laidOut : laidOutB Try.prog = true := by kernel_rfl
/-- What is known of a value of type 28 that came in. -/
def ok28 (x : S28) : Prop := ((Lit.int .i64 x.f0).wf = true) ∧ ((Lit.int .i64 x.f1).wf = true) ∧ ((Lit.int .i64 x.f2).wf = true) ∧ ((Lit.int .i64 x.f3).wf = true) ∧ ((Lit.int .i64 x.f4).wf = true)
/-- What is known of a value of type 104 that came in. -/
def ok104 (x : S104) : Prop := ((Lit.int .i64 x.f0).wf = true) ∧ ((Lit.int .i64 x.f1).wf = true)
/-- What is known of a value of type 31 that came in. -/
def ok31 (x : S31) : Prop := ((Lit.int .i64 x.f0).wf = true) ∧ ((Lit.int .i64 x.f1).wf = true) ∧ ((Lit.int .i64 x.f2).wf = true) ∧ ((Lit.int .i64 x.f3).wf = true) ∧ (x.f4.length * 16 ≤ 140737488351232 ∧ ∀ a ∈ x.f4, ok104 a)
/-- What is known of a value of type 33 that came in. -/
def ok33 (x : S33) : Prop := ((Lit.int .i64 x.f0).wf = true) ∧ (True) ∧ (ok28 x.f2) ∧ (ok31 x.f3)
theorem rd28 : Rd Try.prog 28 k28 ok28 :=
  (((Rd.struct Try.underlying28 (by kernel_rfl) (by kernel_rfl) (RdF.cons (off := 0) (off' := 1) (Rd.int Try.underlying3 (by kernel_rfl)) (by kernel_rfl) (RdF.cons (off := 1) (off' := 2) (Rd.int Try.underlying2 (by kernel_rfl)) (by kernel_rfl) (RdF.cons (off := 2) (off' := 3) (Rd.int Try.underlying2 (by kernel_rfl)) (by kernel_rfl) (RdF.cons (off := 3) (off' := 4) (Rd.int Try.underlying2 (by kernel_rfl)) (by kernel_rfl) (RdF.one (off := 4) (Rd.int Try.underlying3 (by kernel_rfl)))))))).iso (fun x : S28 => (x.f0, x.f1, x.f2, x.f3, x.f4)) (fun a => (⟨a.1, a.2.1, a.2.2.1, a.2.2.2.1, a.2.2.2.2⟩ : S28)) (fun _ => rfl)) : Rd Try.prog 28 k28 _).mono (fun _ h => h)
theorem rd104 : Rd Try.prog 104 k104 ok104 :=
  (((Rd.struct Try.underlying104 (by kernel_rfl) (by kernel_rfl) (RdF.cons (off := 0) (off' := 1) (Rd.int Try.underlying2 (by kernel_rfl)) (by kernel_rfl) (RdF.one (off := 1) (Rd.int Try.underlying2 (by kernel_rfl))))).iso (fun x : S104 => (x.f0, x.f1)) (fun a => (⟨a.1, a.2⟩ : S104)) (fun _ => rfl)) : Rd Try.prog 104 k104 _).mono (fun _ h => h)
theorem rd31 : Rd Try.prog 31 k31 ok31 :=
  (((Rd.struct Try.underlying31 (by kernel_rfl) (by kernel_rfl) (RdF.cons (off := 0) (off' := 1) (Rd.int Try.underlying3 (by kernel_rfl)) (by kernel_rfl) (RdF.cons (off := 1) (off' := 2) (Rd.int Try.underlying2 (by kernel_rfl)) (by kernel_rfl) (RdF.cons (off := 2) (off' := 3) (Rd.int Try.underlying2 (by kernel_rfl)) (by kernel_rfl) (RdF.cons (off := 3) (off' := 4) (Rd.int Try.underlying3 (by kernel_rfl)) (by kernel_rfl) (RdF.one (off := 4) (Rd.slice Try.underlying29 (by kernel_rfl) rd104 (B := 16) (by kernel_rfl)))))))).iso (fun x : S31 => (x.f0, x.f1, x.f2, x.f3, x.f4)) (fun a => (⟨a.1, a.2.1, a.2.2.1, a.2.2.2.1, a.2.2.2.2⟩ : S31)) (fun _ => rfl)) : Rd Try.prog 31 k31 _).mono (fun _ h => h)
theorem rd33 : Rd Try.prog 33 k33 ok33 :=
  (((Rd.struct Try.underlying33 (by kernel_rfl) (by kernel_rfl) (RdF.cons (off := 0) (off' := 1) (Rd.int Try.underlying3 (by kernel_rfl)) (by kernel_rfl) (RdF.cons (off := 1) (off' := 2) (Rd.bool Try.underlying4 (by kernel_rfl)) (by kernel_rfl) (RdF.cons (off := 2) (off' := 7) rd28 (by kernel_rfl) (RdF.one (off := 7) rd31))))).iso (fun x : S33 => (x.f0, x.f1, x.f2, x.f3)) (fun a => (⟨a.1, a.2.1, a.2.2.1, a.2.2.2⟩ : S33)) (fun _ => rfl)) : Rd Try.prog 33 k33 _).mono (fun _ h => h)
set_option maxRecDepth 100000 in
theorem lifted (os : Os) (started : os.Started) (H : Type) (enc : TypeId × Value → H) :
    ReturnsInHanded {} Try.checked os 4 .any (Rows.histEachSpec.pre6 enc Try.prog Try.f4 Rows.histEachRow.domain false) (Rows.histEachSpec.post enc Try.prog Try.f4 false true false false) := by
  refine returnsInHanded_of_change_sized (C := Try.checked) own started (by kernel_rfl) Try.func4
    (ChangeSpec.witness6 (enc := enc) (C := Try.checked) false ⟨#[], #[.slice none 0 0, .int .i64 0, .int .i64 0], []⟩ 8 (by kernel_rfl) (by kernel_rfl) (by kernel_rfl) (by kernel_rfl)) ?_
  intro W base args ds gs before hval0 hW hcnd hsz0 _
  have hsz : (DataW.weightsEach Try.prog (Try.f4.params.toList ++ Rows.histEachSpec.plain.varTypes Try.prog) (ds ++ gs)).all (· ≤ reachBytes) = true := hsz0
  have hval : ∀ (j : Nat) t v, Try.f4.params[j]? = some t → args[j]? = some v → Value.okWide Try.prog W .any base t v := hval0
  have hW' := hW
  obtain ⟨p, q, hA0, hV, rfl, hfz, hnd⟩ := hW
  have hA : DataW.TrodAll enc Try.prog W 0 (fun _ => true) true Try.f4.params.toList args.toList ds p := hA0
  rw [Try.params4] at hA hval hsz
  obtain ⟨v0, vs0, d0, ds0, p0, q0, hargs, rfl, rfl, h0, r0⟩ := trodAll_cons hA
  obtain ⟨v1, vs1, d1, ds1, p1, q1, rfl, rfl, rfl, h1, r1⟩ := trodAll_cons r0
  obtain ⟨v2, vs2, d2, ds2, p2, q2, rfl, rfl, rfl, h2, r2⟩ := trodAll_cons r1
  obtain ⟨rfl, rfl, rfl⟩ := trodAll_nil r2
  obtain rfl : args = #[v0, v1, v2] := by cases args; simp_all
  obtain ⟨rfl, rfl⟩ := trodVars_none hV
  have k0_ := h0
  have lt0 : ∀ x ∈ p0, x.block < W.heap.size := by obtain ⟨m, hm⟩ := k0_; exact DataW.trod_lt m _ _ _ hm
  obtain ⟨a0_, len0_, cap0_, rfl⟩ := okWide_slice Try.underlying22 (hval 0 22 v0 rfl rfl)
  obtain ⟨l0, hK0, w0⟩ := of_trod (Rd.slice Try.underlying22 (by kernel_rfl) rd33 (B := 112) (by kernel_rfl)) hsz (j := 0) rfl rfl h0
  obtain ⟨A0, c0, e0, hc0, hr0⟩ := hK0
  obtain ⟨ea_, el_, ec_⟩ : a0_ = A0 ∧ len0_ = l0.length ∧ cap0_ = c0 := by simpa [Value.cells] using e0
  obtain rfl := ea_.symm
  obtain rfl := el_.symm
  obtain rfl := ec_.symm
  obtain ⟨a1, rfl, rfl, rfl, w1⟩ := open_int Try.underlying3 (hval 1 3 v1 rfl rfl) h1
  obtain ⟨a2, rfl, rfl, rfl, w2⟩ := open_int Try.underlying3 (hval 2 3 v2 rfl rfl) h2
  clear hA0 hval0 hsz0 hsz
  refine (HistLawE.walk l0 A0 c0 a1 a2 W hr0 hc0).mono fun e W' ⟨he, bel⟩ => ?_
  subst he
  exact ⟨_, rfl, _, _, _, [], _, [], hW', trodAll_mk1 (shut_bool Try.underlying4 _), (trodAll_cons_mk (Below.trod laidOut (by kernel_rfl) (of_decide_eq_true (by kernel_rfl)) k0_ bel lt0) (trodAll_cons_mk (shut_int Try.underlying3 w1) (trodAll_cons_mk (shut_int Try.underlying3 w2) trodAll_mk0))), rfl, bel.frame _, fun h => by cases h⟩
theorem over : Rows.histEachRow.holds Try.pinned (OpenSpec.ofChange Rows.histEachSpec) :=
  OpenClaim.holds_of_wide 4 Try.f4 rfl rfl rfl rfl rfl rfl rfl ⟨rfl, rfl, rfl, rfl, rfl⟩ rfl rfl rfl rfl rfl (by kernel_rfl) Try.func4 (by kernel_rfl)
    (of_decide_eq_true (by kernel_rfl)) (by unfold Func.isWrapper; first | (rw [if_pos (by decide +kernel)]; kernel_rfl) | (rw [if_neg (by decide +kernel)]; exact ⟨rfl, rfl⟩))
    (fun os started H enc _ => lifted os started H enc)
theorem proved : Rows.HistEachSaid := over
#print axioms proved
end Go.Proofs.Ytacajonkkfmibaa.histEach
namespace Go.Proofs.Ytacajonkkfmibaa
/-- The row, under a short name, for the claim. -/
theorem histEach_holds : Rows.HistEachSaid := histEach.proved
end Go.Proofs.Ytacajonkkfmibaa
