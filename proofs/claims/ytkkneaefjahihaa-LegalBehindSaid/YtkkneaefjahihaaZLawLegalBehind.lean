-- Printed by a program of this session (mkprint.py) out of the translation; Lean checks it.
import Derived.Test.YtkkneaefjahihaaRows
import Derived.Test.YtkkneaefjahihaaZOkLegalBehind
import Derived.Test.YtkkneaefjahihaaZLegL
import Derived.WalkKit
import Derived.ProofKit
import Derived.OpenShut
import Derived.ShutString
import Derived.ChangeOld
import Derived.Below
import Derived.SizedLaws
import Derived.Test.YtkkneaefjahihaaZRead
set_option linter.unusedVariables false
namespace Go.Proofs.Ytkkneaefjahihaa.legalBehind
open Go.ChangeShapes Go.WideShapes Go.ChangeAt Go.RowKit Go.Proofs.YtkkneaefjahihaaW.PrintWords Go.Proofs.Ytkkneaefjahihaa.Read
open Go.Proofs.Ytkkneaefjahihaa.PModelTold
open Go.ChangeMaps (open_string shut_string)
theorem own : ownKnob Try.prog.godebug = none := by kernel_rfl
theorem laidOut : laidOutB Try.prog = true := by kernel_rfl
theorem rd38 : Rd Try.prog 38 k38 ok38 :=
  (((Rd.struct Try.underlying38 (by kernel_rfl) (by kernel_rfl) (RdF.cons (off := 0) (off' := 1) (Rd.int Try.underlying3 (by kernel_rfl)) (by kernel_rfl) (RdF.cons (off := 1) (off' := 2) (Rd.int Try.underlying2 (by kernel_rfl)) (by kernel_rfl) (RdF.cons (off := 2) (off' := 3) (Rd.int Try.underlying2 (by kernel_rfl)) (by kernel_rfl) (RdF.cons (off := 3) (off' := 4) (Rd.int Try.underlying2 (by kernel_rfl)) (by kernel_rfl) (RdF.one (off := 4) (Rd.int Try.underlying3 (by kernel_rfl)))))))).iso (fun x : S38 => (x.f0, x.f1, x.f2, x.f3, x.f4)) (fun a => (⟨a.1, a.2.1, a.2.2.1, a.2.2.2.1, a.2.2.2.2⟩ : S38)) (fun _ => rfl)) : Rd Try.prog 38 k38 _).mono (fun _ h => h)
theorem rd49 : Rd Try.prog 49 k49 ok49 :=
  (((Rd.struct Try.underlying49 (by kernel_rfl) (by kernel_rfl) (RdF.cons (off := 0) (off' := 1) (Rd.int Try.underlying2 (by kernel_rfl)) (by kernel_rfl) (RdF.one (off := 1) (Rd.int Try.underlying2 (by kernel_rfl))))).iso (fun x : S49 => (x.f0, x.f1)) (fun a => (⟨a.1, a.2⟩ : S49)) (fun _ => rfl)) : Rd Try.prog 49 k49 _).mono (fun _ h => h)
theorem rd34 : Rd Try.prog 34 k34 ok34 :=
  (((Rd.struct Try.underlying34 (by kernel_rfl) (by kernel_rfl) (RdF.cons (off := 0) (off' := 1) (Rd.int Try.underlying3 (by kernel_rfl)) (by kernel_rfl) (RdF.cons (off := 1) (off' := 2) (Rd.int Try.underlying2 (by kernel_rfl)) (by kernel_rfl) (RdF.cons (off := 2) (off' := 3) (Rd.int Try.underlying2 (by kernel_rfl)) (by kernel_rfl) (RdF.cons (off := 3) (off' := 4) (Rd.int Try.underlying3 (by kernel_rfl)) (by kernel_rfl) (RdF.one (off := 4) (Rd.slice Try.underlying24 (by kernel_rfl) rd49 (B := 16) (by kernel_rfl)))))))).iso (fun x : S34 => (x.f0, x.f1, x.f2, x.f3, x.f4)) (fun a => (⟨a.1, a.2.1, a.2.2.1, a.2.2.2.1, a.2.2.2.2⟩ : S34)) (fun _ => rfl)) : Rd Try.prog 34 k34 _).mono (fun _ h => h)
theorem rd77 : Rd Try.prog 77 k77 ok77 :=
  (((Rd.struct Try.underlying77 (by kernel_rfl) (by kernel_rfl) (RdF.cons (off := 0) (off' := 1) (Rd.int Try.underlying3 (by kernel_rfl)) (by kernel_rfl) (RdF.cons (off := 1) (off' := 6) rd38 (by kernel_rfl) (RdF.cons (off := 6) (off' := 11) rd34 (by kernel_rfl) (RdF.cons (off := 11) (off' := 12) (Rd.int Try.underlying3 (by kernel_rfl)) (by kernel_rfl) (RdF.one (off := 12) (Rd.int Try.underlying3 (by kernel_rfl)))))))).iso (fun x : S77 => (x.f0, x.f1, x.f2, x.f3, x.f4)) (fun a => (⟨a.1, a.2.1, a.2.2.1, a.2.2.2.1, a.2.2.2.2⟩ : S77)) (fun _ => rfl)) : Rd Try.prog 77 k77 _).mono (fun _ h => h)
set_option maxRecDepth 100000 in
theorem lifted (os : Os) (started : os.Started) (H : Type) (enc : TypeId × Value → H) :
    ReturnsInHanded {} Try.checked os 6 .any (Rows.legalBehindSpec.pre6 enc Try.prog Try.f6 Rows.legalBehindRow.domain false) (Rows.legalBehindSpec.post enc Try.prog Try.f6 false true false false) := by
  refine returnsInHanded_of_change_sized (C := Try.checked) own started (by kernel_rfl) Try.func6
    (ChangeSpec.witness6 (enc := enc) (C := Try.checked) false ⟨#[], #[.slice none 0 0, .slice none 0 0, .int .i64 0], []⟩ 8 (by kernel_rfl) (by kernel_rfl) (by kernel_rfl) (by kernel_rfl)) ?_
  intro W base args ds gs before hval0 hW hcnd hsz0 _
  have hsz : (DataW.weightsEach Try.prog (Try.f6.params.toList ++ Rows.legalBehindSpec.plain.varTypes Try.prog) (ds ++ gs)).all (· ≤ reachBytes) = true := hsz0
  have hval : ∀ (j : Nat) t v, Try.f6.params[j]? = some t → args[j]? = some v → Value.okWide Try.prog W .any base t v := hval0
  have hW' := hW
  obtain ⟨p, q, hA0, hV, rfl, hfz, hnd⟩ := hW
  have hA : DataW.TrodAll enc Try.prog W 0 (fun _ => true) true Try.f6.params.toList args.toList ds p := hA0
  rw [Try.params6] at hA hval hsz
  obtain ⟨v0, vs0, d0, ds0, p0, q0, hargs, rfl, rfl, h0, r0⟩ := trodAll_cons hA
  obtain ⟨v1, vs1, d1, ds1, p1, q1, rfl, rfl, rfl, h1, r1⟩ := trodAll_cons r0
  obtain ⟨v2, vs2, d2, ds2, p2, q2, rfl, rfl, rfl, h2, r2⟩ := trodAll_cons r1
  obtain ⟨rfl, rfl, rfl⟩ := trodAll_nil r2
  obtain rfl : args = #[v0, v1, v2] := by cases args; simp_all
  obtain ⟨rfl, rfl⟩ := trodVars_none hV
  have k0_ := h0
  have lt0 : ∀ x ∈ p0, x.block < W.heap.size := by obtain ⟨m, hm⟩ := k0_; exact DataW.trod_lt m _ _ _ hm
  obtain ⟨a0_, len0_, cap0_, rfl⟩ := okWide_slice Try.underlying55 (hval 0 55 v0 rfl rfl)
  obtain ⟨l0, hK0, w0⟩ := of_trod (Rd.slice Try.underlying55 (by kernel_rfl) rd77 (B := 120) (by kernel_rfl)) hsz (j := 0) rfl rfl h0
  obtain ⟨A0, c0, e0, hc0, hr0⟩ := hK0
  obtain ⟨ea_, el_, ec_⟩ : a0_ = A0 ∧ len0_ = l0.length ∧ cap0_ = c0 := by simpa [Value.cells] using e0
  obtain rfl := ea_.symm
  obtain rfl := el_.symm
  obtain rfl := ec_.symm
  have k1_ := h1
  have lt1 : ∀ x ∈ p1, x.block < W.heap.size := by obtain ⟨m, hm⟩ := k1_; exact DataW.trod_lt m _ _ _ hm
  obtain ⟨a1_, len1_, cap1_, rfl⟩ := okWide_slice Try.underlying56 (hval 1 56 v1 rfl rfl)
  obtain ⟨l1, hK1, w1⟩ := of_trod (Rd.slice Try.underlying56 (by kernel_rfl) (Rd.int Try.underlying3 (by kernel_rfl)) (B := 8) (by kernel_rfl)) hsz (j := 1) rfl rfl h1
  obtain ⟨A1, c1, e1, hc1, hr1⟩ := hK1
  obtain ⟨ea_, el_, ec_⟩ : a1_ = A1 ∧ len1_ = l1.length ∧ cap1_ = c1 := by simpa [Value.cells] using e1
  obtain rfl := ea_.symm
  obtain rfl := el_.symm
  obtain rfl := ec_.symm
  obtain ⟨a2, rfl, rfl, rfl, w2⟩ := open_int Try.underlying3 (hval 2 3 v2 rfl rfl) h2
  clear hA0 hval0 hsz0 hsz
  refine (Go.Proofs.Ytkkneaefjahihaa.Leg.behind_walk l0 A0 c0 l1 A1 c1 a2 W hr0 hc0 hr1 hc1).mono fun e W' ⟨he, bel⟩ => ?_
  subst he
  exact ⟨_, rfl, _, _, _, [], _, [], hW', trodAll_mk1 (shut_bool Try.underlying4 _), (trodAll_cons_mk (Below.trod laidOut (by kernel_rfl) (of_decide_eq_true (by kernel_rfl)) k0_ bel lt0) (trodAll_cons_mk (Below.trod laidOut (by kernel_rfl) (of_decide_eq_true (by kernel_rfl)) k1_ bel lt1) (trodAll_cons_mk (shut_int Try.underlying3 w2) trodAll_mk0))), rfl, bel.frame _, fun h => by cases h⟩
theorem over : Rows.legalBehindRow.holds Try.pinned (OpenSpec.ofChange Rows.legalBehindSpec) :=
  OpenClaim.holds_of_wide 6 Try.f6 rfl rfl rfl rfl rfl rfl rfl ⟨rfl, rfl, rfl, rfl, rfl⟩ rfl rfl rfl rfl rfl (by kernel_rfl) Try.func6 (by kernel_rfl)
    (of_decide_eq_true (by kernel_rfl)) (by unfold Func.isWrapper; first | (rw [if_pos (by decide +kernel)]; kernel_rfl) | (rw [if_neg (by decide +kernel)]; exact ⟨rfl, rfl⟩))
    (fun os started H enc _ => lifted os started H enc)
theorem proved : Rows.LegalBehindSaid := over
#print axioms proved
end Go.Proofs.Ytkkneaefjahihaa.legalBehind
namespace Go.Proofs.Ytkkneaefjahihaa
/-- The row, under a short name, for the claim. -/
theorem legalBehind_holds : Rows.LegalBehindSaid := legalBehind.proved
end Go.Proofs.Ytkkneaefjahihaa
