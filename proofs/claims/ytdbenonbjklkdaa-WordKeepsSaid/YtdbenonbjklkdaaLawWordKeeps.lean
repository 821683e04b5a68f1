-- Printed by a program of this session (mkprint.py) out of the translation; Lean checks it.
import Derived.Test.YtdbenonbjklkdaaRows
import Derived.Test.YtdbenonbjklkdaaPWordKeepsx1
import Derived.Test.YtdbenonbjklkdaaPureWordKeeps
import Derived.WalkKit
import Derived.ProofKit
import Derived.OpenShut
import Derived.ShutString
import Derived.ChangeOld
import Derived.Below
import Derived.SizedLaws
import Derived.Test.YtdbenonbjklkdaaRead
set_option linter.unusedVariables false
namespace Go.Proofs.Ytdbenonbjklkdaa.wordKeeps
open Go.ChangeShapes Go.WideShapes Go.ChangeAt Go.RowKit Go.Proofs.YtdbenonbjklkdaaW.PrintWords Go.Proofs.Ytdbenonbjklkdaa.PWordKeeps Go.Proofs.Ytdbenonbjklkdaa.Read
open Go.ChangeMaps (open_string shut_string)
theorem own : ownKnob Try.prog.godebug = none := by kernel_rfl
theorem laidOut : laidOutB Try.prog = true := by kernel_rfl
theorem rd33 : Rd Try.prog 33 k33 ok33 :=
  (((Rd.array Try.underlying33 (by kernel_rfl) (by kernel_rfl) (RdF.cons (off := 0) (off' := 1) (Rd.int Try.underlying3 (by kernel_rfl)) (by kernel_rfl) (RdF.cons (off := 1) (off' := 2) (Rd.int Try.underlying3 (by kernel_rfl)) (by kernel_rfl) (RdF.cons (off := 2) (off' := 3) (Rd.int Try.underlying3 (by kernel_rfl)) (by kernel_rfl) (RdF.one (off := 3) (Rd.int Try.underlying3 (by kernel_rfl))))))).iso (fun x : S33 => (x.f0, x.f1, x.f2, x.f3)) (fun a => (⟨a.1, a.2.1, a.2.2.1, a.2.2.2⟩ : S33)) (fun _ => rfl)) : Rd Try.prog 33 k33 _).mono (fun _ h => h)
set_option maxRecDepth 100000 in
theorem lifted (os : Os) (started : os.Started) (H : Type) (enc : TypeId × Value → H) :
    ReturnsInHanded {} Try.checked os 6 .any (Rows.wordKeepsSpec.pre6 enc Try.prog Try.f6 Rows.wordKeepsRow.domain false) (Rows.wordKeepsSpec.post enc Try.prog Try.f6 false true false false) := by
  refine returnsInHanded_of_change_sized (C := Try.checked) own started (by kernel_rfl) Try.func6
    (ChangeSpec.witness6 (enc := enc) (C := Try.checked) false ⟨#[], #[.int .u64 0, .int .u64 0, .agg #[.int .i64 0, .int .i64 0, .int .i64 0, .int .i64 0]], []⟩ 8 (by kernel_rfl) (by kernel_rfl) (by kernel_rfl) (by kernel_rfl)) ?_
  intro W base args ds gs before hval0 hW hcnd hsz0 _
  have hsz : (DataW.weightsEach Try.prog (Try.f6.params.toList ++ Rows.wordKeepsSpec.plain.varTypes Try.prog) (ds ++ gs)).all (· ≤ reachBytes) = true := hsz0
  have hval : ∀ (j : Nat) t v, Try.f6.params[j]? = some t → args[j]? = some v → Value.okWide Try.prog W .any base t v := hval0
  have hW' := hW
  obtain ⟨p, q, hA0, hV, rfl, hfz, hnd⟩ := hW
  have hA : DataW.TrodAll enc Try.prog W 0 (fun _ => true) true Try.f6.params.toList args.toList ds p := hA0
  rw [Try.params6] at hA hval hsz
  obtain ⟨v0, vs0, d0, ds0, p0, q0, hargs, rfl, rfl, h0, r0⟩ := trodAll_cons hA
  obtain ⟨v1, vs1, d1, ds1, p1, q1, rfl, rfl, rfl, h1, r1⟩ := trodAll_cons r0
  obtain ⟨v2, vs2, d2, ds2, p2, q2, rfl, rfl, rfl, h2, r2⟩ := trodAll_cons r1
  obtain ⟨rfl, rfl, rfl⟩ := trodAll_nil r2
  obtain rfl : args = #[v0, v1, v2] := by cases args; simp_all
  obtain ⟨rfl, rfl⟩ := trodVars_none hV
  obtain ⟨a0, rfl, rfl, rfl, w0⟩ := open_int Try.underlying22 (hval 0 22 v0 rfl rfl) h0
  obtain ⟨a1, rfl, rfl, rfl, w1⟩ := open_int Try.underlying22 (hval 1 22 v1 rfl rfl) h1
  have k2_ := h2
  have lt2 : ∀ x ∈ p2, x.block < W.heap.size := by obtain ⟨m, hm⟩ := k2_; exact DataW.trod_lt m _ _ _ hm
  obtain ⟨cs2, rfl, _⟩ := okWide_array Try.underlying33 (hval 2 33 v2 rfl rfl)
  obtain ⟨x2, hK2, w2⟩ := of_trod rd33 hsz (j := 2) rfl rfl h2
  have e2 := k33_open hK2
  obtain rfl := Array.ext' (ys := (#[.int .i64 x2.f0, .int .i64 x2.f1, .int .i64 x2.f2, .int .i64 x2.f3] : Array Value)) e2
  clear hA0 hval0 hsz0 hsz
  refine (PWordKeeps.deadwoodlaw01_WordKeeps.walk Pure.WordKeeps a0 a1 x2 W w0 w1 w2).mono fun e W' ⟨he, bel⟩ => ?_
  subst he
  exact ⟨_, rfl, _, _, _, [], _, [], hW', trodAll_mk1 (shut_bool Try.underlying4 _), (trodAll_cons_mk (shut_int Try.underlying22 w0) (trodAll_cons_mk (shut_int Try.underlying22 w1) (trodAll_cons_mk (Below.trod laidOut (by kernel_rfl) (of_decide_eq_true (by kernel_rfl)) k2_ bel lt2) trodAll_mk0))), rfl, bel.frame _, fun h => by cases h⟩
theorem over : Rows.wordKeepsRow.holds Try.pinned (OpenSpec.ofChange Rows.wordKeepsSpec) :=
  OpenClaim.holds_of_wide 6 Try.f6 rfl rfl rfl rfl rfl rfl rfl ⟨rfl, rfl, rfl, rfl, rfl⟩ rfl rfl rfl rfl rfl (by kernel_rfl) Try.func6 (by kernel_rfl)
    (of_decide_eq_true (by kernel_rfl)) (by unfold Func.isWrapper; first | (rw [if_pos (by decide +kernel)]; kernel_rfl) | (rw [if_neg (by decide +kernel)]; exact ⟨rfl, rfl⟩))
    (fun os started H enc _ => lifted os started H enc)
theorem proved : Rows.WordKeepsSaid := over
#print axioms proved
end Go.Proofs.Ytdbenonbjklkdaa.wordKeeps
namespace Go.Proofs.Ytdbenonbjklkdaa
/-- The row, under a short name, for the claim. -/
theorem wordKeeps_holds : Rows.WordKeepsSaid := wordKeeps.proved
end Go.Proofs.Ytdbenonbjklkdaa
