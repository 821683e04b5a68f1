-- Printed by a program of this session (mkprint.py) out of the translation; Lean checks it.
import Derived.Test.YtdbenonbjklkdaaRows
import Derived.Test.YtdbenonbjklkdaaPBadgeBackx2
import Derived.Test.YtdbenonbjklkdaaPureBadgeBack
import Derived.WalkKit
import Derived.ProofKit
import Derived.OpenShut
import Derived.ShutString
import Derived.ChangeOld
import Derived.Below
import Derived.SizedLaws
import Derived.Test.YtdbenonbjklkdaaRead
set_option linter.unusedVariables false
namespace Go.Proofs.Ytdbenonbjklkdaa.badgeBack
open Go.ChangeShapes Go.WideShapes Go.ChangeAt Go.RowKit Go.Proofs.YtdbenonbjklkdaaW.PrintWords Go.Proofs.Ytdbenonbjklkdaa.PBadgeBack Go.Proofs.Ytdbenonbjklkdaa.Read
open Go.ChangeMaps (open_string shut_string)
theorem own : ownKnob Try.prog.godebug = none := by kernel_rfl
theorem laidOut : laidOutB Try.prog = true := by kernel_rfl
theorem rd59 : Rd Try.prog 59 k59 ok59 :=
  (((Rd.array Try.underlying59 (by kernel_rfl) (by kernel_rfl) (RdF.cons (off := 0) (off' := 1) (Rd.int Try.underlying22 (by kernel_rfl)) (by kernel_rfl) (RdF.one (off := 1) (Rd.int Try.underlying22 (by kernel_rfl))))).iso (fun x : S59 => (x.f0, x.f1)) (fun a => (⟨a.1, a.2⟩ : S59)) (fun _ => rfl)) : Rd Try.prog 59 k59 _).mono (fun _ h => h)
set_option maxRecDepth 100000 in
theorem lifted (os : Os) (started : os.Started) (H : Type) (enc : TypeId × Value → H) :
    ReturnsInHanded {} Try.checked os 14 .any (Rows.badgeBackSpec.pre6 enc Try.prog Try.f14 Rows.badgeBackRow.domain false) (Rows.badgeBackSpec.post enc Try.prog Try.f14 false true false false) := by
  refine returnsInHanded_of_change_sized (C := Try.checked) own started (by kernel_rfl) Try.func14
    (ChangeSpec.witness6 (enc := enc) (C := Try.checked) false ⟨#[], #[.int .u64 0, .agg #[.int .u64 0, .int .u64 0], .int .i64 0], []⟩ 8 (by kernel_rfl) (by kernel_rfl) (by kernel_rfl) (by kernel_rfl)) ?_
  intro W base args ds gs before hval0 hW hcnd hsz0 _
  have hsz : (DataW.weightsEach Try.prog (Try.f14.params.toList ++ Rows.badgeBackSpec.plain.varTypes Try.prog) (ds ++ gs)).all (· ≤ reachBytes) = true := hsz0
  have hval : ∀ (j : Nat) t v, Try.f14.params[j]? = some t → args[j]? = some v → Value.okWide Try.prog W .any base t v := hval0
  have hW' := hW
  obtain ⟨p, q, hA0, hV, rfl, hfz, hnd⟩ := hW
  have hA : DataW.TrodAll enc Try.prog W 0 (fun _ => true) true Try.f14.params.toList args.toList ds p := hA0
  rw [Try.params14] at hA hval hsz
  obtain ⟨v0, vs0, d0, ds0, p0, q0, hargs, rfl, rfl, h0, r0⟩ := trodAll_cons hA
  obtain ⟨v1, vs1, d1, ds1, p1, q1, rfl, rfl, rfl, h1, r1⟩ := trodAll_cons r0
  obtain ⟨v2, vs2, d2, ds2, p2, q2, rfl, rfl, rfl, h2, r2⟩ := trodAll_cons r1
  obtain ⟨rfl, rfl, rfl⟩ := trodAll_nil r2
  obtain rfl : args = #[v0, v1, v2] := by cases args; simp_all
  obtain ⟨rfl, rfl⟩ := trodVars_none hV
  obtain ⟨a0, rfl, rfl, rfl, w0⟩ := open_int Try.underlying22 (hval 0 22 v0 rfl rfl) h0
  have k1_ := h1
  have lt1 : ∀ x ∈ p1, x.block < W.heap.size := by obtain ⟨m, hm⟩ := k1_; exact DataW.trod_lt m _ _ _ hm
  obtain ⟨cs1, rfl, _⟩ := okWide_array Try.underlying59 (hval 1 59 v1 rfl rfl)
  obtain ⟨x1, hK1, w1⟩ := of_trod rd59 hsz (j := 1) rfl rfl h1
  have e1 := k59_open hK1
  obtain rfl := Array.ext' (ys := (#[.int .u64 x1.f0, .int .u64 x1.f1] : Array Value)) e1
  obtain ⟨a2, rfl, rfl, rfl, w2⟩ := open_int Try.underlying3 (hval 2 3 v2 rfl rfl) h2
  clear hA0 hval0 hsz0 hsz
  refine (PBadgeBack.deadwoodlaw04_BadgeBack.walk Pure.BadgeBack a0 x1 a2 W w0 w1 w2).mono fun e W' ⟨he, bel⟩ => ?_
  subst he
  exact ⟨_, rfl, _, _, _, [], _, [], hW', trodAll_mk1 (shut_bool Try.underlying4 _), (trodAll_cons_mk (shut_int Try.underlying22 w0) (trodAll_cons_mk (Below.trod laidOut (by kernel_rfl) (of_decide_eq_true (by kernel_rfl)) k1_ bel lt1) (trodAll_cons_mk (shut_int Try.underlying3 w2) trodAll_mk0))), rfl, bel.frame _, fun h => by cases h⟩
theorem over : Rows.badgeBackRow.holds Try.pinned (OpenSpec.ofChange Rows.badgeBackSpec) :=
  OpenClaim.holds_of_wide 14 Try.f14 rfl rfl rfl rfl rfl rfl rfl ⟨rfl, rfl, rfl, rfl, rfl⟩ rfl rfl rfl rfl rfl (by kernel_rfl) Try.func14 (by kernel_rfl)
    (of_decide_eq_true (by kernel_rfl)) (by unfold Func.isWrapper; first | (rw [if_pos (by decide +kernel)]; kernel_rfl) | (rw [if_neg (by decide +kernel)]; exact ⟨rfl, rfl⟩))
    (fun os started H enc _ => lifted os started H enc)
theorem proved : Rows.BadgeBackSaid := over
#print axioms proved
end Go.Proofs.Ytdbenonbjklkdaa.badgeBack
namespace Go.Proofs.Ytdbenonbjklkdaa
/-- The row, under a short name, for the claim. -/
theorem badgeBack_holds : Rows.BadgeBackSaid := badgeBack.proved
end Go.Proofs.Ytdbenonbjklkdaa
