/- The calls of ModelKeeps, one behind the other. -/
import Derived.Test.YtkkneaefjahihaaZKeepP2
set_option linter.unusedVariables false
set_option linter.unusedSimpArgs false
namespace Go.Proofs.Ytkkneaefjahihaa.Pure
open Go Go.RowKit Go.Proofs.YtkkneaefjahihaaW.PrintWords Go.Proofs.Ytkkneaefjahihaa.PModelTold Go.Proofs.Ytkkneaefjahihaa.ModR
theorem wfS_mono {n m : Nat} {l : List Pr} {ts : List S62} (h : WfS n l ts) (hm : n ≤ m) : WfS m l ts := ⟨h.r, Nat.le_trans h.len hm, h.tl, fun s hs => by obtain ⟨a, b, c, d⟩ := h.ss s hs; exact ⟨a, Nat.le_trans b hm, c, d⟩⟩
def isKeyF (l : List Pr) (a : Int) : Bool := (l.find? (fun p => decide (p.f0 = a))).isSome
theorem lookA_shape (l : List Pr) (a : Int) : (isKeyF l a = true ∧ ∃ v, lookA l a = (1, a, v, 0, [])) ∨ (isKeyF l a = false ∧ lookA l a = (4, 0, 0, 0, [])) := by
  unfold isKeyF lookA
  cases l.find? (fun p => decide (p.f0 = a)) with
  | some p => exact .inl ⟨rfl, p.f1, rfl⟩
  | none => exact .inr ⟨rfl, rfl⟩
theorem isKeyF_eq {l : List Pr} (h : ris l = true) (a : Int) : isKey l a = isKeyF l a := by
  have e := look_eq h a
  rcases lookA_shape l a with ⟨h1, v, h2⟩ | ⟨h1, h2⟩
  · rw [h1]
    rw [h2] at e
    cases hk : isKey l a with
    | true => rfl
    | false => rw [hk, if_neg (by decide)] at e; cases e
  · rw [h1]
    rw [h2] at e
    cases hk : isKey l a with
    | false => rfl
    | true =>
      rw [hk, if_pos rfl] at e
      obtain ⟨hi, he⟩ := at_key h hk
      unfold foundA at e
      rw [if_pos (by omega)] at e
      cases e
theorem keeps_chain {n : Nat} {l : List Pr} {ts : List S62} (hwf : WfS n l ts) (hn : n ≤ 100) (h3 : ts.length = 3) (key val : Int) {lo hi : Int} (hlo : lo ≤ hi) :
    ∃ (l1 : List Pr) (ts1 : List S62) (a3 a4 a5 a6 : Int) (a7 : List Pr) (ts2 : List S62) (b3 b4 b5 b6 : Int) (b7 : List Pr) (k0 k1 k2 : Int) (l2 : List Pr) (i0 bv : Int) (F : List Pr) (ts3 : List S62),
      model_State_Do.f 5000 l ts 0 12 0 0 0 0 = some (l1, ts1, a3, a4, a5, a6, a7) ∧ model_State_Do.f 5000 l1 ts1 0 13 0 0 0 0 = some (l, ts2, b3, b4, b5, b6, b7) ∧
      model_State_Do.f 5000 l ts2 0 2 key 0 0 0 = some (l, ts2, k0, k1, k2, 0, []) ∧ model_State_Do.f 5000 l ts2 0 0 key val 0 0 = some (l2, ts2, i0, 0, 0, 0, []) ∧
      model_State_Do.f 5000 l2 ts2 0 2 key 0 0 0 = some (l2, ts2, 1, key, bv, 0, []) ∧ model_State_Do.f 5000 l2 ts2 0 3 lo 0 hi 1000 = some (l2, ts2, 3, 0, 0, 0, F) ∧
      model_State_Do.f 5000 l2 ts2 0 9 lo 0 hi 0 = some (l2, ts3, 0, 0, 0, 0, []) ∧ R0 ts3 ⟨true, true, F, 0⟩ ∧ WfS (n + 7) l2 ts3 ∧ lookA l2 key = (1, key, bv, 0, []) ∧ F.length ≤ n + 1 ∧
      ((k0 = 4 ∧ i0 = 0 ∧ bv = val) ∨ (k0 = 1 ∧ i0 = 5 ∧ k1 = key ∧ k2 = bv)) := by
  have w1 := do_wf hwf (by omega) 0 12 0 0 0 0
  have w2 := do_wf w1 (by omega) 0 13 0 0 0 0
  have d1 := do_eq hwf (by omega) 0 12 0 0 0 0
  have d2 := do_eq w1 (by omega) 0 13 0 0 0 0
  obtain ⟨s, s0, s1, e2, r2⟩ := ready (l := l) h3
  generalize doA l ts 0 12 0 0 0 0 = x1 at d1 d2 w1 w2 e2 r2
  obtain ⟨l1, ts1, a3, a4, a5, a6, a7⟩ := x1
  simp only at d2 w1 w2 e2 r2
  generalize doA l1 ts1 0 13 0 0 0 0 = x2 at d2 w2 e2 r2
  obtain ⟨l1', ts2, b3, b4, b5, b6, b7⟩ := x2
  simp only at w2 e2 r2
  subst e2
  have hr := hwf.r
  have e4 := do_look hr r2 s0 key
  have e5 := do_ins (l := l1') r2 s0 key val
  have w5 := do_wf w2 (by omega) 0 0 key val 0 0
  rw [e5] at w5
  simp only at w5
  have e6 := do_look w5.r r2 s0 key
  have e7 := do_range (l := putP l1' key val) r2 s0 hlo
  have e8 := do_open (l := putP l1' key val) r2 s0 s1 hlo
  have w8 := do_wf w5 (by omega) 0 9 lo 0 hi 0
  rw [e8] at w8
  simp only at w8
  have hlen : (putP l1' key val).length ≤ n + 1 := by have := putP_len l1' key val; have := hwf.len; omega
  have hF : cutP (putP l1' key val) lo hi 1000 = cutP (putP l1' key val) lo hi (putP l1' key val).length := cut_all _ lo hi (by omega)
  have hFl : (cutP (putP l1' key val) lo hi 1000).length ≤ n + 1 := by
    rw [hF]
    unfold cutP
    rw [List.length_take, Int.toNat_natCast]
    omega
  have hp := look_put_same hr key val
  have q4 := (do_eq w2 (by omega) 0 2 key 0 0 0).trans (congrArg some e4)
  have q5 := (do_eq w2 (by omega) 0 0 key val 0 0).trans (congrArg some e5)
  have q6 := (do_eq w5 (by omega) 0 2 key 0 0 0).trans (congrArg some e6)
  have q7 := (do_eq w5 (by omega) 0 3 lo 0 hi 1000).trans (congrArg some e7)
  have q8 := (do_eq w5 (by omega) 0 9 lo 0 hi 0).trans (congrArg some e8)
  have r8 : R0 (ts2.set (0 : Int).toNat ⟨true, true, cutP (putP l1' key val) lo hi (putP l1' key val).length, 0⟩) ⟨true, true, cutP (putP l1' key val) lo hi 1000, 0⟩ := by rw [hF]; exact rd_set0 ts2 r2.len _
  have ik := isKeyF_eq hr key
  rcases lookA_shape l1' key with ⟨hk, v, hv⟩ | ⟨hk, hv⟩
  · rw [ik, hk, if_pos rfl, hv] at hp
    rw [ik, hk, if_pos rfl] at q5
    rw [hv] at q4
    rw [hp] at q6
    exact ⟨l1, ts1, a3, a4, a5, a6, a7, ts2, b3, b4, b5, b6, b7, 1, key, v, _, 5, v, _, _, d1, d2, q4, q5, q6, q7, q8, r8, wfS_mono w8 (by omega), hp, hFl, .inr ⟨rfl, rfl, rfl, rfl⟩⟩
  · rw [ik, hk, if_neg (by decide)] at hp
    rw [ik, hk, if_neg (by decide)] at q5
    rw [hv] at q4
    rw [hp] at q6
    exact ⟨l1, ts1, a3, a4, a5, a6, a7, ts2, b3, b4, b5, b6, b7, 4, 0, 0, _, 0, val, _, _, d1, d2, q4, q5, q6, q7, q8, r8, wfS_mono w8 (by omega), hp, hFl, .inl ⟨rfl, rfl, rfl⟩⟩
end Go.Proofs.Ytkkneaefjahihaa.Pure
