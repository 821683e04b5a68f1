/- The calls of ModelKeeps, one by one, in plain words. -/
import Derived.Test.YtkkneaefjahihaaZKeepP
set_option linter.unusedVariables false
set_option linter.unusedSimpArgs false
namespace Go.Proofs.Ytkkneaefjahihaa.Pure
open Go Go.RowKit Go.Proofs.YtkkneaefjahihaaW.PrintWords Go.Proofs.Ytkkneaefjahihaa.PModelTold Go.Proofs.Ytkkneaefjahihaa.ModR
/-- Three sessions; the first one is s. -/
structure R0 (ts : List S62) (s : S62) : Prop where
  len : ts.length = 3
  at0 : rd_T62 ts 0 = s
theorem do_len (l : List Pr) (ts : List S62) (t q0 q1 q2 q3 q4 : Int) : (doA l ts t q0 q1 q2 q3 q4).2.1.length = ts.length := by
  unfold doA
  split
  · rfl
  · split
    · exact List.length_set
    · rfl
theorem rd_set0 (ts : List S62) (h : ts.length = 3) (s : S62) : R0 (ts.set (0 : Int).toNat s) s := by
  refine ⟨by rw [List.length_set]; exact h, ?_⟩
  match ts, h with
  | [a, b, c], _ => rfl
/-- Other threads' calls keep the first session. -/
theorem keep_r0 {l : List Pr} {ts : List S62} {s : S62} (h : R0 ts s) {t q0 q1 q2 q3 q4 : Int} (ht : t ≠ 0) : R0 (doA l ts t q0 q1 q2 q3 q4).2.1 s := by
  refine ⟨by rw [do_len]; exact h.len, ?_⟩
  unfold doA
  split
  · exact h.at0
  · rename_i hb
    split
    · have h0 : ¬ (t < 0 ∨ (ts.length : Int) ≤ t) := fun hc => hb (by unfold badB; rw [if_pos hc])
      have h1 := h.at0
      have h3 := h.len
      generalize (sessA l (rd_T62 ts t) q0 q1 q2 q3 q4).1 = x
      obtain ⟨k, rfl⟩ : ∃ k : Nat, t = ((k + 1 : Nat) : Int) := ⟨(t - 1).toNat, by omega⟩
      rw [Int.toNat_natCast]
      match ts, h3 with
      | [a, b, c], _ => exact h1
    · exact h.at0
theorem bad_0 {ts : List S62} {s : S62} (h : R0 ts s) (q0 q1 q2 q3 q4 : Int) (hm : mayB q0 q1 q3 q4 = true) : badB ts 0 q0 q1 q2 q3 q4 = if q0 = 13 then s.f0 else if q0 = 14 ∨ q0 = 9 then (!s.f0 || s.f1) else if 9 < q0 then (!s.f0 || !s.f1) else !s.f0 := by
  unfold badB
  rw [if_neg (by have := h.len; omega), hm, if_neg (by decide), h.at0]
/-- Closed, and joined: the first session is open to calls. -/
theorem ready {l : List Pr} {ts : List S62} (h : ts.length = 3) : ∃ s, s.f0 = true ∧ s.f1 = false ∧ (doA (doA l ts 0 12 0 0 0 0).1 (doA l ts 0 12 0 0 0 0).2.1 0 13 0 0 0 0).1 = l ∧ R0 (doA (doA l ts 0 12 0 0 0 0).1 (doA l ts 0 12 0 0 0 0).2.1 0 13 0 0 0 0).2.1 s := by
  obtain ⟨s, hs⟩ : ∃ s, rd_T62 ts 0 = s := ⟨_, rfl⟩
  have h0 : R0 ts s := ⟨h, hs⟩
  have b1 := bad_0 h0 12 0 0 0 0 rfl
  cases e0 : s.f0 with
  | false =>
    have d1 : doA l ts 0 12 0 0 0 0 = (l, ts, 8, 0, 0, 0, []) := by
      unfold doA
      rw [b1, e0]
      rfl
    rw [d1]
    have b2 := bad_0 h0 13 0 0 0 0 rfl
    have d2 : doA l ts 0 13 0 0 0 0 = (l, ts.set (0 : Int).toNat ⟨true, false, [], 0⟩, 0, 0, 0, 0, []) := by
      unfold doA
      rw [b2, if_pos rfl, e0]
      rfl
    exact ⟨⟨true, false, [], 0⟩, rfl, rfl, by rw [d2], by rw [d2]; exact rd_set0 ts h _⟩
  | true =>
    cases e1 : s.f1 with
    | false =>
      have d1 : doA l ts 0 12 0 0 0 0 = (l, ts, 8, 0, 0, 0, []) := by
        unfold doA
        rw [b1, e0, e1]
        rfl
      rw [d1]
      have b2 := bad_0 h0 13 0 0 0 0 rfl
      have d2 : doA l ts 0 13 0 0 0 0 = (l, ts, 8, 0, 0, 0, []) := by
        unfold doA
        rw [b2, if_pos rfl, e0]
        rfl
      exact ⟨s, e0, e1, by rw [d2], by rw [d2]; exact h0⟩
    | true =>
      have d1 : doA l ts 0 12 0 0 0 0 = (l, ts.set (0 : Int).toNat ⟨true, false, [], 0⟩, 0, 0, 0, 0, []) := by
        unfold doA
        rw [b1, e0, e1]
        rfl
      rw [d1]
      have h2 : R0 (ts.set (0 : Int).toNat ⟨true, false, [], 0⟩) ⟨true, false, [], 0⟩ := rd_set0 ts h _
      have b2 := bad_0 h2 13 0 0 0 0 rfl
      have d2 : doA l (ts.set (0 : Int).toNat ⟨true, false, [], 0⟩) 0 13 0 0 0 0 = (l, ts.set (0 : Int).toNat ⟨true, false, [], 0⟩, 8, 0, 0, 0, []) := by
        unfold doA
        rw [b2]
        rfl
      exact ⟨⟨true, false, [], 0⟩, rfl, rfl, by show (doA l (ts.set (0 : Int).toNat ⟨true, false, [], 0⟩) 0 13 0 0 0 0).1 = l; rw [d2], by show R0 (doA l (ts.set (0 : Int).toNat ⟨true, false, [], 0⟩) 0 13 0 0 0 0).2.1 _; rw [d2]; exact h2⟩
theorem do_look {l : List Pr} (hr : ris l = true) {ts : List S62} {s : S62} (h : R0 ts s) (h0 : s.f0 = true) (a : Int) : doA l ts 0 2 a 0 0 0 = (l, ts, lookA l a) := by
  have hb : badB ts 0 2 a 0 0 0 = false := by rw [bad_0 h 2 a 0 0 0 rfl, h0]; rfl
  unfold doA
  rw [hb, if_neg (by decide), if_neg (by decide), ← look_eq hr a]
  unfold plainA
  rw [if_neg (by decide), if_neg (by decide), if_pos rfl]
  split <;> rfl
theorem do_ins {l : List Pr} {ts : List S62} {s : S62} (h : R0 ts s) (h0 : s.f0 = true) (a x : Int) : doA l ts 0 0 a x 0 0 = (putP l a x, ts, if isKey l a = true then 5 else 0, 0, 0, 0, []) := by
  have hb : badB ts 0 0 a x 0 0 = false := by rw [bad_0 h 0 a x 0 0 rfl, h0]; rfl
  unfold doA
  rw [hb, if_neg (by decide), if_neg (by decide)]
  unfold plainA putP
  rw [if_pos rfl]
  split <;> rfl
theorem do_range {l : List Pr} {ts : List S62} {s : S62} (h : R0 ts s) (h0 : s.f0 = true) {lo hi : Int} (hlo : lo ≤ hi) : doA l ts 0 3 lo 0 hi 1000 = (l, ts, 3, 0, 0, 0, cutP l lo hi 1000) := by
  unfold doA
  rw [bad_0 h 3 lo 0 hi 1000 (by unfold mayB; rw [if_pos rfl]; exact decide_eq_true ⟨hlo, by decide, by decide⟩), h0]
  rfl
theorem do_open {l : List Pr} {ts : List S62} {s : S62} (h : R0 ts s) (h0 : s.f0 = true) (h1 : s.f1 = false) {lo hi : Int} (hlo : lo ≤ hi) : doA l ts 0 9 lo 0 hi 0 = (l, ts.set (0 : Int).toNat ⟨true, true, cutP l lo hi l.length, 0⟩, 0, 0, 0, 0, []) := by
  unfold doA
  rw [bad_0 h 9 lo 0 hi 0 (by unfold mayB; rw [if_neg (by decide), if_pos (Or.inr rfl)]; exact decide_eq_true hlo), h0, h1]
  rfl
theorem cut_all (l : List Pr) (lo hi : Int) (h : l.length ≤ 1000) : cutP l lo hi 1000 = cutP l lo hi l.length := by
  have h2 := (List.takeWhile_sublist (l := l.drop (lessN l lo)) (fun p : Pr => decide (p.f0 ≤ hi))).length_le
  rw [List.length_drop] at h2
  unfold cutP
  rw [List.take_of_length_le (by show _ ≤ 1000; omega), List.take_of_length_le (by rw [Int.toNat_natCast]; omega)]
theorem do_next {l : List Pr} {ts : List S62} {F : List Pr} {i : Nat} (h : R0 ts ⟨true, true, F, (i : Int)⟩) : doA l ts 0 10 0 0 0 0 = (l, ts.set (0 : Int).toNat (if i < F.length then ⟨true, true, F, (i : Int) + 1⟩ else ⟨true, true, F, (i : Int)⟩), foundA F (i : Int)) := by
  have hb : badB ts 0 10 0 0 0 0 = false := by rw [bad_0 h 10 0 0 0 0 rfl]; rfl
  unfold doA
  rw [hb, h.at0, if_neg (by decide), if_pos (by decide)]
  unfold sessA
  rw [if_neg (by decide), if_pos rfl]
  by_cases hi : i < F.length
  · have e : (foundA F (i : Int)).1 = 1 := by unfold foundA; rw [if_pos (by omega)]
    rw [if_pos e, if_pos hi]
  · have e : ¬ (foundA F (i : Int)).1 = 1 := by unfold foundA; rw [if_neg (by omega)]; decide
    rw [if_neg e, if_neg hi]
end Go.Proofs.Ytkkneaefjahihaa.Pure
