/- What is put in is found; other keys' calls keep it; a cursor reads what was there: in plain words (for ModelKeeps). -/
import Derived.Test.YtkkneaefjahihaaZPureMod
set_option linter.unusedVariables false
set_option linter.unusedSimpArgs false
namespace Go.Proofs.Ytkkneaefjahihaa.Pure
open Go Go.RowKit Go.Proofs.YtkkneaefjahihaaW.PrintWords Go.Proofs.Ytkkneaefjahihaa.PModelTold Go.Proofs.Ytkkneaefjahihaa.ModR
/-- What a state does, in plain words. -/
def doA (l : List Pr) (ts : List S62) (t q0 q1 q2 q3 q4 : Int) : List Pr × List S62 × Int × Int × Int × Int × List Pr :=
  if badB ts t q0 q1 q2 q3 q4 = true then (l, ts, 8, 0, 0, 0, [])
  else if q0 ≥ 9 then (l, ts.set t.toNat (sessA l (rd_T62 ts t) q0 q1 q2 q3 q4).1, (sessA l (rd_T62 ts t) q0 q1 q2 q3 q4).2)
  else ((plainA l q0 q1 q2 q3 q4).1, ts, (plainA l q0 q1 q2 q3 q4).2)
theorem do_eq {n : Nat} {l : List Pr} {ts : List S62} (h : WfS n l ts) (hn : n ≤ 999) (t q0 q1 q2 q3 q4 : Int) : model_State_Do.f 5000 l ts t q0 q1 q2 q3 q4 = some (doA l ts t q0 q1 q2 q3 q4) := by
  obtain ⟨hr, hl, h6, hss⟩ := h
  unfold model_State_Do.f doA
  rw [bad_eq l ts t q0 q1 q2 q3 q4 (by omega), Option.bind_some]
  cases hb : badB ts t q0 q1 q2 q3 q4 with
  | true => rw [if_pos rfl, if_pos rfl]
  | false =>
    have hv : 0 ≤ t ∧ t < ts.length ∧ 0 ≤ q0 ∧ q0 ≤ 14 := by
      unfold badB at hb
      by_cases a : t < 0 ∨ (ts.length : Int) ≤ t
      · rw [if_pos a] at hb; cases hb
      · rw [if_neg a] at hb
        cases hm : mayB q0 q1 q3 q4 with
        | false => rw [hm] at hb; cases hb
        | true => have := mrange hm; omega
    obtain ⟨t0, t1, g0, g14⟩ := hv
    rw [if_neg (by decide : ¬ false = true), if_neg (by decide : ¬ false = true)]
    by_cases h9 : q0 ≥ 9
    · rw [if_pos h9, if_pos h9]
      have hmem : rd_T62 ts t ∈ ts := by
        unfold rd_T62
        have : t.toNat < ts.length := by omega
        simp [List.getD, this]
      rw [own_eq l ts (by omega) hr t t0 t1 h6 (hss _ hmem) (by omega) q0 q1 q2 q3 q4 h9 g14 (by omega)]
      rfl
    · rw [if_neg h9, if_neg h9]
      by_cases h3 : 3 ≤ q0
      · have hrd : call_Reads.f q0 = some true := by unfold call_Reads.f; rw [if_pos h3, decide_eq_true (by omega)]
        have hm := mread_eq l ts (by omega) hr q0 q1 q2 q3 q4 h3 (by omega) (by omega : 2000 ≤ 5000)
        rw [hrd, Option.bind_some, if_pos rfl, hm.1, Option.bind_some, hm.2]
      · have hrd : call_Reads.f q0 = some false := by unfold call_Reads.f; rw [if_neg (by omega)]
        rw [hrd, Option.bind_some, if_neg (by decide), mchange_eq l ts (by omega) hr q0 q1 q2 q3 q4 g0 (by omega) (by omega : 2000 ≤ 5000), Option.bind_some]
theorem do_wf {n : Nat} {l : List Pr} {ts : List S62} (h : WfS n l ts) (hn : n ≤ 999) (t q0 q1 q2 q3 q4 : Int) : WfS (n + 1) (doA l ts t q0 q1 q2 q3 q4).1 (doA l ts t q0 q1 q2 q3 q4).2.1 := by
  obtain ⟨l', ts', r3, r4, r5, r6, r7, hd, _, hwf, _⟩ := do_alike h hn t q0 q1 q2 q3 q4
  rw [do_eq h hn] at hd
  rw [Option.some.inj hd]
  exact hwf
/-- What a key is found with. -/
def lookA (l : List Pr) (a : Int) : Int × Int × Int × Int × List Pr :=
  match l.find? (fun p => decide (p.f0 = a)) with
  | some p => (1, a, p.f1, 0, [])
  | none => (4, 0, 0, 0, [])
theorem at_key {l : List Pr} (h : ris l = true) {a : Int} (hk : isKey l a = true) : ∃ hi : lessN l a < l.length, l[lessN l a].f0 = a := by
  unfold isKey at hk
  rw [List.any_eq_true] at hk
  obtain ⟨p, hp, he⟩ := hk
  have he := of_decide_eq_true he
  obtain ⟨i, hi, rfl⟩ := List.getElem_of_mem hp
  have h1 := less_iff h a i hi
  have h2 : ¬ i < lessN l a := fun hlt => by have := h1.2 hlt; omega
  have hlt : lessN l a < l.length := by omega
  refine ⟨hlt, ?_⟩
  rcases Nat.lt_or_ge (lessN l a) i with h3 | h3
  · have hp := List.pairwise_iff_getElem.1 ((ris_iff l).1 h) (lessN l a) i hlt hi h3
    have h4 := (less_iff h a (lessN l a) hlt).1 (by omega)
    omega
  · have e : i = lessN l a := by omega
    subst e
    exact he
theorem look_eq {l : List Pr} (h : ris l = true) (a : Int) : (if isKey l a = true then foundA l (lessN l a : Int) else (4, 0, 0, 0, [])) = lookA l a := by
  unfold lookA
  cases hk : isKey l a with
  | false =>
    have hn : l.find? (fun p => decide (p.f0 = a)) = none := by
      rw [List.find?_eq_none]
      intro p hp he
      have : isKey l a = true := by unfold isKey; rw [List.any_eq_true]; exact ⟨p, hp, he⟩
      rw [hk] at this; cases this
    rw [if_neg (by decide), hn]
  | true =>
    obtain ⟨hi, he⟩ := at_key h hk
    have hf : l.find? (fun p => decide (p.f0 = a)) = some l[lessN l a] := by
      rw [List.find?_eq_some_iff_getElem]
      refine ⟨decide_eq_true he, lessN l a, hi, rfl, fun j hj => ?_⟩
      have := (less_iff h a j (by omega)).2 hj
      simp only [Bool.not_eq_true', decide_eq_false_iff_not]
      omega
    rw [if_pos rfl, hf]
    unfold foundA
    rw [if_pos (by omega), rdp _ _ hi]
    simp only [he]
theorem find_mid (a : Int) (xs ys : List Pr) (p : Pr) (hp : p.f0 ≠ a) : (xs ++ p :: ys).find? (fun p => decide (p.f0 = a)) = (xs ++ ys).find? (fun p => decide (p.f0 = a)) := by
  rw [List.find?_append, List.find?_append, List.find?_cons_of_neg (by simpa using hp)]
theorem look_putP {l : List Pr} {a k : Int} (x : Int) (h : k ≠ a) : lookA (putP l k x) a = lookA l a := by
  unfold lookA putP
  by_cases hk : isKey l k = true
  · rw [if_pos hk]
  · rw [if_neg hk, find_mid a _ _ _ h, List.take_append_drop]
theorem look_dropP {l : List Pr} (hr : ris l = true) {a k : Int} (h : k ≠ a) : lookA (dropP l k) a = lookA l a := by
  unfold lookA dropP
  by_cases hk : isKey l k = true
  · obtain ⟨hi, he⟩ := at_key hr hk
    rw [if_pos hk, ← find_mid a (l.take (lessN l k)) (l.drop (lessN l k + 1)) l[lessN l k] (by rw [he]; exact h), ← List.drop_eq_getElem_cons hi, List.take_append_drop]
  · rw [if_neg hk]
theorem look_put_same {l : List Pr} (hr : ris l = true) (a x : Int) : lookA (putP l a x) a = (if isKey l a = true then lookA l a else (1, a, x, 0, [])) := by
  rw [← look_eq (ris_putP hr a x) a, isKey_putP, if_pos rfl, lessN_putP]
  by_cases hk : isKey l a = true
  · rw [if_pos hk, ← look_eq hr a, if_pos hk]
    unfold putP
    rw [if_pos hk]
  · have hk2 : isKey l a = false := by simpa using hk
    rw [if_neg hk]
    have hlt : lessN l a < (putP l a x).length := by
      have hle := lessN_le l a
      unfold putP; rw [if_neg hk]; simp; omega
    unfold foundA
    rw [if_pos (by omega), putP_at l a x hk2]
/-- A call of another key keeps what a key is found with. -/
theorem keep_look {n : Nat} {l : List Pr} {ts : List S62} (h : WfS n l ts) (t q0 q1 q2 q3 q4 a : Int) (hq : q1 ≠ a) : lookA (doA l ts t q0 q1 q2 q3 q4).1 a = lookA l a := by
  unfold doA
  split
  · rfl
  · split
    · rfl
    · unfold plainA
      split
      · split
        · rfl
        · exact look_putP q2 hq
      · split
        · split
          · exact look_dropP h.r hq
          · rfl
        · repeat (split <;> try rfl)
          all_goals rfl
end Go.Proofs.Ytkkneaefjahihaa.Pure
