/- Each word is one Op's alone; Bad fits every call; a call that may not be is fitted by nothing else; what reads changes nothing; of every two numbers, every call and every answer, with no condition. -/
import Derived.Test.YtckbndckfeicmaaPCallOnesx6
import Derived.Test.YtckbndckfeicmaaNum
set_option linter.unusedVariables false
set_option linter.unusedSimpArgs false
namespace Go.Proofs.Ytckbndckfeicmaa.Pure
open Go Go.RowKit Go.Proofs.Ytckbndckfeicmaa.PCallOnes Go.Proofs.YtckbndckfeicmaaW.PrintWords Go.Proofs.YtckbndckfeicmaaW.PrintLast Go.Proofs.YtckbndckfeicmaaW.PrintMore Go.Proofs.Ytckbndckfeicmaa.Num

/-! Rows of pairs. -/
abbrev Pr := S61
theorem w64p {n : Int} (h : -9223372036854775808 ≤ n ∧ n ≤ 9223372036854775807) : wrap64 n = n := by unfold wrap64; omega
theorem rdp (l : List Pr) (i : Nat) (hi : i < l.length) : rd_T61 l (i : Int) = l[i] := FindWalk.getD_eq l i hi
theorem ris_drop (l : List Pr) (i : Nat) (h : i + 1 < l.length) : ris (l.drop i) = (decide (l[i].f0 < l[i + 1].f0) && ris (l.drop (i + 1))) := by
  rw [List.drop_eq_getElem_cons (by omega : i < l.length), List.drop_eq_getElem_cons h]
  rfl
theorem ris_last (l : List Pr) (i : Nat) (h : l.length ≤ i + 1) : ris (l.drop i) = true := by
  have : (l.drop i).length ≤ 1 := by rw [List.length_drop]; omega
  match l.drop i, this with
  | [], _ => rfl
  | [_], _ => rfl
theorem rises_loop (l : List Pr) (hl : l.length ≤ 1000000) (d : Nat) : ∀ (k i : Nat), i + d = l.length ∨ (d = 0 ∧ l.length ≤ i) → i < 2000000 → d < k → pairs_Rises.l0 k l ((i : Int) + 1) = some (ris (l.drop i)) := by
  induction d with
  | zero =>
    intro k i hi hb hk
    obtain ⟨k, rfl⟩ : ∃ m, k = m + 1 := ⟨k - 1, by omega⟩
    rw [pairs_Rises.l0, if_neg (by omega), ris_last l i (by omega)]
  | succ d ih =>
    intro k i hi hb hk
    obtain ⟨k, rfl⟩ : ∃ m, k = m + 1 := ⟨k - 1, by omega⟩
    by_cases h : i + 1 < l.length
    · rw [pairs_Rises.l0, if_pos (by omega), w64p (by omega), show (i : Int) + 1 - 1 = (i : Int) from by omega, if_pos (by omega), if_pos (by omega), if_pos (by omega), rdp l i (by omega), show (i : Int) + 1 = ((i + 1 : Nat) : Int) from by omega, rdp l (i + 1) h, ris_drop l i h]
      by_cases hc : l[i].f0 < l[i + 1].f0
      · rw [if_neg (by omega), w64p (by omega), decide_eq_true hc, Bool.true_and]
        exact ih k (i + 1) (by omega) (by omega) (by omega)
      · rw [if_pos (by omega), decide_eq_false hc, Bool.false_and]
    · rw [pairs_Rises.l0, if_neg (by omega), ris_last l i (by omega)]
theorem rises_eq (l : List Pr) (hl : l.length ≤ 1000000) {k : Nat} (hk : l.length < k) : pairs_Rises.f k l = some (ris l) := rises_loop l hl l.length k 0 (by omega) (by omega) hk

/-- Rows are the same. -/
def sameP (a b : List Pr) : Bool := match a, b with
  | [], [] => true
  | x :: a, y :: b => decide (x.f0 = y.f0 ∧ x.f1 = y.f1) && sameP a b
  | _, _ => false
theorem sameP_iff : ∀ (a b : List Pr), sameP a b = true ↔ a = b
  | [], [] => by simp [sameP]
  | [], _ :: _ => by simp [sameP]
  | _ :: _, [] => by simp [sameP]
  | ⟨x0, x1⟩ :: a, ⟨y0, y1⟩ :: b => by
    unfold sameP
    rw [Bool.and_eq_true, decide_eq_true_eq, sameP_iff a b, List.cons.injEq]
    constructor
    · rintro ⟨⟨h1, h2⟩, h3⟩; exact ⟨by simp only at h1 h2; rw [h1, h2], h3⟩
    · rintro ⟨h1, h3⟩; injection h1 with h1 h2; exact ⟨⟨h1, h2⟩, h3⟩
theorem sameP_drop (a b : List Pr) (i : Nat) (ha : i < a.length) (hb : i < b.length) : sameP (a.drop i) (b.drop i) = (decide (a[i].f0 = b[i].f0 ∧ a[i].f1 = b[i].f1) && sameP (a.drop (i + 1)) (b.drop (i + 1))) := by
  rw [List.drop_eq_getElem_cons ha, List.drop_eq_getElem_cons hb]
  rfl
theorem neP_true {x y : Pr} (h : ¬ (x.f0 = y.f0 ∧ x.f1 = y.f1)) : (!(x.f0 == y.f0) || (!(x.f1 == y.f1))) = true := by
  cases h0 : (x.f0 == y.f0) with
  | false => rfl
  | true =>
    cases h1 : (x.f1 == y.f1) with
    | false => rfl
    | true => exact absurd ⟨eq_of_beq h0, eq_of_beq h1⟩ h
theorem neP_false {x y : Pr} (h : x.f0 = y.f0 ∧ x.f1 = y.f1) : ¬ (!(x.f0 == y.f0) || (!(x.f1 == y.f1))) = true := by
  rw [h.1, h.2]; simp
theorem same_loop (a b : List Pr) (hl : a.length ≤ 1000000) (he : a.length = b.length) (d : Nat) : ∀ (k i : Nat), i + d = a.length → d < k → api_Pair.l0 k a b (a.length : Int) (i : Int) = some (sameP (a.drop i) (b.drop i)) := by
  induction d with
  | zero =>
    intro k i hi hk
    obtain ⟨k, rfl⟩ : ∃ m, k = m + 1 := ⟨k - 1, by omega⟩
    rw [api_Pair.l0, if_neg (by omega), List.drop_of_length_le (by omega), List.drop_of_length_le (by omega)]
    rfl
  | succ d ih =>
    intro k i hi hk
    obtain ⟨k, rfl⟩ : ∃ m, k = m + 1 := ⟨k - 1, by omega⟩
    rw [api_Pair.l0, if_pos (by omega), if_pos (by omega), if_pos (by omega), if_pos (by omega), rdp a i (by omega), rdp b i (by omega), sameP_drop a b i (by omega) (by omega)]
    by_cases hc : a[i].f0 = b[i].f0 ∧ a[i].f1 = b[i].f1
    · rw [if_neg (neP_false hc), w64p (by omega), decide_eq_true hc, Bool.true_and, show (i : Int) + 1 = ((i + 1 : Nat) : Int) from by omega]
      exact ih k (i + 1) (by omega) (by omega)
    · rw [if_pos (neP_true hc), decide_eq_false hc, Bool.false_and]
theorem sameP_len {a b : List Pr} (h : a.length ≠ b.length) : sameP a b = false := by
  cases hs : sameP a b with
  | false => rfl
  | true => exact absurd (congrArg List.length ((sameP_iff a b).1 hs)) h
theorem same_eq (a b : List Pr) (hl : a.length ≤ 1000000) {k : Nat} (hk : a.length < k) : pairs_Same.f k a b = some (sameP a b) := by
  unfold pairs_Same.f api_Pair.f
  by_cases h : a.length = b.length
  · have := same_loop a b hl h a.length k 0 (by omega) hk
    rw [if_pos (by omega)]
    rw [List.drop_zero, List.drop_zero] at this
    rw [show ((0 : Int)) = ((0 : Nat) : Int) from rfl, this, Option.bind_some]
  · rw [if_neg (by omega), Option.bind_some, sameP_len h]

def cutP (l : List Pr) (lo hi lim : Int) : List Pr := ((l.drop (lessN l lo)).takeWhile (fun p => decide (p.f0 ≤ hi))).take lim.toNat
theorem cut_loop (l : List Pr) (hl : l.length ≤ 1000000) (hi lim : Int) (d : Nat) : ∀ (k i : Nat) (out : List Pr), i + d = l.length → out.length ≤ i → d < k →
    pairs_Cut.l0 k l hi lim (i : Int) out = some (out ++ ((l.drop i).takeWhile (fun p => decide (p.f0 ≤ hi))).take (lim - out.length).toNat) := by
  induction d with
  | zero =>
    intro k i out h ho hk
    obtain ⟨k, rfl⟩ : ∃ m, k = m + 1 := ⟨k - 1, by omega⟩
    rw [pairs_Cut.l0, if_neg (by omega), List.drop_of_length_le (by omega)]
    simp
  | succ d ih =>
    intro k i out h ho hk
    obtain ⟨k, rfl⟩ : ∃ m, k = m + 1 := ⟨k - 1, by omega⟩
    rw [pairs_Cut.l0, if_pos (by omega), if_pos (by omega), rdp l i (by omega), List.drop_eq_getElem_cons (by omega : i < l.length)]
    by_cases hc : l[i].f0 ≤ hi
    · rw [if_pos hc, List.takeWhile_cons_of_pos (p := fun p : Pr => decide (p.f0 ≤ hi)) (decide_eq_true hc)]
      by_cases hn : (out.length : Int) < lim
      · rw [if_pos hn, if_pos (by omega), w64p (by omega), show (i : Int) + 1 = ((i + 1 : Nat) : Int) from by omega, ih k (i + 1) _ (by omega) (by simp; omega) (by omega), show (⟨l[i].f0, l[i].f1⟩ : Pr) = l[i] from rfl]
        rw [show (lim - (out.length : Int)).toNat = (lim - ((out ++ [l[i]]).length : Int)).toNat + 1 from by simp; omega, List.take_succ_cons, List.append_assoc]
        rfl
      · rw [if_neg hn, show (lim - (out.length : Int)).toNat = 0 from by omega]; simp
    · rw [if_neg hc, List.takeWhile_cons_of_neg (p := fun p : Pr => decide (p.f0 ≤ hi)) (by simpa using hc)]; simp
theorem cut_eq (l : List Pr) (hl : l.length ≤ 1000000) (hr : ris l = true) (lo hi lim : Int) {k : Nat} (hk : l.length < k) : pairs_Cut.f k l lo hi lim = some (cutP l lo hi lim) := by
  have hle := lessN_le l lo
  unfold pairs_Cut.f pairs_Find.f
  rw [if_pos ⟨hr, hl⟩, Option.bind_some, cut_loop l hl hi lim (l.length - lessN l lo) k (lessN l lo) [] (by omega) (by simp) (by omega)]
  simp [cutP]

/-! What fits a call. -/
def allIn (l : List Pr) (lo hi : Int) : Bool := l.all (fun p => decide (lo ≤ p.f0 ∧ p.f0 ≤ hi))
theorem allIn_drop (l : List Pr) (lo hi : Int) (i : Nat) (h : i < l.length) : allIn (l.drop i) lo hi = (decide (lo ≤ l[i].f0 ∧ l[i].f0 ≤ hi) && allIn (l.drop (i + 1)) lo hi) := by
  rw [List.drop_eq_getElem_cons h]; rfl
theorem takeWhile_all {p : Pr → Bool} : ∀ {l : List Pr}, (∀ x ∈ l, p x = true) → l.takeWhile p = l
  | [], _ => rfl
  | x :: l, h => by rw [List.takeWhile_cons_of_pos (h x (by simp)), takeWhile_all (fun y hy => h y (by simp [hy]))]
theorem lessN_zero {l : List Pr} {a : Int} (h : ∀ p ∈ l, a ≤ p.f0) : lessN l a = 0 := by
  unfold lessN; rw [List.countP_eq_zero]; intro p hp; have := h p hp; simp; omega
theorem same_cut {l : List Pr} (hr : ris l = true) (lo hi lim : Int) (hm : 0 ≤ lim) : sameP l (cutP l lo hi lim) = (allIn l lo hi && decide ((l.length : Int) ≤ lim)) := by
  rw [Bool.eq_iff_iff, sameP_iff, Bool.and_eq_true, decide_eq_true_eq]
  unfold allIn
  rw [List.all_eq_true]
  constructor
  · intro h
    have hlen := congrArg List.length h
    unfold cutP at hlen
    rw [List.length_take] at hlen
    have h1 : ((l.drop (lessN l lo)).takeWhile (fun p => decide (p.f0 ≤ hi))).length ≤ (l.drop (lessN l lo)).length := (List.takeWhile_sublist _).length_le
    rw [List.length_drop] at h1
    have h2 := lessN_le l lo
    have h3 : lessN l lo = 0 := by omega
    refine ⟨fun p hp => ?_, by omega⟩
    rw [decide_eq_true_eq]
    constructor
    · obtain ⟨i, hi', rfl⟩ := List.getElem_of_mem hp
      have := less_iff hr lo i hi'
      omega
    · rw [h] at hp
      have hp2 := List.mem_of_mem_take hp
      have := List.all_takeWhile (p := fun p : Pr => decide (p.f0 ≤ hi)) (l := l.drop (lessN l lo))
      rw [List.all_eq_true] at this
      exact of_decide_eq_true (this p hp2)
  · rintro ⟨h1, h2⟩
    have h3 : lessN l lo = 0 := lessN_zero (fun p hp => (of_decide_eq_true (h1 p hp)).1)
    unfold cutP
    rw [h3, List.drop_zero, takeWhile_all (fun p hp => decide_eq_true (of_decide_eq_true (h1 p hp)).2), List.take_of_length_le (by omega)]
def mayB (op key hi lim : Int) : Bool := if op = 3 then decide (key ≤ hi ∧ 1 ≤ lim ∧ lim ≤ 1000) else if op = 4 ∨ op = 9 then decide (key ≤ hi) else decide (0 ≤ op ∧ op ≤ 14)
theorem may_eq (op key val hi lim : Int) : call_May.f op key val hi lim = some (mayB op key hi lim) := by
  unfold call_May.f mayB
  by_cases h3 : op = 3
  · rw [if_pos h3, if_pos h3]
    by_cases a : key ≤ hi
    · rw [if_pos a]
      by_cases b : lim ≥ 1
      · rw [if_pos b]; refine congrArg some ?_; rw [decide_eq_decide]; omega
      · rw [if_neg b]; exact congrArg some (decide_eq_false (by omega)).symm
    · rw [if_neg a]; exact congrArg some (decide_eq_false (by omega)).symm
  · rw [if_neg h3, if_neg h3]
    by_cases h4 : op = 4
    · rw [if_pos h4, if_pos (Or.inl h4)]
    · rw [if_neg h4]
      by_cases h9 : op = 9
      · rw [if_pos h9, if_pos (Or.inr h9)]
      · rw [if_neg h9, if_neg (by omega : ¬ (op = 4 ∨ op = 9))]
        by_cases h0 : op ≥ 0
        · rw [if_pos h0]; refine congrArg some ?_; rw [decide_eq_decide]; omega
        · rw [if_neg h0]; exact congrArg some (decide_eq_false (by omega)).symm
theorem csame_eq (a0 a1 a2 a3 b0 b1 b2 b3 : Int) (l m : List Pr) (hl : l.length ≤ 1000000) {k : Nat} (hk : l.length < k) : call_Same.f k a0 a1 a2 a3 l b0 b1 b2 b3 m = some (decide (a0 = b0 ∧ a1 = b1 ∧ a2 = b2 ∧ a3 = b3) && sameP l m) := by
  unfold call_Same.f
  by_cases h0 : a0 = b0
  · by_cases h1 : a1 = b1
    · by_cases h2 : a2 = b2
      · by_cases h3 : a3 = b3
        · rw [if_pos h0, if_pos h1, if_pos h2, if_pos h3, same_eq l m hl hk, Option.bind_some, decide_eq_true ⟨h0, h1, h2, h3⟩, Bool.true_and]
        · rw [if_pos h0, if_pos h1, if_pos h2, if_neg h3, decide_eq_false (fun h => h3 h.2.2.2), Bool.false_and]
      · rw [if_pos h0, if_pos h1, if_neg h2, decide_eq_false (fun h => h2 h.2.2.1), Bool.false_and]
    · rw [if_pos h0, if_neg h1, decide_eq_false (fun h => h1 h.2.1), Bool.false_and]
  · rw [if_neg h0, decide_eq_false (fun h => h0 h.1), Bool.false_and]
def bareB (kd key val n : Int) (l : List Pr) : Bool := decide (kd = 1 ∨ key = 0 ∧ val = 0) && (decide (kd = 2 ∨ n = 0) && decide (kd = 3 ∨ l = []))
theorem bare_same (kd key val n : Int) (l : List Pr) (hl : l.length ≤ 1000000) {k : Nat} (hk : l.length < k) :
    ((call_bare.f kd key val n l).bind fun b => call_Same.f k kd key val n l b.1 b.2.1 b.2.2.1 b.2.2.2.1 b.2.2.2.2) = some (bareB kd key val n l) := by
  have hs0 : sameP l [] = decide (l = []) := by rw [Bool.eq_iff_iff, sameP_iff, decide_eq_true_eq]
  have hsl : sameP l l = true := (sameP_iff l l).2 rfl
  unfold call_bare.f bareB
  by_cases h1 : kd = 1
  · rw [if_pos h1, Option.bind_some, csame_eq _ _ _ _ _ _ _ _ _ _ hl hk]
    refine congrArg some ?_
    dsimp only
    rw [hs0, Bool.eq_iff_iff]; simp only [Bool.and_eq_true, decide_eq_true_eq]; subst h1; simp
  · rw [if_neg h1]
    by_cases h2 : kd = 2
    · rw [if_pos h2, Option.bind_some, csame_eq _ _ _ _ _ _ _ _ _ _ hl hk]
      refine congrArg some ?_
      dsimp only
      rw [hs0, Bool.eq_iff_iff]; simp only [Bool.and_eq_true, decide_eq_true_eq]; subst h2; simp
    · rw [if_neg h2]
      by_cases h3 : kd = 3
      · rw [if_pos h3, Option.bind_some, csame_eq _ _ _ _ _ _ _ _ _ _ hl hk]
        refine congrArg some ?_
        dsimp only
        rw [hsl, Bool.eq_iff_iff]; simp only [Bool.and_eq_true, decide_eq_true_eq]; subst h3; simp [and_assoc]
      · rw [if_neg h3, Option.bind_some, csame_eq _ _ _ _ _ _ _ _ _ _ hl hk]
        refine congrArg some ?_
        dsimp only
        rw [hs0, Bool.eq_iff_iff]; simp only [Bool.and_eq_true, decide_eq_true_eq]; simp [h1, h2, h3, and_assoc]
theorem may_range {op key hi lim : Int} (h : mayB op key hi lim = true) : 0 ≤ op ∧ op ≤ 14 ∧ (op = 3 → 0 ≤ lim) := by
  unfold mayB at h
  by_cases h3 : op = 3
  · rw [if_pos h3] at h; have := of_decide_eq_true h; omega
  · rw [if_neg h3] at h
    by_cases h4 : op = 4 ∨ op = 9
    · omega
    · rw [if_neg h4] at h; have := of_decide_eq_true h; omega
def foundB (op key ak : Int) : Bool := if op = 1 ∨ op = 2 then decide (ak = key) else if op = 7 then decide (ak ≤ key) else if op = 8 then decide (key ≤ ak) else decide (op = 5 ∨ op = 6 ∨ op = 10)
theorem found_eq (op key val hi lim ak : Int) {k : Nat} (hk : 0 < k) : call_found.f k op key val hi lim ak = some (foundB op key ak) := by
  obtain ⟨k, rfl⟩ : ∃ m, k = m + 1 := ⟨k - 1, by omega⟩
  unfold call_found.f foundB
  by_cases h1 : op = 1
  · rw [if_pos h1, call_found.j0, if_pos (by simp [h1]), if_pos (Or.inl h1)]; exact congrArg some (by rw [Bool.eq_iff_iff]; simp)
  · rw [if_neg h1, call_found.j0]
    by_cases h2 : op = 2
    · rw [if_pos (by simp [h2]), if_pos (Or.inr h2)]; exact congrArg some (by rw [Bool.eq_iff_iff]; simp)
    · rw [if_neg (by simp [h2]), if_neg (by omega : ¬ (op = 1 ∨ op = 2))]
      by_cases h7 : op = 7
      · rw [if_pos h7, if_pos h7]
      · rw [if_neg h7, if_neg h7]
        by_cases h8 : op = 8
        · rw [if_pos h8, if_pos h8]
        · rw [if_neg h8, if_neg h8]
          by_cases h5 : op = 5
          · rw [if_pos h5]; exact congrArg some (decide_eq_true (by omega)).symm
          · rw [if_neg h5]
            by_cases h6 : op = 6
            · rw [if_pos h6]; exact congrArg some (decide_eq_true (by omega)).symm
            · rw [if_neg h6]; exact congrArg some (by rw [Bool.eq_iff_iff]; simp [h5, h6])
theorem list_eq (op key val hi lim : Int) (l : List Pr) (hl : l.length ≤ 1500) (hm : op = 3 → 0 ≤ lim) {k : Nat} (hk : 4000 ≤ k) : call_list.f k op key val hi lim l = some (decide (op = 3) && (allIn l key hi && ris l && decide ((l.length : Int) ≤ lim))) := by
  unfold call_list.f
  by_cases h3 : op = 3
  · rw [if_pos h3, rises_eq l (by omega) (by omega), Option.bind_some]
    cases hr : ris l with
    | false => rw [if_neg (by decide)]; simp
    | true =>
      rw [if_pos rfl, cut_eq l (by omega) hr key hi lim (by omega), Option.bind_some, same_eq l _ (by omega) (by omega), Option.bind_some, same_cut hr key hi lim (hm h3)]
      simp [h3]
  · rw [if_neg h3]; simp [h3]
/-- What an answer's kind must be. -/
def kindB (op key hi lim kd ak n : Int) (l : List Pr) : Bool :=
  if kd = 0 then decide (op = 0 ∨ op = 9 ∨ 10 < op) else if kd = 1 then foundB op key ak else if kd = 2 then decide (op = 4 ∧ 0 ≤ n) else if kd = 3 then decide (op = 3) && (allIn l key hi && ris l && decide ((l.length : Int) ≤ lim))
  else if kd = 4 then foundB op key key else if kd = 5 ∨ kd = 6 then decide (op = 0) else if kd = 7 then decide (2 < op ∧ op < 10) else false
theorem kind_eq (op key val hi lim kd ak av n : Int) (l : List Pr) (hl : l.length ≤ 1500) (h14 : op ≤ 14) (hm : op = 3 → 0 ≤ lim) {k : Nat} (hk : 4000 ≤ k) : call_kind.f k op key val hi lim kd ak av n l = some (kindB op key hi lim kd ak n l) := by
  have hj : ∀ x : Bool, call_kind.j0 k kd x op key val hi lim = some (if x = true then decide (op = 0) else if kd = 7 then decide (2 < op ∧ op < 10) else false) := by
    intro x
    obtain ⟨k, rfl⟩ : ∃ m, k = m + 1 := ⟨k - 1, by omega⟩
    rw [call_kind.j0]
    cases x with
    | true => rw [if_pos rfl, if_pos rfl]; exact congrArg some (by rw [Bool.eq_iff_iff]; simp)
    | false =>
      rw [if_neg Bool.false_ne_true, if_neg Bool.false_ne_true]
      by_cases h7 : kd = 7
      · rw [if_pos h7, if_pos h7]
        unfold call_Reads.f
        by_cases h3 : op ≥ 3
        · rw [if_pos h3, Option.bind_some]; exact congrArg some (decide_eq_decide.2 (by omega))
        · rw [if_neg h3, Option.bind_some]; exact congrArg some (decide_eq_false (by omega)).symm
      · rw [if_neg h7, if_neg h7]
  unfold call_kind.f kindB
  by_cases h0 : kd = 0
  · rw [if_pos h0, if_pos h0]
    unfold call_done.f
    by_cases a : op = 0
    · rw [if_pos a, Option.bind_some]; exact congrArg some (decide_eq_true (by omega)).symm
    · rw [if_neg a]
      by_cases b : op = 9
      · rw [if_pos b, Option.bind_some]; exact congrArg some (decide_eq_true (by omega)).symm
      · rw [if_neg b]
        by_cases c : op ≥ 11
        · rw [if_pos c, Option.bind_some]; exact congrArg some (decide_eq_decide.2 (by omega))
        · rw [if_neg c, Option.bind_some]; exact congrArg some (decide_eq_false (by omega)).symm
  · rw [if_neg h0, if_neg h0]
    by_cases h1 : kd = 1
    · rw [if_pos h1, if_pos h1, found_eq _ _ _ _ _ _ (by omega), Option.bind_some]
    · rw [if_neg h1, if_neg h1]
      by_cases h2 : kd = 2
      · rw [if_pos h2, if_pos h2]
        by_cases a : op = 4
        · rw [if_pos a]; exact congrArg some (decide_eq_decide.2 (by omega))
        · rw [if_neg a]; exact congrArg some (decide_eq_false (by omega)).symm
      · rw [if_neg h2, if_neg h2]
        by_cases h3 : kd = 3
        · rw [if_pos h3, if_pos h3, list_eq _ _ _ _ _ _ hl hm hk, Option.bind_some]
        · rw [if_neg h3, if_neg h3]
          by_cases h4 : kd = 4
          · rw [if_pos h4, if_pos h4, found_eq _ _ _ _ _ _ (by omega), Option.bind_some]
          · rw [if_neg h4, if_neg h4]
            by_cases h5 : kd = 5
            · rw [if_pos h5, if_pos (Or.inl h5), hj, if_pos (by simp [h5])]
            · rw [if_neg h5, hj]
              by_cases h6 : kd = 6
              · rw [if_pos (by simp [h6]), if_pos (Or.inr h6)]
              · rw [if_neg (by simp [h6]), if_neg (by omega : ¬ (kd = 5 ∨ kd = 6))]
def fitsB (op key hi lim kd ak av n : Int) (l : List Pr) : Bool := bareB kd ak av n l && (if kd = 8 then true else mayB op key hi lim && kindB op key hi lim kd ak n l)
theorem call_fits (op key val hi lim kd ak av n : Int) (l : List Pr) (hl : l.length ≤ 1500) {k : Nat} (hk : 4000 ≤ k) : call_Fits.f k op key val hi lim kd ak av n l = some (fitsB op key hi lim kd ak av n l) := by
  have hb := bare_same kd ak av n l (by omega) (k := k) (by omega)
  unfold call_Fits.f fitsB
  rw [← Option.bind_assoc]
  refine (congrArg (fun o => Option.bind o _) hb).trans ?_
  rw [Option.bind_some]
  cases bareB kd ak av n l with
  | false => rw [if_neg (by decide)]; rfl
  | true =>
    rw [if_pos rfl, Bool.true_and]
    by_cases h8 : kd = 8
    · rw [if_pos h8, if_pos h8]
    · rw [if_neg h8, if_neg h8, may_eq, Option.bind_some]
      cases hmy : mayB op key hi lim with
      | false => rw [if_neg (by decide)]; rfl
      | true =>
        obtain ⟨m0, m1, m2⟩ := may_range hmy
        rw [if_pos rfl, kind_eq _ _ _ _ _ _ _ _ _ _ hl m1 m2 hk, Option.bind_some, Bool.true_and]

/-! The words of calls. -/
def wordN (op : Int) : ByteArray := if 0 ≤ op ∧ op ≤ 14 then wordAt op.toNat else ByteArray.empty
theorem word_eq (op : Int) : call_Word.f op = some (wordN op) := rfl
theorem rword_eq (op : Int) : deadwoodref09_Word.f op = some (wordN op) := by
  unfold deadwoodref09_Word.f wordN
  rw [Option.bind_some]
  by_cases h0 : op < 0
  · rw [if_pos h0, if_neg (by omega)]; rfl
  · rw [if_neg h0]
    by_cases h1 : op ≥ 15
    · rw [if_pos (by simpa using h1), if_neg (by omega)]; rfl
    · rw [if_neg (by simpa using h1), if_pos (by omega), if_pos (by simp; omega), if_pos (by omega)]; rfl
theorem words_apart : ∀ i, i < 15 → ∀ j, j < 15 → i < j → (wordAt i).toList ≠ (wordAt j).toList := by decide +kernel
theorem opFrom_false {s : ByteArray} : ∀ (d i : Nat), (∀ j, i ≤ j → j < i + d → (wordAt j).toList ≠ s.toList) → opFrom s d i = (0, false)
  | 0, _, _ => rfl
  | d + 1, i, h => by
    unfold opFrom
    rw [if_neg (by simpa using h i (Nat.le_refl _) (by omega))]
    exact opFrom_false d (i + 1) (fun j h1 h2 => h j (by omega) (by omega))

theorem creads (op : Int) : call_Reads.f op = some (decide (2 < op ∧ op < 10)) := by
  unfold call_Reads.f
  by_cases h3 : op ≥ 3
  · rw [if_pos h3]; exact congrArg some (decide_eq_decide.2 (by omega))
  · rw [if_neg h3]; exact congrArg some (decide_eq_false (by omega)).symm
theorem lives_eq {k : Nat} (hk : 4000 ≤ k) : deadwoodlaw09_lives.f k = some true := by
  unfold deadwoodlaw09_lives.f
  rw [call_fits _ _ _ _ _ _ _ _ _ _ (by simp) hk, Option.bind_some, show fitsB 2 5 0 0 1 5 1 0 [] = true from by decide, if_pos rfl, call_fits _ _ _ _ _ _ _ _ _ _ (by simp) hk, Option.bind_some, show fitsB 2 6 0 0 1 5 1 0 [] = false from by decide]
  rfl
theorem word_full : ∀ i, i < 15 → (wordAt i).toList ≠ [] := by decide +kernel
theorem op_word : ∀ i, i < 15 → opFrom (wordAt i) 15 0 = ((i : Int), true) := by decide +kernel
/-- What reads changes nothing. -/
theorem tail_eq (i : Int) {k : Nat} (hk : 4000 ≤ k) : ((call_Reads.f i).bind fun t => if t = true then ((call_Changes.f i).bind fun u => if u = true then some false else ((deadwoodlaw09_lives.f k).bind fun v => some v)) else ((deadwoodlaw09_lives.f k).bind fun v => some v)) = some true := by
  rw [creads, Option.bind_some]
  by_cases h : 2 < i ∧ i < 10
  · rw [if_pos (decide_eq_true h)]
    unfold call_Changes.f
    rw [if_neg (by omega), Option.bind_some, if_neg (by simp; omega), lives_eq hk, Option.bind_some]
  · rw [if_neg (by simpa using h), lives_eq hk, Option.bind_some]
theorem j1_eq (i c0 c1 c2 c3 c4 a0 a1 a2 a3 : Int) (l : List Pr) {k : Nat} (hk : 4000 < k) : deadwoodlaw09_CallOnes.j1 k i c0 c1 c2 c3 c4 a0 a1 a2 a3 l = some true := by
  obtain ⟨k, rfl⟩ : ∃ m, k = m + 1 := ⟨k - 1, by omega⟩
  rw [deadwoodlaw09_CallOnes.j1]
  by_cases hl : (l.length : Int) > 1500
  · rw [if_pos hl, lives_eq (by omega), Option.bind_some]
  · rw [if_neg hl, call_fits _ _ _ _ _ _ _ _ _ _ (by simp) (by omega), Option.bind_some, show fitsB c0 c1 c3 c4 8 0 0 0 [] = true from rfl, if_pos rfl, may_eq, Option.bind_some]
    cases hm : mayB c0 c1 c3 c4 with
    | true => rw [if_pos rfl]; exact tail_eq i (by omega)
    | false =>
      rw [if_neg (by decide)]
      by_cases h8 : a0 = 8
      · rw [if_pos h8]; exact tail_eq i (by omega)
      · rw [if_neg h8, call_fits _ _ _ _ _ _ _ _ _ _ (by omega) (by omega), Option.bind_some]
        have hf : fitsB c0 c1 c3 c4 a0 a1 a2 a3 l = false := by unfold fitsB; rw [if_neg h8, hm, Bool.false_and, Bool.and_false]
        rw [hf, if_neg (by decide)]
        exact tail_eq i (by omega)
theorem empty_list : ByteArray.empty.toList = [] := by decide +kernel
theorem CallOnes : deadwoodlaw09_CallOnes.Pure := by
  intro x0 x1 x2 h0 h1 h2
  refine ⟨6000, ?_⟩
  have fin : deadwoodlaw09_CallOnes.j0 6000 x0.f0 false x1.f0 x1.f1 x1.f2 x1.f3 x1.f4 x2.f0 x2.f1 x2.f2 x2.f3 x2.f4 = some true := by
    rw [deadwoodlaw09_CallOnes.j0, if_neg (by decide), word_eq, Option.bind_some]
    by_cases hr : 0 ≤ x0.f0 ∧ x0.f0 ≤ 14
    · obtain ⟨i, hi⟩ : ∃ i : Nat, x0.f0 = i := ⟨x0.f0.toNat, by omega⟩
      have hw : wordN x0.f0 = wordAt i := by unfold wordN; rw [if_pos hr, hi, Int.toNat_natCast]
      rw [hw, if_neg (word_full i (by omega)), Option.bind_some]
      unfold call_Op.f
      rw [Option.bind_some, op_word i (by omega)]
      dsimp only
      rw [if_pos rfl, if_pos hi.symm]
      exact j1_eq _ _ _ _ _ _ _ _ _ _ _ (by omega)
    · have hw : wordN x0.f0 = ByteArray.empty := by unfold wordN; rw [if_neg hr]
      rw [hw, if_pos empty_list]
      exact j1_eq _ _ _ _ _ _ _ _ _ _ _ (by omega)
  unfold deadwoodlaw09_CallOnes.f
  rw [word_eq, Option.bind_some]
  by_cases he : (wordN x0.f0).toList = []
  · rw [if_pos he]; exact fin
  · rw [if_neg he, Option.bind_some, word_eq, Option.bind_some]
    by_cases hs : (wordN x0.f0).toList = (wordN x0.f1).toList
    · rw [if_pos hs]
      have hij : x0.f0 = x0.f1 := by
        unfold wordN at hs he
        by_cases ha : 0 ≤ x0.f0 ∧ x0.f0 ≤ 14
        · rw [if_pos ha] at hs he
          by_cases hb : 0 ≤ x0.f1 ∧ x0.f1 ≤ 14
          · rw [if_pos hb] at hs
            rcases Nat.lt_trichotomy x0.f0.toNat x0.f1.toNat with h | h | h
            · exact absurd hs (words_apart _ (by omega) _ (by omega) h)
            · omega
            · exact absurd hs.symm (words_apart _ (by omega) _ (by omega) h)
          · rw [if_neg hb, empty_list] at hs; exact absurd hs he
        · rw [if_neg ha] at he; exact absurd empty_list he
      rw [show (x0.f0 != x0.f1) = false from by rw [hij]; simp]
      exact fin
    · rw [if_neg hs]; exact fin

end Go.Proofs.Ytckbndckfeicmaa.Pure
