/- What is put is found, in a row; dropped again the row is as it was; a floor is the ceiling just if the key is there; of every list and pair, with no condition. -/
import Derived.Test.YtckbndckfeicmaaPPairsBackx4
import Derived.Test.YtckbndckfeicmaaNum
set_option linter.unusedVariables false
set_option linter.unusedSimpArgs false
namespace Go.Proofs.Ytckbndckfeicmaa.Pure
open Go Go.RowKit Go.Proofs.Ytckbndckfeicmaa.PPairsBack Go.Proofs.YtckbndckfeicmaaW.PrintWords Go.Proofs.YtckbndckfeicmaaW.PrintLast Go.Proofs.YtckbndckfeicmaaW.PrintMore Go.Proofs.Ytckbndckfeicmaa.Num

/-! Rows of pairs. -/
abbrev Pr := S61
theorem w64p {n : Int} (h : -9223372036854775808 ≤ n ∧ n ≤ 9223372036854775807) : wrap64 n = n := by unfold wrap64; omega
theorem rdp (l : List Pr) (i : Nat) (hi : i < l.length) : rd_T61 l (i : Int) = l[i] := FindWalk.getD_eq l i hi
theorem ris_drop (l : List Pr) (i : Nat) (h : i + 1 < l.length) : ris (l.drop i) = (decide (l[i].f0 < l[i + 1].f0) && ris (l.drop (i + 1))) := by
  rw [List.drop_eq_getElem_cons (by omega : i < l.length), List.drop_eq_getElem_cons h]
  rfl
theorem ris_last (l : List Pr) (i : Nat) (h : l.length ≤ i + 1) : ris (l.drop i) = true := by
  have : (l.drop i).length ≤ 1 := by rw [List.length_drop]; omega
  match l.drop i, this with
  | [], _ => rfl
  | [_], _ => rfl

theorem rises_loop (l : List Pr) (hl : l.length ≤ 1000000) (d : Nat) : ∀ (k i : Nat), i + d = l.length ∨ (d = 0 ∧ l.length ≤ i) → i < 2000000 → d < k → pairs_Rises.l0 k l ((i : Int) + 1) = some (ris (l.drop i)) := by
  induction d with
  | zero =>
    intro k i hi hb hk
    obtain ⟨k, rfl⟩ : ∃ m, k = m + 1 := ⟨k - 1, by omega⟩
    rw [pairs_Rises.l0, if_neg (by omega), ris_last l i (by omega)]
  | succ d ih =>
    intro k i hi hb hk
    obtain ⟨k, rfl⟩ : ∃ m, k = m + 1 := ⟨k - 1, by omega⟩
    by_cases h : i + 1 < l.length
    · rw [pairs_Rises.l0, if_pos (by omega), w64p (by omega), show (i : Int) + 1 - 1 = (i : Int) from by omega, if_pos (by omega), if_pos (by omega), if_pos (by omega), rdp l i (by omega), show (i : Int) + 1 = ((i + 1 : Nat) : Int) from by omega, rdp l (i + 1) h, ris_drop l i h]
      by_cases hc : l[i].f0 < l[i + 1].f0
      · rw [if_neg (by omega), w64p (by omega), decide_eq_true hc, Bool.true_and]
        exact ih k (i + 1) (by omega) (by omega) (by omega)
      · rw [if_pos (by omega), decide_eq_false hc, Bool.false_and]
    · rw [pairs_Rises.l0, if_neg (by omega), ris_last l i (by omega)]
theorem rises_eq (l : List Pr) (hl : l.length ≤ 1000000) {k : Nat} (hk : l.length < k) : pairs_Rises.f k l = some (ris l) := rises_loop l hl l.length k 0 (by omega) (by omega) hk

/-- Rows are the same. -/
def sameP (a b : List Pr) : Bool := match a, b with
  | [], [] => true
  | x :: a, y :: b => decide (x.f0 = y.f0 ∧ x.f1 = y.f1) && sameP a b
  | _, _ => false
theorem sameP_iff : ∀ (a b : List Pr), sameP a b = true ↔ a = b
  | [], [] => by simp [sameP]
  | [], _ :: _ => by simp [sameP]
  | _ :: _, [] => by simp [sameP]
  | ⟨x0, x1⟩ :: a, ⟨y0, y1⟩ :: b => by
    unfold sameP
    rw [Bool.and_eq_true, decide_eq_true_eq, sameP_iff a b, List.cons.injEq]
    constructor
    · rintro ⟨⟨h1, h2⟩, h3⟩; exact ⟨by simp only at h1 h2; rw [h1, h2], h3⟩
    · rintro ⟨h1, h3⟩; injection h1 with h1 h2; exact ⟨⟨h1, h2⟩, h3⟩
theorem sameP_drop (a b : List Pr) (i : Nat) (ha : i < a.length) (hb : i < b.length) : sameP (a.drop i) (b.drop i) = (decide (a[i].f0 = b[i].f0 ∧ a[i].f1 = b[i].f1) && sameP (a.drop (i + 1)) (b.drop (i + 1))) := by
  rw [List.drop_eq_getElem_cons ha, List.drop_eq_getElem_cons hb]
  rfl
theorem neP_true {x y : Pr} (h : ¬ (x.f0 = y.f0 ∧ x.f1 = y.f1)) : (!(x.f0 == y.f0) || (!(x.f1 == y.f1))) = true := by
  cases h0 : (x.f0 == y.f0) with
  | false => rfl
  | true =>
    cases h1 : (x.f1 == y.f1) with
    | false => rfl
    | true => exact absurd ⟨eq_of_beq h0, eq_of_beq h1⟩ h
theorem neP_false {x y : Pr} (h : x.f0 = y.f0 ∧ x.f1 = y.f1) : ¬ (!(x.f0 == y.f0) || (!(x.f1 == y.f1))) = true := by
  rw [h.1, h.2]; simp
theorem sameP_len {a b : List Pr} (h : a.length ≠ b.length) : sameP a b = false := by
  cases hs : sameP a b with
  | false => rfl
  | true => exact absurd (congrArg List.length ((sameP_iff a b).1 hs)) h

theorem same_loop (a b : List Pr) (hl : a.length ≤ 1000000) (he : a.length = b.length) (d : Nat) : ∀ (k i : Nat), i + d = a.length → d < k → api_Pair.l0 k a b (a.length : Int) (i : Int) = some (sameP (a.drop i) (b.drop i)) := by
  induction d with
  | zero =>
    intro k i hi hk
    obtain ⟨k, rfl⟩ : ∃ m, k = m + 1 := ⟨k - 1, by omega⟩
    rw [api_Pair.l0, if_neg (by omega), List.drop_of_length_le (by omega), List.drop_of_length_le (by omega)]
    rfl
  | succ d ih =>
    intro k i hi hk
    obtain ⟨k, rfl⟩ : ∃ m, k = m + 1 := ⟨k - 1, by omega⟩
    rw [api_Pair.l0, if_pos (by omega), if_pos (by omega), if_pos (by omega), if_pos (by omega), rdp a i (by omega), rdp b i (by omega), sameP_drop a b i (by omega) (by omega)]
    by_cases hc : a[i].f0 = b[i].f0 ∧ a[i].f1 = b[i].f1
    · rw [if_neg (neP_false hc), w64p (by omega), decide_eq_true hc, Bool.true_and, show (i : Int) + 1 = ((i + 1 : Nat) : Int) from by omega]
      exact ih k (i + 1) (by omega) (by omega)
    · rw [if_pos (neP_true hc), decide_eq_false hc, Bool.false_and]
theorem same_eq (a b : List Pr) (hl : a.length ≤ 1000000) {k : Nat} (hk : a.length < k) : pairs_Same.f k a b = some (sameP a b) := by
  unfold pairs_Same.f api_Pair.f
  by_cases h : a.length = b.length
  · have := same_loop a b hl h a.length k 0 (by omega) hk
    rw [if_pos (by omega)]
    rw [List.drop_zero, List.drop_zero] at this
    rw [show ((0 : Int)) = ((0 : Nat) : Int) from rfl, this, Option.bind_some]
  · rw [if_neg (by omega), Option.bind_some, sameP_len h]

/-! Floors. -/
def leN (l : List Pr) (a : Int) : Nat := lessN l a + (if isKey l a = true then 1 else 0)
theorem le_iff {l : List Pr} (h : ris l = true) (a : Int) : ∀ j (hj : j < l.length), (l[j].f0 ≤ a ↔ j < leN l a) := by
  intro j hj
  have h1 := less_iff h a j hj
  unfold leN
  by_cases hk : isKey l a = true
  · obtain ⟨hn, he⟩ := (isKey_iff h a).1 hk
    rw [if_pos hk]
    rcases Nat.lt_trichotomy j (lessN l a) with hl | hl | hl
    · have := h1.2 hl; omega
    · subst hl; omega
    · have := ris_pair h (lessN l a) j hj hl; omega
  · rw [if_neg hk]
    have hne : l[j].f0 ≠ a := fun e => hk (by unfold isKey; rw [List.any_eq_true]; exact ⟨_, List.getElem_mem hj, decide_eq_true e⟩)
    omega
theorem leN_le {l : List Pr} (h : ris l = true) (a : Int) : leN l a ≤ l.length := by
  unfold leN
  by_cases hk : isKey l a = true
  · obtain ⟨hn, _⟩ := (isKey_iff h a).1 hk
    rw [if_pos hk]; omega
  · rw [if_neg hk]; have := lessN_le l a; omega
def floorP (l : List Pr) (a : Int) : Int × Int × Bool := if 0 < leN l a then ((rd_T61 l ((leN l a - 1 : Nat) : Int)).f0, (rd_T61 l ((leN l a - 1 : Nat) : Int)).f1, true) else (0, 0, false)
theorem floor_eq (l : List Pr) (hl : l.length ≤ 1000000) (hr : ris l = true) (a : Int) (k : Nat) : pairs_Floor.f k l a = some (floorP l a) := by
  have hle := lessN_le l a
  have hm := leN_le hr a
  unfold pairs_Floor.f pairs_Find.f
  rw [if_pos ⟨hr, hl⟩, Option.bind_some]
  dsimp only
  unfold floorP
  unfold leN at hm ⊢
  by_cases hk : isKey l a = true
  · rw [if_pos hk] at hm ⊢
    rw [if_pos hk, if_neg (by omega), if_pos (by omega), if_pos (by omega), if_pos (by omega), Nat.add_sub_cancel]
  · rw [if_neg hk] at hm ⊢
    rw [if_neg hk, w64p (by omega)]
    by_cases h0 : lessN l a = 0
    · rw [if_pos (by omega), if_neg (by omega)]
    · rw [if_neg (by omega), if_pos (by omega), if_pos (by omega), if_pos (by omega), show (lessN l a : Int) - 1 = ((lessN l a + 0 - 1 : Nat) : Int) from by omega]

/-! Ceilings. -/
def ceilP (l : List Pr) (a : Int) : Int × Int × Bool := if lessN l a < l.length then ((rd_T61 l (lessN l a : Int)).f0, (rd_T61 l (lessN l a : Int)).f1, true) else (0, 0, false)
theorem ceil_eq (l : List Pr) (hl : l.length ≤ 1000000) (hr : ris l = true) (a : Int) (k : Nat) : pairs_Ceiling.f k l a = some (ceilP l a) := by
  unfold pairs_Ceiling.f pairs_Find.f ceilP
  rw [if_pos ⟨hr, hl⟩, Option.bind_some]
  dsimp only
  by_cases h : lessN l a < l.length
  · rw [if_neg (by omega), if_pos (by omega), if_pos (by omega), if_pos h]
  · rw [if_pos (by omega), if_neg h]

/-! Pairs put in, keys taken out. -/
def putP (l : List Pr) (k x : Int) : List Pr := if isKey l k = true then l else l.take (lessN l k) ++ ⟨k, x⟩ :: l.drop (lessN l k)
def dropP (l : List Pr) (k : Int) : List Pr := if isKey l k = true then l.take (lessN l k) ++ l.drop (lessN l k + 1) else l
theorem put_eq (l : List Pr) (hl : l.length ≤ 1000000) (hr : ris l = true) (a x : Int) (k : Nat) : pairs_Put.f k l a x = some (putP l a x, !isKey l a) := by
  unfold pairs_Put.f putP
  rw [if_pos ⟨hr, hl⟩]
  cases hk : isKey l a with
  | true => rw [if_pos rfl, if_pos rfl]; rfl
  | false => rw [if_neg (by decide), if_neg (by decide)]; rfl
theorem drop_eq (l : List Pr) (hl : l.length ≤ 1000000) (hr : ris l = true) (a : Int) (k : Nat) : pairs_Drop.f k l a = some (dropP l a, isKey l a) := by
  unfold pairs_Drop.f dropP
  rw [if_pos ⟨hr, hl⟩]
  cases hk : isKey l a with
  | true => rw [if_pos rfl, if_pos rfl]
  | false => rw [if_neg (by decide), if_neg (by decide)]
theorem putP_len (l : List Pr) (k x : Int) : (putP l k x).length ≤ l.length + 1 := by
  unfold putP
  split
  · omega
  · have := lessN_le l k
    simp only [List.length_append, List.length_take, List.length_cons, List.length_drop]; omega
theorem dropP_len (l : List Pr) (k : Int) : (dropP l k).length ≤ l.length := by
  unfold dropP
  split
  · have := lessN_le l k
    simp only [List.length_append, List.length_take, List.length_drop]; omega
  · omega

theorem lives_eq (k : Nat) : deadwoodlaw08_lives.f k = some true := by
  have h1 : pairs_Put.f k ([⟨3, 2⟩, ⟨9, 1⟩] : List Pr) 5 1 = some ([⟨3, 2⟩, ⟨5, 1⟩, ⟨9, 1⟩], true) := by
    unfold pairs_Put.f
    rw [if_pos (by decide), if_neg (by decide)]
    rfl
  unfold deadwoodlaw08_lives.f
  rw [h1, Option.bind_some, floor_eq _ (by decide) (by decide), Option.bind_some]
  rfl

/-! What is put is found. -/
theorem ris_iff : ∀ (l : List Pr), ris l = true ↔ l.Pairwise (fun a b => a.f0 < b.f0)
  | [] => by simp [ris]
  | a :: l => by
    rw [List.pairwise_cons, ← ris_iff l]
    constructor
    · intro h; exact ⟨(ris_head h).2, (ris_head h).1⟩
    · rintro ⟨h1, h2⟩
      cases l with
      | nil => rfl
      | cons b l =>
        show (decide (a.f0 < b.f0) && ris (b :: l)) = true
        rw [h2, decide_eq_true (h1 b (List.mem_cons_self ..))]
        rfl
theorem mem_take_less {l : List Pr} (h : ris l = true) (a : Int) {p : Pr} (hp : p ∈ l.take (lessN l a)) : p.f0 < a := by
  obtain ⟨i, hi, rfl⟩ := List.getElem_of_mem hp
  rw [List.length_take] at hi
  rw [List.getElem_take]
  exact (less_iff h a i (by omega)).2 (by omega)
theorem mem_drop_ge {l : List Pr} (h : ris l = true) (a : Int) (hk : isKey l a = false) {p : Pr} (hp : p ∈ l.drop (lessN l a)) : a < p.f0 := by
  have hne : p.f0 ≠ a := fun e => by
    have : isKey l a = true := by unfold isKey; rw [List.any_eq_true]; exact ⟨p, List.mem_of_mem_drop hp, decide_eq_true e⟩
    rw [hk] at this; cases this
  obtain ⟨i, hi, rfl⟩ := List.getElem_of_mem hp
  rw [List.length_drop] at hi
  rw [List.getElem_drop] at hne ⊢
  have := less_iff h a (lessN l a + i) (by omega)
  have h2 := fun hlt => this.1 hlt
  omega
theorem ris_putP {l : List Pr} (h : ris l = true) (a x : Int) : ris (putP l a x) = true := by
  unfold putP
  cases hk : isKey l a with
  | true => rw [if_pos rfl]; exact h
  | false =>
    rw [if_neg (by decide)]
    have hl := (ris_iff l).1 h
    rw [ris_iff, List.pairwise_append, List.pairwise_cons]
    refine ⟨List.Pairwise.sublist (List.take_sublist _ _) hl, ⟨fun p hp => mem_drop_ge h a hk hp, List.Pairwise.sublist (List.drop_sublist _ _) hl⟩, fun p hp q hq => ?_⟩
    have h1 := mem_take_less h a hp
    rcases List.mem_cons.1 hq with rfl | hq
    · exact h1
    · have := mem_drop_ge h a hk hq; omega
theorem isKey_putP (l : List Pr) (a x : Int) : isKey (putP l a x) a = true := by
  unfold putP
  cases hk : isKey l a with
  | true => rw [if_pos rfl]; exact hk
  | false =>
    rw [if_neg (by decide)]
    unfold isKey
    rw [List.any_append, List.any_cons, decide_eq_true rfl, Bool.true_or, Bool.or_true]
theorem lessN_putP (l : List Pr) (a x : Int) : lessN (putP l a x) a = lessN l a := by
  unfold putP
  cases hk : isKey l a with
  | true => rw [if_pos rfl]
  | false =>
    rw [if_neg (by decide)]
    have e : lessN l a = (l.take (lessN l a)).countP (fun p => decide (p.f0 < a)) + (l.drop (lessN l a)).countP (fun p => decide (p.f0 < a)) := by
      rw [← List.countP_append, List.take_append_drop]
      rfl
    show (l.take (lessN l a) ++ (⟨a, x⟩ : Pr) :: l.drop (lessN l a)).countP (fun p => decide (p.f0 < a)) = lessN l a
    rw [List.countP_append, List.countP_cons_of_neg (by simp), ← e]
theorem dropP_putP (l : List Pr) (a x : Int) (hk : isKey l a = false) : dropP (putP l a x) a = l := by
  unfold dropP
  rw [isKey_putP, if_pos rfl, lessN_putP]
  unfold putP
  have hle := lessN_le l a
  have htl : (l.take (lessN l a)).length = lessN l a := by rw [List.length_take]; omega
  rw [hk, if_neg (by decide), List.take_left' htl, List.drop_append, htl, List.drop_of_length_le (by omega), List.nil_append, Nat.add_sub_cancel_left]
  rw [List.drop_succ_cons, List.drop_zero, List.take_append_drop]
theorem putP_at (l : List Pr) (a x : Int) (hk : isKey l a = false) : rd_T61 (putP l a x) (lessN l a : Int) = ⟨a, x⟩ := by
  have hle := lessN_le l a
  have htl : (l.take (lessN l a)).length = lessN l a := by rw [List.length_take]; omega
  have hlt : lessN l a < (putP l a x).length := by unfold putP; rw [hk, if_neg (by decide)]; simp; omega
  rw [rdp _ _ hlt]
  have e : (putP l a x)[lessN l a]? = some ⟨a, x⟩ := by
    unfold putP
    rw [hk, if_neg (by decide), List.getElem?_append_right (by omega), htl, Nat.sub_self]
    rfl
  rw [List.getElem?_eq_getElem hlt] at e
  exact Option.some.inj e

theorem back_j2 (l : List Pr) (hl : l.length ≤ 300) (hr : ris l = true) (a x : Int) (k : Nat) : deadwoodlaw08_PairsBack.j2 (k + 1) l (!isKey l a) false a x = some true := by
  have hlen : l.length ≤ 1000000 := by omega
  have hle := lessN_le l a
  rw [deadwoodlaw08_PairsBack.j2, if_neg (by decide), floor_eq l hlen hr, Option.bind_some, ceil_eq l hlen hr, Option.bind_some]
  cases hk : isKey l a with
  | true =>
    obtain ⟨hn, _⟩ := (isKey_iff hr a).1 hk
    have em : leN l a = lessN l a + 1 := by unfold leN; rw [hk]; rfl
    have eF : floorP l a = ((rd_T61 l (lessN l a : Int)).f0, (rd_T61 l (lessN l a : Int)).f1, true) := by unfold floorP; rw [em, if_pos (Nat.succ_pos _), Nat.add_sub_cancel]
    have eC : ceilP l a = ((rd_T61 l (lessN l a : Int)).f0, (rd_T61 l (lessN l a : Int)).f1, true) := by unfold ceilP; rw [if_pos hn]
    rw [eF, eC]
    dsimp only
    rw [if_pos rfl, if_pos rfl, if_pos (by simp), lives_eq, Option.bind_some]
  | false =>
    have em : leN l a = lessN l a := by unfold leN; rw [hk]; rfl
    by_cases h0 : 0 < lessN l a
    · have eF : floorP l a = ((rd_T61 l ((lessN l a - 1 : Nat) : Int)).f0, (rd_T61 l ((lessN l a - 1 : Nat) : Int)).f1, true) := by unfold floorP; rw [em, if_pos h0]
      rw [eF]
      by_cases h1 : lessN l a < l.length
      · have eC : ceilP l a = ((rd_T61 l (lessN l a : Int)).f0, (rd_T61 l (lessN l a : Int)).f1, true) := by unfold ceilP; rw [if_pos h1]
        rw [eC]
        dsimp only
        have h2 := ris_pair hr (lessN l a - 1) (lessN l a) h1 (by omega)
        rw [if_pos rfl, if_pos rfl, rdp l _ (by omega : lessN l a - 1 < l.length), rdp l _ h1]
        have h3 : (l[lessN l a - 1].f0 == l[lessN l a].f0) = false := by rw [beq_eq_false_iff_ne]; omega
        rw [h3, Bool.false_and, if_pos (by decide), lives_eq, Option.bind_some]
      · have eC : ceilP l a = (0, 0, false) := by unfold ceilP; rw [if_neg h1]
        rw [eC]
        dsimp only
        rw [if_pos rfl, if_neg (by decide), if_pos (by decide), lives_eq, Option.bind_some]
    · have eF : floorP l a = (0, 0, false) := by unfold floorP; rw [em, if_neg h0]
      rw [eF]
      dsimp only
      rw [if_neg (by decide), if_pos (by decide), lives_eq, Option.bind_some]
theorem back_j1 (l : List Pr) (hl : l.length ≤ 300) (hr : ris l = true) (a x : Int) (k : Nat) (hk : 1000 ≤ k) : deadwoodlaw08_PairsBack.j1 (k + 2) l (putP l a x) (!isKey l a) false a x = some true := by
  have h1 := putP_len l a x
  rw [deadwoodlaw08_PairsBack.j1, if_neg (by decide), drop_eq _ (by omega) (ris_putP hr a x), Option.bind_some, isKey_putP]
  dsimp only
  rw [if_pos rfl]
  cases hk : isKey l a with
  | false =>
    have h2 := back_j2 l hl hr a x k
    rw [hk] at h2
    rw [if_pos (by decide), dropP_putP l a x hk, same_eq l l (by omega) (by omega), Option.bind_some, (sameP_iff l l).2 rfl, if_pos rfl]
    exact h2
  | true =>
    have h2 := back_j2 l hl hr a x k
    rw [hk] at h2
    obtain ⟨hn, _⟩ := (isKey_iff hr a).1 hk
    have e : dropP (putP l a x) a = l.take (lessN l a) ++ l.drop (lessN l a + 1) := by unfold putP dropP; rw [hk, if_pos rfl, if_pos hk]
    have el : ((dropP (putP l a x) a).length : Int) = (l.length : Int) - 1 := by rw [e]; simp only [List.length_append, List.length_take, List.length_drop]; omega
    rw [if_neg (by decide), w64p (by omega), el]
    rw [show (((l.length : Int) - 1) != ((l.length : Int) - 1)) = false from by simp]
    exact h2
theorem PairsBack : deadwoodlaw08_PairsBack.Pure := by
  intro l p hl hp
  refine ⟨2003, ?_⟩
  have fin : deadwoodlaw08_PairsBack.j0 2003 l true p.f0 p.f1 = some true := by
    rw [deadwoodlaw08_PairsBack.j0, if_pos rfl, lives_eq, Option.bind_some]
  unfold deadwoodlaw08_PairsBack.f
  by_cases hn : (l.length : Int) > 300
  · rw [if_pos hn]; exact fin
  · have hlen : l.length ≤ 1000000 := by omega
    rw [if_neg hn, rises_eq l hlen (by omega), Option.bind_some]
    cases hr : ris l with
    | false => exact fin
    | true =>
      have h1 := putP_len l p.f0 p.f1
      have hj := back_j1 l (by omega) hr p.f0 p.f1 2000 (by omega)
      have hr2 := ris_putP hr p.f0 p.f1
      have hf : ∀ k, pairs_Find.f k (putP l p.f0 p.f1) p.f0 = some ((lessN l p.f0 : Int), true) := fun k => by
        unfold pairs_Find.f
        rw [if_pos ⟨hr2, by omega⟩, lessN_putP, isKey_putP]
      obtain ⟨hlt, heq⟩ := (isKey_iff hr2 p.f0).1 (isKey_putP l p.f0 p.f1)
      rw [deadwoodlaw08_PairsBack.j0, if_neg (by decide), put_eq l hlen hr, Option.bind_some, hf, Option.bind_some]
      dsimp only
      rw [if_pos rfl, rises_eq _ (by omega) (by omega), hr2, Option.bind_some, if_pos rfl]
      rw [lessN_putP] at hlt
      rw [if_neg (by omega), if_pos (by omega), if_pos (by omega)]
      have hk0 : (rd_T61 (putP l p.f0 p.f1) (lessN l p.f0 : Int)).f0 = p.f0 := by
        rw [rdp _ _ hlt]
        simp only [lessN_putP] at heq
        exact heq
      rw [if_pos hk0]
      cases hk : isKey l p.f0 with
      | true =>
        rw [hk] at hj
        rw [if_neg (by decide)]
        exact hj
      | false =>
        rw [hk] at hj
        rw [if_pos (by decide), putP_at l p.f0 p.f1 hk]
        rw [show (!((⟨p.f0, p.f1⟩ : Pr).f0 == p.f0) || !((⟨p.f0, p.f1⟩ : Pr).f1 == p.f1)) = false from by simp]
        exact hj

end Go.Proofs.Ytckbndckfeicmaa.Pure
