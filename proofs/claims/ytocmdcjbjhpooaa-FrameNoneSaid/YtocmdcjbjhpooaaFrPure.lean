/- Rows of pairs, in plain words. -/
import Derived.Test.YtocmdcjbjhpooaaFrQ
import Derived.Test.YtocmdcjbjhpooaaNum
set_option linter.unusedVariables false
set_option linter.unusedSimpArgs false
namespace Go.Proofs.Ytocmdcjbjhpooaa.Pure
open Go Go.RowKit Go.Proofs.Ytocmdcjbjhpooaa.PFrameOrders Go.Proofs.YtocmdcjbjhpooaaW.PrintWords Go.Proofs.YtocmdcjbjhpooaaW.PrintLast Go.Proofs.YtocmdcjbjhpooaaW.PrintMore Go.Proofs.Ytocmdcjbjhpooaa.Num

/-! Rows of pairs. -/
abbrev Pr := S37
theorem w64p {n : Int} (h : -9223372036854775808 ≤ n ∧ n ≤ 9223372036854775807) : wrap64 n = n := by unfold wrap64; omega
theorem rdp (l : List Pr) (i : Nat) (hi : i < l.length) : rd_T37 l (i : Int) = l[i] := FindWalk.getD_eq l i hi
theorem ris_drop (l : List Pr) (i : Nat) (h : i + 1 < l.length) : ris (l.drop i) = (decide (l[i].f0 < l[i + 1].f0) && ris (l.drop (i + 1))) := by
  rw [List.drop_eq_getElem_cons (by omega : i < l.length), List.drop_eq_getElem_cons h]
  rfl
theorem ris_last (l : List Pr) (i : Nat) (h : l.length ≤ i + 1) : ris (l.drop i) = true := by
  have : (l.drop i).length ≤ 1 := by rw [List.length_drop]; omega
  match l.drop i, this with
  | [], _ => rfl
  | [_], _ => rfl
theorem rises_loop (l : List Pr) (hl : l.length ≤ 1000000) (d : Nat) : ∀ (k i : Nat), i + d = l.length ∨ (d = 0 ∧ l.length ≤ i) → i < 2000000 → d < k → pairs_Rises.l0 k l ((i : Int) + 1) = some (ris (l.drop i)) := by
  induction d with
  | zero =>
    intro k i hi hb hk
    obtain ⟨k, rfl⟩ : ∃ m, k = m + 1 := ⟨k - 1, by omega⟩
    rw [pairs_Rises.l0, if_neg (by omega), ris_last l i (by omega)]
  | succ d ih =>
    intro k i hi hb hk
    obtain ⟨k, rfl⟩ : ∃ m, k = m + 1 := ⟨k - 1, by omega⟩
    by_cases h : i + 1 < l.length
    · rw [pairs_Rises.l0, if_pos (by omega), w64p (by omega), show (i : Int) + 1 - 1 = (i : Int) from by omega, if_pos (by omega), if_pos (by omega), if_pos (by omega), rdp l i (by omega), show (i : Int) + 1 = ((i + 1 : Nat) : Int) from by omega, rdp l (i + 1) h, ris_drop l i h]
      by_cases hc : l[i].f0 < l[i + 1].f0
      · rw [if_neg (by omega), w64p (by omega), decide_eq_true hc, Bool.true_and]
        exact ih k (i + 1) (by omega) (by omega) (by omega)
      · rw [if_pos (by omega), decide_eq_false hc, Bool.false_and]
    · rw [pairs_Rises.l0, if_neg (by omega), ris_last l i (by omega)]
theorem rises_eq (l : List Pr) (hl : l.length ≤ 1000000) {k : Nat} (hk : l.length < k) : pairs_Rises.f k l = some (ris l) := rises_loop l hl l.length k 0 (by omega) (by omega) hk

/-! How many are less, and whether one is there: pair by pair. -/
theorem at_loop (l : List Pr) (hl : l.length ≤ 1000000) (a : Int) (d : Nat) : ∀ (k i n : Nat) (b : Bool), i + d = l.length → n ≤ i → d < k → deadwoodref08_At.l0 k l a (n : Int) b (i : Int) = some (((n + lessN (l.drop i) a : Nat) : Int), b || isKey (l.drop i) a) := by
  induction d with
  | zero =>
    intro k i n b h hn hk
    obtain ⟨k, rfl⟩ : ∃ m, k = m + 1 := ⟨k - 1, by omega⟩
    rw [deadwoodref08_At.l0, if_neg (by omega), List.drop_of_length_le (by omega)]
    simp [lessN, isKey]
  | succ d ih =>
    intro k i n b h hn hk
    obtain ⟨k, rfl⟩ : ∃ m, k = m + 1 := ⟨k - 1, by omega⟩
    have e2 : isKey (l.drop i) a = (decide (l[i].f0 = a) || isKey (l.drop (i + 1)) a) := by
      rw [List.drop_eq_getElem_cons (by omega : i < l.length)]; rfl
    have e3 : (l[i].f0 == a) = decide (l[i].f0 = a) := by rw [Bool.eq_iff_iff]; simp
    rw [deadwoodref08_At.l0, if_pos (by omega), if_pos (by omega), rdp l i (by omega), w64p (by omega : _ ∧ (i : Int) + 1 ≤ _), show (i : Int) + 1 = ((i + 1 : Nat) : Int) from by omega]
    by_cases hc : l[i].f0 < a
    · have e1 : lessN (l.drop i) a = lessN (l.drop (i + 1)) a + 1 := by
        unfold lessN
        rw [List.drop_eq_getElem_cons (by omega : i < l.length), List.countP_cons_of_pos (by simpa using hc)]
      rw [if_pos hc, w64p (by omega), show (n : Int) + 1 = ((n + 1 : Nat) : Int) from by omega, e1, e2, e3]
      cases b with
      | true => rw [if_pos rfl, ih k (i + 1) (n + 1) true (by omega) (by omega) (by omega), show n + 1 + lessN (l.drop (i + 1)) a = n + (lessN (l.drop (i + 1)) a + 1) from by omega]; rfl
      | false => rw [if_neg (by decide), ih k (i + 1) (n + 1) _ (by omega) (by omega) (by omega), show n + 1 + lessN (l.drop (i + 1)) a = n + (lessN (l.drop (i + 1)) a + 1) from by omega, Bool.false_or]
    · have e1 : lessN (l.drop i) a = lessN (l.drop (i + 1)) a := by
        unfold lessN
        rw [List.drop_eq_getElem_cons (by omega : i < l.length), List.countP_cons_of_neg (by simpa using hc)]
      rw [if_neg hc, e1, e2, e3]
      cases b with
      | true => rw [if_pos rfl, ih k (i + 1) n true (by omega) (by omega) (by omega)]; rfl
      | false => rw [if_neg (by decide), ih k (i + 1) n _ (by omega) (by omega) (by omega), Bool.false_or]
theorem at_eq (l : List Pr) (hl : l.length ≤ 1000000) (a : Int) {k : Nat} (hk : l.length < k) : deadwoodref08_At.f k l a = some ((lessN l a : Int), isKey l a) := by
  have h := at_loop l hl a l.length k 0 0 false (by omega) (by omega) hk
  rw [Nat.zero_add, List.drop_zero, Bool.false_or] at h
  exact h

/-- Rows are the same. -/
def sameP (a b : List Pr) : Bool := match a, b with
  | [], [] => true
  | x :: a, y :: b => decide (x.f0 = y.f0 ∧ x.f1 = y.f1) && sameP a b
  | _, _ => false
theorem sameP_iff : ∀ (a b : List Pr), sameP a b = true ↔ a = b
  | [], [] => by simp [sameP]
  | [], _ :: _ => by simp [sameP]
  | _ :: _, [] => by simp [sameP]
  | ⟨x0, x1⟩ :: a, ⟨y0, y1⟩ :: b => by
    unfold sameP
    rw [Bool.and_eq_true, decide_eq_true_eq, sameP_iff a b, List.cons.injEq]
    constructor
    · rintro ⟨⟨h1, h2⟩, h3⟩; exact ⟨by simp only at h1 h2; rw [h1, h2], h3⟩
    · rintro ⟨h1, h3⟩; injection h1 with h1 h2; exact ⟨⟨h1, h2⟩, h3⟩
theorem sameP_drop (a b : List Pr) (i : Nat) (ha : i < a.length) (hb : i < b.length) : sameP (a.drop i) (b.drop i) = (decide (a[i].f0 = b[i].f0 ∧ a[i].f1 = b[i].f1) && sameP (a.drop (i + 1)) (b.drop (i + 1))) := by
  rw [List.drop_eq_getElem_cons ha, List.drop_eq_getElem_cons hb]
  rfl
theorem neP_true {x y : Pr} (h : ¬ (x.f0 = y.f0 ∧ x.f1 = y.f1)) : (!(x.f0 == y.f0) || (!(x.f1 == y.f1))) = true := by
  cases h0 : (x.f0 == y.f0) with
  | false => rfl
  | true =>
    cases h1 : (x.f1 == y.f1) with
    | false => rfl
    | true => exact absurd ⟨eq_of_beq h0, eq_of_beq h1⟩ h
theorem neP_false {x y : Pr} (h : x.f0 = y.f0 ∧ x.f1 = y.f1) : ¬ (!(x.f0 == y.f0) || (!(x.f1 == y.f1))) = true := by
  rw [h.1, h.2]; simp
theorem sameP_len {a b : List Pr} (h : a.length ≠ b.length) : sameP a b = false := by
  cases hs : sameP a b with
  | false => rfl
  | true => exact absurd (congrArg List.length ((sameP_iff a b).1 hs)) h

/-! Pairs put in, keys taken out. -/
def putP (l : List Pr) (k x : Int) : List Pr := if isKey l k = true then l else l.take (lessN l k) ++ ⟨k, x⟩ :: l.drop (lessN l k)
theorem put_eq (l : List Pr) (hl : l.length ≤ 1000000) (hr : ris l = true) (a x : Int) (k : Nat) : pairs_Put.f k l a x = some (putP l a x, !isKey l a) := by
  unfold pairs_Put.f putP
  rw [if_pos ⟨hr, hl⟩]
  cases hk : isKey l a with
  | true => rw [if_pos rfl, if_pos rfl]; rfl
  | false => rw [if_neg (by decide), if_neg (by decide)]; rfl
theorem putP_len (l : List Pr) (k x : Int) : (putP l k x).length ≤ l.length + 1 := by
  unfold putP
  split
  · omega
  · have := lessN_le l k
    simp only [List.length_append, List.length_take, List.length_cons, List.length_drop]; omega

theorem rput_eq (l : List Pr) (hl : l.length ≤ 1000000) (a x : Int) {k : Nat} (hk : l.length < k) : deadwoodref08_Put.f k l a x = some (putP l a x, !isKey l a) := by
  have hle := lessN_le l a
  unfold deadwoodref08_Put.f putP
  rw [at_eq l hl a hk, Option.bind_some]
  dsimp only
  cases hk : isKey l a with
  | true => rw [if_pos rfl, if_pos rfl]; rfl
  | false =>
    rw [if_neg (by decide), if_neg (by decide), Option.bind_some, if_pos (by omega), if_pos (by omega), Option.bind_some, Int.toNat_natCast, if_pos (by simp; omega), Option.bind_some, if_pos (by simp; omega), Option.bind_some, Option.bind_some, if_pos (by simp; omega)]
    simp

theorem rsame_loop (a b : List Pr) (hl : a.length ≤ 1000000) (he : a.length = b.length) (d : Nat) : ∀ (k i : Nat), i + d = a.length → d < k → deadwoodref08_Same.l0 k a b (i : Int) = some (sameP (a.drop i) (b.drop i)) := by
  induction d with
  | zero =>
    intro k i hi hk
    obtain ⟨k, rfl⟩ : ∃ m, k = m + 1 := ⟨k - 1, by omega⟩
    rw [deadwoodref08_Same.l0, if_neg (by omega), List.drop_of_length_le (by omega), List.drop_of_length_le (by omega)]
    rfl
  | succ d ih =>
    intro k i hi hk
    obtain ⟨k, rfl⟩ : ∃ m, k = m + 1 := ⟨k - 1, by omega⟩
    rw [deadwoodref08_Same.l0, if_pos (by omega), if_pos (by omega), if_pos (by omega), rdp a i (by omega), rdp b i (by omega), sameP_drop a b i (by omega) (by omega)]
    by_cases hc : a[i].f0 = b[i].f0 ∧ a[i].f1 = b[i].f1
    · rw [if_neg (neP_false hc), w64p (by omega), decide_eq_true hc, Bool.true_and, show (i : Int) + 1 = ((i + 1 : Nat) : Int) from by omega]
      exact ih k (i + 1) (by omega) (by omega)
    · rw [if_pos (neP_true hc), decide_eq_false hc, Bool.false_and]
theorem rsame_eq (a b : List Pr) (hl : a.length ≤ 1000000) {k : Nat} (hk : a.length < k) : deadwoodref08_Same.f k a b = some (sameP a b) := by
  unfold deadwoodref08_Same.f
  by_cases h : a.length = b.length
  · have := rsame_loop a b hl h a.length k 0 (by omega) hk
    rw [if_pos (by omega)]
    rw [List.drop_zero, List.drop_zero] at this
    rw [show ((0 : Int)) = ((0 : Nat) : Int) from rfl, this]
  · rw [if_neg (by omega), sameP_len h]

/-! What is put is found. -/
theorem ris_iff : ∀ (l : List Pr), ris l = true ↔ l.Pairwise (fun a b => a.f0 < b.f0)
  | [] => by simp [ris]
  | a :: l => by
    rw [List.pairwise_cons, ← ris_iff l]
    constructor
    · intro h; exact ⟨(ris_head h).2, (ris_head h).1⟩
    · rintro ⟨h1, h2⟩
      cases l with
      | nil => rfl
      | cons b l =>
        show (decide (a.f0 < b.f0) && ris (b :: l)) = true
        rw [h2, decide_eq_true (h1 b (List.mem_cons_self ..))]
        rfl
theorem mem_take_less {l : List Pr} (h : ris l = true) (a : Int) {p : Pr} (hp : p ∈ l.take (lessN l a)) : p.f0 < a := by
  obtain ⟨i, hi, rfl⟩ := List.getElem_of_mem hp
  rw [List.length_take] at hi
  rw [List.getElem_take]
  exact (less_iff h a i (by omega)).2 (by omega)
theorem mem_drop_ge {l : List Pr} (h : ris l = true) (a : Int) (hk : isKey l a = false) {p : Pr} (hp : p ∈ l.drop (lessN l a)) : a < p.f0 := by
  have hne : p.f0 ≠ a := fun e => by
    have : isKey l a = true := by unfold isKey; rw [List.any_eq_true]; exact ⟨p, List.mem_of_mem_drop hp, decide_eq_true e⟩
    rw [hk] at this; cases this
  obtain ⟨i, hi, rfl⟩ := List.getElem_of_mem hp
  rw [List.length_drop] at hi
  rw [List.getElem_drop] at hne ⊢
  have := less_iff h a (lessN l a + i) (by omega)
  have h2 := fun hlt => this.1 hlt
  omega
theorem ris_putP {l : List Pr} (h : ris l = true) (a x : Int) : ris (putP l a x) = true := by
  unfold putP
  cases hk : isKey l a with
  | true => rw [if_pos rfl]; exact h
  | false =>
    rw [if_neg (by decide)]
    have hl := (ris_iff l).1 h
    rw [ris_iff, List.pairwise_append, List.pairwise_cons]
    refine ⟨List.Pairwise.sublist (List.take_sublist _ _) hl, ⟨fun p hp => mem_drop_ge h a hk hp, List.Pairwise.sublist (List.drop_sublist _ _) hl⟩, fun p hp q hq => ?_⟩
    have h1 := mem_take_less h a hp
    rcases List.mem_cons.1 hq with rfl | hq
    · exact h1
    · have := mem_drop_ge h a hk hq; omega
theorem isKey_putP (l : List Pr) (a x : Int) : isKey (putP l a x) a = true := by
  unfold putP
  cases hk : isKey l a with
  | true => rw [if_pos rfl]; exact hk
  | false =>
    rw [if_neg (by decide)]
    unfold isKey
    rw [List.any_append, List.any_cons, decide_eq_true rfl, Bool.true_or, Bool.or_true]
theorem lessN_putP (l : List Pr) (a x : Int) : lessN (putP l a x) a = lessN l a := by
  unfold putP
  cases hk : isKey l a with
  | true => rw [if_pos rfl]
  | false =>
    rw [if_neg (by decide)]
    have e : lessN l a = (l.take (lessN l a)).countP (fun p => decide (p.f0 < a)) + (l.drop (lessN l a)).countP (fun p => decide (p.f0 < a)) := by
      rw [← List.countP_append, List.take_append_drop]
      rfl
    show (l.take (lessN l a) ++ (⟨a, x⟩ : Pr) :: l.drop (lessN l a)).countP (fun p => decide (p.f0 < a)) = lessN l a
    rw [List.countP_append, List.countP_cons_of_neg (by simp), ← e]
theorem putP_at (l : List Pr) (a x : Int) (hk : isKey l a = false) : rd_T37 (putP l a x) (lessN l a : Int) = ⟨a, x⟩ := by
  have hle := lessN_le l a
  have htl : (l.take (lessN l a)).length = lessN l a := by rw [List.length_take]; omega
  have hlt : lessN l a < (putP l a x).length := by unfold putP; rw [hk, if_neg (by decide)]; simp; omega
  rw [rdp _ _ hlt]
  have e : (putP l a x)[lessN l a]? = some ⟨a, x⟩ := by
    unfold putP
    rw [hk, if_neg (by decide), List.getElem?_append_right (by omega), htl, Nat.sub_self]
    rfl
  rw [List.getElem?_eq_getElem hlt] at e
  exact Option.some.inj e

end Go.Proofs.Ytocmdcjbjhpooaa.Pure
