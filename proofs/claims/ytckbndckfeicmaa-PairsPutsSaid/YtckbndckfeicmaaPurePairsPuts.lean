/- Whether any list rises, and any row with a pair put in, or a key taken out, is the document's; of every list and pair, with no condition. -/
import Derived.Test.YtckbndckfeicmaaPPairsPutsx4
import Derived.Test.YtckbndckfeicmaaNum
set_option linter.unusedVariables false
set_option linter.unusedSimpArgs false
namespace Go.Proofs.Ytckbndckfeicmaa.Pure
open Go Go.RowKit Go.Proofs.Ytckbndckfeicmaa.PPairsPuts Go.Proofs.YtckbndckfeicmaaW.PrintWords Go.Proofs.YtckbndckfeicmaaW.PrintLast Go.Proofs.YtckbndckfeicmaaW.PrintMore Go.Proofs.Ytckbndckfeicmaa.Num

/-! Rows of pairs. -/
abbrev Pr := S61
theorem w64p {n : Int} (h : -9223372036854775808 ≤ n ∧ n ≤ 9223372036854775807) : wrap64 n = n := by unfold wrap64; omega
theorem rdp (l : List Pr) (i : Nat) (hi : i < l.length) : rd_T61 l (i : Int) = l[i] := FindWalk.getD_eq l i hi
theorem ris_drop (l : List Pr) (i : Nat) (h : i + 1 < l.length) : ris (l.drop i) = (decide (l[i].f0 < l[i + 1].f0) && ris (l.drop (i + 1))) := by
  rw [List.drop_eq_getElem_cons (by omega : i < l.length), List.drop_eq_getElem_cons h]
  rfl
theorem ris_last (l : List Pr) (i : Nat) (h : l.length ≤ i + 1) : ris (l.drop i) = true := by
  have : (l.drop i).length ≤ 1 := by rw [List.length_drop]; omega
  match l.drop i, this with
  | [], _ => rfl
  | [_], _ => rfl

theorem rises_loop (l : List Pr) (hl : l.length ≤ 1000000) (d : Nat) : ∀ (k i : Nat), i + d = l.length ∨ (d = 0 ∧ l.length ≤ i) → i < 2000000 → d < k → pairs_Rises.l0 k l ((i : Int) + 1) = some (ris (l.drop i)) := by
  induction d with
  | zero =>
    intro k i hi hb hk
    obtain ⟨k, rfl⟩ : ∃ m, k = m + 1 := ⟨k - 1, by omega⟩
    rw [pairs_Rises.l0, if_neg (by omega), ris_last l i (by omega)]
  | succ d ih =>
    intro k i hi hb hk
    obtain ⟨k, rfl⟩ : ∃ m, k = m + 1 := ⟨k - 1, by omega⟩
    by_cases h : i + 1 < l.length
    · rw [pairs_Rises.l0, if_pos (by omega), w64p (by omega), show (i : Int) + 1 - 1 = (i : Int) from by omega, if_pos (by omega), if_pos (by omega), if_pos (by omega), rdp l i (by omega), show (i : Int) + 1 = ((i + 1 : Nat) : Int) from by omega, rdp l (i + 1) h, ris_drop l i h]
      by_cases hc : l[i].f0 < l[i + 1].f0
      · rw [if_neg (by omega), w64p (by omega), decide_eq_true hc, Bool.true_and]
        exact ih k (i + 1) (by omega) (by omega) (by omega)
      · rw [if_pos (by omega), decide_eq_false hc, Bool.false_and]
    · rw [pairs_Rises.l0, if_neg (by omega), ris_last l i (by omega)]
theorem rises_eq (l : List Pr) (hl : l.length ≤ 1000000) {k : Nat} (hk : l.length < k) : pairs_Rises.f k l = some (ris l) := rises_loop l hl l.length k 0 (by omega) (by omega) hk

theorem rrises_loop (l : List Pr) (hl : l.length ≤ 1000000) (d : Nat) : ∀ (k i : Nat), i + d = l.length ∨ (d = 0 ∧ l.length ≤ i) → i < 2000000 → d < k → deadwoodref08_Rises.l0 k l ((i : Int) + 1) = some (ris (l.drop i)) := by
  induction d with
  | zero =>
    intro k i hi hb hk
    obtain ⟨k, rfl⟩ : ∃ m, k = m + 1 := ⟨k - 1, by omega⟩
    rw [deadwoodref08_Rises.l0, if_neg (by omega), ris_last l i (by omega)]
  | succ d ih =>
    intro k i hi hb hk
    obtain ⟨k, rfl⟩ : ∃ m, k = m + 1 := ⟨k - 1, by omega⟩
    by_cases h : i + 1 < l.length
    · rw [deadwoodref08_Rises.l0, if_pos (by omega), w64p (by omega), show (i : Int) + 1 - 1 = (i : Int) from by omega, if_pos (by omega), if_pos (by omega), if_pos (by omega), rdp l i (by omega), show (i : Int) + 1 = ((i + 1 : Nat) : Int) from by omega, rdp l (i + 1) h, ris_drop l i h]
      by_cases hc : l[i].f0 < l[i + 1].f0
      · rw [if_neg (by omega), w64p (by omega), decide_eq_true hc, Bool.true_and]
        exact ih k (i + 1) (by omega) (by omega) (by omega)
      · rw [if_pos (by omega), decide_eq_false hc, Bool.false_and]
    · rw [deadwoodref08_Rises.l0, if_neg (by omega), ris_last l i (by omega)]
theorem rrises_eq (l : List Pr) (hl : l.length ≤ 1000000) {k : Nat} (hk : l.length < k) : deadwoodref08_Rises.f k l = some (ris l) := rrises_loop l hl l.length k 0 (by omega) (by omega) hk

/-- Rows are the same. -/
def sameP (a b : List Pr) : Bool := match a, b with
  | [], [] => true
  | x :: a, y :: b => decide (x.f0 = y.f0 ∧ x.f1 = y.f1) && sameP a b
  | _, _ => false
theorem sameP_iff : ∀ (a b : List Pr), sameP a b = true ↔ a = b
  | [], [] => by simp [sameP]
  | [], _ :: _ => by simp [sameP]
  | _ :: _, [] => by simp [sameP]
  | ⟨x0, x1⟩ :: a, ⟨y0, y1⟩ :: b => by
    unfold sameP
    rw [Bool.and_eq_true, decide_eq_true_eq, sameP_iff a b, List.cons.injEq]
    constructor
    · rintro ⟨⟨h1, h2⟩, h3⟩; exact ⟨by simp only at h1 h2; rw [h1, h2], h3⟩
    · rintro ⟨h1, h3⟩; injection h1 with h1 h2; exact ⟨⟨h1, h2⟩, h3⟩
theorem sameP_drop (a b : List Pr) (i : Nat) (ha : i < a.length) (hb : i < b.length) : sameP (a.drop i) (b.drop i) = (decide (a[i].f0 = b[i].f0 ∧ a[i].f1 = b[i].f1) && sameP (a.drop (i + 1)) (b.drop (i + 1))) := by
  rw [List.drop_eq_getElem_cons ha, List.drop_eq_getElem_cons hb]
  rfl
theorem neP_true {x y : Pr} (h : ¬ (x.f0 = y.f0 ∧ x.f1 = y.f1)) : (!(x.f0 == y.f0) || (!(x.f1 == y.f1))) = true := by
  cases h0 : (x.f0 == y.f0) with
  | false => rfl
  | true =>
    cases h1 : (x.f1 == y.f1) with
    | false => rfl
    | true => exact absurd ⟨eq_of_beq h0, eq_of_beq h1⟩ h
theorem neP_false {x y : Pr} (h : x.f0 = y.f0 ∧ x.f1 = y.f1) : ¬ (!(x.f0 == y.f0) || (!(x.f1 == y.f1))) = true := by
  rw [h.1, h.2]; simp
theorem sameP_len {a b : List Pr} (h : a.length ≠ b.length) : sameP a b = false := by
  cases hs : sameP a b with
  | false => rfl
  | true => exact absurd (congrArg List.length ((sameP_iff a b).1 hs)) h

theorem same_loop (a b : List Pr) (hl : a.length ≤ 1000000) (he : a.length = b.length) (d : Nat) : ∀ (k i : Nat), i + d = a.length → d < k → api_Pair.l0 k a b (a.length : Int) (i : Int) = some (sameP (a.drop i) (b.drop i)) := by
  induction d with
  | zero =>
    intro k i hi hk
    obtain ⟨k, rfl⟩ : ∃ m, k = m + 1 := ⟨k - 1, by omega⟩
    rw [api_Pair.l0, if_neg (by omega), List.drop_of_length_le (by omega), List.drop_of_length_le (by omega)]
    rfl
  | succ d ih =>
    intro k i hi hk
    obtain ⟨k, rfl⟩ : ∃ m, k = m + 1 := ⟨k - 1, by omega⟩
    rw [api_Pair.l0, if_pos (by omega), if_pos (by omega), if_pos (by omega), if_pos (by omega), rdp a i (by omega), rdp b i (by omega), sameP_drop a b i (by omega) (by omega)]
    by_cases hc : a[i].f0 = b[i].f0 ∧ a[i].f1 = b[i].f1
    · rw [if_neg (neP_false hc), w64p (by omega), decide_eq_true hc, Bool.true_and, show (i : Int) + 1 = ((i + 1 : Nat) : Int) from by omega]
      exact ih k (i + 1) (by omega) (by omega)
    · rw [if_pos (neP_true hc), decide_eq_false hc, Bool.false_and]
theorem same_eq (a b : List Pr) (hl : a.length ≤ 1000000) {k : Nat} (hk : a.length < k) : pairs_Same.f k a b = some (sameP a b) := by
  unfold pairs_Same.f api_Pair.f
  by_cases h : a.length = b.length
  · have := same_loop a b hl h a.length k 0 (by omega) hk
    rw [if_pos (by omega)]
    rw [List.drop_zero, List.drop_zero] at this
    rw [show ((0 : Int)) = ((0 : Nat) : Int) from rfl, this, Option.bind_some]
  · rw [if_neg (by omega), Option.bind_some, sameP_len h]

theorem rsame_loop (a b : List Pr) (hl : a.length ≤ 1000000) (he : a.length = b.length) (d : Nat) : ∀ (k i : Nat), i + d = a.length → d < k → deadwoodref08_Same.l0 k a b (i : Int) = some (sameP (a.drop i) (b.drop i)) := by
  induction d with
  | zero =>
    intro k i hi hk
    obtain ⟨k, rfl⟩ : ∃ m, k = m + 1 := ⟨k - 1, by omega⟩
    rw [deadwoodref08_Same.l0, if_neg (by omega), List.drop_of_length_le (by omega), List.drop_of_length_le (by omega)]
    rfl
  | succ d ih =>
    intro k i hi hk
    obtain ⟨k, rfl⟩ : ∃ m, k = m + 1 := ⟨k - 1, by omega⟩
    rw [deadwoodref08_Same.l0, if_pos (by omega), if_pos (by omega), if_pos (by omega), rdp a i (by omega), rdp b i (by omega), sameP_drop a b i (by omega) (by omega)]
    by_cases hc : a[i].f0 = b[i].f0 ∧ a[i].f1 = b[i].f1
    · rw [if_neg (neP_false hc), w64p (by omega), decide_eq_true hc, Bool.true_and, show (i : Int) + 1 = ((i + 1 : Nat) : Int) from by omega]
      exact ih k (i + 1) (by omega) (by omega)
    · rw [if_pos (neP_true hc), decide_eq_false hc, Bool.false_and]
theorem rsame_eq (a b : List Pr) (hl : a.length ≤ 1000000) {k : Nat} (hk : a.length < k) : deadwoodref08_Same.f k a b = some (sameP a b) := by
  unfold deadwoodref08_Same.f
  by_cases h : a.length = b.length
  · have := rsame_loop a b hl h a.length k 0 (by omega) hk
    rw [if_pos (by omega)]
    rw [List.drop_zero, List.drop_zero] at this
    rw [show ((0 : Int)) = ((0 : Nat) : Int) from rfl, this]
  · rw [if_neg (by omega), sameP_len h]

/-! How many are less, and whether one is there: pair by pair. -/
theorem at_loop (l : List Pr) (hl : l.length ≤ 1000000) (a : Int) (d : Nat) : ∀ (k i n : Nat) (b : Bool), i + d = l.length → n ≤ i → d < k → deadwoodref08_At.l0 k l a (n : Int) b (i : Int) = some (((n + lessN (l.drop i) a : Nat) : Int), b || isKey (l.drop i) a) := by
  induction d with
  | zero =>
    intro k i n b h hn hk
    obtain ⟨k, rfl⟩ : ∃ m, k = m + 1 := ⟨k - 1, by omega⟩
    rw [deadwoodref08_At.l0, if_neg (by omega), List.drop_of_length_le (by omega)]
    simp [lessN, isKey]
  | succ d ih =>
    intro k i n b h hn hk
    obtain ⟨k, rfl⟩ : ∃ m, k = m + 1 := ⟨k - 1, by omega⟩
    have e2 : isKey (l.drop i) a = (decide (l[i].f0 = a) || isKey (l.drop (i + 1)) a) := by
      rw [List.drop_eq_getElem_cons (by omega : i < l.length)]; rfl
    have e3 : (l[i].f0 == a) = decide (l[i].f0 = a) := by rw [Bool.eq_iff_iff]; simp
    rw [deadwoodref08_At.l0, if_pos (by omega), if_pos (by omega), rdp l i (by omega), w64p (by omega : _ ∧ (i : Int) + 1 ≤ _), show (i : Int) + 1 = ((i + 1 : Nat) : Int) from by omega]
    by_cases hc : l[i].f0 < a
    · have e1 : lessN (l.drop i) a = lessN (l.drop (i + 1)) a + 1 := by
        unfold lessN
        rw [List.drop_eq_getElem_cons (by omega : i < l.length), List.countP_cons_of_pos (by simpa using hc)]
      rw [if_pos hc, w64p (by omega), show (n : Int) + 1 = ((n + 1 : Nat) : Int) from by omega, e1, e2, e3]
      cases b with
      | true => rw [if_pos rfl, ih k (i + 1) (n + 1) true (by omega) (by omega) (by omega), show n + 1 + lessN (l.drop (i + 1)) a = n + (lessN (l.drop (i + 1)) a + 1) from by omega]; rfl
      | false => rw [if_neg (by decide), ih k (i + 1) (n + 1) _ (by omega) (by omega) (by omega), show n + 1 + lessN (l.drop (i + 1)) a = n + (lessN (l.drop (i + 1)) a + 1) from by omega, Bool.false_or]
    · have e1 : lessN (l.drop i) a = lessN (l.drop (i + 1)) a := by
        unfold lessN
        rw [List.drop_eq_getElem_cons (by omega : i < l.length), List.countP_cons_of_neg (by simpa using hc)]
      rw [if_neg hc, e1, e2, e3]
      cases b with
      | true => rw [if_pos rfl, ih k (i + 1) n true (by omega) (by omega) (by omega)]; rfl
      | false => rw [if_neg (by decide), ih k (i + 1) n _ (by omega) (by omega) (by omega), Bool.false_or]
theorem at_eq (l : List Pr) (hl : l.length ≤ 1000000) (a : Int) {k : Nat} (hk : l.length < k) : deadwoodref08_At.f k l a = some ((lessN l a : Int), isKey l a) := by
  have h := at_loop l hl a l.length k 0 0 false (by omega) (by omega) hk
  rw [Nat.zero_add, List.drop_zero, Bool.false_or] at h
  exact h

/-! Floors. -/
def leN (l : List Pr) (a : Int) : Nat := lessN l a + (if isKey l a = true then 1 else 0)
theorem le_iff {l : List Pr} (h : ris l = true) (a : Int) : ∀ j (hj : j < l.length), (l[j].f0 ≤ a ↔ j < leN l a) := by
  intro j hj
  have h1 := less_iff h a j hj
  unfold leN
  by_cases hk : isKey l a = true
  · obtain ⟨hn, he⟩ := (isKey_iff h a).1 hk
    rw [if_pos hk]
    rcases Nat.lt_trichotomy j (lessN l a) with hl | hl | hl
    · have := h1.2 hl; omega
    · subst hl; omega
    · have := ris_pair h (lessN l a) j hj hl; omega
  · rw [if_neg hk]
    have hne : l[j].f0 ≠ a := fun e => hk (by unfold isKey; rw [List.any_eq_true]; exact ⟨_, List.getElem_mem hj, decide_eq_true e⟩)
    omega
theorem leN_le {l : List Pr} (h : ris l = true) (a : Int) : leN l a ≤ l.length := by
  unfold leN
  by_cases hk : isKey l a = true
  · obtain ⟨hn, _⟩ := (isKey_iff h a).1 hk
    rw [if_pos hk]; omega
  · rw [if_neg hk]; have := lessN_le l a; omega
def floorP (l : List Pr) (a : Int) : Int × Int × Bool := if 0 < leN l a then ((rd_T61 l ((leN l a - 1 : Nat) : Int)).f0, (rd_T61 l ((leN l a - 1 : Nat) : Int)).f1, true) else (0, 0, false)
theorem floor_eq (l : List Pr) (hl : l.length ≤ 1000000) (hr : ris l = true) (a : Int) (k : Nat) : pairs_Floor.f k l a = some (floorP l a) := by
  have hle := lessN_le l a
  have hm := leN_le hr a
  unfold pairs_Floor.f pairs_Find.f
  rw [if_pos ⟨hr, hl⟩, Option.bind_some]
  dsimp only
  unfold floorP
  unfold leN at hm ⊢
  by_cases hk : isKey l a = true
  · rw [if_pos hk] at hm ⊢
    rw [if_pos hk, if_neg (by omega), if_pos (by omega), if_pos (by omega), if_pos (by omega), Nat.add_sub_cancel]
  · rw [if_neg hk] at hm ⊢
    rw [if_neg hk, w64p (by omega)]
    by_cases h0 : lessN l a = 0
    · rw [if_pos (by omega), if_neg (by omega)]
    · rw [if_neg (by omega), if_pos (by omega), if_pos (by omega), if_pos (by omega), show (lessN l a : Int) - 1 = ((lessN l a + 0 - 1 : Nat) : Int) from by omega]

/-! Pairs put in, keys taken out. -/
def putP (l : List Pr) (k x : Int) : List Pr := if isKey l k = true then l else l.take (lessN l k) ++ ⟨k, x⟩ :: l.drop (lessN l k)
def dropP (l : List Pr) (k : Int) : List Pr := if isKey l k = true then l.take (lessN l k) ++ l.drop (lessN l k + 1) else l
theorem put_eq (l : List Pr) (hl : l.length ≤ 1000000) (hr : ris l = true) (a x : Int) (k : Nat) : pairs_Put.f k l a x = some (putP l a x, !isKey l a) := by
  unfold pairs_Put.f putP
  rw [if_pos ⟨hr, hl⟩]
  cases hk : isKey l a with
  | true => rw [if_pos rfl, if_pos rfl]; rfl
  | false => rw [if_neg (by decide), if_neg (by decide)]; rfl
theorem drop_eq (l : List Pr) (hl : l.length ≤ 1000000) (hr : ris l = true) (a : Int) (k : Nat) : pairs_Drop.f k l a = some (dropP l a, isKey l a) := by
  unfold pairs_Drop.f dropP
  rw [if_pos ⟨hr, hl⟩]
  cases hk : isKey l a with
  | true => rw [if_pos rfl, if_pos rfl]
  | false => rw [if_neg (by decide), if_neg (by decide)]
theorem putP_len (l : List Pr) (k x : Int) : (putP l k x).length ≤ l.length + 1 := by
  unfold putP
  split
  · omega
  · have := lessN_le l k
    simp only [List.length_append, List.length_take, List.length_cons, List.length_drop]; omega
theorem dropP_len (l : List Pr) (k : Int) : (dropP l k).length ≤ l.length := by
  unfold dropP
  split
  · have := lessN_le l k
    simp only [List.length_append, List.length_take, List.length_drop]; omega
  · omega

theorem rput_eq (l : List Pr) (hl : l.length ≤ 1000000) (a x : Int) {k : Nat} (hk : l.length < k) : deadwoodref08_Put.f k l a x = some (putP l a x, !isKey l a) := by
  have hle := lessN_le l a
  unfold deadwoodref08_Put.f putP
  rw [at_eq l hl a hk, Option.bind_some]
  dsimp only
  cases hk : isKey l a with
  | true => rw [if_pos rfl, if_pos rfl]; rfl
  | false =>
    rw [if_neg (by decide), if_neg (by decide), Option.bind_some, if_pos (by omega), if_pos (by omega), Option.bind_some, Int.toNat_natCast, if_pos (by simp; omega), Option.bind_some, if_pos (by simp; omega), Option.bind_some, Option.bind_some, if_pos (by simp; omega)]
    simp
theorem rdrop_eq (l : List Pr) (hl : l.length ≤ 1000000) (a : Int) (hr : ris l = true) {k : Nat} (hk : l.length < k) : deadwoodref08_Drop.f k l a = some (dropP l a, isKey l a) := by
  have hle := lessN_le l a
  unfold deadwoodref08_Drop.f dropP
  rw [at_eq l hl a hk, Option.bind_some]
  dsimp only
  cases hk : isKey l a with
  | true =>
    obtain ⟨hn, _⟩ := (isKey_iff hr a).1 hk
    rw [if_pos rfl, if_pos rfl, Option.bind_some, if_pos (by omega), if_pos (by omega), Option.bind_some, Int.toNat_natCast, if_pos (by simp; omega), Option.bind_some, w64p (by omega), if_pos (by omega), if_pos (by omega), Option.bind_some, show ((lessN l a : Int) + 1).toNat = lessN l a + 1 from by omega, if_pos (by simp; omega)]
    simp
  | false => rw [if_neg (by decide), if_neg (by decide)]

theorem lives_eq (k : Nat) : deadwoodlaw08_lives.f k = some true := by
  have h1 : pairs_Put.f k ([⟨3, 2⟩, ⟨9, 1⟩] : List Pr) 5 1 = some ([⟨3, 2⟩, ⟨5, 1⟩, ⟨9, 1⟩], true) := by
    unfold pairs_Put.f
    rw [if_pos (by decide), if_neg (by decide)]
    rfl
  unfold deadwoodlaw08_lives.f
  rw [h1, Option.bind_some, floor_eq _ (by decide) (by decide), Option.bind_some]
  rfl

theorem PairsPuts : deadwoodlaw08_PairsPuts.Pure := by
  intro l p hl hp
  refine ⟨2000, ?_⟩
  unfold deadwoodlaw08_PairsPuts.f
  by_cases hn : (l.length : Int) > 300
  · rw [if_pos hn, lives_eq, Option.bind_some]
  · have hlen : l.length ≤ 1000000 := by omega
    rw [if_neg hn, rises_eq l hlen (by omega), Option.bind_some, rrises_eq l hlen (by omega), Option.bind_some, if_neg (by cases ris l <;> decide), same_eq l l hlen (by omega), Option.bind_some, (sameP_iff l l).2 rfl, deadwoodlaw08_PairsPuts.j0, if_neg (by decide), rrises_eq l hlen (by omega), Option.bind_some]
    cases hr : ris l with
    | false => rw [if_neg (by decide), lives_eq, Option.bind_some]
    | true =>
      have h1 := putP_len l p.f0 p.f1
      have h2 := dropP_len l p.f0
      rw [if_pos rfl, Option.bind_some, if_pos (by simp; omega), Option.bind_some, List.nil_append, put_eq l hlen hr, Option.bind_some, rput_eq l hlen _ _ (by omega), Option.bind_some, drop_eq l hlen hr, Option.bind_some, rdrop_eq l hlen _ hr (by omega), Option.bind_some]
      dsimp only
      rw [if_pos (by simp), if_pos (by simp), rsame_eq _ _ (by omega) (by omega), Option.bind_some, (sameP_iff _ _).2 rfl, if_pos rfl, rsame_eq _ _ (by omega) (by omega), Option.bind_some, (sameP_iff _ _).2 rfl, if_pos rfl, rsame_eq _ _ (by omega) (by omega), Option.bind_some, (sameP_iff _ _).2 rfl, if_pos rfl, same_eq _ _ (by omega) (by omega), Option.bind_some, rsame_eq _ _ (by omega) (by omega), Option.bind_some, if_pos (by simp), lives_eq, Option.bind_some]

end Go.Proofs.Ytckbndckfeicmaa.Pure
