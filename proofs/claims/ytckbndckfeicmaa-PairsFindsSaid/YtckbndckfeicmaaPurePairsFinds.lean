/- Where any key stands, or would, in any row, and its floor and ceiling, is the document's; of every list and every key, with no condition. -/
import Derived.Test.YtckbndckfeicmaaPPairsFindsx3
import Derived.Test.YtckbndckfeicmaaNum
set_option linter.unusedVariables false
set_option linter.unusedSimpArgs false
namespace Go.Proofs.Ytckbndckfeicmaa.Pure
open Go Go.RowKit Go.Proofs.Ytckbndckfeicmaa.PPairsFinds Go.Proofs.YtckbndckfeicmaaW.PrintWords Go.Proofs.YtckbndckfeicmaaW.PrintLast Go.Proofs.YtckbndckfeicmaaW.PrintMore Go.Proofs.Ytckbndckfeicmaa.Num

/-! Rows of pairs. -/
abbrev Pr := S61
theorem w64p {n : Int} (h : -9223372036854775808 ≤ n ∧ n ≤ 9223372036854775807) : wrap64 n = n := by unfold wrap64; omega
theorem rdp (l : List Pr) (i : Nat) (hi : i < l.length) : rd_T61 l (i : Int) = l[i] := FindWalk.getD_eq l i hi
theorem ris_drop (l : List Pr) (i : Nat) (h : i + 1 < l.length) : ris (l.drop i) = (decide (l[i].f0 < l[i + 1].f0) && ris (l.drop (i + 1))) := by
  rw [List.drop_eq_getElem_cons (by omega : i < l.length), List.drop_eq_getElem_cons h]
  rfl
theorem ris_last (l : List Pr) (i : Nat) (h : l.length ≤ i + 1) : ris (l.drop i) = true := by
  have : (l.drop i).length ≤ 1 := by rw [List.length_drop]; omega
  match l.drop i, this with
  | [], _ => rfl
  | [_], _ => rfl

theorem rrises_loop (l : List Pr) (hl : l.length ≤ 1000000) (d : Nat) : ∀ (k i : Nat), i + d = l.length ∨ (d = 0 ∧ l.length ≤ i) → i < 2000000 → d < k → deadwoodref08_Rises.l0 k l ((i : Int) + 1) = some (ris (l.drop i)) := by
  induction d with
  | zero =>
    intro k i hi hb hk
    obtain ⟨k, rfl⟩ : ∃ m, k = m + 1 := ⟨k - 1, by omega⟩
    rw [deadwoodref08_Rises.l0, if_neg (by omega), ris_last l i (by omega)]
  | succ d ih =>
    intro k i hi hb hk
    obtain ⟨k, rfl⟩ : ∃ m, k = m + 1 := ⟨k - 1, by omega⟩
    by_cases h : i + 1 < l.length
    · rw [deadwoodref08_Rises.l0, if_pos (by omega), w64p (by omega), show (i : Int) + 1 - 1 = (i : Int) from by omega, if_pos (by omega), if_pos (by omega), if_pos (by omega), rdp l i (by omega), show (i : Int) + 1 = ((i + 1 : Nat) : Int) from by omega, rdp l (i + 1) h, ris_drop l i h]
      by_cases hc : l[i].f0 < l[i + 1].f0
      · rw [if_neg (by omega), w64p (by omega), decide_eq_true hc, Bool.true_and]
        exact ih k (i + 1) (by omega) (by omega) (by omega)
      · rw [if_pos (by omega), decide_eq_false hc, Bool.false_and]
    · rw [deadwoodref08_Rises.l0, if_neg (by omega), ris_last l i (by omega)]
theorem rrises_eq (l : List Pr) (hl : l.length ≤ 1000000) {k : Nat} (hk : l.length < k) : deadwoodref08_Rises.f k l = some (ris l) := rrises_loop l hl l.length k 0 (by omega) (by omega) hk

/-! How many are less, and whether one is there: pair by pair. -/
theorem at_loop (l : List Pr) (hl : l.length ≤ 1000000) (a : Int) (d : Nat) : ∀ (k i n : Nat) (b : Bool), i + d = l.length → n ≤ i → d < k → deadwoodref08_At.l0 k l a (n : Int) b (i : Int) = some (((n + lessN (l.drop i) a : Nat) : Int), b || isKey (l.drop i) a) := by
  induction d with
  | zero =>
    intro k i n b h hn hk
    obtain ⟨k, rfl⟩ : ∃ m, k = m + 1 := ⟨k - 1, by omega⟩
    rw [deadwoodref08_At.l0, if_neg (by omega), List.drop_of_length_le (by omega)]
    simp [lessN, isKey]
  | succ d ih =>
    intro k i n b h hn hk
    obtain ⟨k, rfl⟩ : ∃ m, k = m + 1 := ⟨k - 1, by omega⟩
    have e2 : isKey (l.drop i) a = (decide (l[i].f0 = a) || isKey (l.drop (i + 1)) a) := by
      rw [List.drop_eq_getElem_cons (by omega : i < l.length)]; rfl
    have e3 : (l[i].f0 == a) = decide (l[i].f0 = a) := by rw [Bool.eq_iff_iff]; simp
    rw [deadwoodref08_At.l0, if_pos (by omega), if_pos (by omega), rdp l i (by omega), w64p (by omega : _ ∧ (i : Int) + 1 ≤ _), show (i : Int) + 1 = ((i + 1 : Nat) : Int) from by omega]
    by_cases hc : l[i].f0 < a
    · have e1 : lessN (l.drop i) a = lessN (l.drop (i + 1)) a + 1 := by
        unfold lessN
        rw [List.drop_eq_getElem_cons (by omega : i < l.length), List.countP_cons_of_pos (by simpa using hc)]
      rw [if_pos hc, w64p (by omega), show (n : Int) + 1 = ((n + 1 : Nat) : Int) from by omega, e1, e2, e3]
      cases b with
      | true => rw [if_pos rfl, ih k (i + 1) (n + 1) true (by omega) (by omega) (by omega), show n + 1 + lessN (l.drop (i + 1)) a = n + (lessN (l.drop (i + 1)) a + 1) from by omega]; rfl
      | false => rw [if_neg (by decide), ih k (i + 1) (n + 1) _ (by omega) (by omega) (by omega), show n + 1 + lessN (l.drop (i + 1)) a = n + (lessN (l.drop (i + 1)) a + 1) from by omega, Bool.false_or]
    · have e1 : lessN (l.drop i) a = lessN (l.drop (i + 1)) a := by
        unfold lessN
        rw [List.drop_eq_getElem_cons (by omega : i < l.length), List.countP_cons_of_neg (by simpa using hc)]
      rw [if_neg hc, e1, e2, e3]
      cases b with
      | true => rw [if_pos rfl, ih k (i + 1) n true (by omega) (by omega) (by omega)]; rfl
      | false => rw [if_neg (by decide), ih k (i + 1) n _ (by omega) (by omega) (by omega), Bool.false_or]
theorem at_eq (l : List Pr) (hl : l.length ≤ 1000000) (a : Int) {k : Nat} (hk : l.length < k) : deadwoodref08_At.f k l a = some ((lessN l a : Int), isKey l a) := by
  have h := at_loop l hl a l.length k 0 0 false (by omega) (by omega) hk
  rw [Nat.zero_add, List.drop_zero, Bool.false_or] at h
  exact h

/-! Floors. -/
def leN (l : List Pr) (a : Int) : Nat := lessN l a + (if isKey l a = true then 1 else 0)
theorem le_iff {l : List Pr} (h : ris l = true) (a : Int) : ∀ j (hj : j < l.length), (l[j].f0 ≤ a ↔ j < leN l a) := by
  intro j hj
  have h1 := less_iff h a j hj
  unfold leN
  by_cases hk : isKey l a = true
  · obtain ⟨hn, he⟩ := (isKey_iff h a).1 hk
    rw [if_pos hk]
    rcases Nat.lt_trichotomy j (lessN l a) with hl | hl | hl
    · have := h1.2 hl; omega
    · subst hl; omega
    · have := ris_pair h (lessN l a) j hj hl; omega
  · rw [if_neg hk]
    have hne : l[j].f0 ≠ a := fun e => hk (by unfold isKey; rw [List.any_eq_true]; exact ⟨_, List.getElem_mem hj, decide_eq_true e⟩)
    omega
theorem leN_le {l : List Pr} (h : ris l = true) (a : Int) : leN l a ≤ l.length := by
  unfold leN
  by_cases hk : isKey l a = true
  · obtain ⟨hn, _⟩ := (isKey_iff h a).1 hk
    rw [if_pos hk]; omega
  · rw [if_neg hk]; have := lessN_le l a; omega
def floorP (l : List Pr) (a : Int) : Int × Int × Bool := if 0 < leN l a then ((rd_T61 l ((leN l a - 1 : Nat) : Int)).f0, (rd_T61 l ((leN l a - 1 : Nat) : Int)).f1, true) else (0, 0, false)
theorem floor_eq (l : List Pr) (hl : l.length ≤ 1000000) (hr : ris l = true) (a : Int) (k : Nat) : pairs_Floor.f k l a = some (floorP l a) := by
  have hle := lessN_le l a
  have hm := leN_le hr a
  unfold pairs_Floor.f pairs_Find.f
  rw [if_pos ⟨hr, hl⟩, Option.bind_some]
  dsimp only
  unfold floorP
  unfold leN at hm ⊢
  by_cases hk : isKey l a = true
  · rw [if_pos hk] at hm ⊢
    rw [if_pos hk, if_neg (by omega), if_pos (by omega), if_pos (by omega), if_pos (by omega), Nat.add_sub_cancel]
  · rw [if_neg hk] at hm ⊢
    rw [if_neg hk, w64p (by omega)]
    by_cases h0 : lessN l a = 0
    · rw [if_pos (by omega), if_neg (by omega)]
    · rw [if_neg (by omega), if_pos (by omega), if_pos (by omega), if_pos (by omega), show (lessN l a : Int) - 1 = ((lessN l a + 0 - 1 : Nat) : Int) from by omega]

theorem rfloor_loop (l : List Pr) (hl : l.length ≤ 1000000) (hr : ris l = true) (a : Int) (d : Nat) : ∀ (k i : Nat) (ok : Bool) (p q : Int), i + d = l.length → d < k → deadwoodref08_Floor.l0 k l a ok (i : Int) p q = some (if i < leN l a then ((rd_T61 l ((leN l a - 1 : Nat) : Int)).f0, (rd_T61 l ((leN l a - 1 : Nat) : Int)).f1, true) else (p, q, ok)) := by
  have hm := leN_le hr a
  induction d with
  | zero =>
    intro k i ok p q h hk
    obtain ⟨k, rfl⟩ : ∃ m, k = m + 1 := ⟨k - 1, by omega⟩
    rw [deadwoodref08_Floor.l0, if_neg (by omega), if_neg (by omega)]
  | succ d ih =>
    intro k i ok p q h hk
    obtain ⟨k, rfl⟩ : ∃ m, k = m + 1 := ⟨k - 1, by omega⟩
    have hi := le_iff hr a i (by omega)
    rw [deadwoodref08_Floor.l0, if_pos (by omega), if_pos (by omega), rdp l i (by omega), w64p (by omega), show (i : Int) + 1 = ((i + 1 : Nat) : Int) from by omega]
    by_cases hc : l[i].f0 ≤ a
    · rw [if_pos hc, ih k (i + 1) true _ _ (by omega) (by omega), if_pos (hi.1 hc)]
      by_cases h1 : i + 1 < leN l a
      · rw [if_pos h1]
      · rw [if_neg h1, show leN l a - 1 = i from by have := hi.1 hc; omega, rdp l i (by omega)]
    · rw [if_neg hc, ih k (i + 1) ok p q (by omega) (by omega), if_neg (by have := fun h => hc (hi.2 h); omega), if_neg (fun h => hc (hi.2 h))]
theorem rfloor_eq (l : List Pr) (hl : l.length ≤ 1000000) (hr : ris l = true) (a : Int) {k : Nat} (hk : l.length < k) : deadwoodref08_Floor.f k l a = some (floorP l a) := rfloor_loop l hl hr a l.length k 0 false 0 0 (by omega) hk

/-! Ceilings. -/
def ceilP (l : List Pr) (a : Int) : Int × Int × Bool := if lessN l a < l.length then ((rd_T61 l (lessN l a : Int)).f0, (rd_T61 l (lessN l a : Int)).f1, true) else (0, 0, false)
theorem ceil_eq (l : List Pr) (hl : l.length ≤ 1000000) (hr : ris l = true) (a : Int) (k : Nat) : pairs_Ceiling.f k l a = some (ceilP l a) := by
  unfold pairs_Ceiling.f pairs_Find.f ceilP
  rw [if_pos ⟨hr, hl⟩, Option.bind_some]
  dsimp only
  by_cases h : lessN l a < l.length
  · rw [if_neg (by omega), if_pos (by omega), if_pos (by omega), if_pos h]
  · rw [if_pos (by omega), if_neg h]

theorem rceil_loop (l : List Pr) (hl : l.length ≤ 1000000) (hr : ris l = true) (a : Int) (d : Nat) : ∀ (k i : Nat), i + d = l.length → i ≤ lessN l a → d < k → deadwoodref08_Ceiling.l0 k l a (i : Int) = some (ceilP l a) := by
  have hm := lessN_le l a
  unfold ceilP
  induction d with
  | zero =>
    intro k i h hn hk
    obtain ⟨k, rfl⟩ : ∃ m, k = m + 1 := ⟨k - 1, by omega⟩
    rw [deadwoodref08_Ceiling.l0, if_neg (by omega), if_neg (by omega)]
  | succ d ih =>
    intro k i h hn hk
    obtain ⟨k, rfl⟩ : ∃ m, k = m + 1 := ⟨k - 1, by omega⟩
    have hi := less_iff hr a i (by omega)
    rw [deadwoodref08_Ceiling.l0, if_pos (by omega), if_pos (by omega), rdp l i (by omega), w64p (by omega), show (i : Int) + 1 = ((i + 1 : Nat) : Int) from by omega]
    by_cases hc : l[i].f0 < a
    · rw [if_neg (by omega), ih k (i + 1) (by omega) (by have := hi.1 hc; omega) (by omega)]
    · have e : lessN l a = i := by have := fun h => hc (hi.2 h); omega
      rw [if_pos (by omega), e, if_pos (by omega), rdp l i (by omega)]
theorem rceil_eq (l : List Pr) (hl : l.length ≤ 1000000) (hr : ris l = true) (a : Int) {k : Nat} (hk : l.length < k) : deadwoodref08_Ceiling.f k l a = some (ceilP l a) := rceil_loop l hl hr a l.length k 0 (by omega) (by omega) hk

theorem lives_eq (k : Nat) : deadwoodlaw08_lives.f k = some true := by
  have h1 : pairs_Put.f k ([⟨3, 2⟩, ⟨9, 1⟩] : List Pr) 5 1 = some ([⟨3, 2⟩, ⟨5, 1⟩, ⟨9, 1⟩], true) := by
    unfold pairs_Put.f
    rw [if_pos (by decide), if_neg (by decide)]
    rfl
  unfold deadwoodlaw08_lives.f
  rw [h1, Option.bind_some, floor_eq _ (by decide) (by decide), Option.bind_some]
  rfl

theorem PairsFinds : deadwoodlaw08_PairsFinds.Pure := by
  intro l a hl ha
  refine ⟨2000, ?_⟩
  have fin : deadwoodlaw08_PairsFinds.j0 2000 l a true = some true := by
    rw [deadwoodlaw08_PairsFinds.j0, if_pos rfl, lives_eq, Option.bind_some]
  unfold deadwoodlaw08_PairsFinds.f
  by_cases hn : (l.length : Int) > 300
  · rw [if_pos hn]; exact fin
  · have hlen : l.length ≤ 1000000 := by omega
    rw [if_neg hn, rrises_eq l hlen (by omega), Option.bind_some]
    cases hr : ris l with
    | false => exact fin
    | true =>
      rw [deadwoodlaw08_PairsFinds.j0, if_neg (by decide)]
      have hf : pairs_Find.f 1999 l a = some ((lessN l a : Int), isKey l a) := by unfold pairs_Find.f; rw [if_pos ⟨hr, hlen⟩]
      rw [hf, Option.bind_some, at_eq l hlen a (by omega), Option.bind_some, floor_eq l hlen hr, Option.bind_some, rfloor_eq l hlen hr a (by omega), Option.bind_some, ceil_eq l hlen hr, Option.bind_some, rceil_eq l hlen hr a (by omega), Option.bind_some]
      simp [lives_eq]

end Go.Proofs.Ytckbndckfeicmaa.Pure
