import Derived.Test.YtkkneaefjahihaaZModEv
import Derived.Test.YtkkneaefjahihaaZNum
set_option linter.unusedVariables false
set_option linter.unusedSimpArgs false
namespace Go.Proofs.Ytkkneaefjahihaa.Pure
open Go Go.RowKit Go.Proofs.Ytkkneaefjahihaa.PModelTold Go.Proofs.YtkkneaefjahihaaW.PrintWords Go.Proofs.YtkkneaefjahihaaW.PrintLast Go.Proofs.YtkkneaefjahihaaW.PrintMore Go.Proofs.Ytkkneaefjahihaa.Num

/-! Rows of pairs. -/
abbrev Pr := S49
theorem w64p {n : Int} (h : -9223372036854775808 ≤ n ∧ n ≤ 9223372036854775807) : wrap64 n = n := by unfold wrap64; omega
theorem rdp (l : List Pr) (i : Nat) (hi : i < l.length) : rd_T49 l (i : Int) = l[i] := FindWalk.getD_eq l i hi
/-! How many are less, and whether one is there: pair by pair. -/
theorem at_loop (l : List Pr) (hl : l.length ≤ 1000000) (a : Int) (d : Nat) : ∀ (k i n : Nat) (b : Bool), i + d = l.length → n ≤ i → d < k → deadwoodref08_At.l0 k l a (n : Int) b (i : Int) = some (((n + lessN (l.drop i) a : Nat) : Int), b || isKey (l.drop i) a) := by
  induction d with
  | zero =>
    intro k i n b h hn hk
    obtain ⟨k, rfl⟩ : ∃ m, k = m + 1 := ⟨k - 1, by omega⟩
    rw [deadwoodref08_At.l0, if_neg (by omega), List.drop_of_length_le (by omega)]
    simp [lessN, isKey]
  | succ d ih =>
    intro k i n b h hn hk
    obtain ⟨k, rfl⟩ : ∃ m, k = m + 1 := ⟨k - 1, by omega⟩
    have e2 : isKey (l.drop i) a = (decide (l[i].f0 = a) || isKey (l.drop (i + 1)) a) := by
      rw [List.drop_eq_getElem_cons (by omega : i < l.length)]; rfl
    have e3 : (l[i].f0 == a) = decide (l[i].f0 = a) := by rw [Bool.eq_iff_iff]; simp
    rw [deadwoodref08_At.l0, if_pos (by omega), if_pos (by omega), rdp l i (by omega), w64p (by omega : _ ∧ (i : Int) + 1 ≤ _), show (i : Int) + 1 = ((i + 1 : Nat) : Int) from by omega]
    by_cases hc : l[i].f0 < a
    · have e1 : lessN (l.drop i) a = lessN (l.drop (i + 1)) a + 1 := by
        unfold lessN
        rw [List.drop_eq_getElem_cons (by omega : i < l.length), List.countP_cons_of_pos (by simpa using hc)]
      rw [if_pos hc, w64p (by omega), show (n : Int) + 1 = ((n + 1 : Nat) : Int) from by omega, e1, e2, e3]
      cases b with
      | true => rw [if_pos rfl, ih k (i + 1) (n + 1) true (by omega) (by omega) (by omega), show n + 1 + lessN (l.drop (i + 1)) a = n + (lessN (l.drop (i + 1)) a + 1) from by omega]; rfl
      | false => rw [if_neg (by decide), ih k (i + 1) (n + 1) _ (by omega) (by omega) (by omega), show n + 1 + lessN (l.drop (i + 1)) a = n + (lessN (l.drop (i + 1)) a + 1) from by omega, Bool.false_or]
    · have e1 : lessN (l.drop i) a = lessN (l.drop (i + 1)) a := by
        unfold lessN
        rw [List.drop_eq_getElem_cons (by omega : i < l.length), List.countP_cons_of_neg (by simpa using hc)]
      rw [if_neg hc, e1, e2, e3]
      cases b with
      | true => rw [if_pos rfl, ih k (i + 1) n true (by omega) (by omega) (by omega)]; rfl
      | false => rw [if_neg (by decide), ih k (i + 1) n _ (by omega) (by omega) (by omega), Bool.false_or]
theorem at_eq (l : List Pr) (hl : l.length ≤ 1000000) (a : Int) {k : Nat} (hk : l.length < k) : deadwoodref08_At.f k l a = some ((lessN l a : Int), isKey l a) := by
  have h := at_loop l hl a l.length k 0 0 false (by omega) (by omega) hk
  rw [Nat.zero_add, List.drop_zero, Bool.false_or] at h
  exact h

/-- Rows are the same. -/
def sameP (a b : List Pr) : Bool := match a, b with
  | [], [] => true
  | x :: a, y :: b => decide (x.f0 = y.f0 ∧ x.f1 = y.f1) && sameP a b
  | _, _ => false
theorem sameP_iff : ∀ (a b : List Pr), sameP a b = true ↔ a = b
  | [], [] => by simp [sameP]
  | [], _ :: _ => by simp [sameP]
  | _ :: _, [] => by simp [sameP]
  | ⟨x0, x1⟩ :: a, ⟨y0, y1⟩ :: b => by
    unfold sameP
    rw [Bool.and_eq_true, decide_eq_true_eq, sameP_iff a b, List.cons.injEq]
    constructor
    · rintro ⟨⟨h1, h2⟩, h3⟩; exact ⟨by simp only at h1 h2; rw [h1, h2], h3⟩
    · rintro ⟨h1, h3⟩; injection h1 with h1 h2; exact ⟨⟨h1, h2⟩, h3⟩
theorem sameP_drop (a b : List Pr) (i : Nat) (ha : i < a.length) (hb : i < b.length) : sameP (a.drop i) (b.drop i) = (decide (a[i].f0 = b[i].f0 ∧ a[i].f1 = b[i].f1) && sameP (a.drop (i + 1)) (b.drop (i + 1))) := by
  rw [List.drop_eq_getElem_cons ha, List.drop_eq_getElem_cons hb]
  rfl
theorem neP_true {x y : Pr} (h : ¬ (x.f0 = y.f0 ∧ x.f1 = y.f1)) : (!(x.f0 == y.f0) || (!(x.f1 == y.f1))) = true := by
  cases h0 : (x.f0 == y.f0) with
  | false => rfl
  | true =>
    cases h1 : (x.f1 == y.f1) with
    | false => rfl
    | true => exact absurd ⟨eq_of_beq h0, eq_of_beq h1⟩ h
theorem neP_false {x y : Pr} (h : x.f0 = y.f0 ∧ x.f1 = y.f1) : ¬ (!(x.f0 == y.f0) || (!(x.f1 == y.f1))) = true := by
  rw [h.1, h.2]; simp
theorem same_loop (a b : List Pr) (hl : a.length ≤ 1000000) (he : a.length = b.length) (d : Nat) : ∀ (k i : Nat), i + d = a.length → d < k → api_Pair.l0 k a b (a.length : Int) (i : Int) = some (sameP (a.drop i) (b.drop i)) := by
  induction d with
  | zero =>
    intro k i hi hk
    obtain ⟨k, rfl⟩ : ∃ m, k = m + 1 := ⟨k - 1, by omega⟩
    rw [api_Pair.l0, if_neg (by omega), List.drop_of_length_le (by omega), List.drop_of_length_le (by omega)]
    rfl
  | succ d ih =>
    intro k i hi hk
    obtain ⟨k, rfl⟩ : ∃ m, k = m + 1 := ⟨k - 1, by omega⟩
    rw [api_Pair.l0, if_pos (by omega), if_pos (by omega), if_pos (by omega), if_pos (by omega), rdp a i (by omega), rdp b i (by omega), sameP_drop a b i (by omega) (by omega)]
    by_cases hc : a[i].f0 = b[i].f0 ∧ a[i].f1 = b[i].f1
    · rw [if_neg (neP_false hc), w64p (by omega), decide_eq_true hc, Bool.true_and, show (i : Int) + 1 = ((i + 1 : Nat) : Int) from by omega]
      exact ih k (i + 1) (by omega) (by omega)
    · rw [if_pos (neP_true hc), decide_eq_false hc, Bool.false_and]
theorem sameP_len {a b : List Pr} (h : a.length ≠ b.length) : sameP a b = false := by
  cases hs : sameP a b with
  | false => rfl
  | true => exact absurd (congrArg List.length ((sameP_iff a b).1 hs)) h
theorem same_eq (a b : List Pr) (hl : a.length ≤ 1000000) {k : Nat} (hk : a.length < k) : pairs_Same.f k a b = some (sameP a b) := by
  unfold pairs_Same.f api_Pair.f
  by_cases h : a.length = b.length
  · have := same_loop a b hl h a.length k 0 (by omega) hk
    rw [if_pos (by omega)]
    rw [List.drop_zero, List.drop_zero] at this
    rw [show ((0 : Int)) = ((0 : Nat) : Int) from rfl, this, Option.bind_some]
  · rw [if_neg (by omega), Option.bind_some, sameP_len h]

/-! Pairs put in, keys taken out. -/
def putP (l : List Pr) (k x : Int) : List Pr := if isKey l k = true then l else l.take (lessN l k) ++ ⟨k, x⟩ :: l.drop (lessN l k)
def dropP (l : List Pr) (k : Int) : List Pr := if isKey l k = true then l.take (lessN l k) ++ l.drop (lessN l k + 1) else l
theorem put_eq (l : List Pr) (hl : l.length ≤ 1000000) (hr : ris l = true) (a x : Int) (k : Nat) : pairs_Put.f k l a x = some (putP l a x, !isKey l a) := by
  unfold pairs_Put.f putP
  rw [if_pos ⟨hr, hl⟩]
  cases hk : isKey l a with
  | true => rw [if_pos rfl, if_pos rfl]; rfl
  | false => rw [if_neg (by decide), if_neg (by decide)]; rfl
theorem drop_eq (l : List Pr) (hl : l.length ≤ 1000000) (hr : ris l = true) (a : Int) (k : Nat) : pairs_Drop.f k l a = some (dropP l a, isKey l a) := by
  unfold pairs_Drop.f dropP
  rw [if_pos ⟨hr, hl⟩]
  cases hk : isKey l a with
  | true => rw [if_pos rfl, if_pos rfl]
  | false => rw [if_neg (by decide), if_neg (by decide)]
theorem putP_len (l : List Pr) (k x : Int) : (putP l k x).length ≤ l.length + 1 := by
  unfold putP
  split
  · omega
  · have := lessN_le l k
    simp only [List.length_append, List.length_take, List.length_cons, List.length_drop]; omega
theorem dropP_len (l : List Pr) (k : Int) : (dropP l k).length ≤ l.length := by
  unfold dropP
  split
  · have := lessN_le l k
    simp only [List.length_append, List.length_take, List.length_drop]; omega
  · omega

theorem rput_eq (l : List Pr) (hl : l.length ≤ 1000000) (a x : Int) {k : Nat} (hk : l.length < k) : deadwoodref08_Put.f k l a x = some (putP l a x, !isKey l a) := by
  have hle := lessN_le l a
  unfold deadwoodref08_Put.f putP
  rw [at_eq l hl a hk, Option.bind_some]
  dsimp only
  cases hk : isKey l a with
  | true => rw [if_pos rfl, if_pos rfl]; rfl
  | false =>
    rw [if_neg (by decide), if_neg (by decide), Option.bind_some, if_pos (by omega), if_pos (by omega), Option.bind_some, Int.toNat_natCast, if_pos (by simp; omega), Option.bind_some, if_pos (by simp; omega), Option.bind_some, Option.bind_some, if_pos (by simp; omega)]
    simp
theorem rdrop_eq (l : List Pr) (hl : l.length ≤ 1000000) (a : Int) (hr : ris l = true) {k : Nat} (hk : l.length < k) : deadwoodref08_Drop.f k l a = some (dropP l a, isKey l a) := by
  have hle := lessN_le l a
  unfold deadwoodref08_Drop.f dropP
  rw [at_eq l hl a hk, Option.bind_some]
  dsimp only
  cases hk : isKey l a with
  | true =>
    obtain ⟨hn, _⟩ := (isKey_iff hr a).1 hk
    rw [if_pos rfl, if_pos rfl, Option.bind_some, if_pos (by omega), if_pos (by omega), Option.bind_some, Int.toNat_natCast, if_pos (by simp; omega), Option.bind_some, w64p (by omega), if_pos (by omega), if_pos (by omega), Option.bind_some, show ((lessN l a : Int) + 1).toNat = lessN l a + 1 from by omega, if_pos (by simp; omega)]
    simp
  | false => rw [if_neg (by decide), if_neg (by decide)]

def cutP (l : List Pr) (lo hi lim : Int) : List Pr := ((l.drop (lessN l lo)).takeWhile (fun p => decide (p.f0 ≤ hi))).take lim.toNat
theorem cut_loop (l : List Pr) (hl : l.length ≤ 1000000) (hi lim : Int) (d : Nat) : ∀ (k i : Nat) (out : List Pr), i + d = l.length → out.length ≤ i → d < k →
    pairs_Cut.l0 k l hi lim (i : Int) out = some (out ++ ((l.drop i).takeWhile (fun p => decide (p.f0 ≤ hi))).take (lim - out.length).toNat) := by
  induction d with
  | zero =>
    intro k i out h ho hk
    obtain ⟨k, rfl⟩ : ∃ m, k = m + 1 := ⟨k - 1, by omega⟩
    rw [pairs_Cut.l0, if_neg (by omega), List.drop_of_length_le (by omega)]
    simp
  | succ d ih =>
    intro k i out h ho hk
    obtain ⟨k, rfl⟩ : ∃ m, k = m + 1 := ⟨k - 1, by omega⟩
    rw [pairs_Cut.l0, if_pos (by omega), if_pos (by omega), rdp l i (by omega), List.drop_eq_getElem_cons (by omega : i < l.length)]
    by_cases hc : l[i].f0 ≤ hi
    · rw [if_pos hc, List.takeWhile_cons_of_pos (p := fun p : Pr => decide (p.f0 ≤ hi)) (decide_eq_true hc)]
      by_cases hn : (out.length : Int) < lim
      · rw [if_pos hn, if_pos (by omega), w64p (by omega), show (i : Int) + 1 = ((i + 1 : Nat) : Int) from by omega, ih k (i + 1) _ (by omega) (by simp; omega) (by omega), show (⟨l[i].f0, l[i].f1⟩ : Pr) = l[i] from rfl]
        rw [show (lim - (out.length : Int)).toNat = (lim - ((out ++ [l[i]]).length : Int)).toNat + 1 from by simp; omega, List.take_succ_cons, List.append_assoc]
        rfl
      · rw [if_neg hn, show (lim - (out.length : Int)).toNat = 0 from by omega]; simp
    · rw [if_neg hc, List.takeWhile_cons_of_neg (p := fun p : Pr => decide (p.f0 ≤ hi)) (by simpa using hc)]; simp
theorem cut_eq (l : List Pr) (hl : l.length ≤ 1000000) (hr : ris l = true) (lo hi lim : Int) {k : Nat} (hk : l.length < k) : pairs_Cut.f k l lo hi lim = some (cutP l lo hi lim) := by
  have hle := lessN_le l lo
  unfold pairs_Cut.f pairs_Find.f
  rw [if_pos ⟨hr, hl⟩, Option.bind_some, cut_loop l hl hi lim (l.length - lessN l lo) k (lessN l lo) [] (by omega) (by simp) (by omega)]
  simp [cutP]

/-! The document's cut: pair by pair. -/
theorem rcut_loop (l : List Pr) (hl : l.length ≤ 1000000) (lo hi lim : Int) (d : Nat) : ∀ (k i : Nat) (out : List Pr), i + d = l.length → out.length ≤ i → d < k →
    deadwoodref08_Cut.l0 k l lo hi lim out (i : Int) = some (out ++ ((l.drop i).filter (fun p => decide (lo ≤ p.f0 ∧ p.f0 ≤ hi))).take (lim - out.length).toNat) := by
  induction d with
  | zero =>
    intro k i out h ho hk
    obtain ⟨k, rfl⟩ : ∃ m, k = m + 1 := ⟨k - 1, by omega⟩
    rw [deadwoodref08_Cut.l0, if_neg (by omega), List.drop_of_length_le (by omega)]
    simp
  | succ d ih =>
    intro k i out h ho hk
    obtain ⟨k, rfl⟩ : ∃ m, k = m + 1 := ⟨k - 1, by omega⟩
    rw [deadwoodref08_Cut.l0, if_pos (by omega), if_pos (by omega), rdp l i (by omega), List.drop_eq_getElem_cons (by omega : i < l.length), w64p (by omega), show (i : Int) + 1 = ((i + 1 : Nat) : Int) from by omega]
    by_cases h0 : lo ≤ l[i].f0
    · rw [if_pos (by omega)]
      by_cases hc : l[i].f0 ≤ hi
      · rw [if_pos hc, List.filter_cons_of_pos (p := fun p : Pr => decide (lo ≤ p.f0 ∧ p.f0 ≤ hi)) (decide_eq_true ⟨h0, hc⟩)]
        by_cases hn : (out.length : Int) < lim
        · rw [if_pos hn, if_pos (by omega), ih k (i + 1) _ (by omega) (by simp; omega) (by omega), show (⟨l[i].f0, l[i].f1⟩ : Pr) = l[i] from rfl]
          rw [show (lim - (out.length : Int)).toNat = (lim - ((out ++ [l[i]]).length : Int)).toNat + 1 from by simp; omega, List.take_succ_cons, List.append_assoc]
          rfl
        · rw [if_neg hn, ih k (i + 1) _ (by omega) (by omega) (by omega), show (lim - (out.length : Int)).toNat = 0 from by omega]; simp
      · rw [if_neg hc, List.filter_cons_of_neg (p := fun p : Pr => decide (lo ≤ p.f0 ∧ p.f0 ≤ hi)) (by simp [hc]), ih k (i + 1) _ (by omega) (by omega) (by omega)]
    · rw [if_neg (by omega), List.filter_cons_of_neg (p := fun p : Pr => decide (lo ≤ p.f0 ∧ p.f0 ≤ hi)) (by simp [h0]), ih k (i + 1) _ (by omega) (by omega) (by omega)]
theorem filter_cut (lo hi : Int) : ∀ (l : List Pr), ris l = true → l.filter (fun p => decide (lo ≤ p.f0 ∧ p.f0 ≤ hi)) = (l.drop (lessN l lo)).takeWhile (fun p => decide (p.f0 ≤ hi))
  | [], _ => by simp
  | b :: l, h => by
    obtain ⟨h1, h2⟩ := ris_head h
    have ih := filter_cut lo hi l h1
    by_cases hb : b.f0 < lo
    · have e : lessN (b :: l) lo = lessN l lo + 1 := by unfold lessN; rw [List.countP_cons_of_pos (by simpa using hb)]
      rw [e, List.drop_succ_cons, List.filter_cons_of_neg (p := fun p : Pr => decide (lo ≤ p.f0 ∧ p.f0 ≤ hi)) (by simp; omega), ih]
    · have e : lessN (b :: l) lo = 0 := by
        unfold lessN
        rw [List.countP_eq_zero]
        intro p hp
        rcases List.mem_cons.1 hp with rfl | hp
        · simpa using hb
        · have := h2 p hp; simp; omega
      have e0 : lessN l lo = 0 := by
        unfold lessN
        rw [List.countP_eq_zero]
        intro p hp
        have := h2 p hp
        simp; omega
      rw [e0, List.drop_zero] at ih
      rw [e, List.drop_zero]
      by_cases hc : b.f0 ≤ hi
      · rw [List.filter_cons_of_pos (p := fun p : Pr => decide (lo ≤ p.f0 ∧ p.f0 ≤ hi)) (by simp; omega), List.takeWhile_cons_of_pos (p := fun p : Pr => decide (p.f0 ≤ hi)) (by simpa using hc), ih]
      · rw [List.filter_cons_of_neg (p := fun p : Pr => decide (lo ≤ p.f0 ∧ p.f0 ≤ hi)) (by simp [hc]), List.takeWhile_cons_of_neg (p := fun p : Pr => decide (p.f0 ≤ hi)) (by simpa using hc)]
        rw [List.filter_eq_nil_iff]
        intro p hp
        have := h2 p hp
        simp; omega
theorem rcut_eq (l : List Pr) (hl : l.length ≤ 1000000) (hr : ris l = true) (lo hi lim : Int) {k : Nat} (hk : l.length < k) : deadwoodref08_Cut.f k l lo hi lim = some (cutP l lo hi lim) := by
  have h := rcut_loop l hl lo hi lim l.length k 0 [] (by omega) (by simp) hk
  rw [List.drop_zero, filter_cut lo hi l hr] at h
  unfold deadwoodref08_Cut.f cutP
  rw [show (0 : Int) = ((0 : Nat) : Int) from rfl, h]
  simp
theorem cutP_len (l : List Pr) (lo hi lim : Int) : (cutP l lo hi lim).length ≤ l.length := by
  unfold cutP
  have h1 : ((l.drop (lessN l lo)).takeWhile (fun p : Pr => decide (p.f0 ≤ hi))).length ≤ (l.drop (lessN l lo)).length := (List.takeWhile_prefix _).length_le
  rw [List.length_drop] at h1
  rw [List.length_take]
  omega

/-! Floors. -/
def leN (l : List Pr) (a : Int) : Nat := lessN l a + (if isKey l a = true then 1 else 0)
theorem leN_le {l : List Pr} (h : ris l = true) (a : Int) : leN l a ≤ l.length := by
  unfold leN
  by_cases hk : isKey l a = true
  · obtain ⟨hn, _⟩ := (isKey_iff h a).1 hk
    rw [if_pos hk]; omega
  · rw [if_neg hk]; have := lessN_le l a; omega
def floorP (l : List Pr) (a : Int) : Int × Int × Bool := if 0 < leN l a then ((rd_T49 l ((leN l a - 1 : Nat) : Int)).f0, (rd_T49 l ((leN l a - 1 : Nat) : Int)).f1, true) else (0, 0, false)
theorem floor_eq (l : List Pr) (hl : l.length ≤ 1000000) (hr : ris l = true) (a : Int) (k : Nat) : pairs_Floor.f k l a = some (floorP l a) := by
  have hle := lessN_le l a
  have hm := leN_le hr a
  unfold pairs_Floor.f pairs_Find.f
  rw [if_pos ⟨hr, hl⟩, Option.bind_some]
  dsimp only
  unfold floorP
  unfold leN at hm ⊢
  by_cases hk : isKey l a = true
  · rw [if_pos hk] at hm ⊢
    rw [if_pos hk, if_neg (by omega), if_pos (by omega), if_pos (by omega), if_pos (by omega), Nat.add_sub_cancel]
  · rw [if_neg hk] at hm ⊢
    rw [if_neg hk, w64p (by omega)]
    by_cases h0 : lessN l a = 0
    · rw [if_pos (by omega), if_neg (by omega)]
    · rw [if_neg (by omega), if_pos (by omega), if_pos (by omega), if_pos (by omega), show (lessN l a : Int) - 1 = ((lessN l a + 0 - 1 : Nat) : Int) from by omega]

/-! Ceilings. -/
def ceilP (l : List Pr) (a : Int) : Int × Int × Bool := if lessN l a < l.length then ((rd_T49 l (lessN l a : Int)).f0, (rd_T49 l (lessN l a : Int)).f1, true) else (0, 0, false)
theorem ceil_eq (l : List Pr) (hl : l.length ≤ 1000000) (hr : ris l = true) (a : Int) (k : Nat) : pairs_Ceiling.f k l a = some (ceilP l a) := by
  unfold pairs_Ceiling.f pairs_Find.f ceilP
  rw [if_pos ⟨hr, hl⟩, Option.bind_some]
  dsimp only
  by_cases h : lessN l a < l.length
  · rw [if_neg (by omega), if_pos (by omega), if_pos (by omega), if_pos h]
  · rw [if_pos (by omega), if_neg h]

/-! What is put is found. -/
theorem ris_iff : ∀ (l : List Pr), ris l = true ↔ l.Pairwise (fun a b => a.f0 < b.f0)
  | [] => by simp [ris]
  | a :: l => by
    rw [List.pairwise_cons, ← ris_iff l]
    constructor
    · intro h; exact ⟨(ris_head h).2, (ris_head h).1⟩
    · rintro ⟨h1, h2⟩
      cases l with
      | nil => rfl
      | cons b l =>
        show (decide (a.f0 < b.f0) && ris (b :: l)) = true
        rw [h2, decide_eq_true (h1 b (List.mem_cons_self ..))]
        rfl
theorem mem_take_less {l : List Pr} (h : ris l = true) (a : Int) {p : Pr} (hp : p ∈ l.take (lessN l a)) : p.f0 < a := by
  obtain ⟨i, hi, rfl⟩ := List.getElem_of_mem hp
  rw [List.length_take] at hi
  rw [List.getElem_take]
  exact (less_iff h a i (by omega)).2 (by omega)
theorem mem_drop_ge {l : List Pr} (h : ris l = true) (a : Int) (hk : isKey l a = false) {p : Pr} (hp : p ∈ l.drop (lessN l a)) : a < p.f0 := by
  have hne : p.f0 ≠ a := fun e => by
    have : isKey l a = true := by unfold isKey; rw [List.any_eq_true]; exact ⟨p, List.mem_of_mem_drop hp, decide_eq_true e⟩
    rw [hk] at this; cases this
  obtain ⟨i, hi, rfl⟩ := List.getElem_of_mem hp
  rw [List.length_drop] at hi
  rw [List.getElem_drop] at hne ⊢
  have := less_iff h a (lessN l a + i) (by omega)
  have h2 := fun hlt => this.1 hlt
  omega
theorem ris_putP {l : List Pr} (h : ris l = true) (a x : Int) : ris (putP l a x) = true := by
  unfold putP
  cases hk : isKey l a with
  | true => rw [if_pos rfl]; exact h
  | false =>
    rw [if_neg (by decide)]
    have hl := (ris_iff l).1 h
    rw [ris_iff, List.pairwise_append, List.pairwise_cons]
    refine ⟨List.Pairwise.sublist (List.take_sublist _ _) hl, ⟨fun p hp => mem_drop_ge h a hk hp, List.Pairwise.sublist (List.drop_sublist _ _) hl⟩, fun p hp q hq => ?_⟩
    have h1 := mem_take_less h a hp
    rcases List.mem_cons.1 hq with rfl | hq
    · exact h1
    · have := mem_drop_ge h a hk hq; omega
theorem isKey_putP (l : List Pr) (a x : Int) : isKey (putP l a x) a = true := by
  unfold putP
  cases hk : isKey l a with
  | true => rw [if_pos rfl]; exact hk
  | false =>
    rw [if_neg (by decide)]
    unfold isKey
    rw [List.any_append, List.any_cons, decide_eq_true rfl, Bool.true_or, Bool.or_true]
theorem lessN_putP (l : List Pr) (a x : Int) : lessN (putP l a x) a = lessN l a := by
  unfold putP
  cases hk : isKey l a with
  | true => rw [if_pos rfl]
  | false =>
    rw [if_neg (by decide)]
    have e : lessN l a = (l.take (lessN l a)).countP (fun p => decide (p.f0 < a)) + (l.drop (lessN l a)).countP (fun p => decide (p.f0 < a)) := by
      rw [← List.countP_append, List.take_append_drop]
      rfl
    show (l.take (lessN l a) ++ (⟨a, x⟩ : Pr) :: l.drop (lessN l a)).countP (fun p => decide (p.f0 < a)) = lessN l a
    rw [List.countP_append, List.countP_cons_of_neg (by simp), ← e]
theorem putP_at (l : List Pr) (a x : Int) (hk : isKey l a = false) : rd_T49 (putP l a x) (lessN l a : Int) = ⟨a, x⟩ := by
  have hle := lessN_le l a
  have htl : (l.take (lessN l a)).length = lessN l a := by rw [List.length_take]; omega
  have hlt : lessN l a < (putP l a x).length := by unfold putP; rw [hk, if_neg (by decide)]; simp; omega
  rw [rdp _ _ hlt]
  have e : (putP l a x)[lessN l a]? = some ⟨a, x⟩ := by
    unfold putP
    rw [hk, if_neg (by decide), List.getElem?_append_right (by omega), htl, Nat.sub_self]
    rfl
  rw [List.getElem?_eq_getElem hlt] at e
  exact Option.some.inj e

theorem rsame_loop (a b : List Pr) (hl : a.length ≤ 1000000) (he : a.length = b.length) (d : Nat) : ∀ (k i : Nat), i + d = a.length → d < k → deadwoodref08_Same.l0 k a b (i : Int) = some (sameP (a.drop i) (b.drop i)) := by
  induction d with
  | zero =>
    intro k i hi hk
    obtain ⟨k, rfl⟩ : ∃ m, k = m + 1 := ⟨k - 1, by omega⟩
    rw [deadwoodref08_Same.l0, if_neg (by omega), List.drop_of_length_le (by omega), List.drop_of_length_le (by omega)]
    rfl
  | succ d ih =>
    intro k i hi hk
    obtain ⟨k, rfl⟩ : ∃ m, k = m + 1 := ⟨k - 1, by omega⟩
    rw [deadwoodref08_Same.l0, if_pos (by omega), if_pos (by omega), if_pos (by omega), rdp a i (by omega), rdp b i (by omega), sameP_drop a b i (by omega) (by omega)]
    by_cases hc : a[i].f0 = b[i].f0 ∧ a[i].f1 = b[i].f1
    · rw [if_neg (neP_false hc), w64p (by omega), decide_eq_true hc, Bool.true_and, show (i : Int) + 1 = ((i + 1 : Nat) : Int) from by omega]
      exact ih k (i + 1) (by omega) (by omega)
    · rw [if_pos (neP_true hc), decide_eq_false hc, Bool.false_and]
theorem rsame_eq (a b : List Pr) (hl : a.length ≤ 1000000) {k : Nat} (hk : a.length < k) : deadwoodref08_Same.f k a b = some (sameP a b) := by
  unfold deadwoodref08_Same.f
  by_cases h : a.length = b.length
  · have := rsame_loop a b hl h a.length k 0 (by omega) hk
    rw [if_pos (by omega)]
    rw [List.drop_zero, List.drop_zero] at this
    rw [show ((0 : Int)) = ((0 : Nat) : Int) from rfl, this]
  · rw [if_neg (by omega), sameP_len h]

def mayB (op key hi lim : Int) : Bool := if op = 3 then decide (key ≤ hi ∧ 1 ≤ lim ∧ lim ≤ 1000) else if op = 4 ∨ op = 9 then decide (key ≤ hi) else decide (0 ≤ op ∧ op ≤ 14)
theorem may_eq (op key val hi lim : Int) : call_May.f op key val hi lim = some (mayB op key hi lim) := by
  unfold call_May.f mayB
  by_cases h3 : op = 3
  · rw [if_pos h3, if_pos h3]
    by_cases a : key ≤ hi
    · rw [if_pos a]
      by_cases b : lim ≥ 1
      · rw [if_pos b]; refine congrArg some ?_; rw [decide_eq_decide]; omega
      · rw [if_neg b]; exact congrArg some (decide_eq_false (by omega)).symm
    · rw [if_neg a]; exact congrArg some (decide_eq_false (by omega)).symm
  · rw [if_neg h3, if_neg h3]
    by_cases h4 : op = 4
    · rw [if_pos h4, if_pos (Or.inl h4)]
    · rw [if_neg h4]
      by_cases h9 : op = 9
      · rw [if_pos h9, if_pos (Or.inr h9)]
      · rw [if_neg h9, if_neg (by omega : ¬ (op = 4 ∨ op = 9))]
        by_cases h0 : op ≥ 0
        · rw [if_pos h0]; refine congrArg some ?_; rw [decide_eq_decide]; omega
        · rw [if_neg h0]; exact congrArg some (decide_eq_false (by omega)).symm
theorem csame_eq (a0 a1 a2 a3 b0 b1 b2 b3 : Int) (l m : List Pr) (hl : l.length ≤ 1000000) {k : Nat} (hk : l.length < k) : call_Same.f k a0 a1 a2 a3 l b0 b1 b2 b3 m = some (decide (a0 = b0 ∧ a1 = b1 ∧ a2 = b2 ∧ a3 = b3) && sameP l m) := by
  unfold call_Same.f
  by_cases h0 : a0 = b0
  · by_cases h1 : a1 = b1
    · by_cases h2 : a2 = b2
      · by_cases h3 : a3 = b3
        · rw [if_pos h0, if_pos h1, if_pos h2, if_pos h3, same_eq l m hl hk, Option.bind_some, decide_eq_true ⟨h0, h1, h2, h3⟩, Bool.true_and]
        · rw [if_pos h0, if_pos h1, if_pos h2, if_neg h3, decide_eq_false (fun h => h3 h.2.2.2), Bool.false_and]
      · rw [if_pos h0, if_pos h1, if_neg h2, decide_eq_false (fun h => h2 h.2.2.1), Bool.false_and]
    · rw [if_pos h0, if_neg h1, decide_eq_false (fun h => h1 h.2.1), Bool.false_and]
  · rw [if_neg h0, decide_eq_false (fun h => h0 h.1), Bool.false_and]

theorem rmay_eq (op key val hi lim : Int) {k : Nat} (hk : 0 < k) : deadwoodref09_May.f k op key val hi lim = some (mayB op key hi lim) := by
  obtain ⟨k, rfl⟩ : ∃ m, k = m + 1 := ⟨k - 1, by omega⟩
  unfold deadwoodref09_May.f mayB
  by_cases h0 : op < 0
  · rw [if_pos h0, deadwoodref09_May.j0, if_pos rfl, if_neg (by omega), if_neg (by omega)]; exact congrArg some (decide_eq_false (by omega)).symm
  · rw [if_neg h0, deadwoodref09_May.j0]
    by_cases h14 : op > 14
    · rw [if_pos (decide_eq_true h14), if_neg (by omega), if_neg (by omega)]; exact congrArg some (decide_eq_false (by omega)).symm
    · rw [if_neg (by simpa using h14)]
      by_cases h3 : op = 3
      · rw [if_pos h3, if_pos h3]
        by_cases a : key > hi
        · rw [if_pos a]; exact congrArg some (decide_eq_false (by omega)).symm
        · rw [if_neg a]
          by_cases b : lim > 0
          · rw [if_pos b]; refine congrArg some ?_; rw [decide_eq_decide]; omega
          · rw [if_neg b]; exact congrArg some (decide_eq_false (by omega)).symm
      · rw [if_neg h3, if_neg h3]
        by_cases h4 : op = 4
        · rw [if_pos h4, if_pos (Or.inl h4)]
          by_cases a : key > hi
          · rw [if_pos a]; exact congrArg some (decide_eq_false (by omega)).symm
          · rw [if_neg a]; exact congrArg some (decide_eq_true (by omega)).symm
        · rw [if_neg h4]
          by_cases h9 : op = 9
          · rw [if_pos h9, if_pos (Or.inr h9)]
            by_cases a : key > hi
            · rw [if_pos a]; exact congrArg some (decide_eq_false (by omega)).symm
            · rw [if_neg a]; exact congrArg some (decide_eq_true (by omega)).symm
          · rw [if_neg h9, if_neg (by omega)]; exact congrArg some (decide_eq_true (by omega)).symm

/-! What both models answer, in plain words. -/
open Go.Proofs.Ytkkneaefjahihaa.ModR
theorem mrange {op key hi lim : Int} (h : mayB op key hi lim = true) : 0 ≤ op ∧ op ≤ 14 := by
  unfold mayB at h
  split at h
  · omega
  · split at h
    · omega
    · exact of_decide_eq_true h
def badB (ts : List S62) (t q0 q1 q2 q3 q4 : Int) : Bool :=
  if t < 0 ∨ (ts.length : Int) ≤ t then true else if mayB q0 q1 q3 q4 = false then true
  else if q0 = 13 then (rd_T62 ts t).f0 else if q0 = 14 ∨ q0 = 9 then (!(rd_T62 ts t).f0 || (rd_T62 ts t).f1) else if 9 < q0 then (!(rd_T62 ts t).f0 || !(rd_T62 ts t).f1) else !(rd_T62 ts t).f0
theorem rd_map (ts : List S62) (t : Int) (h0 : 0 ≤ t) (h1 : t < ts.length) : rd_T61 (ts.map toX) t = toX (rd_T62 ts t) := by
  unfold rd_T61 rd_T62
  have : t.toNat < ts.length := by omega
  simp [List.getD, this]
theorem bad_eq (l : List Pr) (ts : List S62) (t q0 q1 q2 q3 q4 : Int) {k : Nat} (hk : 2 ≤ k) : model_State_bad.f k l ts t q0 q1 q2 q3 q4 = some (badB ts t q0 q1 q2 q3 q4) := by
  obtain ⟨k, rfl⟩ : ∃ m, k = m + 2 := ⟨k - 2, by omega⟩
  unfold model_State_bad.f badB
  by_cases h0 : t < 0
  · rw [if_pos h0, if_pos (Or.inl h0), model_State_bad.j0, if_pos rfl]
  · rw [if_neg h0]
    by_cases h1 : t ≥ (ts.length : Int)
    · rw [if_pos h1, if_pos (Or.inr h1), model_State_bad.j0, if_pos rfl]
    · rw [if_neg h1, if_neg (by omega), may_eq, Option.bind_some, model_State_bad.j0]
      cases hm : mayB q0 q1 q3 q4 with
      | false => rw [if_pos (by rfl)]; rfl
      | true =>
        have hr := mrange hm
        rw [if_neg (by decide : ¬ (!true) = true), if_pos (by omega : 0 ≤ t), if_pos (by omega : t < (ts.length : Int)), if_neg (by decide : ¬ true = false)]
        by_cases h13 : q0 = 13
        · rw [if_pos h13, if_pos h13]
        · rw [if_neg h13, if_neg h13]
          by_cases h14 : q0 = 14
          · rw [if_pos h14, if_pos (Or.inl h14), model_State_bad.j1, if_pos (by simpa using h14)]
            cases (rd_T62 ts t).f0 <;> simp
          · rw [if_neg h14, model_State_bad.j1]
            by_cases h9 : q0 = 9
            · rw [if_pos (Or.inr h9), if_pos (by simpa using h9)]
              cases (rd_T62 ts t).f0 <;> simp
            · rw [if_neg (by omega : ¬ (q0 = 14 ∨ q0 = 9)), if_neg (by simpa using h9)]
              by_cases hg : 9 < q0
              · rw [if_pos hg]
                obtain h | h | h : q0 = 10 ∨ q0 = 11 ∨ q0 = 12 := by omega
                all_goals (subst h; cases (rd_T62 ts t).f0 <;> simp)
              · rw [if_neg hg, if_neg (by omega), if_neg (by omega), if_neg (by omega)]
theorem rbad_eq (l : List Pr) (ts : List S62) (t q0 q1 q2 q3 q4 : Int) {k : Nat} (hk : 2 ≤ k) : deadwoodref10_Bad.f k l (ts.map toX) t q0 q1 q2 q3 q4 = some (badB ts t q0 q1 q2 q3 q4) := by
  obtain ⟨k, rfl⟩ : ∃ m, k = m + 2 := ⟨k - 2, by omega⟩
  unfold deadwoodref10_Bad.f badB
  rw [List.length_map]
  by_cases h0 : t < 0
  · rw [if_pos h0, if_pos (Or.inl h0), deadwoodref10_Bad.j0, if_pos rfl]
  · rw [if_neg h0]
    by_cases h1 : t ≥ (ts.length : Int)
    · rw [if_pos h1, if_pos (Or.inr h1), deadwoodref10_Bad.j0, if_pos rfl]
    · rw [if_neg h1, if_neg (by omega), rmay_eq _ _ _ _ _ (by omega), Option.bind_some, deadwoodref10_Bad.j0]
      cases hm : mayB q0 q1 q3 q4 with
      | false => rw [if_pos (by rfl)]; rfl
      | true =>
        have hr := mrange hm
        rw [if_neg (by decide : ¬ (!true) = true), if_pos (by omega : 0 ≤ t), List.length_map, if_pos (by omega : t < (ts.length : Int)), if_neg (by decide : ¬ true = false), rd_map ts t (by omega) (by omega)]
        by_cases h13 : q0 = 13
        · rw [if_pos h13, if_pos h13]; rfl
        · rw [if_neg h13, if_neg h13]
          by_cases h14 : q0 = 14
          · rw [if_pos h14, if_pos (Or.inl h14), deadwoodref10_Bad.j1, if_pos rfl]
            unfold toX
            cases (rd_T62 ts t).f0 <;> simp
          · rw [if_neg h14, deadwoodref10_Bad.j1]
            unfold toX
            by_cases h9 : q0 = 9
            · rw [if_pos (Or.inr h9), if_pos (by simpa using h9)]
              cases (rd_T62 ts t).f0 <;> simp
            · rw [if_neg (by omega : ¬ (q0 = 14 ∨ q0 = 9)), if_neg (by simpa using h9)]
              by_cases hg : 9 < q0
              · rw [if_pos hg, if_pos hg]
                cases (rd_T62 ts t).f0 <;> simp
              · rw [if_neg hg, if_neg hg]
def foundA (l : List Pr) (i : Int) : Int × Int × Int × Int × List Pr := if 0 ≤ i ∧ i < (l.length : Int) then (1, (rd_T49 l i).f0, (rd_T49 l i).f1, 0, []) else (4, 0, 0, 0, [])
theorem found_eq (l : List Pr) (i : Int) : deadwoodref10_found.f l i = some (foundA l i) := by
  unfold deadwoodref10_found.f foundA
  by_cases h0 : i < 0
  · rw [if_pos h0, if_neg (by omega)]
  · rw [if_neg h0]
    by_cases h1 : i ≥ (l.length : Int)
    · rw [if_pos h1, if_neg (by omega)]
    · rw [if_neg h1, if_pos (by omega), if_pos (by omega), if_pos (by omega)]
def pairA (a b : Int) (c : Bool) : Int × Int × Int × Int × List Pr := if c = true then (1, a, b, 0, []) else (4, 0, 0, 0, [])
theorem pair_eq (a b : Int) (c : Bool) : model_pair.f a b c = some (pairA a b c) := by
  unfold model_pair.f pairA
  cases c <;> rfl
theorem at_pair (l : List Pr) (i : Int) : ((model_at.f l i).bind fun bt => model_pair.f bt.1 bt.2.1 bt.2.2) = some (foundA l i) := by
  unfold model_at.f foundA
  by_cases h0 : i < 0
  · rw [if_pos h0, if_neg (by omega)]; rfl
  · rw [if_neg h0]
    by_cases h1 : i ≥ (l.length : Int)
    · rw [if_pos h1, if_neg (by omega)]; rfl
    · rw [if_neg h1, if_pos (by omega), if_pos (by omega), if_pos (by omega)]; rfl
theorem floor_found (l : List Pr) (hr : ris l = true) (a : Int) : pairA (floorP l a).1 (floorP l a).2.1 (floorP l a).2.2 = if isKey l a = true then foundA l (lessN l a : Int) else foundA l ((lessN l a : Int) - 1) := by
  have hle := leN_le hr a
  unfold floorP pairA foundA
  unfold leN at hle ⊢
  cases hk : isKey l a with
  | true =>
    rw [hk] at hle
    simp only [if_true] at hle ⊢
    have e1 : 0 < lessN l a + 1 := Nat.succ_pos _
    simp only [if_pos e1, if_true, Nat.add_sub_cancel]
    rw [if_pos (by omega)]
  | false =>
    rw [hk] at hle
    simp only [Bool.false_eq_true, if_false, Nat.add_zero] at hle ⊢
    by_cases h0 : 0 < lessN l a
    · rw [if_pos h0, if_pos rfl, if_pos (by omega)]
      have : ((lessN l a - 1 : Nat) : Int) = (lessN l a : Int) - 1 := by omega
      simp only [this]
    · rw [if_neg h0, if_neg (by decide), if_neg (by omega)]
theorem ceil_found (l : List Pr) (a : Int) : pairA (ceilP l a).1 (ceilP l a).2.1 (ceilP l a).2.2 = foundA l (lessN l a : Int) := by
  unfold ceilP pairA foundA
  by_cases h : lessN l a < l.length
  · rw [if_pos h, if_pos rfl, if_pos (by omega)]
  · rw [if_neg h, if_neg (by decide), if_neg (by omega)]
theorem cut_most (l : List Pr) (lo hi lim : Int) (h : (l.length : Int) ≤ lim) : cutP l lo hi lim = cutP l lo hi l.length := by
  unfold cutP
  have h1 : ((l.drop (lessN l lo)).takeWhile (fun p => decide (p.f0 ≤ hi))).length ≤ l.length := Nat.le_trans (List.takeWhile_sublist _).length_le (by rw [List.length_drop]; omega)
  rw [List.take_of_length_le (by omega), List.take_of_length_le (by omega)]
/-- What a call of no session answers. -/
def plainA (l : List Pr) (q0 q1 q2 q3 q4 : Int) : List Pr × Int × Int × Int × Int × List Pr :=
  if q0 = 0 then (if isKey l q1 = true then (l, 5, 0, 0, 0, []) else (putP l q1 q2, 0, 0, 0, 0, []))
  else if q0 = 1 then (if isKey l q1 = true then (dropP l q1, foundA l (lessN l q1 : Int)) else (l, 4, 0, 0, 0, []))
  else if q0 = 2 then (if isKey l q1 = true then (l, foundA l (lessN l q1 : Int)) else (l, 4, 0, 0, 0, []))
  else if q0 = 3 then (l, 3, 0, 0, 0, cutP l q1 q3 q4)
  else if q0 = 4 then (l, 2, 0, 0, ((cutP l q1 q3 l.length).length : Int), [])
  else if q0 = 5 then (l, foundA l 0)
  else if q0 = 6 then (l, foundA l ((l.length : Int) - 1))
  else if q0 = 7 then (if isKey l q1 = true then (l, foundA l (lessN l q1 : Int)) else (l, foundA l ((lessN l q1 : Int) - 1)))
  else (l, foundA l (lessN l q1 : Int))
theorem lessN_le (l : List Pr) (a : Int) : lessN l a ≤ l.length := List.countP_le_length
theorem plain_eq (l : List Pr) (hl : l.length ≤ 1000) (hr : ris l = true) (q0 q1 q2 q3 q4 : Int) {k : Nat} (hk : 2000 ≤ k) : deadwoodref10_plain.f k l q0 q1 q2 q3 q4 = some (plainA l q0 q1 q2 q3 q4) := by
  have hle := lessN_le l q1
  unfold deadwoodref10_plain.f plainA
  rw [at_eq l (by omega) q1 (by omega), Option.bind_some]
  simp only [rput_eq l (by omega) q1 q2 (by omega : l.length < k), rdrop_eq l (by omega) q1 hr (by omega : l.length < k), rcut_eq l (by omega) hr _ _ _ (by omega : l.length < k), found_eq, Option.bind_some]
  have w1 : wrap64 ((l.length : Int) - 1) = (l.length : Int) - 1 := w64p (by omega)
  have w2 : wrap64 ((lessN l q1 : Int) - 1) = (lessN l q1 : Int) - 1 := w64p (by omega)
  simp only [w1, w2]
  repeat' split
  all_goals first | rfl | (exfalso; simp_all; done) | simp_all
theorem mchange_eq (l : List Pr) (ts : List S62) (hl : l.length ≤ 1000) (hr : ris l = true) (q0 q1 q2 q3 q4 : Int) (h0 : 0 ≤ q0) (h2 : q0 ≤ 2) {k : Nat} (hk : 2000 ≤ k) : model_State_change.f k l ts q0 q1 q2 q3 q4 = some ((plainA l q0 q1 q2 q3 q4).1, ts, (plainA l q0 q1 q2 q3 q4).2) := by
  obtain ⟨k, rfl⟩ : ∃ m, k = m + 1 := ⟨k - 1, by omega⟩
  have hf : pairs_Find.f (k + 1) l q1 = some ((lessN l q1 : Int), isKey l q1) := by unfold pairs_Find.f; rw [if_pos ⟨hr, by omega⟩]
  have hkey : isKey l q1 = true → lessN l q1 < l.length := fun h => by
    have := leN_le hr q1
    unfold leN at this
    rw [if_pos h] at this
    omega
  unfold model_State_change.f plainA
  rw [hf, Option.bind_some]
  dsimp only
  obtain rfl | rfl | rfl : q0 = 0 ∨ q0 = 1 ∨ q0 = 2 := by omega
  · rw [if_pos rfl, if_pos rfl, model_State_change.j0]
    cases hb : isKey l q1 with
    | true => simp
    | false => simp [put_eq l (by omega : l.length ≤ 1000000) hr]
  · rw [if_neg (by decide), if_neg (by decide), if_pos rfl, model_State_change.j0]
    cases hb : isKey l q1 with
    | true =>
      have := hkey hb
      simp only [Bool.false_eq_true, if_false, if_true, pair_eq, Option.bind_some, drop_eq l (by omega : l.length ≤ 1000000) hr]
      rw [if_neg (by decide), if_pos (by omega), if_pos (by omega)]
      unfold pairA foundA
      rw [if_pos rfl, if_pos (by omega)]
    | false => simp
  · rw [if_neg (by decide), if_neg (by decide), if_neg (by decide), if_pos rfl, model_State_change.j0]
    cases hb : isKey l q1 with
    | true =>
      have := hkey hb
      simp only [Bool.false_eq_true, if_false, if_true, pair_eq, Option.bind_some, drop_eq l (by omega : l.length ≤ 1000000) hr]
      rw [if_neg (by decide), if_pos (by omega), if_pos (by omega), if_neg (by decide)]
      unfold pairA foundA
      rw [if_pos rfl, if_pos (by omega)]
    | false => simp
theorem mread_eq (l : List Pr) (ts : List S62) (hl : l.length ≤ 1000) (hr : ris l = true) (q0 q1 q2 q3 q4 : Int) (h3 : 3 ≤ q0) (h9 : q0 < 9) {k : Nat} (hk : 2000 ≤ k) : (model_State_read.f k l ts q0 q1 q2 q3 q4 = some (plainA l q0 q1 q2 q3 q4).2) ∧ (plainA l q0 q1 q2 q3 q4).1 = l := by
  have w1 : wrap64 ((l.length : Int) - 1) = (l.length : Int) - 1 := w64p (by omega)
  have hc := fun lim => cut_eq l (by omega : l.length ≤ 1000000) hr q1 q3 lim (by omega : l.length < k)
  have hm := cut_most l q1 q3 1073741824 (by omega)
  have ap := at_pair l
  unfold model_State_read.f plainA
  obtain rfl | rfl | rfl | rfl | rfl | rfl : q0 = 3 ∨ q0 = 4 ∨ q0 = 5 ∨ q0 = 6 ∨ q0 = 7 ∨ q0 = 8 := by omega
  all_goals simp only [hc, hm, w1, Option.bind_some, floor_eq l (by omega : l.length ≤ 1000000) hr, ceil_eq l (by omega : l.length ≤ 1000000) hr, pair_eq, floor_found l hr, ceil_found]
  · exact ⟨rfl, rfl⟩
  · exact ⟨rfl, rfl⟩
  · refine ⟨?_, rfl⟩; simpa [pair_eq] using ap 0
  · refine ⟨?_, rfl⟩; simpa [pair_eq] using ap ((l.length : Int) - 1)
  · refine ⟨?_, by simp; split <;> rfl⟩
    simp
    split <;> rfl
  · refine ⟨?_, rfl⟩; simp
theorem ris_sub {l m : List Pr} (h : ris l = true) (hs : m.Sublist l) : ris m = true := (ris_iff m).2 (((ris_iff l).1 h).sublist hs)
theorem dropP_sub (l : List Pr) (k : Int) : (dropP l k).Sublist l := by
  unfold dropP
  split
  · rw [← List.eraseIdx_eq_take_drop_succ]; exact List.eraseIdx_sublist _ _
  · exact List.Sublist.refl _
theorem cutP_sub (l : List Pr) (lo hi lim : Int) : (cutP l lo hi lim).Sublist l := ((List.take_sublist _ _).trans (List.takeWhile_sublist _)).trans (List.drop_sublist _ _)
/-- A session that may be. -/
structure WfX (n : Nat) (s : S62) : Prop where
  r : ris s.f2 = true
  len : s.f2.length ≤ n
  a0 : 0 ≤ s.f3
  a1 : s.f3 ≤ s.f2.length
/-- A state behind at most n calls. -/
structure WfS (n : Nat) (l : List Pr) (ts : List S62) : Prop where
  r : ris l = true
  len : l.length ≤ n
  tl : ts.length ≤ 6
  ss : ∀ s ∈ ts, WfX n s
def sessA (l : List Pr) (s : S62) (q0 q1 q2 q3 q4 : Int) : S62 × Int × Int × Int × Int × List Pr :=
  if q0 = 9 then (⟨true, true, cutP l q1 q3 l.length, 0⟩, 0, 0, 0, 0, [])
  else if q0 = 10 then (if (foundA s.f2 s.f3).1 = 1 then ⟨s.f0, s.f1, s.f2, s.f3 + 1⟩ else ⟨s.f0, s.f1, s.f2, s.f3⟩, foundA s.f2 s.f3)
  else if q0 = 11 then (⟨s.f0, s.f1, s.f2, (lessN s.f2 q1 : Int)⟩, 0, 0, 0, 0, [])
  else if q0 = 12 then (⟨true, false, [], 0⟩, 0, 0, 0, 0, [])
  else if q0 = 13 then (⟨true, false, [], 0⟩, 0, 0, 0, 0, [])
  else (⟨false, false, [], 0⟩, 0, 0, 0, 0, [])
theorem rsess_eq (l : List Pr) (hl : l.length ≤ 1000) (hr : ris l = true) {s : S62} {n : Nat} (hs : WfX n s) (hn : n ≤ 1000) (q0 q1 q2 q3 q4 : Int) {k : Nat} (hk : 2000 ≤ k) : rsess k l (toX s) q0 q1 q2 q3 q4 = some (toX (sessA l s q0 q1 q2 q3 q4).1, (sessA l s q0 q1 q2 q3 q4).2) := by
  obtain ⟨h1, h2, h3, h4⟩ := hs
  have w1 : wrap64 (s.f3 + 1) = s.f3 + 1 := w64p (by omega)
  unfold rsess sessA
  have e0 : (toX s).f0 = s.f0 := rfl
  have e1 : (toX s).f1 = s.f1 := rfl
  have e2 : (toX s).f2 = s.f2 := rfl
  have e3 : (toX s).f3 = s.f3 := rfl
  simp only [e0, e1, e2, e3, rcut_eq l (by omega : l.length ≤ 1000000) hr q1 q3 _ (by omega : l.length < k), found_eq, at_eq s.f2 (by omega) q1 (by omega : s.f2.length < k), Option.bind_some, w1]
  by_cases a : q0 = 9
  · rw [if_pos a, if_pos a]; rfl
  · rw [if_neg a, if_neg a]
    by_cases b : q0 = 10
    · rw [if_pos b, if_pos b]
      by_cases c : (foundA s.f2 s.f3).1 = 1
      · rw [if_pos c, if_pos c]; rfl
      · rw [if_neg c, if_neg c]; rfl
    · rw [if_neg b, if_neg b]
      by_cases c : q0 = 11
      · rw [if_pos c, if_pos c]; rfl
      · rw [if_neg c, if_neg c]
        by_cases d : q0 = 12
        · rw [if_pos d, if_pos d]; rfl
        · rw [if_neg d, if_neg d]
          by_cases e : q0 = 13
          · rw [if_pos e, if_pos e]; rfl
          · rw [if_neg e, if_neg e]; rfl
theorem with_eq (l : List Pr) (ts : List S62) (t : Int) (b0 b1 : Bool) (m : List Pr) (n : Int) (h0 : 0 ≤ t) (h1 : t < ts.length) (h2 : ts.length ≤ 6) : model_State_with.f l ts t b0 b1 m n = some (l, ts.set t.toNat ⟨b0, b1, m, n⟩) := by
  unfold model_State_with.f
  rw [if_pos ⟨h0, h1, by omega⟩]
theorem own_eq (l : List Pr) (ts : List S62) (hl : l.length ≤ 1000) (hr : ris l = true) (t : Int) (h0 : 0 ≤ t) (h1 : t < ts.length) (h6 : ts.length ≤ 6) {n : Nat} (hs : WfX n (rd_T62 ts t)) (hn : n ≤ 1000) (q0 q1 q2 q3 q4 : Int) (h9 : 9 ≤ q0) (h14 : q0 ≤ 14) {k : Nat} (hk : 2000 ≤ k) :
    model_State_own.f k l ts t q0 q1 q2 q3 q4 = some (l, ts.set t.toNat (sessA l (rd_T62 ts t) q0 q1 q2 q3 q4).1, (sessA l (rd_T62 ts t) q0 q1 q2 q3 q4).2) := by
  generalize hsd : rd_T62 ts t = s at hs ⊢
  obtain ⟨g1, g2, g3, g4⟩ := hs
  have w1 : wrap64 (s.f3 + 1) = s.f3 + 1 := w64p (by omega)
  have hf : pairs_Find.f k s.f2 q1 = some ((lessN s.f2 q1 : Int), isKey s.f2 q1) := by unfold pairs_Find.f; rw [if_pos ⟨g1, by omega⟩]
  have ap := at_pair s.f2 s.f3
  unfold model_State_own.f sessA
  rw [if_pos h0, if_pos h1, hsd]
  simp only [cut_eq l (by omega : l.length ≤ 1000000) hr q1 q3 _ (by omega : l.length < k), cut_most l q1 q3 1073741824 (by omega), with_eq l ts t _ _ _ _ h0 h1 h6, hf, Option.bind_some, w1]
  obtain rfl | rfl | rfl | rfl | rfl | rfl : q0 = 9 ∨ q0 = 10 ∨ q0 = 11 ∨ q0 = 12 ∨ q0 = 13 ∨ q0 = 14 := by omega
  · rfl
  · simp only [if_true, show ¬ (10 : Int) = 13 by decide, show ¬ (10 : Int) = 14 by decide, show ¬ (10 : Int) = 9 by decide, if_false]
    unfold foundA
    unfold model_at.f
    by_cases c0 : s.f3 < 0
    · omega
    · rw [if_neg c0]
      by_cases c1 : s.f3 ≥ (s.f2.length : Int)
      · have e : ¬ (0 ≤ s.f3 ∧ s.f3 < (s.f2.length : Int)) := by omega
        rw [if_pos c1, Option.bind_some, pair_eq, Option.bind_some]
        simp only [if_neg e]
        rfl
      · have e : 0 ≤ s.f3 ∧ s.f3 < (s.f2.length : Int) := by omega
        rw [if_neg c1, if_pos e.1, if_pos e.2, Option.bind_some, pair_eq, Option.bind_some]
        simp only [if_pos e]
        rfl
  · rfl
  · rfl
  · rfl
  · rfl
theorem sessA_wf (l : List Pr) {s : S62} {n : Nat} (hs : WfX n s) (hl : l.length ≤ n) (hr : ris l = true) (q0 q1 q2 q3 q4 : Int) : WfX n (sessA l s q0 q1 q2 q3 q4).1 ∧ (sessA l s q0 q1 q2 q3 q4).2.2.2.2.2 = [] := by
  have h4 := hs.a1
  have hle := lessN_le s.f2 q1
  have hcl := cutP_len l q1 q3 l.length
  unfold sessA foundA
  by_cases a : q0 = 9
  · rw [if_pos a]; exact ⟨⟨ris_sub hr (cutP_sub _ _ _ _), by show (cutP l q1 q3 l.length).length ≤ n; omega, by show (0 : Int) ≤ 0; omega, by show (0 : Int) ≤ _; omega⟩, rfl⟩
  · rw [if_neg a]
    by_cases b : q0 = 10
    · rw [if_pos b]
      by_cases c : 0 ≤ s.f3 ∧ s.f3 < (s.f2.length : Int)
      · rw [if_pos c, if_pos rfl]; exact ⟨⟨hs.r, hs.len, by show (0 : Int) ≤ s.f3 + 1; omega, by show s.f3 + 1 ≤ (s.f2.length : Int); omega⟩, rfl⟩
      · rw [if_neg c, if_neg (by decide)]; exact ⟨⟨hs.r, hs.len, hs.a0, hs.a1⟩, rfl⟩
    · rw [if_neg b]
      by_cases c : q0 = 11
      · rw [if_pos c]; exact ⟨⟨hs.r, hs.len, by show (0 : Int) ≤ (lessN s.f2 q1 : Int); omega, by show (lessN s.f2 q1 : Int) ≤ (s.f2.length : Int); omega⟩, rfl⟩
      · rw [if_neg c]
        have z : ∀ b0 b1, WfX n (⟨b0, b1, [], 0⟩ : S62) := fun b0 b1 => ⟨rfl, Nat.zero_le _, by show (0 : Int) ≤ 0; omega, by show (0 : Int) ≤ _; simp⟩
        repeat' split
        all_goals exact ⟨z _ _, rfl⟩
theorem plainA_wf (l : List Pr) {n : Nat} (hl : l.length ≤ n) (hr : ris l = true) (q0 q1 q2 q3 q4 : Int) : ris (plainA l q0 q1 q2 q3 q4).1 = true ∧ (plainA l q0 q1 q2 q3 q4).1.length ≤ n + 1 ∧ (plainA l q0 q1 q2 q3 q4).2.2.2.2.2.length ≤ n := by
  have h1 := putP_len l q1 q2
  have h2 := dropP_len l q1
  have h3 := cutP_len l q1 q3 q4
  have h4 := ris_putP hr q1 q2
  have h5 := ris_sub hr (dropP_sub l q1)
  have fa : ∀ i, (foundA l i).2.2.2.2 = [] := fun i => by unfold foundA; split <;> rfl
  unfold plainA
  repeat' split
  all_goals simp only [fa, List.length_nil]
  all_goals first | exact ⟨hr, by omega, by omega⟩ | exact ⟨h4, by omega, by omega⟩ | exact ⟨h5, by omega, by omega⟩
/-- BOTH MODELS ANSWER ALIKE, and are alike behind. -/
theorem do_alike {n : Nat} {l : List Pr} {ts : List S62} (h : WfS n l ts) (hn : n ≤ 999) (t q0 q1 q2 q3 q4 : Int) : ∃ (l' : List Pr) (ts' : List S62) (r3 r4 r5 r6 : Int) (r7 : List Pr),
    model_State_Do.f 5000 l ts t q0 q1 q2 q3 q4 = some (l', ts', r3, r4, r5, r6, r7) ∧ rdo 5000 l (ts.map toX) t q0 q1 q2 q3 q4 = some (l', ts'.map toX, r3, r4, r5, r6, r7) ∧ WfS (n + 1) l' ts' ∧ r7.length ≤ n := by
  obtain ⟨hr, hl, h6, hss⟩ := h
  have up : ∀ s ∈ ts, WfX (n + 1) s := fun s hs => by obtain ⟨a, b, c, d⟩ := hss s hs; exact ⟨a, by omega, c, d⟩
  unfold model_State_Do.f rdo
  rw [bad_eq l ts t q0 q1 q2 q3 q4 (by omega), rbad_eq l ts t q0 q1 q2 q3 q4 (by omega), Option.bind_some, Option.bind_some]
  cases hb : badB ts t q0 q1 q2 q3 q4 with
  | true => exact ⟨l, ts, 8, 0, 0, 0, [], by rw [if_pos rfl], by rw [if_pos rfl], ⟨hr, by omega, h6, up⟩, by simp⟩
  | false =>
    have hv : 0 ≤ t ∧ t < ts.length ∧ 0 ≤ q0 ∧ q0 ≤ 14 := by
      unfold badB at hb
      by_cases a : t < 0 ∨ (ts.length : Int) ≤ t
      · rw [if_pos a] at hb; cases hb
      · rw [if_neg a] at hb
        cases hm : mayB q0 q1 q3 q4 with
        | false => rw [hm] at hb; cases hb
        | true => have := mrange hm; omega
    obtain ⟨t0, t1, g0, g14⟩ := hv
    rw [if_neg (by decide : ¬ false = true), if_neg (by decide : ¬ false = true)]
    by_cases h9 : q0 ≥ 9
    · rw [if_pos h9, if_neg (by omega : ¬ q0 < 9), List.length_map, if_pos ⟨t0, t1, by omega⟩, rd_map ts t t0 t1]
      have hmem : rd_T62 ts t ∈ ts := by
        unfold rd_T62
        have : t.toNat < ts.length := by omega
        simp [List.getD, this]
      have hs := hss _ hmem
      rw [own_eq l ts (by omega) hr t t0 t1 h6 hs (by omega) q0 q1 q2 q3 q4 h9 g14 (by omega), rsess_eq l (by omega) hr hs (by omega) q0 q1 q2 q3 q4 (by omega), Option.bind_some, Option.bind_some]
      have hw := sessA_wf l hs hl hr q0 q1 q2 q3 q4
      generalize sessA l (rd_T62 ts t) q0 q1 q2 q3 q4 = sa at hw ⊢
      obtain ⟨s', r3, r4, r5, r6, r7⟩ := sa
      refine ⟨l, ts.set t.toNat s', r3, r4, r5, r6, r7, rfl, by rw [List.map_set], ⟨hr, by omega, by rw [List.length_set]; exact h6, fun s hm => ?_⟩, by have := hw.2; simp only at this; rw [this]; simp⟩
      rcases List.mem_or_eq_of_mem_set hm with hm | rfl
      · exact up s hm
      · obtain ⟨a, b, c, d⟩ := hw.1; exact ⟨a, Nat.le_succ_of_le b, c, d⟩
    · rw [if_neg h9, if_pos (by omega : q0 < 9), plain_eq l (by omega) hr q0 q1 q2 q3 q4 (by omega), Option.bind_some]
      have hw := plainA_wf l hl hr q0 q1 q2 q3 q4
      by_cases h3 : 3 ≤ q0
      · have hrd : call_Reads.f q0 = some true := by unfold call_Reads.f; rw [if_pos h3, decide_eq_true (by omega)]
        have hm := mread_eq l ts (by omega) hr q0 q1 q2 q3 q4 h3 (by omega) (by omega : 2000 ≤ 5000)
        rw [hrd, Option.bind_some, if_pos rfl, hm.1, Option.bind_some, hm.2]
        refine ⟨l, ts, _, _, _, _, _, rfl, rfl, ⟨hr, by omega, h6, up⟩, hw.2.2⟩
      · have hrd : call_Reads.f q0 = some false := by unfold call_Reads.f; rw [if_neg (by omega)]
        rw [hrd, Option.bind_some, if_neg (by decide), mchange_eq l ts (by omega) hr q0 q1 q2 q3 q4 g0 (by omega) (by omega : 2000 ≤ 5000), Option.bind_some]
        exact ⟨_, ts, _, _, _, _, _, rfl, rfl, ⟨hw.1, hw.2.1, h6, up⟩, hw.2.2⟩
theorem start_wf (n : Int) : WfS 0 [] (List.replicate (ModW.sizeN n) z62) := by
  refine ⟨rfl, Nat.le_refl _, by rw [List.length_replicate]; unfold ModW.sizeN; omega, fun s hs => ?_⟩
  rw [(List.mem_replicate.1 hs).2]
  exact ⟨rfl, Nat.le_refl _, by show (0 : Int) ≤ 0; omega, by show (0 : Int) ≤ _; simp [z62]⟩
theorem same_self (l : List Pr) (hl : l.length ≤ 1000000) : deadwoodref08_Same.f 1000001 l l = some true := by
  rw [rsame_eq l l hl (by omega), (sameP_iff l l).2 rfl]

end Go.Proofs.Ytkkneaefjahihaa.Pure
