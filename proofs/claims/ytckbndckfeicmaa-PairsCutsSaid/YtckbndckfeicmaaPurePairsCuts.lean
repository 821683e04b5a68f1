/- The first pairs of any row between any keys, up to any limit, are the document's; of every list, any two keys and any limit, with no condition. -/
import Derived.Test.YtckbndckfeicmaaPPairsCutsx4
import Derived.Test.YtckbndckfeicmaaNum
set_option linter.unusedVariables false
set_option linter.unusedSimpArgs false
namespace Go.Proofs.Ytckbndckfeicmaa.Pure
open Go Go.RowKit Go.Proofs.Ytckbndckfeicmaa.PPairsCuts Go.Proofs.YtckbndckfeicmaaW.PrintWords Go.Proofs.YtckbndckfeicmaaW.PrintLast Go.Proofs.YtckbndckfeicmaaW.PrintMore Go.Proofs.Ytckbndckfeicmaa.Num

/-! Rows of pairs. -/
abbrev Pr := S61
theorem w64p {n : Int} (h : -9223372036854775808 ≤ n ∧ n ≤ 9223372036854775807) : wrap64 n = n := by unfold wrap64; omega
theorem rdp (l : List Pr) (i : Nat) (hi : i < l.length) : rd_T61 l (i : Int) = l[i] := FindWalk.getD_eq l i hi
theorem ris_drop (l : List Pr) (i : Nat) (h : i + 1 < l.length) : ris (l.drop i) = (decide (l[i].f0 < l[i + 1].f0) && ris (l.drop (i + 1))) := by
  rw [List.drop_eq_getElem_cons (by omega : i < l.length), List.drop_eq_getElem_cons h]
  rfl
theorem ris_last (l : List Pr) (i : Nat) (h : l.length ≤ i + 1) : ris (l.drop i) = true := by
  have : (l.drop i).length ≤ 1 := by rw [List.length_drop]; omega
  match l.drop i, this with
  | [], _ => rfl
  | [_], _ => rfl

theorem rrises_loop (l : List Pr) (hl : l.length ≤ 1000000) (d : Nat) : ∀ (k i : Nat), i + d = l.length ∨ (d = 0 ∧ l.length ≤ i) → i < 2000000 → d < k → deadwoodref08_Rises.l0 k l ((i : Int) + 1) = some (ris (l.drop i)) := by
  induction d with
  | zero =>
    intro k i hi hb hk
    obtain ⟨k, rfl⟩ : ∃ m, k = m + 1 := ⟨k - 1, by omega⟩
    rw [deadwoodref08_Rises.l0, if_neg (by omega), ris_last l i (by omega)]
  | succ d ih =>
    intro k i hi hb hk
    obtain ⟨k, rfl⟩ : ∃ m, k = m + 1 := ⟨k - 1, by omega⟩
    by_cases h : i + 1 < l.length
    · rw [deadwoodref08_Rises.l0, if_pos (by omega), w64p (by omega), show (i : Int) + 1 - 1 = (i : Int) from by omega, if_pos (by omega), if_pos (by omega), if_pos (by omega), rdp l i (by omega), show (i : Int) + 1 = ((i + 1 : Nat) : Int) from by omega, rdp l (i + 1) h, ris_drop l i h]
      by_cases hc : l[i].f0 < l[i + 1].f0
      · rw [if_neg (by omega), w64p (by omega), decide_eq_true hc, Bool.true_and]
        exact ih k (i + 1) (by omega) (by omega) (by omega)
      · rw [if_pos (by omega), decide_eq_false hc, Bool.false_and]
    · rw [deadwoodref08_Rises.l0, if_neg (by omega), ris_last l i (by omega)]
theorem rrises_eq (l : List Pr) (hl : l.length ≤ 1000000) {k : Nat} (hk : l.length < k) : deadwoodref08_Rises.f k l = some (ris l) := rrises_loop l hl l.length k 0 (by omega) (by omega) hk

/-- Rows are the same. -/
def sameP (a b : List Pr) : Bool := match a, b with
  | [], [] => true
  | x :: a, y :: b => decide (x.f0 = y.f0 ∧ x.f1 = y.f1) && sameP a b
  | _, _ => false
theorem sameP_iff : ∀ (a b : List Pr), sameP a b = true ↔ a = b
  | [], [] => by simp [sameP]
  | [], _ :: _ => by simp [sameP]
  | _ :: _, [] => by simp [sameP]
  | ⟨x0, x1⟩ :: a, ⟨y0, y1⟩ :: b => by
    unfold sameP
    rw [Bool.and_eq_true, decide_eq_true_eq, sameP_iff a b, List.cons.injEq]
    constructor
    · rintro ⟨⟨h1, h2⟩, h3⟩; exact ⟨by simp only at h1 h2; rw [h1, h2], h3⟩
    · rintro ⟨h1, h3⟩; injection h1 with h1 h2; exact ⟨⟨h1, h2⟩, h3⟩
theorem sameP_drop (a b : List Pr) (i : Nat) (ha : i < a.length) (hb : i < b.length) : sameP (a.drop i) (b.drop i) = (decide (a[i].f0 = b[i].f0 ∧ a[i].f1 = b[i].f1) && sameP (a.drop (i + 1)) (b.drop (i + 1))) := by
  rw [List.drop_eq_getElem_cons ha, List.drop_eq_getElem_cons hb]
  rfl
theorem neP_true {x y : Pr} (h : ¬ (x.f0 = y.f0 ∧ x.f1 = y.f1)) : (!(x.f0 == y.f0) || (!(x.f1 == y.f1))) = true := by
  cases h0 : (x.f0 == y.f0) with
  | false => rfl
  | true =>
    cases h1 : (x.f1 == y.f1) with
    | false => rfl
    | true => exact absurd ⟨eq_of_beq h0, eq_of_beq h1⟩ h
theorem neP_false {x y : Pr} (h : x.f0 = y.f0 ∧ x.f1 = y.f1) : ¬ (!(x.f0 == y.f0) || (!(x.f1 == y.f1))) = true := by
  rw [h.1, h.2]; simp
theorem sameP_len {a b : List Pr} (h : a.length ≠ b.length) : sameP a b = false := by
  cases hs : sameP a b with
  | false => rfl
  | true => exact absurd (congrArg List.length ((sameP_iff a b).1 hs)) h

theorem rsame_loop (a b : List Pr) (hl : a.length ≤ 1000000) (he : a.length = b.length) (d : Nat) : ∀ (k i : Nat), i + d = a.length → d < k → deadwoodref08_Same.l0 k a b (i : Int) = some (sameP (a.drop i) (b.drop i)) := by
  induction d with
  | zero =>
    intro k i hi hk
    obtain ⟨k, rfl⟩ : ∃ m, k = m + 1 := ⟨k - 1, by omega⟩
    rw [deadwoodref08_Same.l0, if_neg (by omega), List.drop_of_length_le (by omega), List.drop_of_length_le (by omega)]
    rfl
  | succ d ih =>
    intro k i hi hk
    obtain ⟨k, rfl⟩ : ∃ m, k = m + 1 := ⟨k - 1, by omega⟩
    rw [deadwoodref08_Same.l0, if_pos (by omega), if_pos (by omega), if_pos (by omega), rdp a i (by omega), rdp b i (by omega), sameP_drop a b i (by omega) (by omega)]
    by_cases hc : a[i].f0 = b[i].f0 ∧ a[i].f1 = b[i].f1
    · rw [if_neg (neP_false hc), w64p (by omega), decide_eq_true hc, Bool.true_and, show (i : Int) + 1 = ((i + 1 : Nat) : Int) from by omega]
      exact ih k (i + 1) (by omega) (by omega)
    · rw [if_pos (neP_true hc), decide_eq_false hc, Bool.false_and]
theorem rsame_eq (a b : List Pr) (hl : a.length ≤ 1000000) {k : Nat} (hk : a.length < k) : deadwoodref08_Same.f k a b = some (sameP a b) := by
  unfold deadwoodref08_Same.f
  by_cases h : a.length = b.length
  · have := rsame_loop a b hl h a.length k 0 (by omega) hk
    rw [if_pos (by omega)]
    rw [List.drop_zero, List.drop_zero] at this
    rw [show ((0 : Int)) = ((0 : Nat) : Int) from rfl, this]
  · rw [if_neg (by omega), sameP_len h]

/-! Floors. -/
def leN (l : List Pr) (a : Int) : Nat := lessN l a + (if isKey l a = true then 1 else 0)
theorem le_iff {l : List Pr} (h : ris l = true) (a : Int) : ∀ j (hj : j < l.length), (l[j].f0 ≤ a ↔ j < leN l a) := by
  intro j hj
  have h1 := less_iff h a j hj
  unfold leN
  by_cases hk : isKey l a = true
  · obtain ⟨hn, he⟩ := (isKey_iff h a).1 hk
    rw [if_pos hk]
    rcases Nat.lt_trichotomy j (lessN l a) with hl | hl | hl
    · have := h1.2 hl; omega
    · subst hl; omega
    · have := ris_pair h (lessN l a) j hj hl; omega
  · rw [if_neg hk]
    have hne : l[j].f0 ≠ a := fun e => hk (by unfold isKey; rw [List.any_eq_true]; exact ⟨_, List.getElem_mem hj, decide_eq_true e⟩)
    omega
theorem leN_le {l : List Pr} (h : ris l = true) (a : Int) : leN l a ≤ l.length := by
  unfold leN
  by_cases hk : isKey l a = true
  · obtain ⟨hn, _⟩ := (isKey_iff h a).1 hk
    rw [if_pos hk]; omega
  · rw [if_neg hk]; have := lessN_le l a; omega
def floorP (l : List Pr) (a : Int) : Int × Int × Bool := if 0 < leN l a then ((rd_T61 l ((leN l a - 1 : Nat) : Int)).f0, (rd_T61 l ((leN l a - 1 : Nat) : Int)).f1, true) else (0, 0, false)
theorem floor_eq (l : List Pr) (hl : l.length ≤ 1000000) (hr : ris l = true) (a : Int) (k : Nat) : pairs_Floor.f k l a = some (floorP l a) := by
  have hle := lessN_le l a
  have hm := leN_le hr a
  unfold pairs_Floor.f pairs_Find.f
  rw [if_pos ⟨hr, hl⟩, Option.bind_some]
  dsimp only
  unfold floorP
  unfold leN at hm ⊢
  by_cases hk : isKey l a = true
  · rw [if_pos hk] at hm ⊢
    rw [if_pos hk, if_neg (by omega), if_pos (by omega), if_pos (by omega), if_pos (by omega), Nat.add_sub_cancel]
  · rw [if_neg hk] at hm ⊢
    rw [if_neg hk, w64p (by omega)]
    by_cases h0 : lessN l a = 0
    · rw [if_pos (by omega), if_neg (by omega)]
    · rw [if_neg (by omega), if_pos (by omega), if_pos (by omega), if_pos (by omega), show (lessN l a : Int) - 1 = ((lessN l a + 0 - 1 : Nat) : Int) from by omega]

def cutP (l : List Pr) (lo hi lim : Int) : List Pr := ((l.drop (lessN l lo)).takeWhile (fun p => decide (p.f0 ≤ hi))).take lim.toNat
theorem cut_loop (l : List Pr) (hl : l.length ≤ 1000000) (hi lim : Int) (d : Nat) : ∀ (k i : Nat) (out : List Pr), i + d = l.length → out.length ≤ i → d < k →
    pairs_Cut.l0 k l hi lim (i : Int) out = some (out ++ ((l.drop i).takeWhile (fun p => decide (p.f0 ≤ hi))).take (lim - out.length).toNat) := by
  induction d with
  | zero =>
    intro k i out h ho hk
    obtain ⟨k, rfl⟩ : ∃ m, k = m + 1 := ⟨k - 1, by omega⟩
    rw [pairs_Cut.l0, if_neg (by omega), List.drop_of_length_le (by omega)]
    simp
  | succ d ih =>
    intro k i out h ho hk
    obtain ⟨k, rfl⟩ : ∃ m, k = m + 1 := ⟨k - 1, by omega⟩
    rw [pairs_Cut.l0, if_pos (by omega), if_pos (by omega), rdp l i (by omega), List.drop_eq_getElem_cons (by omega : i < l.length)]
    by_cases hc : l[i].f0 ≤ hi
    · rw [if_pos hc, List.takeWhile_cons_of_pos (p := fun p : Pr => decide (p.f0 ≤ hi)) (decide_eq_true hc)]
      by_cases hn : (out.length : Int) < lim
      · rw [if_pos hn, if_pos (by omega), w64p (by omega), show (i : Int) + 1 = ((i + 1 : Nat) : Int) from by omega, ih k (i + 1) _ (by omega) (by simp; omega) (by omega), show (⟨l[i].f0, l[i].f1⟩ : Pr) = l[i] from rfl]
        rw [show (lim - (out.length : Int)).toNat = (lim - ((out ++ [l[i]]).length : Int)).toNat + 1 from by simp; omega, List.take_succ_cons, List.append_assoc]
        rfl
      · rw [if_neg hn, show (lim - (out.length : Int)).toNat = 0 from by omega]; simp
    · rw [if_neg hc, List.takeWhile_cons_of_neg (p := fun p : Pr => decide (p.f0 ≤ hi)) (by simpa using hc)]; simp
theorem cut_eq (l : List Pr) (hl : l.length ≤ 1000000) (hr : ris l = true) (lo hi lim : Int) {k : Nat} (hk : l.length < k) : pairs_Cut.f k l lo hi lim = some (cutP l lo hi lim) := by
  have hle := lessN_le l lo
  unfold pairs_Cut.f pairs_Find.f
  rw [if_pos ⟨hr, hl⟩, Option.bind_some, cut_loop l hl hi lim (l.length - lessN l lo) k (lessN l lo) [] (by omega) (by simp) (by omega)]
  simp [cutP]

/-! The document's cut: pair by pair. -/
theorem rcut_loop (l : List Pr) (hl : l.length ≤ 1000000) (lo hi lim : Int) (d : Nat) : ∀ (k i : Nat) (out : List Pr), i + d = l.length → out.length ≤ i → d < k →
    deadwoodref08_Cut.l0 k l lo hi lim out (i : Int) = some (out ++ ((l.drop i).filter (fun p => decide (lo ≤ p.f0 ∧ p.f0 ≤ hi))).take (lim - out.length).toNat) := by
  induction d with
  | zero =>
    intro k i out h ho hk
    obtain ⟨k, rfl⟩ : ∃ m, k = m + 1 := ⟨k - 1, by omega⟩
    rw [deadwoodref08_Cut.l0, if_neg (by omega), List.drop_of_length_le (by omega)]
    simp
  | succ d ih =>
    intro k i out h ho hk
    obtain ⟨k, rfl⟩ : ∃ m, k = m + 1 := ⟨k - 1, by omega⟩
    rw [deadwoodref08_Cut.l0, if_pos (by omega), if_pos (by omega), rdp l i (by omega), List.drop_eq_getElem_cons (by omega : i < l.length), w64p (by omega), show (i : Int) + 1 = ((i + 1 : Nat) : Int) from by omega]
    by_cases h0 : lo ≤ l[i].f0
    · rw [if_pos (by omega)]
      by_cases hc : l[i].f0 ≤ hi
      · rw [if_pos hc, List.filter_cons_of_pos (p := fun p : Pr => decide (lo ≤ p.f0 ∧ p.f0 ≤ hi)) (decide_eq_true ⟨h0, hc⟩)]
        by_cases hn : (out.length : Int) < lim
        · rw [if_pos hn, if_pos (by omega), ih k (i + 1) _ (by omega) (by simp; omega) (by omega), show (⟨l[i].f0, l[i].f1⟩ : Pr) = l[i] from rfl]
          rw [show (lim - (out.length : Int)).toNat = (lim - ((out ++ [l[i]]).length : Int)).toNat + 1 from by simp; omega, List.take_succ_cons, List.append_assoc]
          rfl
        · rw [if_neg hn, ih k (i + 1) _ (by omega) (by omega) (by omega), show (lim - (out.length : Int)).toNat = 0 from by omega]; simp
      · rw [if_neg hc, List.filter_cons_of_neg (p := fun p : Pr => decide (lo ≤ p.f0 ∧ p.f0 ≤ hi)) (by simp [hc]), ih k (i + 1) _ (by omega) (by omega) (by omega)]
    · rw [if_neg (by omega), List.filter_cons_of_neg (p := fun p : Pr => decide (lo ≤ p.f0 ∧ p.f0 ≤ hi)) (by simp [h0]), ih k (i + 1) _ (by omega) (by omega) (by omega)]
theorem filter_cut (lo hi : Int) : ∀ (l : List Pr), ris l = true → l.filter (fun p => decide (lo ≤ p.f0 ∧ p.f0 ≤ hi)) = (l.drop (lessN l lo)).takeWhile (fun p => decide (p.f0 ≤ hi))
  | [], _ => by simp
  | b :: l, h => by
    obtain ⟨h1, h2⟩ := ris_head h
    have ih := filter_cut lo hi l h1
    by_cases hb : b.f0 < lo
    · have e : lessN (b :: l) lo = lessN l lo + 1 := by unfold lessN; rw [List.countP_cons_of_pos (by simpa using hb)]
      rw [e, List.drop_succ_cons, List.filter_cons_of_neg (p := fun p : Pr => decide (lo ≤ p.f0 ∧ p.f0 ≤ hi)) (by simp; omega), ih]
    · have e : lessN (b :: l) lo = 0 := by
        unfold lessN
        rw [List.countP_eq_zero]
        intro p hp
        rcases List.mem_cons.1 hp with rfl | hp
        · simpa using hb
        · have := h2 p hp; simp; omega
      have e0 : lessN l lo = 0 := by
        unfold lessN
        rw [List.countP_eq_zero]
        intro p hp
        have := h2 p hp
        simp; omega
      rw [e0, List.drop_zero] at ih
      rw [e, List.drop_zero]
      by_cases hc : b.f0 ≤ hi
      · rw [List.filter_cons_of_pos (p := fun p : Pr => decide (lo ≤ p.f0 ∧ p.f0 ≤ hi)) (by simp; omega), List.takeWhile_cons_of_pos (p := fun p : Pr => decide (p.f0 ≤ hi)) (by simpa using hc), ih]
      · rw [List.filter_cons_of_neg (p := fun p : Pr => decide (lo ≤ p.f0 ∧ p.f0 ≤ hi)) (by simp [hc]), List.takeWhile_cons_of_neg (p := fun p : Pr => decide (p.f0 ≤ hi)) (by simpa using hc)]
        rw [List.filter_eq_nil_iff]
        intro p hp
        have := h2 p hp
        simp; omega
theorem rcut_eq (l : List Pr) (hl : l.length ≤ 1000000) (hr : ris l = true) (lo hi lim : Int) {k : Nat} (hk : l.length < k) : deadwoodref08_Cut.f k l lo hi lim = some (cutP l lo hi lim) := by
  have h := rcut_loop l hl lo hi lim l.length k 0 [] (by omega) (by simp) hk
  rw [List.drop_zero, filter_cut lo hi l hr] at h
  unfold deadwoodref08_Cut.f cutP
  rw [show (0 : Int) = ((0 : Nat) : Int) from rfl, h]
  simp
theorem cutP_len (l : List Pr) (lo hi lim : Int) : (cutP l lo hi lim).length ≤ l.length := by
  unfold cutP
  have h1 : ((l.drop (lessN l lo)).takeWhile (fun p : Pr => decide (p.f0 ≤ hi))).length ≤ (l.drop (lessN l lo)).length := (List.takeWhile_prefix _).length_le
  rw [List.length_drop] at h1
  rw [List.length_take]
  omega

theorem lives_eq (k : Nat) : deadwoodlaw08_lives.f k = some true := by
  have h1 : pairs_Put.f k ([⟨3, 2⟩, ⟨9, 1⟩] : List Pr) 5 1 = some ([⟨3, 2⟩, ⟨5, 1⟩, ⟨9, 1⟩], true) := by
    unfold pairs_Put.f
    rw [if_pos (by decide), if_neg (by decide)]
    rfl
  unfold deadwoodlaw08_lives.f
  rw [h1, Option.bind_some, floor_eq _ (by decide) (by decide), Option.bind_some]
  rfl

theorem PairsCuts : deadwoodlaw08_PairsCuts.Pure := by
  intro l x lim hl hx hlim
  refine ⟨2000, ?_⟩
  have fin : deadwoodlaw08_PairsCuts.j0 2000 l lim true x.f0 x.f1 = some true := by
    rw [deadwoodlaw08_PairsCuts.j0, if_pos rfl, lives_eq, Option.bind_some]
  unfold deadwoodlaw08_PairsCuts.f
  by_cases hn : (l.length : Int) > 300
  · rw [if_pos hn]; exact fin
  · have hlen : l.length ≤ 1000000 := by omega
    rw [if_neg hn, rrises_eq l hlen (by omega), Option.bind_some]
    cases hr : ris l with
    | false => exact fin
    | true =>
      have hc := cutP_len l x.f0 x.f1 lim
      rw [deadwoodlaw08_PairsCuts.j0, if_neg (by decide), cut_eq l hlen hr _ _ _ (by omega), Option.bind_some, rcut_eq l hlen hr _ _ _ (by omega), Option.bind_some, rsame_eq _ _ (by omega) (by omega), Option.bind_some, (sameP_iff _ _).2 rfl, if_pos rfl, lives_eq, Option.bind_some]

end Go.Proofs.Ytckbndckfeicmaa.Pure
