/- All words of a configuration, one behind the other: the document's list, and where a word is in it. -/
import Derived.Test.YtacajonkkfmibaaPlanMakes
set_option linter.unusedVariables false
set_option linter.unusedSimpArgs false
namespace Go.Proofs.Ytacajonkkfmibaa.Plan
open Go Go.RowKit Go.Proofs.YtacajonkkfmibaaW.PrintWords Go.Proofs.YtacajonkkfmibaaW.PrintLast Go.Proofs.YtacajonkkfmibaaW.PrintMore Go.Proofs.Ytacajonkkfmibaa.PPlanWords

def el (t : Nat) (a : Nat) : S54 := ⟨(whatN t a).1, (whatN t a).2.1, (whatN t a).2.2⟩
def L (t n : Nat) : List S54 := (List.range n).map (el t)
theorem L_len (t n : Nat) : (L t n).length = n := by simp [L]
theorem L_succ (t n : Nat) : L t n ++ [el t n] = L t (n + 1) := by unfold L; rw [List.range_succ, List.map_append]; rfl
theorem L_get (t n i : Nat) (h : i < (L t n).length) : (L t n)[i] = el t i := by simp [L]
theorem w64 {n : Int} (h : -9223372036854775808 ≤ n ∧ n ≤ 9223372036854775807) : wrap64 n = n := by unfold wrap64; omega
theorem el3 (t : Nat) : L t 3 = [⟨0, 0, 0⟩, ⟨0, 1, 0⟩, ⟨0, 2, 0⟩] := by
  have h : L t 3 = [el t 0, el t 1, el t 2] := rfl
  rw [h]
  unfold el whatN
  rfl
theorem el_thread (t j i : Nat) (hj : j < t) (hi : i < 8) : el t (3 + 8 * j + i) = (if 5 ≤ i then ⟨4, j, (i : Int) - 5⟩ else if 2 ≤ i then ⟨3, j, (i : Int) - 2⟩ else ⟨1 + i, j, 0⟩ : S54) := by
  unfold el whatN
  have e1 : ((((3 + 8 * j + i : Nat) : Int)) - 3) % 8 = i := by omega
  have e2 : ((((3 + 8 * j + i : Nat) : Int)) - 3) / 8 = j := by omega
  rw [e1, e2, if_neg (by omega), if_neg (by omega)]
  by_cases h5 : 5 ≤ i
  · rw [if_pos (by omega), if_pos h5]
  · rw [if_neg (by omega), if_neg h5]
    by_cases h2 : 2 ≤ i
    · rw [if_pos (by omega), if_pos h2]
    · rw [if_neg (by omega), if_neg h2]
theorem el_node (t s f : Nat) (hf : f < 7) : el t (3 + 8 * t + 7 * s + f) = ⟨5, (s : Int) + 1, f⟩ := by
  unfold el whatN
  have e1 : (((3 + 8 * t + 7 * s + f : Nat) : Int) - (3 + 8 * (t : Int))) / 7 = s := by omega
  have e2 : (((3 + 8 * t + 7 * s + f : Nat) : Int) - (3 + 8 * (t : Int))) % 7 = f := by omega
  rw [e1, e2, if_neg (by omega), if_pos (by omega)]
  show (⟨5, 1 + (s : Int), f⟩ : S54) = ⟨5, (s : Int) + 1, f⟩
  rw [Int.add_comm]
section
variable {t s : Nat} (n : Int) (ht : t ≤ 6) (hs : s ≤ 250)
include ht hs
theorem loop4 (j : Nat) (hj : j < s) (d : Nat) : ∀ (K f : Nat), f + d = 7 → deadwoodref05_Words.l4 (K + d + 1) (L t (3 + 8 * t + 7 * j + f)) ((j : Int) + 1) (f : Int) t s n = deadwoodref05_Words.l3 K (L t (3 + 8 * t + 7 * (j + 1))) ((j : Int) + 1 + 1) t s n := by
  induction d with
  | zero =>
    intro K f hf
    obtain rfl : f = 7 := by omega
    show deadwoodref05_Words.l4 (K + 1) _ _ _ _ _ _ = _
    rw [deadwoodref05_Words.l4, if_neg (by omega), w64 (by omega), show 3 + 8 * t + 7 * j + 7 = 3 + 8 * t + 7 * (j + 1) from by omega]
  | succ d ih =>
    intro K f hf
    show deadwoodref05_Words.l4 (K + d + 1 + 1) _ _ _ _ _ _ = _
    rw [deadwoodref05_Words.l4, if_pos (by omega), if_pos (by rw [L_len]; omega), ← el_node t j f (by omega), L_succ, w64 (by omega), show ((f : Int) + 1) = ((f + 1 : Nat) : Int) from by omega, show 3 + 8 * t + 7 * j + f + 1 = 3 + 8 * t + 7 * j + (f + 1) from by omega]
    exact ih K (f + 1) (by omega)
theorem loop3 (d : Nat) : ∀ (K j : Nat), j + d = s → deadwoodref05_Words.l3 (K + 9 * d + 1) (L t (3 + 8 * t + 7 * j)) ((j : Int) + 1) t s n = some (L t (3 + 8 * t + 7 * s)) := by
  induction d with
  | zero =>
    intro K j hj
    obtain rfl : j = s := by omega
    rw [deadwoodref05_Words.l3, if_neg (by omega)]
  | succ d ih =>
    intro K j hj
    rw [show K + 9 * (d + 1) + 1 = (K + 9 * d + 1 + 7 + 1) + 1 from by omega, deadwoodref05_Words.l3, if_pos (by omega)]
    have h := loop4 n ht hs j (by omega) 7 (K + 9 * d + 1) 0 (by omega)
    rw [show (3 + 8 * t + 7 * j + 0) = 3 + 8 * t + 7 * j from by omega] at h
    rw [show ((0 : Int)) = ((0 : Nat) : Int) from rfl, h, show ((j : Int) + 1 + 1) = ((j + 1 : Nat) : Int) + 1 from by omega]
    exact ih K (j + 1) (by omega)
theorem loop2 (j : Nat) (hj : j < t) (d : Nat) : ∀ (K b : Nat), b + d = 3 → deadwoodref05_Words.l2 (K + d + 1) (L t (3 + 8 * j + (5 + b))) (j : Int) (b : Int) t s n = deadwoodref05_Words.l0 K (L t (3 + 8 * (j + 1))) ((j : Int) + 1) t s n := by
  have _ := hs
  induction d with
  | zero =>
    intro K b hb
    obtain rfl : b = 3 := by omega
    show deadwoodref05_Words.l2 (K + 1) _ _ _ _ _ _ = _
    rw [deadwoodref05_Words.l2, if_neg (by omega), w64 (by omega), show 3 + 8 * j + (5 + 3) = 3 + 8 * (j + 1) from by omega]
  | succ d ih =>
    intro K b hb
    show deadwoodref05_Words.l2 (K + d + 1 + 1) _ _ _ _ _ _ = _
    have e := el_thread t j (5 + b) hj (by omega)
    rw [if_pos (by omega), show ((5 + b : Nat) : Int) - 5 = b from by omega] at e
    rw [deadwoodref05_Words.l2, if_pos (by omega), if_pos (by rw [L_len]; omega), ← e, L_succ, w64 (by omega), show ((b : Int) + 1) = ((b + 1 : Nat) : Int) from by omega, show 3 + 8 * j + (5 + b) + 1 = 3 + 8 * j + (5 + (b + 1)) from by omega]
    exact ih K (b + 1) (by omega)
theorem loop1 (j : Nat) (hj : j < t) (d : Nat) : ∀ (K b : Nat), b + d = 3 → deadwoodref05_Words.l1 (K + d + 1) (L t (3 + 8 * j + (2 + b))) (j : Int) (b : Int) t s n = deadwoodref05_Words.l2 K (L t (3 + 8 * j + (5 + 0))) (j : Int) ((0 : Nat) : Int) t s n := by
  have _ := hs
  induction d with
  | zero =>
    intro K b hb
    obtain rfl : b = 3 := by omega
    show deadwoodref05_Words.l1 (K + 1) _ _ _ _ _ _ = _
    rw [deadwoodref05_Words.l1, if_neg (by omega)]
    rfl
  | succ d ih =>
    intro K b hb
    show deadwoodref05_Words.l1 (K + d + 1 + 1) _ _ _ _ _ _ = _
    have e := el_thread t j (2 + b) hj (by omega)
    rw [if_neg (by omega), if_pos (by omega), show ((2 + b : Nat) : Int) - 2 = b from by omega] at e
    rw [deadwoodref05_Words.l1, if_pos (by omega), if_pos (by rw [L_len]; omega), ← e, L_succ, w64 (by omega), show ((b : Int) + 1) = ((b + 1 : Nat) : Int) from by omega, show 3 + 8 * j + (2 + b) + 1 = 3 + 8 * j + (2 + (b + 1)) from by omega]
    exact ih K (b + 1) (by omega)
theorem loop0 (d : Nat) : ∀ (K j : Nat), j + d = t → deadwoodref05_Words.l0 (K + 9 * s + 1 + 9 * d + 1) (L t (3 + 8 * j)) (j : Int) t s n = some (L t (3 + 8 * t + 7 * s)) := by
  induction d with
  | zero =>
    intro K j hj
    obtain rfl : j = t := by omega
    rw [show K + 9 * s + 1 + 9 * 0 + 1 = (K + 9 * s + 1) + 1 from by omega, deadwoodref05_Words.l0, if_neg (by omega)]
    exact loop3 n ht hs s K 0 (by omega)
  | succ d ih =>
    intro K j hj
    rw [show K + 9 * s + 1 + 9 * (d + 1) + 1 = ((K + 9 * s + 1 + 9 * d + 1 + 3 + 1) + 3 + 1) + 1 from by omega, deadwoodref05_Words.l0, if_pos (by omega), Option.bind_some, if_pos (by rw [L_len]; simp; omega)]
    have e0 := el_thread t j 0 (by omega) (by omega)
    have e1 := el_thread t j 1 (by omega) (by omega)
    rw [if_neg (by omega), if_neg (by omega)] at e0 e1
    have hl : L t (3 + 8 * j) ++ [(⟨1, j, 0⟩ : S54), ⟨2, j, 0⟩] = L t (3 + 8 * j + (2 + 0)) := by
      rw [show 3 + 8 * j + (2 + 0) = (3 + 8 * j + 1) + 1 from by omega, ← L_succ, ← L_succ, List.append_assoc]
      congr 1
      rw [show 3 + 8 * j + 0 = 3 + 8 * j from rfl] at e0
      rw [e0, e1]
      rfl
    have h1 := loop1 n ht hs j (by omega) 3 (K + 9 * s + 1 + 9 * d + 1 + 3 + 1) 0 (by omega)
    have h2 := loop2 n ht hs j (by omega) 3 (K + 9 * s + 1 + 9 * d + 1) 0 (by omega)
    rw [hl, show ((0 : Int)) = ((0 : Nat) : Int) from rfl, h1, h2, show ((j : Int) + 1) = ((j + 1 : Nat) : Int) from by omega]
    exact ih K (j + 1) (by omega)
theorem words_eq {k : Nat} (hk : 9 * s + 9 * t + 2 ≤ k) : deadwoodref05_Words.f k (t : Int) (s : Int) n = some (L t (3 + 8 * t + 7 * s)) := by
  have h := loop0 n ht hs t (k - (9 * s + 9 * t + 2)) 0 (by omega)
  rw [show k - (9 * s + 9 * t + 2) + 9 * s + 1 + 9 * t + 1 = k from by omega] at h
  unfold deadwoodref05_Words.f
  rw [← el3 t]
  exact h
end

/-! Where a word is. -/
theorem at_found (l : List S54) (a b c : Int) (hl : l.length ≤ 1000000) (i : Nat) (hi : i < l.length) (he : l[i] = ⟨a, b, c⟩) (hn : ∀ j (hj : j < l.length), j < i → l[j] ≠ ⟨a, b, c⟩) (d : Nat) :
    ∀ (k j : Nat), j + d = i → d < k → deadwoodref05_At.l0 k l (j : Int) a b c = some (i : Int) := by
  induction d with
  | zero =>
    intro k j hj hk
    obtain ⟨k, rfl⟩ : ∃ m, k = m + 1 := ⟨k - 1, by omega⟩
    obtain rfl : j = i := by omega
    have hr : rd_T54 l (j : Int) = ⟨a, b, c⟩ := by unfold rd_T54; rw [Int.toNat_natCast]; simp [List.getD, hi, he]
    rw [deadwoodref05_At.l0, if_pos (by omega), if_pos (by omega), hr, if_pos (by simp)]
  | succ d ih =>
    intro k j hj hk
    obtain ⟨k, rfl⟩ : ∃ m, k = m + 1 := ⟨k - 1, by omega⟩
    have hjl : j < l.length := by omega
    have hr : rd_T54 l (j : Int) = l[j] := by unfold rd_T54; rw [Int.toNat_natCast]; simp [List.getD, hjl]
    have hne := hn j hjl (by omega)
    have hc : ¬ ((l[j].f0 == a && (l[j].f1 == b && l[j].f2 == c)) = true) := by
      intro h
      simp only [Bool.and_eq_true, beq_iff_eq] at h
      apply hne
      rcases hx : l[j] with ⟨x, y, z⟩
      rw [hx] at h
      obtain ⟨rfl, rfl, rfl⟩ := h
      rfl
    rw [deadwoodref05_At.l0, if_pos (by omega), if_pos (by omega), hr, if_neg hc, w64 (by omega), show ((j : Int) + 1) = ((j + 1 : Nat) : Int) from by omega]
    exact ih k (j + 1) (by omega) (by omega)
theorem at_none (l : List S54) (a b c : Int) (hl : l.length ≤ 1000000) (hn : ∀ j (hj : j < l.length), l[j] ≠ ⟨a, b, c⟩) (d : Nat) :
    ∀ (k j : Nat), j + d = l.length → d < k → deadwoodref05_At.l0 k l (j : Int) a b c = some (-1) := by
  induction d with
  | zero =>
    intro k j hj hk
    obtain ⟨k, rfl⟩ : ∃ m, k = m + 1 := ⟨k - 1, by omega⟩
    rw [deadwoodref05_At.l0, if_neg (by omega)]
  | succ d ih =>
    intro k j hj hk
    obtain ⟨k, rfl⟩ : ∃ m, k = m + 1 := ⟨k - 1, by omega⟩
    have hjl : j < l.length := by omega
    have hr : rd_T54 l (j : Int) = l[j] := by unfold rd_T54; rw [Int.toNat_natCast]; simp [List.getD, hjl]
    have hne := hn j hjl
    have hc : ¬ ((l[j].f0 == a && (l[j].f1 == b && l[j].f2 == c)) = true) := by
      intro h
      simp only [Bool.and_eq_true, beq_iff_eq] at h
      apply hne
      rcases hx : l[j] with ⟨x, y, z⟩
      rw [hx] at h
      obtain ⟨rfl, rfl, rfl⟩ := h
      rfl
    rw [deadwoodref05_At.l0, if_pos (by omega), if_pos (by omega), hr, if_neg hc, w64 (by omega), show ((j : Int) + 1) = ((j + 1 : Nat) : Int) from by omega]
    exact ih k (j + 1) (by omega) (by omega)
/-- A word is where the plan tells it to be, if it has the plan's answer just there. -/
theorem at_eq {t s k : Nat} (ht : t ≤ 6) (hs : s ≤ 250) (hk : 3 + 8 * t + 7 * s < k) {a b c r : Int} (hr : (r = -1 ∧ ∀ q : Nat, q < 3 + 8 * t + 7 * s → el t q ≠ ⟨a, b, c⟩) ∨ (0 ≤ r ∧ r < 3 + 8 * t + 7 * s ∧ ∀ q : Nat, q < 3 + 8 * t + 7 * s → (el t q = ⟨a, b, c⟩ ↔ (q : Int) = r))) :
    deadwoodref05_At.f k (L t (3 + 8 * t + 7 * s)) a b c = some r := by
  unfold deadwoodref05_At.f
  have hlen := L_len t (3 + 8 * t + 7 * s)
  rcases hr with ⟨rfl, hn⟩ | ⟨h0, h1, hn⟩
  · exact at_none _ a b c (by omega) (fun j hj => by rw [L_get]; exact hn j (by omega)) (3 + 8 * t + 7 * s) k 0 (by omega) (by omega)
  · obtain ⟨i, rfl⟩ : ∃ i : Nat, r = i := ⟨r.toNat, by omega⟩
    exact at_found _ a b c (by omega) i (by omega) (by rw [L_get]; exact (hn i (by omega)).2 rfl) (fun j hj hlt => by rw [L_get]; intro e; have := (hn j (by omega)).1 e; omega) i k 0 (by omega) (by omega)
theorem el_iff (t q : Nat) (a b c : Int) : el t q = ⟨a, b, c⟩ ↔ (whatN t q).1 = a ∧ (whatN t q).2.1 = b ∧ (whatN t q).2.2 = c := by
  unfold el
  constructor
  · intro h
    injection h with h1 h2 h3
    exact ⟨h1, h2, h3⟩
  · rintro ⟨h1, h2, h3⟩
    rw [h1, h2, h3]
/-- What a word is, told by cases. -/
theorem what_cases (t q : Int) (hq : 0 ≤ q) : (whatN t q = (0, q, 0) ∧ q < 3) ∨ (3 ≤ q ∧ 3 + 8 * t ≤ q ∧ ∃ x y, whatN t q = (5, 1 + x, y) ∧ 0 ≤ y ∧ y < 7 ∧ q = 3 + 8 * t + 7 * x + y ∧ 0 ≤ x) ∨
    (3 ≤ q ∧ q < 3 + 8 * t ∧ ∃ x y, 0 ≤ x ∧ 0 ≤ y ∧ y < 8 ∧ q = 3 + 8 * x + y ∧ ((5 ≤ y ∧ whatN t q = (4, x, y - 5)) ∨ (2 ≤ y ∧ y < 5 ∧ whatN t q = (3, x, y - 2)) ∨ (y < 2 ∧ whatN t q = (1 + y, x, 0)))) := by
  unfold whatN
  by_cases h1 : q < 3
  · rw [if_pos h1]; exact .inl ⟨rfl, h1⟩
  · rw [if_neg h1]
    by_cases h2 : 3 + 8 * t ≤ q
    · rw [if_pos h2]
      exact .inr (.inl ⟨by omega, h2, _, _, rfl, by omega, by omega, by omega, by omega⟩)
    · rw [if_neg h2]
      refine .inr (.inr ⟨by omega, by omega, (q - 3) / 8, (q - 3) % 8, by omega, by omega, by omega, by omega, ?_⟩)
      by_cases h3 : 5 ≤ (q - 3) % 8
      · rw [if_pos h3]; exact .inl ⟨h3, rfl⟩
      · rw [if_neg h3]
        by_cases h4 : 2 ≤ (q - 3) % 8
        · rw [if_pos h4]; exact .inr (.inl ⟨h4, by omega, rfl⟩)
        · rw [if_neg h4]; exact .inr (.inr ⟨by omega, rfl⟩)
section
variable {t s k : Nat} (ht : 1 ≤ t ∧ t ≤ 6) (hs : s ≤ 250) (hk : 3 + 8 * t + 7 * s < k)
include ht hs hk
theorem at_own (j i : Int) (hi : i = 0 ∨ i = 1) : deadwoodref05_At.f k (L t (3 + 8 * t + 7 * s)) (1 + i) j 0 = some (ownN t j i) := by
  apply at_eq ht.2 hs hk
  unfold ownN
  by_cases h : 0 ≤ j ∧ j ≤ (t : Int) - 1
  · rw [if_pos h]
    refine .inr ⟨by omega, by omega, fun q hq => ?_⟩
    rw [el_iff]
    rcases what_cases t q (by omega) with ⟨e, h1⟩ | ⟨h1, h2, x, y, e, h3⟩ | ⟨h1, h2, x, y, h3, h4, h5, h6, ⟨h7, e⟩ | ⟨h7, h8, e⟩ | ⟨h7, e⟩⟩ <;> rw [e] <;> dsimp only <;> omega
  · rw [if_neg h]
    refine .inl ⟨rfl, fun q hq => ?_⟩
    rw [ne_eq, el_iff]
    rcases what_cases t q (by omega) with ⟨e, h1⟩ | ⟨h1, h2, x, y, e, h3⟩ | ⟨h1, h2, x, y, h3, h4, h5, h6, ⟨h7, e⟩ | ⟨h7, h8, e⟩ | ⟨h7, e⟩⟩ <;> rw [e] <;> dsimp only <;> omega
theorem at_bag (j b d z : Int) (hd : (d = 2 ∧ z = 3) ∨ (d = 5 ∧ z = 4)) : deadwoodref05_At.f k (L t (3 + 8 * t + 7 * s)) z j b = some (bagN t j b d) := by
  apply at_eq ht.2 hs hk
  unfold bagN ownN
  by_cases h : (0 ≤ b ∧ b ≤ 2) ∧ (0 ≤ j ∧ j ≤ (t : Int) - 1)
  · rw [if_pos h.1, if_pos h.2]
    refine .inr ⟨by omega, by omega, fun q hq => ?_⟩
    rw [el_iff]
    rcases what_cases t q (by omega) with ⟨e, h1⟩ | ⟨h1, h2, x, y, e, h3⟩ | ⟨h1, h2, x, y, h3, h4, h5, h6, ⟨h7, e⟩ | ⟨h7, h8, e⟩ | ⟨h7, e⟩⟩ <;> rw [e] <;> dsimp only <;> omega
  · refine .inl ⟨by split <;> (try split) <;> omega, fun q hq => ?_⟩
    rw [ne_eq, el_iff]
    rcases what_cases t q (by omega) with ⟨e, h1⟩ | ⟨h1, h2, x, y, e, h3⟩ | ⟨h1, h2, x, y, h3, h4, h5, h6, ⟨h7, e⟩ | ⟨h7, h8, e⟩ | ⟨h7, e⟩⟩ <;> rw [e] <;> dsimp only <;> omega
theorem at_node (j f : Int) : deadwoodref05_At.f k (L t (3 + 8 * t + 7 * s)) 5 j f = some (nodeN t s j f) := by
  apply at_eq ht.2 hs hk
  unfold nodeN
  by_cases h : (1 ≤ j ∧ j ≤ (s : Int)) ∧ (0 ≤ f ∧ f ≤ 6)
  · rw [if_pos h.1, if_pos h.2]
    refine .inr ⟨by omega, by omega, fun q hq => ?_⟩
    rw [el_iff]
    rcases what_cases t q (by omega) with ⟨e, h1⟩ | ⟨h1, h2, x, y, e, h3⟩ | ⟨h1, h2, x, y, h3, h4, h5, h6, ⟨h7, e⟩ | ⟨h7, h8, e⟩ | ⟨h7, e⟩⟩ <;> rw [e] <;> dsimp only <;> omega
  · refine .inl ⟨by split <;> (try split) <;> omega, fun q hq => ?_⟩
    rw [ne_eq, el_iff]
    rcases what_cases t q (by omega) with ⟨e, h1⟩ | ⟨h1, h2, x, y, e, h3⟩ | ⟨h1, h2, x, y, h3, h4, h5, h6, ⟨h7, e⟩ | ⟨h7, h8, e⟩ | ⟨h7, e⟩⟩ <;> rw [e] <;> dsimp only <;> omega
end
end Go.Proofs.Ytacajonkkfmibaa.Plan
