/- Ranks rise as numbers do, and there and back is the same; of every two numbers of 64 bits, with no condition. -/
import Derived.Test.YtdbenonbjklkdaaPWordRisesx1
import Derived.Test.YtdbenonbjklkdaaNum
set_option linter.unusedVariables false
set_option linter.unusedSimpArgs false
namespace Go.Proofs.Ytdbenonbjklkdaa.Pure
open Go Go.RowKit Go.Proofs.Ytdbenonbjklkdaa.PWordRises Go.Proofs.YtdbenonbjklkdaaW.PrintWords Go.Proofs.YtdbenonbjklkdaaW.PrintLast Go.Proofs.YtdbenonbjklkdaaW.PrintMore Go.Proofs.Ytdbenonbjklkdaa.Num

/-! Fields and words, as the printed functions tell them. -/
theorem may_eq (a b : Int) : word_may.f a b = some (decide (0 ≤ a ∧ a < 64 ∧ 1 ≤ b ∧ b ≤ 64 - a)) := by
  unfold word_may.f
  by_cases h1 : a ≥ 0
  · by_cases h2 : a < 64
    · by_cases h3 : b ≥ 1
      · rw [if_pos h1, if_pos h2, if_pos h3, wrap64_of (by omega) (by omega)]
        congr 1
        apply decide_eq_decide.2
        omega
      · rw [if_pos h1, if_pos h2, if_neg h3]
        congr 1; symm
        exact decide_eq_false (by omega)
    · rw [if_pos h1, if_neg h2]
      congr 1; symm
      exact decide_eq_false (by omega)
  · rw [if_neg h1]
    congr 1; symm
    exact decide_eq_false (by omega)
theorem may_yes {a b : Nat} (hb : 1 ≤ b) (hab : a + b ≤ 64) : word_may.f (a : Int) (b : Int) = some true := by
  rw [may_eq]; congr 1; exact decide_eq_true (by omega)
theorem may_no {a b : Int} (h : ¬ (0 ≤ a ∧ 1 ≤ b ∧ a + b ≤ 64)) : word_may.f a b = some false := by
  rw [may_eq]; congr 1; exact decide_eq_false (by omega)
theorem mask_yes {a b : Nat} (hb : 1 ≤ b) (hab : a + b ≤ 64) : word_Mask.f (a : Int) (b : Int) = some ((maskN a b : Nat) : Int) := by
  unfold word_Mask.f
  rw [may_yes hb hab, Option.bind_some, if_pos rfl, wrap64_of (by omega) (by omega), if_pos (by omega), if_pos (by omega)]
  congr 1
  unfold shl shr
  rw [show ((64 : Int) - (b : Int)).toNat = 64 - b from by omega, show ((a : Nat) : Int).toNat = a from by omega]
  rw [show IntKind.u64.bits = 64 from rfl, Nat.min_eq_left (by omega : 64 - b ≤ 64), Nat.min_eq_left (by omega : a ≤ 64), ← maskN_made hab, u64_wrap_eq]
  rw [show ((2 : Int) ^ (64 - b)) = ((2 ^ (64 - b) : Nat) : Int) from (Int.natCast_pow 2 _).symm, show ((2 : Int) ^ a) = ((2 ^ a : Nat) : Int) from (Int.natCast_pow 2 _).symm]
  generalize 2 ^ (64 - b) = p
  generalize 2 ^ a = q
  rw [Int.natCast_emod, Int.natCast_mul, Int.natCast_ediv]
  rfl
theorem mask_no {a b : Int} (h : ¬ (0 ≤ a ∧ 1 ≤ b ∧ a + b ≤ 64)) : word_Mask.f a b = some 0 := by
  unfold word_Mask.f
  rw [may_no h, Option.bind_some, if_neg (by simp)]

theorem with_yes {w a b n : Nat} (hw : w < 2 ^ 64) (hn : n < 2 ^ 64) (hb : 1 ≤ b) (hab : a + b ≤ 64) : word_With.f (w : Int) (a : Int) (b : Int) (n : Int) = some ((withN w a b n : Nat) : Int) := by
  unfold word_With.f
  rw [may_yes hb hab, Option.bind_some, if_pos rfl, mask_yes hb hab, Option.bind_some, if_pos (by omega)]
  congr 1
  obtain ⟨c, hc, hc1, hc2⟩ := bits_andNot_nat hw (maskN_lt hab)
  have hs : shl .u64 (n : Int) (a : Int) = ((n * 2 ^ a % 2 ^ 64 : Nat) : Int) := by
    unfold shl
    rw [show ((a : Nat) : Int).toNat = a from by omega, show IntKind.u64.bits = 64 from rfl, Nat.min_eq_left (by omega), u64_wrap_eq]
    rw [show ((2 : Int) ^ a) = ((2 ^ a : Nat) : Int) from (Int.natCast_pow 2 _).symm]
    generalize 2 ^ a = q
    rw [Int.natCast_emod, Int.natCast_mul]
    rfl
  have hs1 : n * 2 ^ a % 2 ^ 64 < 2 ^ 64 := Nat.mod_lt _ (by decide)
  rw [hc, hs, bits_and_nat hs1 (maskN_lt hab), bits_or_nat hc1 (Nat.and_lt_two_pow _ (maskN_lt hab)), with_made hw hn hab hc2]
theorem with_no {a b : Int} (w n : Int) (h : ¬ (0 ≤ a ∧ 1 ≤ b ∧ a + b ≤ 64)) : word_With.f w a b n = some w := by
  unfold word_With.f
  rw [may_no h, Option.bind_some, if_neg (by simp)]

theorem wf_u64 {x : Int} (h : (Lit.int .u64 x).wf = true) : ∃ n : Nat, x = (n : Int) ∧ n < 2 ^ 64 := by
  have h' : 0 ≤ x ∧ x ≤ 18446744073709551615 := by simpa [Lit.wf, IntKind.min, IntKind.max, IntKind.signed, IntKind.bits] using h
  exact ⟨x.toNat, by omega, by omega⟩
theorem wf_i64 {x : Int} (h : (Lit.int .i64 x).wf = true) : -9223372036854775808 ≤ x ∧ x ≤ 9223372036854775807 := by
  simpa [Lit.wf, IntKind.min, IntKind.max, IntKind.signed, IntKind.bits] using h
theorem xor_high {n : Nat} (h : n < 2 ^ 64) : Go.bits .xor .u64 (n : Int) 9223372036854775808 = (((n + 9223372036854775808) % 18446744073709551616 : Nat) : Int) := by
  have hx := bits_xor_nat (b := 9223372036854775808) h (by decide)
  simp only [Int.cast_ofNat_Int] at hx
  rw [hx]
  refine congrArg _ ?_
  apply Nat.eq_of_testBit_eq
  intro i
  rw [Nat.testBit_xor, show (9223372036854775808 : Nat) = 2 ^ 63 from by decide, show (18446744073709551616 : Nat) = 2 ^ 64 from by decide, Nat.testBit_mod_two_pow, Nat.testBit_two_pow]
  by_cases hi : i < 64
  · by_cases h63 : i = 63
    · subst h63
      rw [Nat.testBit_eq_decide_div_mod_eq, Nat.testBit_eq_decide_div_mod_eq]
      have h1 : (n + 2 ^ 63) / 2 ^ 63 = n / 2 ^ 63 + 1 := by omega
      rw [h1]
      have h2 : n / 2 ^ 63 < 2 := by omega
      by_cases h3 : n / 2 ^ 63 = 1
      · simp [h3]
      · have : n / 2 ^ 63 = 0 := by omega
        simp [this]
    · have h1 : (2 ^ 63 + n).testBit i = n.testBit i := Nat.testBit_two_pow_add_gt (by omega) n
      rw [Nat.add_comm, h1]
      have : ¬ 63 = i := fun h => h63 h.symm
      simp [hi, this]
  · have : ¬ 63 = i := by omega
    have h2 := lt64 h (by omega : 64 ≤ i)
    simp [hi, this, h2]

theorem Bits_eq (n : Int) : word_Bits.f n = some (n % 18446744073709551616) := by
  unfold word_Bits.f; rw [u64_wrap_eq]
theorem rank_eq {n : Int} (h : -9223372036854775808 ≤ n ∧ n ≤ 9223372036854775807) : word_Rank.f n = some (n + 9223372036854775808) := by
  unfold word_Rank.f
  rw [Bits_eq, Option.bind_some]
  obtain ⟨m, hm⟩ : ∃ m : Nat, n % 18446744073709551616 = m := ⟨(n % 18446744073709551616).toNat, by omega⟩
  rw [hm, xor_high (by omega)]
  refine congrArg some ?_
  omega
theorem of_eq {w : Nat} (h : w < 2 ^ 64) : word_Of.f (w : Int) = some ((w : Int) - 9223372036854775808) := by
  unfold word_Of.f word_Signed.f
  rw [xor_high h, Option.bind_some]
  refine congrArg some ?_
  unfold wrap64
  omega

theorem lives_yes : deadwoodlaw01_lives.f = some true := by
  have h := with_yes (w := 0) (a := 4) (b := 8) (n := 511) (by decide) (by decide) (by decide) (by decide)
  have h' : word_With.f 0 4 8 511 = some 4080 := h
  unfold deadwoodlaw01_lives.f
  rw [h', Option.bind_some, if_pos rfl, rank_eq (by decide), Option.bind_some]
  rfl

theorem signedBits_eq {n : Int} (h : -9223372036854775808 ≤ n ∧ n ≤ 9223372036854775807) : word_Signed.f (n % 18446744073709551616) = some n := by
  unfold word_Signed.f wrap64
  refine congrArg some ?_
  omega
theorem ofRank_eq {n r : Int} (h : -9223372036854775808 ≤ n ∧ n ≤ 9223372036854775807) (hr : r = n + 9223372036854775808) : word_Of.f r = some n := by
  obtain ⟨w, rfl⟩ : ∃ w : Nat, r = w := ⟨r.toNat, by omega⟩
  rw [of_eq (by omega)]
  refine congrArg some ?_
  omega
theorem lt_same {m n p q : Int} (hp : p = m + 9223372036854775808) (hq : q = n + 9223372036854775808) : (decide (m < n) == decide (p < q)) = true := by
  rw [beq_iff_eq]
  apply decide_eq_decide.2
  omega
theorem WordRises : deadwoodlaw01_WordRises.Pure := by
  intro m n hm hn
  have hm := wf_i64 hm
  have hn := wf_i64 hn
  obtain ⟨p, hp, ep⟩ : ∃ p, word_Rank.f m = some p ∧ p = m + 9223372036854775808 := ⟨_, rank_eq hm, rfl⟩
  obtain ⟨q, hq, eq⟩ : ∃ q, word_Rank.f n = some q ∧ q = n + 9223372036854775808 := ⟨_, rank_eq hn, rfl⟩
  obtain ⟨b, hb, hb'⟩ : ∃ b, word_Bits.f m = some b ∧ word_Signed.f b = some m := ⟨_, Bits_eq m, signedBits_eq hm⟩
  have ho := ofRank_eq hm ep
  unfold deadwoodlaw01_WordRises.f
  rw [hp, hq, hb, lives_yes, Option.bind_some, Option.bind_some, if_pos (lt_same ep eq), Option.bind_some, ho, Option.bind_some, if_pos rfl, Option.bind_some, hb', Option.bind_some, if_pos rfl, Option.bind_some]

end Go.Proofs.Ytdbenonbjklkdaa.Pure
