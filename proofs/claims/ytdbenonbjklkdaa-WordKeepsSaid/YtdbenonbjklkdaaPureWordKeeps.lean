/- What is put into a field is got, as far as it goes, and no field beside it is changed; of every two words and every two fields, with no condition. -/
import Derived.Test.YtdbenonbjklkdaaPWordKeepsx1
import Derived.Test.YtdbenonbjklkdaaNum
set_option linter.unusedVariables false
set_option linter.unusedSimpArgs false
namespace Go.Proofs.Ytdbenonbjklkdaa.Pure
open Go Go.RowKit Go.Proofs.Ytdbenonbjklkdaa.PWordKeeps Go.Proofs.YtdbenonbjklkdaaW.PrintWords Go.Proofs.YtdbenonbjklkdaaW.PrintLast Go.Proofs.YtdbenonbjklkdaaW.PrintMore Go.Proofs.Ytdbenonbjklkdaa.Num

/-! Fields and words, as the printed functions tell them. -/
theorem may_eq (a b : Int) : word_may.f a b = some (decide (0 ≤ a ∧ a < 64 ∧ 1 ≤ b ∧ b ≤ 64 - a)) := by
  unfold word_may.f
  by_cases h1 : a ≥ 0
  · by_cases h2 : a < 64
    · by_cases h3 : b ≥ 1
      · rw [if_pos h1, if_pos h2, if_pos h3, wrap64_of (by omega) (by omega)]
        congr 1
        apply decide_eq_decide.2
        omega
      · rw [if_pos h1, if_pos h2, if_neg h3]
        congr 1; symm
        exact decide_eq_false (by omega)
    · rw [if_pos h1, if_neg h2]
      congr 1; symm
      exact decide_eq_false (by omega)
  · rw [if_neg h1]
    congr 1; symm
    exact decide_eq_false (by omega)
theorem may_yes {a b : Nat} (hb : 1 ≤ b) (hab : a + b ≤ 64) : word_may.f (a : Int) (b : Int) = some true := by
  rw [may_eq]; congr 1; exact decide_eq_true (by omega)
theorem may_no {a b : Int} (h : ¬ (0 ≤ a ∧ 1 ≤ b ∧ a + b ≤ 64)) : word_may.f a b = some false := by
  rw [may_eq]; congr 1; exact decide_eq_false (by omega)
theorem mask_yes {a b : Nat} (hb : 1 ≤ b) (hab : a + b ≤ 64) : word_Mask.f (a : Int) (b : Int) = some ((maskN a b : Nat) : Int) := by
  unfold word_Mask.f
  rw [may_yes hb hab, Option.bind_some, if_pos rfl, wrap64_of (by omega) (by omega), if_pos (by omega), if_pos (by omega)]
  congr 1
  unfold shl shr
  rw [show ((64 : Int) - (b : Int)).toNat = 64 - b from by omega, show ((a : Nat) : Int).toNat = a from by omega]
  rw [show IntKind.u64.bits = 64 from rfl, Nat.min_eq_left (by omega : 64 - b ≤ 64), Nat.min_eq_left (by omega : a ≤ 64), ← maskN_made hab, u64_wrap_eq]
  rw [show ((2 : Int) ^ (64 - b)) = ((2 ^ (64 - b) : Nat) : Int) from (Int.natCast_pow 2 _).symm, show ((2 : Int) ^ a) = ((2 ^ a : Nat) : Int) from (Int.natCast_pow 2 _).symm]
  generalize 2 ^ (64 - b) = p
  generalize 2 ^ a = q
  rw [Int.natCast_emod, Int.natCast_mul, Int.natCast_ediv]
  rfl
theorem mask_no {a b : Int} (h : ¬ (0 ≤ a ∧ 1 ≤ b ∧ a + b ≤ 64)) : word_Mask.f a b = some 0 := by
  unfold word_Mask.f
  rw [may_no h, Option.bind_some, if_neg (by simp)]

theorem with_yes {w a b n : Nat} (hw : w < 2 ^ 64) (hn : n < 2 ^ 64) (hb : 1 ≤ b) (hab : a + b ≤ 64) : word_With.f (w : Int) (a : Int) (b : Int) (n : Int) = some ((withN w a b n : Nat) : Int) := by
  unfold word_With.f
  rw [may_yes hb hab, Option.bind_some, if_pos rfl, mask_yes hb hab, Option.bind_some, if_pos (by omega)]
  congr 1
  obtain ⟨c, hc, hc1, hc2⟩ := bits_andNot_nat hw (maskN_lt hab)
  have hs : shl .u64 (n : Int) (a : Int) = ((n * 2 ^ a % 2 ^ 64 : Nat) : Int) := by
    unfold shl
    rw [show ((a : Nat) : Int).toNat = a from by omega, show IntKind.u64.bits = 64 from rfl, Nat.min_eq_left (by omega), u64_wrap_eq]
    rw [show ((2 : Int) ^ a) = ((2 ^ a : Nat) : Int) from (Int.natCast_pow 2 _).symm]
    generalize 2 ^ a = q
    rw [Int.natCast_emod, Int.natCast_mul]
    rfl
  have hs1 : n * 2 ^ a % 2 ^ 64 < 2 ^ 64 := Nat.mod_lt _ (by decide)
  rw [hc, hs, bits_and_nat hs1 (maskN_lt hab), bits_or_nat hc1 (Nat.and_lt_two_pow _ (maskN_lt hab)), with_made hw hn hab hc2]
theorem with_no {a b : Int} (w n : Int) (h : ¬ (0 ≤ a ∧ 1 ≤ b ∧ a + b ≤ 64)) : word_With.f w a b n = some w := by
  unfold word_With.f
  rw [may_no h, Option.bind_some, if_neg (by simp)]

theorem field_yes {w a b : Nat} (hw : w < 2 ^ 64) (hb : 1 ≤ b) (hab : a + b ≤ 64) : word_Field.f (w : Int) (a : Int) (b : Int) = some ((fieldN w a b : Nat) : Int) := by
  unfold word_Field.f
  rw [may_yes hb hab, Option.bind_some, if_pos rfl, mask_yes hb hab, Option.bind_some, if_pos (by omega)]
  congr 1
  unfold shr
  rw [bits_and_nat hw (maskN_lt hab), show ((a : Nat) : Int).toNat = a from by omega, show IntKind.u64.bits = 64 from rfl, Nat.min_eq_left (by omega), ← field_made hw hab]
  rw [show ((2 : Int) ^ a) = ((2 ^ a : Nat) : Int) from (Int.natCast_pow 2 _).symm, Int.natCast_ediv]
theorem field_no {a b : Int} (w : Int) (h : ¬ (0 ≤ a ∧ 1 ≤ b ∧ a + b ≤ 64)) : word_Field.f w a b = some 0 := by
  unfold word_Field.f
  rw [may_no h, Option.bind_some, if_neg (by simp)]

theorem wf_u64 {x : Int} (h : (Lit.int .u64 x).wf = true) : ∃ n : Nat, x = (n : Int) ∧ n < 2 ^ 64 := by
  have h' : 0 ≤ x ∧ x ≤ 18446744073709551615 := by simpa [Lit.wf, IntKind.min, IntKind.max, IntKind.signed, IntKind.bits] using h
  exact ⟨x.toNat, by omega, by omega⟩
theorem wf_i64 {x : Int} (h : (Lit.int .i64 x).wf = true) : -9223372036854775808 ≤ x ∧ x ≤ 9223372036854775807 := by
  simpa [Lit.wf, IntKind.min, IntKind.max, IntKind.signed, IntKind.bits] using h
theorem xor_high {n : Nat} (h : n < 2 ^ 64) : Go.bits .xor .u64 (n : Int) 9223372036854775808 = (((n + 9223372036854775808) % 18446744073709551616 : Nat) : Int) := by
  have hx := bits_xor_nat (b := 9223372036854775808) h (by decide)
  simp only [Int.cast_ofNat_Int] at hx
  rw [hx]
  refine congrArg _ ?_
  apply Nat.eq_of_testBit_eq
  intro i
  rw [Nat.testBit_xor, show (9223372036854775808 : Nat) = 2 ^ 63 from by decide, show (18446744073709551616 : Nat) = 2 ^ 64 from by decide, Nat.testBit_mod_two_pow, Nat.testBit_two_pow]
  by_cases hi : i < 64
  · by_cases h63 : i = 63
    · subst h63
      rw [Nat.testBit_eq_decide_div_mod_eq, Nat.testBit_eq_decide_div_mod_eq]
      have h1 : (n + 2 ^ 63) / 2 ^ 63 = n / 2 ^ 63 + 1 := by omega
      rw [h1]
      have h2 : n / 2 ^ 63 < 2 := by omega
      by_cases h3 : n / 2 ^ 63 = 1
      · simp [h3]
      · have : n / 2 ^ 63 = 0 := by omega
        simp [this]
    · have h1 : (2 ^ 63 + n).testBit i = n.testBit i := Nat.testBit_two_pow_add_gt (by omega) n
      rw [Nat.add_comm, h1]
      have : ¬ 63 = i := fun h => h63 h.symm
      simp [hi, this]
  · have : ¬ 63 = i := by omega
    have h2 := lt64 h (by omega : 64 ≤ i)
    simp [hi, this, h2]

theorem Bits_eq (n : Int) : word_Bits.f n = some (n % 18446744073709551616) := by
  unfold word_Bits.f; rw [u64_wrap_eq]
theorem rank_eq {n : Int} (h : -9223372036854775808 ≤ n ∧ n ≤ 9223372036854775807) : word_Rank.f n = some (n + 9223372036854775808) := by
  unfold word_Rank.f
  rw [Bits_eq, Option.bind_some]
  obtain ⟨m, hm⟩ : ∃ m : Nat, n % 18446744073709551616 = m := ⟨(n % 18446744073709551616).toNat, by omega⟩
  rw [hm, xor_high (by omega)]
  refine congrArg some ?_
  omega

theorem lives_yes : deadwoodlaw01_lives.f = some true := by
  have h := with_yes (w := 0) (a := 4) (b := 8) (n := 511) (by decide) (by decide) (by decide) (by decide)
  have h' : word_With.f 0 4 8 511 = some 4080 := h
  unfold deadwoodlaw01_lives.f
  rw [h', Option.bind_some, if_pos rfl, rank_eq (by decide), Option.bind_some]
  rfl

theorem keeps_end {k : Nat} {w x c d : Int} {skip : Bool} (h : skip = true ∨ ∃ y, word_Field.f x c d = some y ∧ word_Field.f w c d = some y) : deadwoodlaw01_WordKeeps.j1 (k + 1) w c d x skip = some true := by
  simp only [deadwoodlaw01_WordKeeps.j1]
  cases skip with
  | true => rw [if_pos rfl, lives_yes, Option.bind_some]
  | false =>
    rcases h with h | ⟨y, h1, h2⟩
    · exact absurd h (by decide)
    · rw [if_neg (by decide), h1, Option.bind_some, h2, Option.bind_some, if_pos rfl, lives_yes, Option.bind_some]
theorem WordKeeps : deadwoodlaw01_WordKeeps.Pure := by
  intro w n x hw hn hx
  obtain ⟨w, rfl, hw1⟩ := wf_u64 hw
  obtain ⟨n, rfl, hn1⟩ := wf_u64 hn
  obtain ⟨a, b, c, d⟩ := x
  obtain ⟨ha, hb, hc, hd⟩ := hx
  have ha1 := wf_i64 ha
  have hb1 := wf_i64 hb
  have hc1 := wf_i64 hc
  have hd1 := wf_i64 hd
  clear hw hn ha hb hc hd
  refine ⟨2, ?_⟩
  dsimp only at *
  unfold deadwoodlaw01_WordKeeps.f
  by_cases h : 0 ≤ a ∧ 1 ≤ b ∧ a + b ≤ 64
  · obtain ⟨a, rfl⟩ : ∃ a' : Nat, a = a' := ⟨a.toNat, by omega⟩
    obtain ⟨b, rfl⟩ : ∃ b' : Nat, b = b' := ⟨b.toNat, by omega⟩
    have h1 : 1 ≤ b := by omega
    have h2 : a + b ≤ 64 := by omega
    have hx1 := withN_lt (n := n) hw1 h2
    have e0 := field_yes hx1 h1 h2
    rw [field_with] at e0
    have e1 : word_Field.f (n : Int) 0 (b : Int) = some ((n % 2 ^ b : Nat) : Int) := by
      have := field_yes (a := 0) hn1 h1 (by omega)
      rw [field_zero] at this
      exact this
    have hy : wrap64 (64 - (a : Int)) = 64 - (a : Int) := wrap64_of (by omega) (by omega)
    rw [with_yes hw1 hn1 h1 h2, Option.bind_some, if_neg (by omega), if_neg (by omega), if_neg (by omega), hy, decide_eq_false (by omega)]
    simp only [deadwoodlaw01_WordKeeps.j0]
    rw [if_neg (by decide), e0, Option.bind_some, e1, Option.bind_some, if_pos rfl]
    by_cases c1 : c < 0
    · rw [if_pos c1]; exact keeps_end (.inl rfl)
    rw [if_neg c1]
    by_cases c2 : d < 1
    · rw [if_pos c2]; exact keeps_end (.inl rfl)
    rw [if_neg c2]
    by_cases c3 : d > 64
    · rw [if_pos c3]; exact keeps_end (.inl rfl)
    rw [if_neg c3]
    have hz : wrap64 (64 - d) = 64 - d := wrap64_of (by omega) (by omega)
    rw [hz]
    by_cases c4 : c > 64 - d
    · rw [if_pos c4]; exact keeps_end (.inl rfl)
    rw [if_neg c4]
    obtain ⟨c, rfl⟩ : ∃ c' : Nat, c = c' := ⟨c.toNat, by omega⟩
    obtain ⟨d, rfl⟩ : ∃ d' : Nat, d = d' := ⟨d.toNat, by omega⟩
    have hs1 : wrap64 ((a : Int) + b) = (a : Int) + b := wrap64_of (by omega) (by omega)
    have hs2 : wrap64 ((c : Int) + d) = (c : Int) + d := wrap64_of (by omega) (by omega)
    rw [hs1, hs2]
    have g1 : 1 ≤ d := by clear e0 e1 hx1 hs1 hs2 hz hy; omega
    have g2 : c + d ≤ 64 := by clear e0 e1 hx1 hs1 hs2 hz hy; omega
    have g3 : (c : Int) ≥ (a : Int) + b → a + b ≤ c := by clear e0 e1 hx1 hs1 hs2 hz hy; omega
    have g4 : (a : Int) ≥ (c : Int) + d → c + d ≤ a := by clear e0 e1 hx1 hs1 hs2 hz hy; omega
    have f2 := field_yes (w := w) (a := c) (b := d) hw1 g1 g2
    have f1 := field_yes (w := withN w a b n) (a := c) (b := d) hx1 g1 g2
    by_cases c5 : (c : Int) ≥ (a : Int) + b
    · rw [if_pos c5]
      rw [field_apart (.inr (g3 c5))] at f1
      exact keeps_end (.inr ⟨_, f1, f2⟩)
    · rw [if_neg c5]
      by_cases c6 : (a : Int) ≥ (c : Int) + d
      · rw [field_apart (.inl (g4 c6))] at f1
        exact keeps_end (.inr ⟨_, f1, f2⟩)
      · rw [decide_eq_false c6]
        exact keeps_end (.inl rfl)
  · rw [with_no _ _ h, Option.bind_some]
    have hb0 : ∀ q : Bool, q = true → deadwoodlaw01_WordKeeps.j0 2 (w : Int) (n : Int) a b c d (w : Int) q = some true := by
      rintro q rfl
      simp only [deadwoodlaw01_WordKeeps.j0]
      rw [if_true, if_true, lives_yes, Option.bind_some]
    by_cases c1 : a < 0
    · rw [if_pos c1]; exact hb0 _ rfl
    rw [if_neg c1]
    by_cases c2 : a > 63
    · rw [if_pos c2]; exact hb0 _ rfl
    rw [if_neg c2]
    by_cases c3 : b < 1
    · rw [if_pos c3]; exact hb0 _ rfl
    rw [if_neg c3]
    have hy : wrap64 (64 - a) = 64 - a := wrap64_of (by omega) (by omega)
    rw [hy]
    exact hb0 _ (decide_eq_true (by omega))

end Go.Proofs.Ytdbenonbjklkdaa.Pure
