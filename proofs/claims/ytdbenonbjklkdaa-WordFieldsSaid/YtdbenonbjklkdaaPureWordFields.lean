/- Any field of any word, its mask, and the word with it changed, or that it may not be, is the document's; of every word, place and width, with no condition. -/
import Derived.Test.YtdbenonbjklkdaaPWordFieldsx1
import Derived.Test.YtdbenonbjklkdaaNum
set_option linter.unusedVariables false
set_option linter.unusedSimpArgs false
namespace Go.Proofs.Ytdbenonbjklkdaa.Pure
open Go Go.RowKit Go.Proofs.Ytdbenonbjklkdaa.PWordFields Go.Proofs.YtdbenonbjklkdaaW.PrintWords Go.Proofs.YtdbenonbjklkdaaW.PrintLast Go.Proofs.YtdbenonbjklkdaaW.PrintMore Go.Proofs.Ytdbenonbjklkdaa.Num

/-! Fields and words, as the printed functions tell them. -/
theorem may_eq (a b : Int) : word_may.f a b = some (decide (0 ≤ a ∧ a < 64 ∧ 1 ≤ b ∧ b ≤ 64 - a)) := by
  unfold word_may.f
  by_cases h1 : a ≥ 0
  · by_cases h2 : a < 64
    · by_cases h3 : b ≥ 1
      · rw [if_pos h1, if_pos h2, if_pos h3, wrap64_of (by omega) (by omega)]
        congr 1
        apply decide_eq_decide.2
        omega
      · rw [if_pos h1, if_pos h2, if_neg h3]
        congr 1; symm
        exact decide_eq_false (by omega)
    · rw [if_pos h1, if_neg h2]
      congr 1; symm
      exact decide_eq_false (by omega)
  · rw [if_neg h1]
    congr 1; symm
    exact decide_eq_false (by omega)
theorem may_yes {a b : Nat} (hb : 1 ≤ b) (hab : a + b ≤ 64) : word_may.f (a : Int) (b : Int) = some true := by
  rw [may_eq]; congr 1; exact decide_eq_true (by omega)
theorem may_no {a b : Int} (h : ¬ (0 ≤ a ∧ 1 ≤ b ∧ a + b ≤ 64)) : word_may.f a b = some false := by
  rw [may_eq]; congr 1; exact decide_eq_false (by omega)
theorem mask_yes {a b : Nat} (hb : 1 ≤ b) (hab : a + b ≤ 64) : word_Mask.f (a : Int) (b : Int) = some ((maskN a b : Nat) : Int) := by
  unfold word_Mask.f
  rw [may_yes hb hab, Option.bind_some, if_pos rfl, wrap64_of (by omega) (by omega), if_pos (by omega), if_pos (by omega)]
  congr 1
  unfold shl shr
  rw [show ((64 : Int) - (b : Int)).toNat = 64 - b from by omega, show ((a : Nat) : Int).toNat = a from by omega]
  rw [show IntKind.u64.bits = 64 from rfl, Nat.min_eq_left (by omega : 64 - b ≤ 64), Nat.min_eq_left (by omega : a ≤ 64), ← maskN_made hab, u64_wrap_eq]
  rw [show ((2 : Int) ^ (64 - b)) = ((2 ^ (64 - b) : Nat) : Int) from (Int.natCast_pow 2 _).symm, show ((2 : Int) ^ a) = ((2 ^ a : Nat) : Int) from (Int.natCast_pow 2 _).symm]
  generalize 2 ^ (64 - b) = p
  generalize 2 ^ a = q
  rw [Int.natCast_emod, Int.natCast_mul, Int.natCast_ediv]
  rfl
theorem mask_no {a b : Int} (h : ¬ (0 ≤ a ∧ 1 ≤ b ∧ a + b ≤ 64)) : word_Mask.f a b = some 0 := by
  unfold word_Mask.f
  rw [may_no h, Option.bind_some, if_neg (by simp)]

theorem with_yes {w a b n : Nat} (hw : w < 2 ^ 64) (hn : n < 2 ^ 64) (hb : 1 ≤ b) (hab : a + b ≤ 64) : word_With.f (w : Int) (a : Int) (b : Int) (n : Int) = some ((withN w a b n : Nat) : Int) := by
  unfold word_With.f
  rw [may_yes hb hab, Option.bind_some, if_pos rfl, mask_yes hb hab, Option.bind_some, if_pos (by omega)]
  congr 1
  obtain ⟨c, hc, hc1, hc2⟩ := bits_andNot_nat hw (maskN_lt hab)
  have hs : shl .u64 (n : Int) (a : Int) = ((n * 2 ^ a % 2 ^ 64 : Nat) : Int) := by
    unfold shl
    rw [show ((a : Nat) : Int).toNat = a from by omega, show IntKind.u64.bits = 64 from rfl, Nat.min_eq_left (by omega), u64_wrap_eq]
    rw [show ((2 : Int) ^ a) = ((2 ^ a : Nat) : Int) from (Int.natCast_pow 2 _).symm]
    generalize 2 ^ a = q
    rw [Int.natCast_emod, Int.natCast_mul]
    rfl
  have hs1 : n * 2 ^ a % 2 ^ 64 < 2 ^ 64 := Nat.mod_lt _ (by decide)
  rw [hc, hs, bits_and_nat hs1 (maskN_lt hab), bits_or_nat hc1 (Nat.and_lt_two_pow _ (maskN_lt hab)), with_made hw hn hab hc2]
theorem with_no {a b : Int} (w n : Int) (h : ¬ (0 ≤ a ∧ 1 ≤ b ∧ a + b ≤ 64)) : word_With.f w a b n = some w := by
  unfold word_With.f
  rw [may_no h, Option.bind_some, if_neg (by simp)]

theorem field_yes {w a b : Nat} (hw : w < 2 ^ 64) (hb : 1 ≤ b) (hab : a + b ≤ 64) : word_Field.f (w : Int) (a : Int) (b : Int) = some ((fieldN w a b : Nat) : Int) := by
  unfold word_Field.f
  rw [may_yes hb hab, Option.bind_some, if_pos rfl, mask_yes hb hab, Option.bind_some, if_pos (by omega)]
  congr 1
  unfold shr
  rw [bits_and_nat hw (maskN_lt hab), show ((a : Nat) : Int).toNat = a from by omega, show IntKind.u64.bits = 64 from rfl, Nat.min_eq_left (by omega), ← field_made hw hab]
  rw [show ((2 : Int) ^ a) = ((2 ^ a : Nat) : Int) from (Int.natCast_pow 2 _).symm, Int.natCast_ediv]
theorem field_no {a b : Int} (w : Int) (h : ¬ (0 ≤ a ∧ 1 ≤ b ∧ a + b ≤ 64)) : word_Field.f w a b = some 0 := by
  unfold word_Field.f
  rw [may_no h, Option.bind_some, if_neg (by simp)]

theorem wf_u64 {x : Int} (h : (Lit.int .u64 x).wf = true) : ∃ n : Nat, x = (n : Int) ∧ n < 2 ^ 64 := by
  have h' : 0 ≤ x ∧ x ≤ 18446744073709551615 := by simpa [Lit.wf, IntKind.min, IntKind.max, IntKind.signed, IntKind.bits] using h
  exact ⟨x.toNat, by omega, by omega⟩
theorem wf_i64 {x : Int} (h : (Lit.int .i64 x).wf = true) : -9223372036854775808 ≤ x ∧ x ≤ 9223372036854775807 := by
  simpa [Lit.wf, IntKind.min, IntKind.max, IntKind.signed, IntKind.bits] using h
theorem xor_high {n : Nat} (h : n < 2 ^ 64) : Go.bits .xor .u64 (n : Int) 9223372036854775808 = (((n + 9223372036854775808) % 18446744073709551616 : Nat) : Int) := by
  have hx := bits_xor_nat (b := 9223372036854775808) h (by decide)
  simp only [Int.cast_ofNat_Int] at hx
  rw [hx]
  refine congrArg _ ?_
  apply Nat.eq_of_testBit_eq
  intro i
  rw [Nat.testBit_xor, show (9223372036854775808 : Nat) = 2 ^ 63 from by decide, show (18446744073709551616 : Nat) = 2 ^ 64 from by decide, Nat.testBit_mod_two_pow, Nat.testBit_two_pow]
  by_cases hi : i < 64
  · by_cases h63 : i = 63
    · subst h63
      rw [Nat.testBit_eq_decide_div_mod_eq, Nat.testBit_eq_decide_div_mod_eq]
      have h1 : (n + 2 ^ 63) / 2 ^ 63 = n / 2 ^ 63 + 1 := by omega
      rw [h1]
      have h2 : n / 2 ^ 63 < 2 := by omega
      by_cases h3 : n / 2 ^ 63 = 1
      · simp [h3]
      · have : n / 2 ^ 63 = 0 := by omega
        simp [this]
    · have h1 : (2 ^ 63 + n).testBit i = n.testBit i := Nat.testBit_two_pow_add_gt (by omega) n
      rw [Nat.add_comm, h1]
      have : ¬ 63 = i := fun h => h63 h.symm
      simp [hi, this]
  · have : ¬ 63 = i := by omega
    have h2 := lt64 h (by omega : 64 ≤ i)
    simp [hi, this, h2]

theorem Bits_eq (n : Int) : word_Bits.f n = some (n % 18446744073709551616) := by
  unfold word_Bits.f; rw [u64_wrap_eq]
theorem rank_eq {n : Int} (h : -9223372036854775808 ≤ n ∧ n ≤ 9223372036854775807) : word_Rank.f n = some (n + 9223372036854775808) := by
  unfold word_Rank.f
  rw [Bits_eq, Option.bind_some]
  obtain ⟨m, hm⟩ : ∃ m : Nat, n % 18446744073709551616 = m := ⟨(n % 18446744073709551616).toNat, by omega⟩
  rw [hm, xor_high (by omega)]
  refine congrArg some ?_
  omega

theorem lives_yes : deadwoodlaw01_lives.f = some true := by
  have h := with_yes (w := 0) (a := 4) (b := 8) (n := 511) (by decide) (by decide) (by decide) (by decide)
  have h' : word_With.f 0 4 8 511 = some 4080 := h
  unfold deadwoodlaw01_lives.f
  rw [h', Option.bind_some, if_pos rfl, rank_eq (by decide), Option.bind_some]
  rfl

theorem refMay_eq (a b : Int) (ha : -9223372036854775808 ≤ a ∧ a ≤ 9223372036854775807) (hb : -9223372036854775808 ≤ b ∧ b ≤ 9223372036854775807) :
    deadwoodref01_May.f a b = some (decide (0 ≤ a ∧ 1 ≤ b ∧ a + b ≤ 64)) := by
  unfold deadwoodref01_May.f
  by_cases h1 : a ≥ 0
  · by_cases h2 : a < 64
    · by_cases h3 : b > 0
      · by_cases h4 : b < 65
        · rw [if_pos h1, if_pos h2, if_pos h3, if_pos h4, wrap64_of (by omega) (by omega)]
          refine congrArg some (decide_eq_decide.2 ?_)
          omega
        · rw [if_pos h1, if_pos h2, if_pos h3, if_neg h4]
          exact congrArg some (decide_eq_false (by omega)).symm
      · rw [if_pos h1, if_pos h2, if_neg h3]
        exact congrArg some (decide_eq_false (by omega)).symm
    · rw [if_pos h1, if_neg h2]
      exact congrArg some (decide_eq_false (by omega)).symm
  · rw [if_neg h1]
    exact congrArg some (decide_eq_false (by omega)).symm
theorem row_loop (w : Nat) (hw : w < 2 ^ 64) (d : Nat) : ∀ (k i : Nat), i + d = 64 → d < k → deadwoodref01_Row.l0 k ((w / 2 ^ i : Nat) : Int) ((List.range i).map (bitAt w)) (i : Int) = some (rowN w) := by
  induction d with
  | zero =>
    intro k i hi hk
    obtain ⟨k, rfl⟩ : ∃ m, k = m + 1 := ⟨k - 1, by omega⟩
    obtain rfl : i = 64 := by omega
    simp only [deadwoodref01_Row.l0]
    rw [if_neg (by omega)]
    rfl
  | succ d ih =>
    intro k i hi hk
    obtain ⟨k, rfl⟩ : ∃ m, k = m + 1 := ⟨k - 1, by omega⟩
    have hk' : d < k := by omega
    have hi' : i + 1 + d = 64 := by omega
    simp only [deadwoodref01_Row.l0]
    have hlen : ((List.range i).map (bitAt w)).length = i := by simp
    rw [if_pos (by omega), if_pos (by rw [hlen]; omega)]
    have hdiv : w / 2 ^ i < 2 ^ 64 := Nat.lt_of_le_of_lt (Nat.div_le_self _ _) hw
    have h1 : IntKind.u64.wrap (Int.tdiv ((w / 2 ^ i : Nat) : Int) 2) = ((w / 2 ^ (i + 1) : Nat) : Int) := by
      have h2 : w / 2 ^ (i + 1) = w / 2 ^ i / 2 := by rw [Nat.pow_succ, Nat.div_div_eq_div_mul]
      rw [h2]
      generalize w / 2 ^ i = q at *
      rw [Int.tdiv_eq_ediv_of_nonneg (by omega), u64_wrap_of] <;> omega
    have h3 : wrap64 (Int.tmod ((w / 2 ^ i : Nat) : Int) 2) = bitAt w i := by
      unfold bitAt
      generalize w / 2 ^ i = q at *
      rw [Int.tmod_eq_emod_of_nonneg (by omega), wrap64_of] <;> omega
    have h4 : wrap64 ((i : Int) + 1) = ((i + 1 : Nat) : Int) := by rw [wrap64_of] <;> omega
    rw [h1, h3, h4]
    have h5 : (List.range i).map (bitAt w) ++ [bitAt w i] = (List.range (i + 1)).map (bitAt w) := by
      rw [List.range_succ, List.map_append]; rfl
    rw [h5]
    exact ih k (i + 1) hi' hk'
theorem row_eq {w k : Nat} (hw : w < 2 ^ 64) (hk : 64 < k) : deadwoodref01_Row.f k (w : Int) = some (rowN w) := by
  have h := row_loop w hw 64 k 0 rfl hk
  unfold deadwoodref01_Row.f
  have h0 : w / 2 ^ 0 = w := by simp
  rw [h0] at h
  exact h
theorem number_bd (l : List Int) (hl : ∀ x ∈ l, 0 ≤ x ∧ x ≤ 1) : 0 ≤ number l ∧ number l < 2 ^ l.length := by
  induction l with
  | nil => simp [number]
  | cons x l ih =>
    have h1 := ih (fun y hy => hl y (List.mem_cons_of_mem _ hy))
    have h2 := hl x (List.mem_cons_self ..)
    simp only [number, List.length_cons, Int.pow_succ]
    omega
theorem pow_le64 {n : Nat} (h : n ≤ 64) : (2 : Int) ^ n ≤ 18446744073709551616 := by
  have h1 : (2 : Nat) ^ n ≤ 2 ^ 64 := Nat.pow_le_pow_right (by decide) h
  have h2 : ((2 ^ n : Nat) : Int) ≤ ((2 ^ 64 : Nat) : Int) := Int.ofNat_le.2 h1
  rw [Int.natCast_pow] at h2
  exact h2
theorem number_loop (l : List Int) (hl : ∀ x ∈ l, 0 ≤ x ∧ x ≤ 1) (hn : l.length ≤ 64) (d : Nat) : ∀ (k : Nat), d ≤ l.length → d < k →
    deadwoodref01_Number.l0 k l (number (l.drop d)) ((d : Int) - 1) = some (number l) := by
  induction d with
  | zero =>
    intro k _ hk
    obtain ⟨k, rfl⟩ : ∃ m, k = m + 1 := ⟨k - 1, by omega⟩
    simp only [deadwoodref01_Number.l0]
    rw [if_neg (by omega), List.drop_zero]
  | succ d ih =>
    intro k hd hk
    obtain ⟨k, rfl⟩ : ∃ m, k = m + 1 := ⟨k - 1, by omega⟩
    simp only [deadwoodref01_Number.l0]
    rw [if_pos (by omega), if_pos (by omega), if_pos (by omega)]
    have hlt : d < l.length := by omega
    have hdrop : l.drop d = l[d] :: l.drop (d + 1) := List.drop_eq_getElem_cons hlt
    have hrd : rd l (((d + 1 : Nat) : Int) - 1) = l[d] := by
      unfold rd
      rw [show (((d + 1 : Nat) : Int) - 1).toNat = d from by omega]
      simp [List.getD, hlt]
    have hx := hl l[d] (List.getElem_mem hlt)
    have hb := number_bd (l.drop (d + 1)) (fun y hy => hl y (List.mem_of_mem_drop hy))
    have hp : (2 : Int) ^ (l.drop (d + 1)).length * 2 ≤ 18446744073709551616 := by
      rw [← Int.pow_succ]
      exact pow_le64 (by rw [List.length_drop]; omega)
    have hs : number (l.drop d) = 2 * number (l.drop (d + 1)) + l[d] := by rw [hdrop]; rfl
    rw [hrd]
    generalize number (l.drop (d + 1)) = m at *
    generalize (2 : Int) ^ (l.drop (d + 1)).length = p at *
    generalize l[d] = x at *
    rw [u64_wrap_of (n := 2 * m) (by omega) (by omega), u64_wrap_of (n := x) (by omega) (by omega), u64_wrap_of (by omega) (by omega), ← hs, wrap64_of (by omega) (by omega)]
    rw [show ((d + 1 : Nat) : Int) - 1 - 1 = (d : Int) - 1 from by omega]
    exact ih k (by omega) (by omega)
theorem number_eq {l : List Int} {k : Nat} (hl : ∀ x ∈ l, 0 ≤ x ∧ x ≤ 1) (hn : l.length ≤ 64) (hk : 64 < k) : deadwoodref01_Number.f k l = some (number l) := by
  have h := number_loop l hl hn l.length k (Nat.le_refl _) (by omega)
  unfold deadwoodref01_Number.f
  rw [List.drop_length] at h
  rw [wrap64_of (by omega) (by omega)]
  exact h
theorem row_bits (w : Nat) : ∀ x ∈ rowN w, 0 ≤ x ∧ x ≤ 1 := by
  intro x hx
  obtain ⟨i, _, rfl⟩ := List.mem_map.1 hx
  exact bitAt_range w i
theorem row_len (w : Nat) : (rowN w).length = 64 := by simp [rowN]
theorem mix_bits (w a b n : Nat) : ∀ x ∈ mixN w a b n, 0 ≤ x ∧ x ≤ 1 := by
  intro x hx
  obtain ⟨i, _, rfl⟩ := List.mem_map.1 hx
  split
  · exact bitAt_range n _
  · exact bitAt_range w i
theorem mix_len (w a b n : Nat) : (mixN w a b n).length = 64 := by simp [mixN]
theorem mix_zero (w a n : Nat) : mixN w a 0 n = rowN w := by
  unfold mixN rowN
  apply List.map_congr_left
  intro i _
  rw [if_neg (by omega)]
theorem mix_get (w a b n i : Nat) (h : i < (mixN w a b n).length) : (mixN w a b n)[i] = if a ≤ i ∧ i < a + b then bitAt n (i - a) else bitAt w i := by
  simp [mixN]
theorem mix_succ {w a b n : Nat} (hab : a + b < 64) : (mixN w a b n).set (a + b) (bitAt n b) = mixN w a (b + 1) n := by
  apply List.ext_getElem
  · rw [List.length_set, mix_len, mix_len]
  · intro i h1 h2
    rw [List.getElem_set]
    rw [mix_get, mix_get]
    by_cases h : a + b = i
    · subst h
      rw [if_pos rfl, if_pos (by omega), Nat.add_sub_cancel_left]
    · rw [if_neg h]
      by_cases h3 : a ≤ i ∧ i < a + b
      · rw [if_pos h3, if_pos (by omega)]
      · rw [if_neg h3, if_neg (by omega)]
theorem row_get (w i : Nat) (hi : i < 64) : rd (rowN w) (i : Int) = bitAt w i := by
  unfold rd rowN
  simp [List.getD, hi]
theorem with_loop {w n a b : Nat} (hw : w < 2 ^ 64) (hab : a + b ≤ 64) (d : Nat) : ∀ (k i : Nat), i + d = b → 65 + d < k →
    deadwoodref01_With.l0 k (a : Int) (b : Int) (mixN w a i n) (rowN n) (i : Int) = some ((withN w a b n : Nat) : Int) := by
  induction d with
  | zero =>
    intro k i hi hk
    obtain ⟨k, rfl⟩ : ∃ m, k = m + 1 := ⟨k - 1, by omega⟩
    obtain rfl : i = b := by omega
    simp only [deadwoodref01_With.l0]
    rw [if_neg (by omega), number_eq (mix_bits _ _ _ _) (by rw [mix_len]; omega) (by omega), Option.bind_some, number_mix hw hab]
  | succ d ih =>
    intro k i hi hk
    obtain ⟨k, rfl⟩ : ∃ m, k = m + 1 := ⟨k - 1, by omega⟩
    simp only [deadwoodref01_With.l0]
    have hai : wrap64 ((a : Int) + i) = ((a + i : Nat) : Int) := by rw [wrap64_of] <;> omega
    have hi1 : wrap64 ((i : Int) + 1) = ((i + 1 : Nat) : Int) := by rw [wrap64_of] <;> omega
    rw [if_pos (by omega), if_pos (by omega), if_pos (by rw [row_len]; omega), hai, if_pos (by omega), if_pos (by rw [mix_len]; omega), row_get n i (by omega), hi1, Int.toNat_natCast, mix_succ (by omega)]
    exact ih k (i + 1) (by omega) (by omega)
theorem refWith_yes {w a b n k : Nat} (hw : w < 2 ^ 64) (hn : n < 2 ^ 64) (hb : 1 ≤ b) (hab : a + b ≤ 64) (hk : 130 < k) : deadwoodref01_With.f k (w : Int) (a : Int) (b : Int) (n : Int) = some ((withN w a b n : Nat) : Int) := by
  unfold deadwoodref01_With.f
  rw [refMay_eq _ _ (by omega) (by omega), Option.bind_some, if_pos (decide_eq_true (by omega)), row_eq hw (by omega), Option.bind_some, row_eq hn (by omega), Option.bind_some, ← mix_zero w a n]
  exact with_loop hw hab b k 0 (by omega) (by omega)
theorem refWith_no {a b : Int} (k : Nat) (w n : Int) (ha : -9223372036854775808 ≤ a ∧ a ≤ 9223372036854775807) (hb : -9223372036854775808 ≤ b ∧ b ≤ 9223372036854775807) (h : ¬ (0 ≤ a ∧ 1 ≤ b ∧ a + b ≤ 64)) :
    deadwoodref01_With.f k w a b n = some w := by
  unfold deadwoodref01_With.f
  rw [refMay_eq _ _ ha hb, Option.bind_some, if_neg (by rw [decide_eq_false h]; simp)]

theorem row_cut (w a b : Nat) (hab : a + b ≤ 64) : ((rowN w).take (a + b)).drop a = (List.range' a b).map (bitAt w) := by
  unfold rowN
  rw [← List.map_take, ← List.map_drop]
  congr 1
  apply List.ext_getElem
  · simp; omega
  · intro i h1 h2
    simp
theorem refField_yes {w a b k : Nat} (hw : w < 2 ^ 64) (hb : 1 ≤ b) (hab : a + b ≤ 64) (hk : 64 < k) : deadwoodref01_Field.f k (w : Int) (a : Int) (b : Int) = some ((fieldN w a b : Nat) : Int) := by
  unfold deadwoodref01_Field.f
  have hai : wrap64 ((a : Int) + b) = ((a + b : Nat) : Int) := by rw [wrap64_of] <;> omega
  rw [refMay_eq _ _ (by omega) (by omega), Option.bind_some, if_pos (decide_eq_true (by omega)), row_eq hw hk, Option.bind_some, hai, if_pos (by omega), if_pos (by omega), if_pos (by rw [row_len]; omega)]
  rw [show (((a + b : Nat) : Int)).toNat = a + b from rfl, show ((a : Nat) : Int).toNat = a from rfl, row_cut w a b hab]
  rw [number_eq (fun x hx => by obtain ⟨i, _, rfl⟩ := List.mem_map.1 hx; exact bitAt_range w i) (by simp; omega) hk, Option.bind_some, number_bits]
theorem refField_no {a b : Int} (k : Nat) (w : Int) (ha : -9223372036854775808 ≤ a ∧ a ≤ 9223372036854775807) (hb : -9223372036854775808 ≤ b ∧ b ≤ 9223372036854775807) (h : ¬ (0 ≤ a ∧ 1 ≤ b ∧ a + b ≤ 64)) :
    deadwoodref01_Field.f k w a b = some 0 := by
  unfold deadwoodref01_Field.f
  rw [refMay_eq _ _ ha hb, Option.bind_some, if_neg (by rw [decide_eq_false h]; simp)]

theorem mask_with {a b : Nat} (hab : a + b ≤ 64) : maskN a b = withN 0 a b 18446744073709551615 := by
  apply Nat.eq_of_testBit_eq
  intro i
  rw [testBit_maskN, testBit_withN, Nat.zero_testBit, show (18446744073709551615 : Nat) = 2 ^ 64 - 1 from by decide, Nat.testBit_two_pow_sub_one]
  by_cases h1 : i < a
  · rw [if_pos h1]; simp; omega
  · rw [if_neg h1]
    by_cases h2 : i < a + b
    · rw [if_pos h2]
      rw [decide_eq_true (by omega : i - a < 64)]
      simp; omega
    · rw [if_neg h2]; simp; omega
theorem WordFields : deadwoodlaw01_WordFields.Pure := by
  intro w n x hw hn hx
  obtain ⟨w, rfl, hw1⟩ := wf_u64 hw
  obtain ⟨n, rfl, hn1⟩ := wf_u64 hn
  obtain ⟨a, b⟩ := x
  obtain ⟨ha, hb⟩ := hx
  have ha1 := wf_i64 ha
  have hb1 := wf_i64 hb
  clear hw hn ha hb
  refine ⟨200, ?_⟩
  dsimp only at *
  unfold deadwoodlaw01_WordFields.f
  by_cases h : 0 ≤ a ∧ 1 ≤ b ∧ a + b ≤ 64
  · obtain ⟨a, rfl⟩ : ∃ a' : Nat, a = a' := ⟨a.toNat, by omega⟩
    obtain ⟨b, rfl⟩ : ∃ b' : Nat, b = b' := ⟨b.toNat, by omega⟩
    have h1 : 1 ≤ b := by omega
    have h2 : a + b ≤ 64 := by omega
    have e1 := refWith_yes (k := 200) (w := 0) (n := 18446744073709551615) (by decide) (by decide) h1 h2 (by decide)
    rw [← mask_with h2] at e1
    have e2 : deadwoodref01_With.f 200 0 (a : Int) (b : Int) 18446744073709551615 = some ((maskN a b : Nat) : Int) := e1
    rw [field_yes hw1 h1 h2, Option.bind_some, refField_yes hw1 h1 h2 (by decide), Option.bind_some, if_pos rfl, with_yes hw1 hn1 h1 h2, Option.bind_some, refWith_yes hw1 hn1 h1 h2 (by decide), Option.bind_some, if_pos rfl, mask_yes h1 h2, Option.bind_some, e2, Option.bind_some, if_pos rfl, lives_yes, Option.bind_some]
  · rw [field_no _ h, Option.bind_some, refField_no 200 _ ha1 hb1 h, Option.bind_some, if_pos rfl, with_no _ _ h, Option.bind_some, refWith_no 200 _ _ ha1 hb1 h, Option.bind_some, if_pos rfl, mask_no h, Option.bind_some, refWith_no 200 _ _ ha1 hb1 h, Option.bind_some, if_pos rfl, lives_yes, Option.bind_some]

end Go.Proofs.Ytdbenonbjklkdaa.Pure
