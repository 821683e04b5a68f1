/- Of any keys that may be just one of two is less, or they are the same; what is less than something less is less; the greater one is one of both, and no less than either; of every three keys, with no condition. -/
import Derived.Test.YtacajonkkfmibaaPOrderTotalx4
import Derived.Test.YtacajonkkfmibaaNum
set_option linter.unusedVariables false
set_option linter.unusedSimpArgs false
namespace Go.Proofs.Ytacajonkkfmibaa.Pure
open Go Go.RowKit Go.Proofs.Ytacajonkkfmibaa.POrderTotal Go.Proofs.YtacajonkkfmibaaW.PrintWords Go.Proofs.YtacajonkkfmibaaW.PrintLast Go.Proofs.YtacajonkkfmibaaW.PrintMore Go.Proofs.Ytacajonkkfmibaa.Num

/-! Fields and words, as the printed functions tell them. -/
theorem may_eq (a b : Int) : word_may.f a b = some (decide (0 ≤ a ∧ a < 64 ∧ 1 ≤ b ∧ b ≤ 64 - a)) := by
  unfold word_may.f
  by_cases h1 : a ≥ 0
  · by_cases h2 : a < 64
    · by_cases h3 : b ≥ 1
      · rw [if_pos h1, if_pos h2, if_pos h3, wrap64_of (by omega) (by omega)]
        congr 1
        apply decide_eq_decide.2
        omega
      · rw [if_pos h1, if_pos h2, if_neg h3]
        congr 1; symm
        exact decide_eq_false (by omega)
    · rw [if_pos h1, if_neg h2]
      congr 1; symm
      exact decide_eq_false (by omega)
  · rw [if_neg h1]
    congr 1; symm
    exact decide_eq_false (by omega)
theorem may_yes {a b : Nat} (hb : 1 ≤ b) (hab : a + b ≤ 64) : word_may.f (a : Int) (b : Int) = some true := by
  rw [may_eq]; congr 1; exact decide_eq_true (by omega)
theorem may_no {a b : Int} (h : ¬ (0 ≤ a ∧ 1 ≤ b ∧ a + b ≤ 64)) : word_may.f a b = some false := by
  rw [may_eq]; congr 1; exact decide_eq_false (by omega)
theorem mask_yes {a b : Nat} (hb : 1 ≤ b) (hab : a + b ≤ 64) : word_Mask.f (a : Int) (b : Int) = some ((maskN a b : Nat) : Int) := by
  unfold word_Mask.f
  rw [may_yes hb hab, Option.bind_some, if_pos rfl, wrap64_of (by omega) (by omega), if_pos (by omega), if_pos (by omega)]
  congr 1
  unfold shl shr
  rw [show ((64 : Int) - (b : Int)).toNat = 64 - b from by omega, show ((a : Nat) : Int).toNat = a from by omega]
  rw [show IntKind.u64.bits = 64 from rfl, Nat.min_eq_left (by omega : 64 - b ≤ 64), Nat.min_eq_left (by omega : a ≤ 64), ← maskN_made hab, u64_wrap_eq]
  rw [show ((2 : Int) ^ (64 - b)) = ((2 ^ (64 - b) : Nat) : Int) from (Int.natCast_pow 2 _).symm, show ((2 : Int) ^ a) = ((2 ^ a : Nat) : Int) from (Int.natCast_pow 2 _).symm]
  generalize 2 ^ (64 - b) = p
  generalize 2 ^ a = q
  rw [Int.natCast_emod, Int.natCast_mul, Int.natCast_ediv]
  rfl
theorem mask_no {a b : Int} (h : ¬ (0 ≤ a ∧ 1 ≤ b ∧ a + b ≤ 64)) : word_Mask.f a b = some 0 := by
  unfold word_Mask.f
  rw [may_no h, Option.bind_some, if_neg (by simp)]

theorem with_yes {w a b n : Nat} (hw : w < 2 ^ 64) (hn : n < 2 ^ 64) (hb : 1 ≤ b) (hab : a + b ≤ 64) : word_With.f (w : Int) (a : Int) (b : Int) (n : Int) = some ((withN w a b n : Nat) : Int) := by
  unfold word_With.f
  rw [may_yes hb hab, Option.bind_some, if_pos rfl, mask_yes hb hab, Option.bind_some, if_pos (by omega)]
  congr 1
  obtain ⟨c, hc, hc1, hc2⟩ := bits_andNot_nat hw (maskN_lt hab)
  have hs : shl .u64 (n : Int) (a : Int) = ((n * 2 ^ a % 2 ^ 64 : Nat) : Int) := by
    unfold shl
    rw [show ((a : Nat) : Int).toNat = a from by omega, show IntKind.u64.bits = 64 from rfl, Nat.min_eq_left (by omega), u64_wrap_eq]
    rw [show ((2 : Int) ^ a) = ((2 ^ a : Nat) : Int) from (Int.natCast_pow 2 _).symm]
    generalize 2 ^ a = q
    rw [Int.natCast_emod, Int.natCast_mul]
    rfl
  have hs1 : n * 2 ^ a % 2 ^ 64 < 2 ^ 64 := Nat.mod_lt _ (by decide)
  rw [hc, hs, bits_and_nat hs1 (maskN_lt hab), bits_or_nat hc1 (Nat.and_lt_two_pow _ (maskN_lt hab)), with_made hw hn hab hc2]
theorem with_no {a b : Int} (w n : Int) (h : ¬ (0 ≤ a ∧ 1 ≤ b ∧ a + b ≤ 64)) : word_With.f w a b n = some w := by
  unfold word_With.f
  rw [may_no h, Option.bind_some, if_neg (by simp)]

theorem turned_yes {w a : Nat} (hw : w < 2 ^ 64) (ha : a < 64) (on : Bool) : word_Turned.f (w : Int) (a : Int) on = some ((withN w a 1 (if on then 1 else 0) : Nat) : Int) := by
  unfold word_Turned.f
  cases on
  · rw [if_neg (by simp), show (1 : Int) = ((1 : Nat) : Int) from rfl, show (0 : Int) = ((0 : Nat) : Int) from rfl, with_yes hw (by decide) (by omega) (by omega), Option.bind_some]
    rfl
  · rw [if_pos rfl, show (1 : Int) = ((1 : Nat) : Int) from rfl, with_yes hw (by decide) (by omega) (by omega), Option.bind_some]
    rfl

theorem wf_u64 {x : Int} (h : (Lit.int .u64 x).wf = true) : ∃ n : Nat, x = (n : Int) ∧ n < 2 ^ 64 := by
  have h' : 0 ≤ x ∧ x ≤ 18446744073709551615 := by simpa [Lit.wf, IntKind.min, IntKind.max, IntKind.signed, IntKind.bits] using h
  exact ⟨x.toNat, by omega, by omega⟩
theorem wf_i64 {x : Int} (h : (Lit.int .i64 x).wf = true) : -9223372036854775808 ≤ x ∧ x ≤ 9223372036854775807 := by
  simpa [Lit.wf, IntKind.min, IntKind.max, IntKind.signed, IntKind.bits] using h
theorem xor_high {n : Nat} (h : n < 2 ^ 64) : Go.bits .xor .u64 (n : Int) 9223372036854775808 = (((n + 9223372036854775808) % 18446744073709551616 : Nat) : Int) := by
  have hx := bits_xor_nat (b := 9223372036854775808) h (by decide)
  simp only [Int.cast_ofNat_Int] at hx
  rw [hx]
  refine congrArg _ ?_
  apply Nat.eq_of_testBit_eq
  intro i
  rw [Nat.testBit_xor, show (9223372036854775808 : Nat) = 2 ^ 63 from by decide, show (18446744073709551616 : Nat) = 2 ^ 64 from by decide, Nat.testBit_mod_two_pow, Nat.testBit_two_pow]
  by_cases hi : i < 64
  · by_cases h63 : i = 63
    · subst h63
      rw [Nat.testBit_eq_decide_div_mod_eq, Nat.testBit_eq_decide_div_mod_eq]
      have h1 : (n + 2 ^ 63) / 2 ^ 63 = n / 2 ^ 63 + 1 := by omega
      rw [h1]
      have h2 : n / 2 ^ 63 < 2 := by omega
      by_cases h3 : n / 2 ^ 63 = 1
      · simp [h3]
      · have : n / 2 ^ 63 = 0 := by omega
        simp [this]
    · have h1 : (2 ^ 63 + n).testBit i = n.testBit i := Nat.testBit_two_pow_add_gt (by omega) n
      rw [Nat.add_comm, h1]
      have : ¬ 63 = i := fun h => h63 h.symm
      simp [hi, this]
  · have : ¬ 63 = i := by omega
    have h2 := lt64 h (by omega : 64 ≤ i)
    simp [hi, this, h2]

def cmpN (a b c d : Int) : Int := if a < c then -1 else if a > c then 1 else if b < d then -1 else if b > d then 1 else 0
def sg (x y : Int) : Int := if x < y then -1 else if x > y then 1 else 0
theorem compare_eq (x y : Int) : cmp_Compare_int.f x y = some (sg x y) := by
  unfold cmp_Compare_int.f cmp_isNaN_int.f sg
  rw [bne_self_eq_false, bne_self_eq_false, Option.bind_some, Option.bind_some, if_neg (by decide), if_neg (by decide)]
  split
  · rfl
  · split <;> rfl
theorem compare64_eq (x y : Int) : cmp_Compare_int64.f x y = some (sg x y) := by
  unfold cmp_Compare_int64.f cmp_isNaN_int64.f sg
  rw [bne_self_eq_false, bne_self_eq_false, Option.bind_some, Option.bind_some, if_neg (by decide), if_neg (by decide)]
  split
  · rfl
  · split <;> rfl
theorem or_eq (k : Nat) (p q : Int) : cmp_Or_int.f (k + 3) [p, q] = some (if p = 0 then q else p) := by
  unfold cmp_Or_int.f
  have h1 : wrap64 (0 + 1) = 1 := by unfold wrap64; omega
  have h2 : wrap64 (1 + 1) = 2 := by unfold wrap64; omega
  have r0 : rd [p, q] 0 = p := rfl
  have r1 : rd [p, q] 1 = q := rfl
  have hl : (([p, q] : List Int).length : Int) = 2 := rfl
  rw [hl]
  simp only [cmp_Or_int.l0]
  rw [if_pos (by decide), if_pos (by decide), if_pos (by simp), r0, h1]
  by_cases hp : p = 0
  · rw [if_pos hp, if_pos hp, if_pos (by decide), if_pos (by decide), if_pos (by simp), r1, h2]
    by_cases hq : q = 0
    · rw [if_pos hq, if_neg (by decide), hq]
    · rw [if_neg hq]
  · rw [if_neg hp, if_neg hp]
theorem ocmp_eq (k : Nat) (a b c d : Int) : order_Cmp.f (k + 3) a b c d = some (cmpN a b c d) := by
  unfold order_Cmp.f
  by_cases h : (a == c && b == d) = true
  · rw [if_pos h]
    simp only [Bool.and_eq_true, beq_iff_eq] at h
    unfold cmpN
    rw [if_neg (by omega), if_neg (by omega), if_neg (by omega), if_neg (by omega)]
  · rw [if_neg h, compare_eq, Option.bind_some, compare64_eq, Option.bind_some, or_eq, Option.bind_some]
    refine congrArg some ?_
    unfold sg cmpN
    (repeat' split) <;> omega
theorem oless_eq (k : Nat) (a b c d : Int) : order_Less.f (k + 3) a b c d = some (decide (cmpN a b c d < 0)) := by
  unfold order_Less.f
  rw [ocmp_eq, Option.bind_some]
theorem cmpN_neg {a b c d : Int} : cmpN a b c d < 0 ↔ a < c ∨ a = c ∧ b < d := by
  unfold cmpN
  (repeat' split) <;> omega

theorem info_eq {c : Int} (k : Nat) (leaf : Bool) (hc : -9223372036854775808 ≤ c ∧ c ≤ 9223372036854775807) : order_Info.f (k + 1) leaf c = some (if 0 ≤ c ∧ c ≤ 3 then 2 * c + (if leaf then 1 else 0) else 0) := by
  unfold order_Info.f
  by_cases h1 : c < 0
  · rw [if_pos h1, if_neg (by omega)]
    simp only [order_Info.j0]
    rw [if_true]
  · rw [if_neg h1]
    by_cases h2 : c > 3
    · rw [decide_eq_true h2, if_neg (by omega)]
      simp only [order_Info.j0]
      rw [if_true]
    · rw [decide_eq_false h2, if_pos (by omega)]
      simp only [order_Info.j0]
      obtain ⟨n, rfl⟩ : ∃ n : Nat, c = n := ⟨c.toNat, by omega⟩
      have hw : IntKind.u64.wrap (n : Int) = n := u64_wrap_of (by omega) (by omega)
      have h3 := with_yes (w := 0) (a := 1) (b := 2) (n := n) (by decide) (by omega) (by decide) (by decide)
      have e3 : withN 0 1 2 n = 2 * n := by
        show 0 / 2 ^ 3 * 2 ^ 3 + (n % 2 ^ 2) * 2 ^ 1 + 0 % 2 ^ 1 = _
        omega
      rw [e3] at h3
      have h4 := turned_yes (w := 2 * n) (a := 0) (by omega) (by decide) leaf
      have e4 : withN (2 * n) 0 1 (if leaf then 1 else 0) = 2 * n + (if leaf then 1 else 0) := by
        show (2 * n) / 2 ^ 1 * 2 ^ 1 + ((if leaf then 1 else 0) % 2 ^ 1) * 2 ^ 0 + (2 * n) % 2 ^ 0 = _
        cases leaf <;> simp <;> omega
      rw [e4] at h4
      rw [if_neg (by decide), hw, show word_With.f 0 1 2 (n : Int) = _ from h3, Option.bind_some, show word_Turned.f ((2 * n : Nat) : Int) 0 leaf = _ from h4, Option.bind_some]
      refine congrArg some ?_
      cases leaf <;> simp
theorem lives_yes (k : Nat) : deadwoodlaw02_lives.f (k + 3) = some true := by
  have h1 : order_User.f 5 = some (0, 5) := rfl
  have h2 : order_Top.f 1 = some (1, 0) := rfl
  have h3 : order_Top.f 3 = some (3, 0) := rfl
  have h4 := oless_eq k 0 5 1 0
  have h5 := oless_eq k 1 0 3 0
  have h6 := info_eq (c := 2) (k + 2) true (by decide)
  have h4' : order_Less.f (k + 3) 0 5 1 0 = some true := by rw [h4]; rfl
  have h5' : order_Less.f (k + 3) 1 0 3 0 = some true := by rw [h5]; rfl
  have h6' : order_Info.f (k + 3) true 2 = some 5 := by rw [h6]; rfl
  unfold deadwoodlaw02_lives.f
  rw [h1, Option.bind_some, h2, Option.bind_some, h4', Option.bind_some, if_pos rfl, Option.bind_some, h3, Option.bind_some, h5', Option.bind_some, if_pos rfl, h6', Option.bind_some]
  rfl

theorem right_eq (c n : Int) : order_Right.f c n = some (decide (c = 0 ∨ 0 < c ∧ c < 4 ∧ n = 0)) := by
  unfold order_Right.f
  by_cases h1 : c ≥ 0
  · rw [if_pos h1]
    by_cases h2 : c ≤ 3
    · rw [if_pos h2]
      by_cases h3 : c = 0
      · rw [if_pos h3]; exact congrArg some (decide_eq_true (by omega)).symm
      · rw [if_neg h3]
        refine congrArg some ?_
        by_cases h4 : n = 0
        · rw [decide_eq_true (by omega), beq_iff_eq]; exact h4
        · rw [decide_eq_false (by omega), beq_eq_false_iff_ne]; exact h4
    · rw [if_neg h2]; exact congrArg some (decide_eq_false (by omega)).symm
  · rw [if_neg h1]; exact congrArg some (decide_eq_false (by omega)).symm
theorem oless_true {k : Nat} {a b c d : Int} (h : a < c ∨ a = c ∧ b < d) : order_Less.f (k + 3) a b c d = some true := by
  rw [oless_eq]; exact congrArg some (decide_eq_true (cmpN_neg.2 h))
theorem oless_false {k : Nat} {a b c d : Int} (h : ¬ (a < c ∨ a = c ∧ b < d)) : order_Less.f (k + 3) a b c d = some false := by
  rw [oless_eq]; exact congrArg some (decide_eq_false (fun e => h (cmpN_neg.1 e)))
theorem side_true {k : Nat} {a b c d : Int} (h : a < c ∨ a = c ∧ b < d) : order_Side.f (k + 3) a b c d = some 0 := by
  unfold order_Side.f
  rw [oless_true h, Option.bind_some, if_pos rfl]
theorem side_false {k : Nat} {a b c d : Int} (h : ¬ (a < c ∨ a = c ∧ b < d)) : order_Side.f (k + 3) a b c d = some 1 := by
  unfold order_Side.f
  rw [oless_false h, Option.bind_some, if_neg (by decide)]
theorem same_iff (a b c d : Int) : ((!(a == c) || !(b == d)) = true) ↔ ¬ (a = c ∧ b = d) := by
  by_cases h1 : a = c <;> by_cases h2 : b = d <;> simp [h1, h2]
theorem third {k : Nat} (a b c d : Int) : deadwoodlaw02_OrderTotal.j2 (k + 4) false a b c d = some true := by
  rw [deadwoodlaw02_OrderTotal.j2, if_neg (by decide)]
  unfold order_Max.f
  by_cases h : a < c ∨ a = c ∧ b < d
  · have hn : ¬ (c == a && d == b) = true := by simp only [Bool.and_eq_true, beq_iff_eq]; omega
    rw [oless_true h, Option.bind_some, if_pos rfl, Option.bind_some]
    dsimp only
    rw [if_neg hn, if_pos (by simp), oless_false (by omega), Option.bind_some, if_neg (by decide), oless_false (by omega), Option.bind_some, if_neg (by decide), side_true h, Option.bind_some,
      if_pos ((same_iff a b c d).2 (by omega)), side_false (by omega), Option.bind_some, if_pos (by decide), lives_yes, Option.bind_some]
  · rw [oless_false h, Option.bind_some, if_neg (by decide), Option.bind_some]
    dsimp only
    rw [if_pos (by simp), oless_false (by omega), Option.bind_some, if_neg (by decide), oless_false h, Option.bind_some, if_neg (by decide), side_false h, Option.bind_some]
    by_cases e : a = c ∧ b = d
    · rw [if_neg (fun q => (same_iff a b c d).1 q e), if_pos (by decide), lives_yes, Option.bind_some]
    · rw [if_pos ((same_iff a b c d).2 e), side_true (by omega), Option.bind_some, if_pos (by decide), lives_yes, Option.bind_some]
theorem second {k : Nat} (a b c d e f : Int) : deadwoodlaw02_OrderTotal.j1 (k + 5) false a b c d e f = some true := by
  rw [deadwoodlaw02_OrderTotal.j1, if_neg (by decide)]
  by_cases h : a < c ∨ a = c ∧ b < d
  · rw [oless_true h, Option.bind_some, if_pos rfl]
    by_cases g : c < e ∨ c = e ∧ d < f
    · rw [oless_true g, Option.bind_some, if_pos rfl, oless_true (by omega), Option.bind_some]
      exact third a b c d
    · rw [oless_false g, Option.bind_some, if_neg (by decide)]
      exact third a b c d
  · rw [oless_false h, Option.bind_some, if_neg (by decide)]
    exact third a b c d
theorem cmp_back (a b c d : Int) : cmpN a b c d = wrap64 (-cmpN c d a b) := by
  unfold cmpN wrap64
  (repeat' split) <;> omega
theorem cmp_same (a b c d : Int) : ((cmpN a b c d == 0) != (a == c && b == d)) = false := by
  by_cases h : a = c ∧ b = d
  · obtain ⟨rfl, rfl⟩ := h
    unfold cmpN
    simp
  · have h1 : (a == c && b == d) = false := by
      by_cases h2 : a = c <;> simp_all
    have h3 : (cmpN a b c d == 0) = false := by
      rw [beq_eq_false_iff_ne]
      unfold cmpN
      (repeat' split) <;> omega
    rw [h1, h3]; rfl
theorem first_ok {k : Nat} (q : Bool) (a b c d e f : Int) : deadwoodlaw02_OrderTotal.j0 (k + 6) q a b c d e f = some true := by
  rw [deadwoodlaw02_OrderTotal.j0]
  cases q
  · rw [if_neg (by decide), ocmp_eq, Option.bind_some, ocmp_eq, Option.bind_some, if_pos (cmp_back a b c d), Option.bind_some, cmp_same]
    exact second a b c d e f
  · rw [if_pos rfl, lives_yes, Option.bind_some]
theorem OrderTotal : deadwoodlaw02_OrderTotal.Pure := by
  intro x y z hx hy hz
  refine ⟨6, ?_⟩
  unfold deadwoodlaw02_OrderTotal.f
  rw [right_eq, Option.bind_some, right_eq, Option.bind_some, right_eq, Option.bind_some]
  split
  · split
    · exact first_ok _ _ _ _ _ _ _
    · exact first_ok _ _ _ _ _ _ _
  · exact first_ok _ _ _ _ _ _ _

end Go.Proofs.Ytacajonkkfmibaa.Pure
