/- The parts of any edge, and whether it is plain, are the document's; of every word, with no condition. -/
import Derived.Test.YtdbenonbjklkdaaPEdgePartsx2
import Derived.Test.YtdbenonbjklkdaaNum
set_option linter.unusedVariables false
set_option linter.unusedSimpArgs false
namespace Go.Proofs.Ytdbenonbjklkdaa.Pure
open Go Go.RowKit Go.Proofs.Ytdbenonbjklkdaa.PEdgeParts Go.Proofs.YtdbenonbjklkdaaW.PrintWords Go.Proofs.YtdbenonbjklkdaaW.PrintLast Go.Proofs.YtdbenonbjklkdaaW.PrintMore Go.Proofs.Ytdbenonbjklkdaa.Num

/-! Fields and words, as the printed functions tell them. -/
theorem may_eq (a b : Int) : word_may.f a b = some (decide (0 ≤ a ∧ a < 64 ∧ 1 ≤ b ∧ b ≤ 64 - a)) := by
  unfold word_may.f
  by_cases h1 : a ≥ 0
  · by_cases h2 : a < 64
    · by_cases h3 : b ≥ 1
      · rw [if_pos h1, if_pos h2, if_pos h3, wrap64_of (by omega) (by omega)]
        congr 1
        apply decide_eq_decide.2
        omega
      · rw [if_pos h1, if_pos h2, if_neg h3]
        congr 1; symm
        exact decide_eq_false (by omega)
    · rw [if_pos h1, if_neg h2]
      congr 1; symm
      exact decide_eq_false (by omega)
  · rw [if_neg h1]
    congr 1; symm
    exact decide_eq_false (by omega)
theorem may_yes {a b : Nat} (hb : 1 ≤ b) (hab : a + b ≤ 64) : word_may.f (a : Int) (b : Int) = some true := by
  rw [may_eq]; congr 1; exact decide_eq_true (by omega)
theorem may_no {a b : Int} (h : ¬ (0 ≤ a ∧ 1 ≤ b ∧ a + b ≤ 64)) : word_may.f a b = some false := by
  rw [may_eq]; congr 1; exact decide_eq_false (by omega)
theorem mask_yes {a b : Nat} (hb : 1 ≤ b) (hab : a + b ≤ 64) : word_Mask.f (a : Int) (b : Int) = some ((maskN a b : Nat) : Int) := by
  unfold word_Mask.f
  rw [may_yes hb hab, Option.bind_some, if_pos rfl, wrap64_of (by omega) (by omega), if_pos (by omega), if_pos (by omega)]
  congr 1
  unfold shl shr
  rw [show ((64 : Int) - (b : Int)).toNat = 64 - b from by omega, show ((a : Nat) : Int).toNat = a from by omega]
  rw [show IntKind.u64.bits = 64 from rfl, Nat.min_eq_left (by omega : 64 - b ≤ 64), Nat.min_eq_left (by omega : a ≤ 64), ← maskN_made hab, u64_wrap_eq]
  rw [show ((2 : Int) ^ (64 - b)) = ((2 ^ (64 - b) : Nat) : Int) from (Int.natCast_pow 2 _).symm, show ((2 : Int) ^ a) = ((2 ^ a : Nat) : Int) from (Int.natCast_pow 2 _).symm]
  generalize 2 ^ (64 - b) = p
  generalize 2 ^ a = q
  rw [Int.natCast_emod, Int.natCast_mul, Int.natCast_ediv]
  rfl
theorem mask_no {a b : Int} (h : ¬ (0 ≤ a ∧ 1 ≤ b ∧ a + b ≤ 64)) : word_Mask.f a b = some 0 := by
  unfold word_Mask.f
  rw [may_no h, Option.bind_some, if_neg (by simp)]

theorem with_yes {w a b n : Nat} (hw : w < 2 ^ 64) (hn : n < 2 ^ 64) (hb : 1 ≤ b) (hab : a + b ≤ 64) : word_With.f (w : Int) (a : Int) (b : Int) (n : Int) = some ((withN w a b n : Nat) : Int) := by
  unfold word_With.f
  rw [may_yes hb hab, Option.bind_some, if_pos rfl, mask_yes hb hab, Option.bind_some, if_pos (by omega)]
  congr 1
  obtain ⟨c, hc, hc1, hc2⟩ := bits_andNot_nat hw (maskN_lt hab)
  have hs : shl .u64 (n : Int) (a : Int) = ((n * 2 ^ a % 2 ^ 64 : Nat) : Int) := by
    unfold shl
    rw [show ((a : Nat) : Int).toNat = a from by omega, show IntKind.u64.bits = 64 from rfl, Nat.min_eq_left (by omega), u64_wrap_eq]
    rw [show ((2 : Int) ^ a) = ((2 ^ a : Nat) : Int) from (Int.natCast_pow 2 _).symm]
    generalize 2 ^ a = q
    rw [Int.natCast_emod, Int.natCast_mul]
    rfl
  have hs1 : n * 2 ^ a % 2 ^ 64 < 2 ^ 64 := Nat.mod_lt _ (by decide)
  rw [hc, hs, bits_and_nat hs1 (maskN_lt hab), bits_or_nat hc1 (Nat.and_lt_two_pow _ (maskN_lt hab)), with_made hw hn hab hc2]
theorem with_no {a b : Int} (w n : Int) (h : ¬ (0 ≤ a ∧ 1 ≤ b ∧ a + b ≤ 64)) : word_With.f w a b n = some w := by
  unfold word_With.f
  rw [may_no h, Option.bind_some, if_neg (by simp)]

theorem field_yes {w a b : Nat} (hw : w < 2 ^ 64) (hb : 1 ≤ b) (hab : a + b ≤ 64) : word_Field.f (w : Int) (a : Int) (b : Int) = some ((fieldN w a b : Nat) : Int) := by
  unfold word_Field.f
  rw [may_yes hb hab, Option.bind_some, if_pos rfl, mask_yes hb hab, Option.bind_some, if_pos (by omega)]
  congr 1
  unfold shr
  rw [bits_and_nat hw (maskN_lt hab), show ((a : Nat) : Int).toNat = a from by omega, show IntKind.u64.bits = 64 from rfl, Nat.min_eq_left (by omega), ← field_made hw hab]
  rw [show ((2 : Int) ^ a) = ((2 ^ a : Nat) : Int) from (Int.natCast_pow 2 _).symm, Int.natCast_ediv]
theorem field_no {a b : Int} (w : Int) (h : ¬ (0 ≤ a ∧ 1 ≤ b ∧ a + b ≤ 64)) : word_Field.f w a b = some 0 := by
  unfold word_Field.f
  rw [may_no h, Option.bind_some, if_neg (by simp)]

theorem bit_yes {w a : Nat} (hw : w < 2 ^ 64) (ha : a < 64) : word_Bit.f (w : Int) (a : Int) = some (decide (w / 2 ^ a % 2 = 1)) := by
  unfold word_Bit.f
  rw [show (1 : Int) = ((1 : Nat) : Int) from rfl, field_yes hw (by omega) (by omega), Option.bind_some]
  unfold fieldN
  congr 1
  by_cases h : w / 2 ^ a % 2 = 1
  · rw [decide_eq_true h, Nat.pow_one, h]; rfl
  · rw [decide_eq_false h, Nat.pow_one]
    have h' : w / 2 ^ a % 2 = 0 := by omega
    rw [h']; rfl

theorem turned_yes {w a : Nat} (hw : w < 2 ^ 64) (ha : a < 64) (on : Bool) : word_Turned.f (w : Int) (a : Int) on = some ((withN w a 1 (if on then 1 else 0) : Nat) : Int) := by
  unfold word_Turned.f
  cases on
  · rw [if_neg (by simp), show (1 : Int) = ((1 : Nat) : Int) from rfl, show (0 : Int) = ((0 : Nat) : Int) from rfl, with_yes hw (by decide) (by omega) (by omega), Option.bind_some]
    rfl
  · rw [if_pos rfl, show (1 : Int) = ((1 : Nat) : Int) from rfl, with_yes hw (by decide) (by omega) (by omega), Option.bind_some]
    rfl

theorem wf_u64 {x : Int} (h : (Lit.int .u64 x).wf = true) : ∃ n : Nat, x = (n : Int) ∧ n < 2 ^ 64 := by
  have h' : 0 ≤ x ∧ x ≤ 18446744073709551615 := by simpa [Lit.wf, IntKind.min, IntKind.max, IntKind.signed, IntKind.bits] using h
  exact ⟨x.toNat, by omega, by omega⟩
theorem wf_i64 {x : Int} (h : (Lit.int .i64 x).wf = true) : -9223372036854775808 ≤ x ∧ x ≤ 9223372036854775807 := by
  simpa [Lit.wf, IntKind.min, IntKind.max, IntKind.signed, IntKind.bits] using h
theorem xor_high {n : Nat} (h : n < 2 ^ 64) : Go.bits .xor .u64 (n : Int) 9223372036854775808 = (((n + 9223372036854775808) % 18446744073709551616 : Nat) : Int) := by
  have hx := bits_xor_nat (b := 9223372036854775808) h (by decide)
  simp only [Int.cast_ofNat_Int] at hx
  rw [hx]
  refine congrArg _ ?_
  apply Nat.eq_of_testBit_eq
  intro i
  rw [Nat.testBit_xor, show (9223372036854775808 : Nat) = 2 ^ 63 from by decide, show (18446744073709551616 : Nat) = 2 ^ 64 from by decide, Nat.testBit_mod_two_pow, Nat.testBit_two_pow]
  by_cases hi : i < 64
  · by_cases h63 : i = 63
    · subst h63
      rw [Nat.testBit_eq_decide_div_mod_eq, Nat.testBit_eq_decide_div_mod_eq]
      have h1 : (n + 2 ^ 63) / 2 ^ 63 = n / 2 ^ 63 + 1 := by omega
      rw [h1]
      have h2 : n / 2 ^ 63 < 2 := by omega
      by_cases h3 : n / 2 ^ 63 = 1
      · simp [h3]
      · have : n / 2 ^ 63 = 0 := by omega
        simp [this]
    · have h1 : (2 ^ 63 + n).testBit i = n.testBit i := Nat.testBit_two_pow_add_gt (by omega) n
      rw [Nat.add_comm, h1]
      have : ¬ 63 = i := fun h => h63 h.symm
      simp [hi, this]
  · have : ¬ 63 = i := by omega
    have h2 := lt64 h (by omega : 64 ≤ i)
    simp [hi, this, h2]

theorem slot_eq {w : Nat} (hw : w < 2 ^ 64) : edge_Edge_Slot.f (w : Int) = some ((w % 4096 : Nat) : Int) := by
  have h := field_yes (a := 0) (b := 12) hw (by decide) (by decide)
  unfold edge_Edge_Slot.f
  rw [show word_Field.f (w : Int) 0 12 = _ from h, Option.bind_some]
  refine congrArg some ?_
  rw [field_zero, wrap64_of] <;> omega
theorem gen_eq {w : Nat} (hw : w < 2 ^ 64) : edge_Edge_Gen.f (w : Int) = some ((w / 4096 % 1125899906842624 : Nat) : Int) := by
  have h := field_yes (a := 12) (b := 50) hw (by decide) (by decide)
  unfold edge_Edge_Gen.f
  rw [show word_Field.f (w : Int) 12 50 = _ from h, Option.bind_some]
  rfl
theorem flag_eq {w : Nat} (hw : w < 2 ^ 64) : edge_Edge_Flag.f (w : Int) = some (decide (w / 4611686018427387904 % 2 = 1)) := by
  have h := bit_yes (a := 62) hw (by decide)
  unfold edge_Edge_Flag.f
  rw [show word_Bit.f (w : Int) 62 = _ from h, Option.bind_some]
theorem tag_eq {w : Nat} (hw : w < 2 ^ 64) : edge_Edge_Tag.f (w : Int) = some (decide (9223372036854775808 ≤ w)) := by
  have h := bit_yes (a := 63) hw (by decide)
  unfold edge_Edge_Tag.f
  rw [show word_Bit.f (w : Int) 63 = _ from h, Option.bind_some]
  refine congrArg some (decide_eq_decide.2 ?_)
  have : w / 2 ^ 63 < 2 := by omega
  omega
theorem node_eq {w : Nat} (hw : w < 2 ^ 64) : edge_Edge_Node.f (w : Int) = some ((w % 4611686018427387904 : Nat) : Int) := by
  have h := field_yes (a := 0) (b := 62) hw (by decide) (by decide)
  unfold edge_Edge_Node.f
  rw [show word_Field.f (w : Int) 0 62 = _ from h, Option.bind_some, field_zero]

theorem flagged_eq {w : Nat} (hw : w < 2 ^ 64) : edge_Edge_Flagged.f (w : Int) = some ((w / 9223372036854775808 * 9223372036854775808 + 4611686018427387904 + w % 4611686018427387904 : Nat) : Int) := by
  have h := turned_yes (a := 62) hw (by decide) true
  unfold edge_Edge_Flagged.f
  rw [show word_Turned.f (w : Int) 62 true = _ from h, Option.bind_some]
  rfl

theorem make_eq {s : Int} {g : Nat} (hs : -9223372036854775808 ≤ s ∧ s ≤ 9223372036854775807) (hg : g < 2 ^ 64) :
    edge_Make.f s (g : Int) = some (((if 0 ≤ s ∧ s ≤ 4095 then s.toNat else 0) + 4096 * (g % 1125899906842624) : Nat) : Int) := by
  have key : ∀ t : Nat, t < 4096 → word_With.f (t : Int) 12 50 (g : Int) = some ((t + 4096 * (g % 1125899906842624) : Nat) : Int) := by
    intro t ht
    have h := with_yes (w := t) (a := 12) (b := 50) (by omega) hg (by decide) (by decide)
    rw [show word_With.f (t : Int) 12 50 (g : Int) = _ from h]
    refine congrArg some (congrArg _ ?_)
    show t / 2 ^ 62 * 2 ^ 62 + (g % 2 ^ 50) * 2 ^ 12 + t % 2 ^ 12 = _
    omega
  unfold edge_Make.f
  by_cases h1 : s < 0
  · have h := key 0 (by decide)
    rw [if_pos h1, if_neg (by omega), show word_With.f 0 12 50 (g : Int) = _ from h, Option.bind_some]
  · by_cases h2 : s > 4095
    · have h := key 0 (by decide)
      rw [if_neg h1, if_pos h2, if_neg (by omega), show word_With.f 0 12 50 (g : Int) = _ from h, Option.bind_some]
    · have h := key s.toNat (by omega)
      rw [if_neg h1, if_neg h2, if_pos (by omega), u64_wrap_of (by omega) (by omega)]
      rw [show ((s.toNat : Nat) : Int) = s from by omega] at h
      rw [h, Option.bind_some]

theorem lives_yes : deadwoodlaw03_lives.f = some true := by
  have h1 : edge_Make.f 3 1 = some 4099 := make_eq (s := 3) (g := 1) (by decide) (by decide)
  have h2 : edge_Edge_Flagged.f 4099 = some 4611686018427392003 := flagged_eq (w := 4099) (by decide)
  unfold deadwoodlaw03_lives.f
  rw [h1, Option.bind_some, if_pos rfl, Option.bind_some, h2, Option.bind_some]
  rfl

theorem put_eq {s g : Nat} (hs : s < 4096) (hg : g < 1125899906842624) (fl tg : Bool) :
    deadwoodref03_Put.f (s : Int) (g : Int) fl tg = some ((s + 4096 * g + (if fl then 4611686018427387904 else 0) + (if tg then 9223372036854775808 else 0) : Nat) : Int) := by
  unfold deadwoodref03_Put.f
  have h1 : IntKind.u64.wrap (s : Int) = s := u64_wrap_of (by omega) (by omega)
  have h2 : IntKind.u64.wrap (4096 * (g : Int)) = 4096 * g := u64_wrap_of (by omega) (by omega)
  have h3 : IntKind.u64.wrap ((s : Int) + 4096 * g) = s + 4096 * g := u64_wrap_of (by omega) (by omega)
  have h4 : IntKind.u64.wrap ((s : Int) + 4096 * g + 4611686018427387904) = s + 4096 * g + 4611686018427387904 := u64_wrap_of (by omega) (by omega)
  have h5 : IntKind.u64.wrap ((s : Int) + 4096 * g + 9223372036854775808) = s + 4096 * g + 9223372036854775808 := u64_wrap_of (by omega) (by omega)
  have h6 : IntKind.u64.wrap ((s : Int) + 4096 * g + 4611686018427387904 + 9223372036854775808) = s + 4096 * g + 4611686018427387904 + 9223372036854775808 := u64_wrap_of (by omega) (by omega)
  rw [h1, h2, h3, h4, h5, h6]
  cases fl <;> cases tg <;> simp <;> omega

theorem read_eq {w : Nat} (hw : w < 2 ^ 64) : deadwoodref03_Read.f (w : Int) = some (((w % 4096 : Nat) : Int), ((w / 4096 % 1125899906842624 : Nat) : Int), decide (w / 4611686018427387904 % 2 = 1), decide (9223372036854775808 ≤ w)) := by
  unfold deadwoodref03_Read.f
  rw [Int.tmod_eq_emod_of_nonneg (by omega), Int.tdiv_eq_ediv_of_nonneg (by omega), Int.tdiv_eq_ediv_of_nonneg (by omega)]
  have h1 : wrap64 ((w : Int) % 4096) = ((w % 4096 : Nat) : Int) := by rw [wrap64_of] <;> omega
  have h2 : IntKind.u64.wrap ((w : Int) / 4096) = ((w / 4096 : Nat) : Int) := by rw [u64_wrap_of] <;> omega
  have h3 : IntKind.u64.wrap ((w : Int) / 4611686018427387904) = ((w / 4611686018427387904 : Nat) : Int) := by rw [u64_wrap_of] <;> omega
  rw [h1, h2, h3, Int.tmod_eq_emod_of_nonneg (by omega), Int.tmod_eq_emod_of_nonneg (by omega)]
  have h4 : ((w / 4096 : Nat) : Int) % 1125899906842624 = ((w / 4096 % 1125899906842624 : Nat) : Int) := by omega
  have h5 : ((((w / 4611686018427387904 : Nat) : Int) % 2) == 1) = decide (w / 4611686018427387904 % 2 = 1) := by
    by_cases h : w / 4611686018427387904 % 2 = 1
    · rw [decide_eq_true h, beq_iff_eq]; omega
    · rw [decide_eq_false h, beq_eq_false_iff_ne]; omega
  have h6 : decide ((w : Int) ≥ 9223372036854775808) = decide (9223372036854775808 ≤ w) := decide_eq_decide.2 (by omega)
  rw [h4, h5, h6]

theorem plain_eq {w : Nat} (hw : w < 2 ^ 64) : edge_Edge_Plain.f (w : Int) = some (decide (w < 4611686018427387904)) := by
  unfold edge_Edge_Plain.f
  rw [node_eq hw, Option.bind_some]
  refine congrArg some ?_
  by_cases h : w < 4611686018427387904
  · rw [decide_eq_true h, beq_iff_eq]; omega
  · rw [decide_eq_false h, beq_eq_false_iff_ne]; omega
theorem EdgeParts : deadwoodlaw03_EdgeParts.Pure := by
  intro w hw
  obtain ⟨w, rfl, hw1⟩ := wf_u64 hw
  clear hw
  have hput := put_eq (s := w % 4096) (g := w / 4096 % 1125899906842624) (by omega) (by omega) false false
  have hnode : (w % 4096 + 4096 * (w / 4096 % 1125899906842624) + (if false then 4611686018427387904 else 0) + (if false then 9223372036854775808 else 0)) = w % 4611686018427387904 := by simp; omega
  rw [hnode] at hput
  have hs := slot_eq hw1
  have hg := gen_eq hw1
  have hf := flag_eq hw1
  have ht := tag_eq hw1
  have hn := node_eq hw1
  have hp := plain_eq hw1
  have hr := read_eq hw1
  unfold deadwoodlaw03_EdgeParts.f
  rw [hr, Option.bind_some, hs, Option.bind_some, if_pos rfl, hg, Option.bind_some, if_pos rfl, hf, Option.bind_some, if_pos (beq_self_eq_true _), ht, Option.bind_some, if_pos (beq_self_eq_true _), hp, Option.bind_some, hn, hput, lives_yes]
  simp only [Option.bind_some, if_true]
  by_cases h1 : w / 4611686018427387904 % 2 = 1
  · have h2 : (decide (w < 4611686018427387904) == false) = true := by rw [beq_iff_eq]; exact decide_eq_false (by omega)
    rw [if_pos (decide_eq_true h1), if_pos h2]
  · have h2 : (decide (w < 4611686018427387904) == !decide (9223372036854775808 ≤ w)) = true := by
      rw [beq_iff_eq]
      by_cases h3 : 9223372036854775808 ≤ w
      · rw [decide_eq_true h3, decide_eq_false (by omega)]; rfl
      · rw [decide_eq_false h3, decide_eq_true (by omega)]; rfl
    rw [if_neg (by rw [decide_eq_false h1]; simp), if_pos h2]

end Go.Proofs.Ytdbenonbjklkdaa.Pure
