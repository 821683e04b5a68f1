/- What is announced is read; a head that was changed is another one, of the slot that was told; of two stamps in one bag the elder one is old at the later one; of every head, two epochs and slot, with no condition. -/
import Derived.Test.YtdbenonbjklkdaaPBadgeBackx2
import Derived.Test.YtdbenonbjklkdaaNum
set_option linter.unusedVariables false
set_option linter.unusedSimpArgs false
namespace Go.Proofs.Ytdbenonbjklkdaa.Pure
open Go Go.RowKit Go.Proofs.Ytdbenonbjklkdaa.PBadgeBack Go.Proofs.YtdbenonbjklkdaaW.PrintWords Go.Proofs.YtdbenonbjklkdaaW.PrintLast Go.Proofs.YtdbenonbjklkdaaW.PrintMore Go.Proofs.Ytdbenonbjklkdaa.Num

/-! Fields and words, as the printed functions tell them. -/
theorem may_eq (a b : Int) : word_may.f a b = some (decide (0 ≤ a ∧ a < 64 ∧ 1 ≤ b ∧ b ≤ 64 - a)) := by
  unfold word_may.f
  by_cases h1 : a ≥ 0
  · by_cases h2 : a < 64
    · by_cases h3 : b ≥ 1
      · rw [if_pos h1, if_pos h2, if_pos h3, wrap64_of (by omega) (by omega)]
        congr 1
        apply decide_eq_decide.2
        omega
      · rw [if_pos h1, if_pos h2, if_neg h3]
        congr 1; symm
        exact decide_eq_false (by omega)
    · rw [if_pos h1, if_neg h2]
      congr 1; symm
      exact decide_eq_false (by omega)
  · rw [if_neg h1]
    congr 1; symm
    exact decide_eq_false (by omega)
theorem may_yes {a b : Nat} (hb : 1 ≤ b) (hab : a + b ≤ 64) : word_may.f (a : Int) (b : Int) = some true := by
  rw [may_eq]; congr 1; exact decide_eq_true (by omega)
theorem may_no {a b : Int} (h : ¬ (0 ≤ a ∧ 1 ≤ b ∧ a + b ≤ 64)) : word_may.f a b = some false := by
  rw [may_eq]; congr 1; exact decide_eq_false (by omega)
theorem mask_yes {a b : Nat} (hb : 1 ≤ b) (hab : a + b ≤ 64) : word_Mask.f (a : Int) (b : Int) = some ((maskN a b : Nat) : Int) := by
  unfold word_Mask.f
  rw [may_yes hb hab, Option.bind_some, if_pos rfl, wrap64_of (by omega) (by omega), if_pos (by omega), if_pos (by omega)]
  congr 1
  unfold shl shr
  rw [show ((64 : Int) - (b : Int)).toNat = 64 - b from by omega, show ((a : Nat) : Int).toNat = a from by omega]
  rw [show IntKind.u64.bits = 64 from rfl, Nat.min_eq_left (by omega : 64 - b ≤ 64), Nat.min_eq_left (by omega : a ≤ 64), ← maskN_made hab, u64_wrap_eq]
  rw [show ((2 : Int) ^ (64 - b)) = ((2 ^ (64 - b) : Nat) : Int) from (Int.natCast_pow 2 _).symm, show ((2 : Int) ^ a) = ((2 ^ a : Nat) : Int) from (Int.natCast_pow 2 _).symm]
  generalize 2 ^ (64 - b) = p
  generalize 2 ^ a = q
  rw [Int.natCast_emod, Int.natCast_mul, Int.natCast_ediv]
  rfl
theorem mask_no {a b : Int} (h : ¬ (0 ≤ a ∧ 1 ≤ b ∧ a + b ≤ 64)) : word_Mask.f a b = some 0 := by
  unfold word_Mask.f
  rw [may_no h, Option.bind_some, if_neg (by simp)]

theorem with_yes {w a b n : Nat} (hw : w < 2 ^ 64) (hn : n < 2 ^ 64) (hb : 1 ≤ b) (hab : a + b ≤ 64) : word_With.f (w : Int) (a : Int) (b : Int) (n : Int) = some ((withN w a b n : Nat) : Int) := by
  unfold word_With.f
  rw [may_yes hb hab, Option.bind_some, if_pos rfl, mask_yes hb hab, Option.bind_some, if_pos (by omega)]
  congr 1
  obtain ⟨c, hc, hc1, hc2⟩ := bits_andNot_nat hw (maskN_lt hab)
  have hs : shl .u64 (n : Int) (a : Int) = ((n * 2 ^ a % 2 ^ 64 : Nat) : Int) := by
    unfold shl
    rw [show ((a : Nat) : Int).toNat = a from by omega, show IntKind.u64.bits = 64 from rfl, Nat.min_eq_left (by omega), u64_wrap_eq]
    rw [show ((2 : Int) ^ a) = ((2 ^ a : Nat) : Int) from (Int.natCast_pow 2 _).symm]
    generalize 2 ^ a = q
    rw [Int.natCast_emod, Int.natCast_mul]
    rfl
  have hs1 : n * 2 ^ a % 2 ^ 64 < 2 ^ 64 := Nat.mod_lt _ (by decide)
  rw [hc, hs, bits_and_nat hs1 (maskN_lt hab), bits_or_nat hc1 (Nat.and_lt_two_pow _ (maskN_lt hab)), with_made hw hn hab hc2]
theorem with_no {a b : Int} (w n : Int) (h : ¬ (0 ≤ a ∧ 1 ≤ b ∧ a + b ≤ 64)) : word_With.f w a b n = some w := by
  unfold word_With.f
  rw [may_no h, Option.bind_some, if_neg (by simp)]

theorem field_yes {w a b : Nat} (hw : w < 2 ^ 64) (hb : 1 ≤ b) (hab : a + b ≤ 64) : word_Field.f (w : Int) (a : Int) (b : Int) = some ((fieldN w a b : Nat) : Int) := by
  unfold word_Field.f
  rw [may_yes hb hab, Option.bind_some, if_pos rfl, mask_yes hb hab, Option.bind_some, if_pos (by omega)]
  congr 1
  unfold shr
  rw [bits_and_nat hw (maskN_lt hab), show ((a : Nat) : Int).toNat = a from by omega, show IntKind.u64.bits = 64 from rfl, Nat.min_eq_left (by omega), ← field_made hw hab]
  rw [show ((2 : Int) ^ a) = ((2 ^ a : Nat) : Int) from (Int.natCast_pow 2 _).symm, Int.natCast_ediv]
theorem field_no {a b : Int} (w : Int) (h : ¬ (0 ≤ a ∧ 1 ≤ b ∧ a + b ≤ 64)) : word_Field.f w a b = some 0 := by
  unfold word_Field.f
  rw [may_no h, Option.bind_some, if_neg (by simp)]

theorem bit_yes {w a : Nat} (hw : w < 2 ^ 64) (ha : a < 64) : word_Bit.f (w : Int) (a : Int) = some (decide (w / 2 ^ a % 2 = 1)) := by
  unfold word_Bit.f
  rw [show (1 : Int) = ((1 : Nat) : Int) from rfl, field_yes hw (by omega) (by omega), Option.bind_some]
  unfold fieldN
  congr 1
  by_cases h : w / 2 ^ a % 2 = 1
  · rw [decide_eq_true h, Nat.pow_one, h]; rfl
  · rw [decide_eq_false h, Nat.pow_one]
    have h' : w / 2 ^ a % 2 = 0 := by omega
    rw [h']; rfl

theorem turned_yes {w a : Nat} (hw : w < 2 ^ 64) (ha : a < 64) (on : Bool) : word_Turned.f (w : Int) (a : Int) on = some ((withN w a 1 (if on then 1 else 0) : Nat) : Int) := by
  unfold word_Turned.f
  cases on
  · rw [if_neg (by simp), show (1 : Int) = ((1 : Nat) : Int) from rfl, show (0 : Int) = ((0 : Nat) : Int) from rfl, with_yes hw (by decide) (by omega) (by omega), Option.bind_some]
    rfl
  · rw [if_pos rfl, show (1 : Int) = ((1 : Nat) : Int) from rfl, with_yes hw (by decide) (by omega) (by omega), Option.bind_some]
    rfl

theorem wf_u64 {x : Int} (h : (Lit.int .u64 x).wf = true) : ∃ n : Nat, x = (n : Int) ∧ n < 2 ^ 64 := by
  have h' : 0 ≤ x ∧ x ≤ 18446744073709551615 := by simpa [Lit.wf, IntKind.min, IntKind.max, IntKind.signed, IntKind.bits] using h
  exact ⟨x.toNat, by omega, by omega⟩
theorem wf_i64 {x : Int} (h : (Lit.int .i64 x).wf = true) : -9223372036854775808 ≤ x ∧ x ≤ 9223372036854775807 := by
  simpa [Lit.wf, IntKind.min, IntKind.max, IntKind.signed, IntKind.bits] using h
theorem xor_high {n : Nat} (h : n < 2 ^ 64) : Go.bits .xor .u64 (n : Int) 9223372036854775808 = (((n + 9223372036854775808) % 18446744073709551616 : Nat) : Int) := by
  have hx := bits_xor_nat (b := 9223372036854775808) h (by decide)
  simp only [Int.cast_ofNat_Int] at hx
  rw [hx]
  refine congrArg _ ?_
  apply Nat.eq_of_testBit_eq
  intro i
  rw [Nat.testBit_xor, show (9223372036854775808 : Nat) = 2 ^ 63 from by decide, show (18446744073709551616 : Nat) = 2 ^ 64 from by decide, Nat.testBit_mod_two_pow, Nat.testBit_two_pow]
  by_cases hi : i < 64
  · by_cases h63 : i = 63
    · subst h63
      rw [Nat.testBit_eq_decide_div_mod_eq, Nat.testBit_eq_decide_div_mod_eq]
      have h1 : (n + 2 ^ 63) / 2 ^ 63 = n / 2 ^ 63 + 1 := by omega
      rw [h1]
      have h2 : n / 2 ^ 63 < 2 := by omega
      by_cases h3 : n / 2 ^ 63 = 1
      · simp [h3]
      · have : n / 2 ^ 63 = 0 := by omega
        simp [this]
    · have h1 : (2 ^ 63 + n).testBit i = n.testBit i := Nat.testBit_two_pow_add_gt (by omega) n
      rw [Nat.add_comm, h1]
      have : ¬ 63 = i := fun h => h63 h.symm
      simp [hi, this]
  · have : ¬ 63 = i := by omega
    have h2 := lt64 h (by omega : 64 ≤ i)
    simp [hi, this, h2]

theorem bslot_eq {s : Int} (hs : -9223372036854775808 ≤ s ∧ s ≤ 9223372036854775807) : badge_slot.f s = some ((if 0 ≤ s ∧ s ≤ 4095 then s.toNat else 0 : Nat) : Int) := by
  unfold badge_slot.f
  by_cases h1 : s < 0
  · rw [if_pos h1, if_neg (by omega)]; rfl
  · by_cases h2 : s > 4095
    · rw [if_neg h1, if_pos h2, if_neg (by omega)]; rfl
    · rw [if_neg h1, if_neg h2, if_pos (by omega), u64_wrap_of (by omega) (by omega)]
      refine congrArg some ?_
      omega
theorem head_eq {s : Int} {g : Nat} (hs : -9223372036854775808 ≤ s ∧ s ≤ 9223372036854775807) (hg : g < 2 ^ 64) :
    badge_Head.f s (g : Int) = some (((if 0 ≤ s ∧ s ≤ 4095 then s.toNat else 0) + 4096 * (g % 4503599627370496) : Nat) : Int) := by
  have key : ∀ t : Nat, t < 4096 → word_With.f (t : Int) 12 52 (g : Int) = some ((t + 4096 * (g % 4503599627370496) : Nat) : Int) := by
    intro t ht
    have h := with_yes (w := t) (a := 12) (b := 52) (by omega) hg (by decide) (by decide)
    rw [show word_With.f (t : Int) 12 52 (g : Int) = _ from h]
    refine congrArg some (congrArg _ ?_)
    show t / 2 ^ 64 * 2 ^ 64 + (g % 2 ^ 52) * 2 ^ 12 + t % 2 ^ 12 = _
    omega
  unfold badge_Head.f
  rw [bslot_eq hs, Option.bind_some, key _ (by split <;> omega), Option.bind_some]
theorem changed_eq {s : Int} {h : Nat} (hs : -9223372036854775808 ≤ s ∧ s ≤ 9223372036854775807) (hh : h < 2 ^ 64) :
    badge_Changed.f (h : Int) s = some (((if 0 ≤ s ∧ s ≤ 4095 then s.toNat else 0) + 4096 * ((h / 4096 + 1) % 4503599627370496) : Nat) : Int) := by
  have hf := field_yes (a := 12) (b := 52) hh (by decide) (by decide)
  unfold badge_Changed.f
  rw [show word_Field.f (h : Int) 12 52 = _ from hf, Option.bind_some]
  have e : fieldN h 12 52 = h / 4096 := by
    unfold fieldN
    have : h / 2 ^ 12 < 2 ^ 52 := by omega
    rw [Nat.mod_eq_of_lt this]
  rw [e]
  have hw : IntKind.u64.wrap (((h / 4096 : Nat) : Int) + 1) = ((h / 4096 + 1 : Nat) : Int) := by rw [u64_wrap_of] <;> omega
  rw [hw, head_eq hs (by omega), Option.bind_some]
theorem active_eq {n : Nat} (hn : n < 2 ^ 64) : badge_Active.f (n : Int) = some ((n % 9223372036854775808 * 2 + 1 : Nat) : Int) := by
  have h1 := with_yes (w := 0) (a := 1) (b := 63) (by decide) hn (by decide) (by decide)
  have e1 : withN 0 1 63 n = n % 9223372036854775808 * 2 := by
    show 0 / 2 ^ 64 * 2 ^ 64 + (n % 2 ^ 63) * 2 ^ 1 + 0 % 2 ^ 1 = _
    omega
  rw [e1] at h1
  have h2 := turned_yes (w := n % 9223372036854775808 * 2) (a := 0) (by omega) (by decide) true
  have e2 : withN (n % 9223372036854775808 * 2) 0 1 (if true then 1 else 0) = n % 9223372036854775808 * 2 + 1 := by
    show (n % 9223372036854775808 * 2) / 2 ^ 1 * 2 ^ 1 + (1 % 2 ^ 1) * 2 ^ 0 + (n % 9223372036854775808 * 2) % 2 ^ 0 = _
    omega
  rw [e2] at h2
  unfold badge_Active.f
  rw [show word_With.f 0 1 63 (n : Int) = _ from h1, Option.bind_some, show word_Turned.f ((n % 9223372036854775808 * 2 : Nat) : Int) 0 true = _ from h2, Option.bind_some]
theorem lives_yes : deadwoodlaw04_lives.f = some true := by
  have h1 : badge_Changed.f 0 5 = some 4101 := changed_eq (s := 5) (h := 0) (by decide) (by decide)
  have h2 : badge_Active.f 3 = some 7 := active_eq (n := 3) (by decide)
  unfold deadwoodlaw04_lives.f
  rw [h1, Option.bind_some, if_pos rfl, h2, Option.bind_some]
  rfl

theorem epoch_eq {w : Nat} (hw : w < 2 ^ 64) : badge_Epoch.f (w : Int) = some (if w % 2 = 0 then (0, false) else (((w / 2 : Nat) : Int), true)) := by
  have hb := bit_yes (a := 0) hw (by decide)
  have hf := field_yes (a := 1) (b := 63) hw (by decide) (by decide)
  have e : fieldN w 1 63 = w / 2 := by
    unfold fieldN
    have : w / 2 ^ 1 < 2 ^ 63 := by omega
    rw [Nat.mod_eq_of_lt this, Nat.pow_one]
  rw [e] at hf
  unfold badge_Epoch.f
  rw [show word_Bit.f (w : Int) 0 = _ from hb, Option.bind_some]
  by_cases h : w % 2 = 0
  · rw [if_pos h, decide_eq_false (by rw [Nat.pow_zero, Nat.div_one]; omega)]
    rfl
  · rw [if_neg h, decide_eq_true (by rw [Nat.pow_zero, Nat.div_one]; omega)]
    first
    | rw [if_neg (by decide), show word_Field.f (w : Int) 1 63 = _ from hf, Option.bind_some]
    | rw [if_pos rfl, show word_Field.f (w : Int) 1 63 = _ from hf, Option.bind_some]

theorem bag_eq {s : Nat} (hs : s < 2 ^ 64) : badge_Bag.f (s : Int) = some ((s % 3 : Nat) : Int) := by
  unfold badge_Bag.f
  rw [Int.tmod_eq_emod_of_nonneg (by omega), wrap64_of (by omega) (by omega)]
  refine congrArg some ?_
  omega
theorem bags_end {k p q : Nat} {same : Bool} (hp : p < 2 ^ 64) (hq : q < 2 ^ 64) (h : same = false) : deadwoodlaw04_BadgeBack.j1 (k + 1) (p : Int) (q : Int) same = some true := by
  subst h
  simp only [deadwoodlaw04_BadgeBack.j1]
  rw [if_neg (by decide), bag_eq hp, Option.bind_some, bag_eq hq, Option.bind_some]
  by_cases h1 : ((p % 3 : Nat) : Int) = ((q % 3 : Nat) : Int)
  · rw [if_pos h1]
    by_cases h2 : (p : Int) < (q : Int)
    · rw [if_pos h2]
      have ho : badge_Old.f (p : Int) (q : Int) = some true := by
        unfold badge_Old.f
        have hw : IntKind.u64.wrap ((q : Int) - 3) = (q : Int) - 3 := u64_wrap_of (by omega) (by omega)
        rw [if_pos (by omega), hw, decide_eq_true (by omega)]
      rw [ho, Option.bind_some, if_pos rfl, lives_yes, Option.bind_some]
    · rw [if_neg h2, lives_yes, Option.bind_some]
  · rw [if_neg h1, lives_yes, Option.bind_some]
structure Next (s : Int) (h m : Nat) : Prop where
  lt : m < 2 ^ 64
  ne : m ≠ h
  slot : 0 ≤ s → s < 4096 → ((m % 4096 : Nat) : Int) = s
  gen : m / 4096 = (h / 4096 + 1) % 4503599627370496
theorem next_of {s : Int} {h : Nat} (hs : -9223372036854775808 ≤ s ∧ s ≤ 9223372036854775807) (hh : h < 2 ^ 64) : ∃ m : Nat, badge_Changed.f (h : Int) s = some (m : Int) ∧ Next s h m := by
  refine ⟨_, changed_eq hs hh, ?_⟩
  have hlt : (if 0 ≤ s ∧ s ≤ 4095 then s.toNat else 0) < 4096 := by split <;> omega
  have hsl : 0 ≤ s → s < 4096 → (if 0 ≤ s ∧ s ≤ 4095 then s.toNat else 0) = s.toNat := fun h1 h2 => if_pos ⟨h1, by omega⟩
  generalize (if 0 ≤ s ∧ s ≤ 4095 then s.toNat else 0) = t at *
  refine ⟨by omega, by omega, fun h1 h2 => ?_, by omega⟩
  have := hsl h1 h2
  omega
theorem BadgeBack : deadwoodlaw04_BadgeBack.Pure := by
  intro h x s hh hx hs
  obtain ⟨h, rfl, hh1⟩ := wf_u64 hh
  obtain ⟨p, q⟩ := x
  obtain ⟨hp, hq⟩ := hx
  obtain ⟨p, rfl, hp1⟩ := wf_u64 hp
  obtain ⟨q, rfl, hq1⟩ := wf_u64 hq
  have hs1 := wf_i64 hs
  clear hh hp hq hs
  refine ⟨2, ?_⟩
  dsimp only at *
  have ha := active_eq hp1
  obtain ⟨a, ea, hal⟩ : ∃ a, a = p % 9223372036854775808 * 2 + 1 ∧ a < 2 ^ 64 := ⟨_, rfl, by omega⟩
  rw [← ea] at ha
  have he := epoch_eq hal
  rw [if_neg (by omega)] at he
  have e2 : ((a / 2 : Nat) : Int) = Int.tmod (p : Int) 9223372036854775808 := by
    rw [Int.tmod_eq_emod_of_nonneg (by omega)]; omega
  have hl : badge_Lags.f (a : Int) ((a / 2 : Nat) : Int) = some false := by
    unfold badge_Lags.f
    rw [he, Option.bind_some, if_pos rfl, bne_self_eq_false]
  obtain ⟨m, hm, M⟩ := next_of hs1 hh1
  obtain ⟨m2, hm2, M2⟩ := next_of hs1 M.lt
  have hne : ((m2 : Int) == (h : Int)) = false := by
    rw [beq_eq_false_iff_ne]
    have h1 := M.gen
    have h2 := M2.gen
    intro e
    have e' : m2 = h := by omega
    rw [e'] at h2
    have := M.lt
    omega
  have hend := bags_end (k := 0) (same := ((m2 : Int) == (h : Int))) hp1 hq1 hne
  have hslot : badge_Slot.f (m : Int) = some ((m % 4096 : Nat) : Int) := by
    have hf := field_yes (a := 0) (b := 12) M.lt (by decide) (by decide)
    unfold badge_Slot.f
    rw [show word_Field.f (m : Int) 0 12 = _ from hf, Option.bind_some, field_zero]
    refine congrArg some ?_
    rw [wrap64_of] <;> omega
  unfold deadwoodlaw04_BadgeBack.f
  rw [ha, Option.bind_some, he, Option.bind_some, if_pos rfl, if_pos e2, Option.bind_some, hl, Option.bind_some]
  simp only [deadwoodlaw04_BadgeBack.j0]
  have hmh : ¬ (m : Int) = (h : Int) := by have := M.ne; omega
  rw [if_neg (by decide), hm, Option.bind_some, if_neg hmh]
  by_cases h1 : s ≥ 0
  · rw [if_pos h1]
    by_cases h2 : s < 4096
    · rw [if_pos h2, hslot, Option.bind_some, if_pos (M.slot h1 h2), hm2, Option.bind_some]
      exact hend
    · rw [if_neg h2, hm2, Option.bind_some]
      exact hend
  · rw [if_neg h1, hm2, Option.bind_some]
    exact hend

end Go.Proofs.Ytdbenonbjklkdaa.Pure
