/- Any edge with either mark, or without its tag, and whether two lead to one node, are the document's; of every two words, with no condition. -/
import Derived.Test.YtdbenonbjklkdaaEdgeLawM
import Derived.Test.YtdbenonbjklkdaaNum
set_option linter.unusedVariables false
set_option linter.unusedSimpArgs false
namespace Go.Proofs.Ytdbenonbjklkdaa.Pure
open Go Go.RowKit Go.Proofs.Ytdbenonbjklkdaa.PEdgeMarks Go.Proofs.YtdbenonbjklkdaaW.PrintWords Go.Proofs.YtdbenonbjklkdaaW.PrintLast Go.Proofs.YtdbenonbjklkdaaW.PrintMore Go.Proofs.Ytdbenonbjklkdaa.Num

/-! Fields and words, as the printed functions tell them. -/
theorem may_eq (a b : Int) : word_may.f a b = some (decide (0 ≤ a ∧ a < 64 ∧ 1 ≤ b ∧ b ≤ 64 - a)) := by
  unfold word_may.f
  by_cases h1 : a ≥ 0
  · by_cases h2 : a < 64
    · by_cases h3 : b ≥ 1
      · rw [if_pos h1, if_pos h2, if_pos h3, wrap64_of (by omega) (by omega)]
        congr 1
        apply decide_eq_decide.2
        omega
      · rw [if_pos h1, if_pos h2, if_neg h3]
        congr 1; symm
        exact decide_eq_false (by omega)
    · rw [if_pos h1, if_neg h2]
      congr 1; symm
      exact decide_eq_false (by omega)
  · rw [if_neg h1]
    congr 1; symm
    exact decide_eq_false (by omega)
theorem may_yes {a b : Nat} (hb : 1 ≤ b) (hab : a + b ≤ 64) : word_may.f (a : Int) (b : Int) = some true := by
  rw [may_eq]; congr 1; exact decide_eq_true (by omega)
theorem may_no {a b : Int} (h : ¬ (0 ≤ a ∧ 1 ≤ b ∧ a + b ≤ 64)) : word_may.f a b = some false := by
  rw [may_eq]; congr 1; exact decide_eq_false (by omega)
theorem mask_yes {a b : Nat} (hb : 1 ≤ b) (hab : a + b ≤ 64) : word_Mask.f (a : Int) (b : Int) = some ((maskN a b : Nat) : Int) := by
  unfold word_Mask.f
  rw [may_yes hb hab, Option.bind_some, if_pos rfl, wrap64_of (by omega) (by omega), if_pos (by omega), if_pos (by omega)]
  congr 1
  unfold shl shr
  rw [show ((64 : Int) - (b : Int)).toNat = 64 - b from by omega, show ((a : Nat) : Int).toNat = a from by omega]
  rw [show IntKind.u64.bits = 64 from rfl, Nat.min_eq_left (by omega : 64 - b ≤ 64), Nat.min_eq_left (by omega : a ≤ 64), ← maskN_made hab, u64_wrap_eq]
  rw [show ((2 : Int) ^ (64 - b)) = ((2 ^ (64 - b) : Nat) : Int) from (Int.natCast_pow 2 _).symm, show ((2 : Int) ^ a) = ((2 ^ a : Nat) : Int) from (Int.natCast_pow 2 _).symm]
  generalize 2 ^ (64 - b) = p
  generalize 2 ^ a = q
  rw [Int.natCast_emod, Int.natCast_mul, Int.natCast_ediv]
  rfl
theorem mask_no {a b : Int} (h : ¬ (0 ≤ a ∧ 1 ≤ b ∧ a + b ≤ 64)) : word_Mask.f a b = some 0 := by
  unfold word_Mask.f
  rw [may_no h, Option.bind_some, if_neg (by simp)]

theorem with_yes {w a b n : Nat} (hw : w < 2 ^ 64) (hn : n < 2 ^ 64) (hb : 1 ≤ b) (hab : a + b ≤ 64) : word_With.f (w : Int) (a : Int) (b : Int) (n : Int) = some ((withN w a b n : Nat) : Int) := by
  unfold word_With.f
  rw [may_yes hb hab, Option.bind_some, if_pos rfl, mask_yes hb hab, Option.bind_some, if_pos (by omega)]
  congr 1
  obtain ⟨c, hc, hc1, hc2⟩ := bits_andNot_nat hw (maskN_lt hab)
  have hs : shl .u64 (n : Int) (a : Int) = ((n * 2 ^ a % 2 ^ 64 : Nat) : Int) := by
    unfold shl
    rw [show ((a : Nat) : Int).toNat = a from by omega, show IntKind.u64.bits = 64 from rfl, Nat.min_eq_left (by omega), u64_wrap_eq]
    rw [show ((2 : Int) ^ a) = ((2 ^ a : Nat) : Int) from (Int.natCast_pow 2 _).symm]
    generalize 2 ^ a = q
    rw [Int.natCast_emod, Int.natCast_mul]
    rfl
  have hs1 : n * 2 ^ a % 2 ^ 64 < 2 ^ 64 := Nat.mod_lt _ (by decide)
  rw [hc, hs, bits_and_nat hs1 (maskN_lt hab), bits_or_nat hc1 (Nat.and_lt_two_pow _ (maskN_lt hab)), with_made hw hn hab hc2]
theorem with_no {a b : Int} (w n : Int) (h : ¬ (0 ≤ a ∧ 1 ≤ b ∧ a + b ≤ 64)) : word_With.f w a b n = some w := by
  unfold word_With.f
  rw [may_no h, Option.bind_some, if_neg (by simp)]

theorem field_yes {w a b : Nat} (hw : w < 2 ^ 64) (hb : 1 ≤ b) (hab : a + b ≤ 64) : word_Field.f (w : Int) (a : Int) (b : Int) = some ((fieldN w a b : Nat) : Int) := by
  unfold word_Field.f
  rw [may_yes hb hab, Option.bind_some, if_pos rfl, mask_yes hb hab, Option.bind_some, if_pos (by omega)]
  congr 1
  unfold shr
  rw [bits_and_nat hw (maskN_lt hab), show ((a : Nat) : Int).toNat = a from by omega, show IntKind.u64.bits = 64 from rfl, Nat.min_eq_left (by omega), ← field_made hw hab]
  rw [show ((2 : Int) ^ a) = ((2 ^ a : Nat) : Int) from (Int.natCast_pow 2 _).symm, Int.natCast_ediv]
theorem field_no {a b : Int} (w : Int) (h : ¬ (0 ≤ a ∧ 1 ≤ b ∧ a + b ≤ 64)) : word_Field.f w a b = some 0 := by
  unfold word_Field.f
  rw [may_no h, Option.bind_some, if_neg (by simp)]

theorem turned_yes {w a : Nat} (hw : w < 2 ^ 64) (ha : a < 64) (on : Bool) : word_Turned.f (w : Int) (a : Int) on = some ((withN w a 1 (if on then 1 else 0) : Nat) : Int) := by
  unfold word_Turned.f
  cases on
  · rw [if_neg (by simp), show (1 : Int) = ((1 : Nat) : Int) from rfl, show (0 : Int) = ((0 : Nat) : Int) from rfl, with_yes hw (by decide) (by omega) (by omega), Option.bind_some]
    rfl
  · rw [if_pos rfl, show (1 : Int) = ((1 : Nat) : Int) from rfl, with_yes hw (by decide) (by omega) (by omega), Option.bind_some]
    rfl

theorem wf_u64 {x : Int} (h : (Lit.int .u64 x).wf = true) : ∃ n : Nat, x = (n : Int) ∧ n < 2 ^ 64 := by
  have h' : 0 ≤ x ∧ x ≤ 18446744073709551615 := by simpa [Lit.wf, IntKind.min, IntKind.max, IntKind.signed, IntKind.bits] using h
  exact ⟨x.toNat, by omega, by omega⟩
theorem wf_i64 {x : Int} (h : (Lit.int .i64 x).wf = true) : -9223372036854775808 ≤ x ∧ x ≤ 9223372036854775807 := by
  simpa [Lit.wf, IntKind.min, IntKind.max, IntKind.signed, IntKind.bits] using h
theorem xor_high {n : Nat} (h : n < 2 ^ 64) : Go.bits .xor .u64 (n : Int) 9223372036854775808 = (((n + 9223372036854775808) % 18446744073709551616 : Nat) : Int) := by
  have hx := bits_xor_nat (b := 9223372036854775808) h (by decide)
  simp only [Int.cast_ofNat_Int] at hx
  rw [hx]
  refine congrArg _ ?_
  apply Nat.eq_of_testBit_eq
  intro i
  rw [Nat.testBit_xor, show (9223372036854775808 : Nat) = 2 ^ 63 from by decide, show (18446744073709551616 : Nat) = 2 ^ 64 from by decide, Nat.testBit_mod_two_pow, Nat.testBit_two_pow]
  by_cases hi : i < 64
  · by_cases h63 : i = 63
    · subst h63
      rw [Nat.testBit_eq_decide_div_mod_eq, Nat.testBit_eq_decide_div_mod_eq]
      have h1 : (n + 2 ^ 63) / 2 ^ 63 = n / 2 ^ 63 + 1 := by omega
      rw [h1]
      have h2 : n / 2 ^ 63 < 2 := by omega
      by_cases h3 : n / 2 ^ 63 = 1
      · simp [h3]
      · have : n / 2 ^ 63 = 0 := by omega
        simp [this]
    · have h1 : (2 ^ 63 + n).testBit i = n.testBit i := Nat.testBit_two_pow_add_gt (by omega) n
      rw [Nat.add_comm, h1]
      have : ¬ 63 = i := fun h => h63 h.symm
      simp [hi, this]
  · have : ¬ 63 = i := by omega
    have h2 := lt64 h (by omega : 64 ≤ i)
    simp [hi, this, h2]

theorem node_eq {w : Nat} (hw : w < 2 ^ 64) : edge_Edge_Node.f (w : Int) = some ((w % 4611686018427387904 : Nat) : Int) := by
  have h := field_yes (a := 0) (b := 62) hw (by decide) (by decide)
  unfold edge_Edge_Node.f
  rw [show word_Field.f (w : Int) 0 62 = _ from h, Option.bind_some, field_zero]

theorem flagged_eq {w : Nat} (hw : w < 2 ^ 64) : edge_Edge_Flagged.f (w : Int) = some ((w / 9223372036854775808 * 9223372036854775808 + 4611686018427387904 + w % 4611686018427387904 : Nat) : Int) := by
  have h := turned_yes (a := 62) hw (by decide) true
  unfold edge_Edge_Flagged.f
  rw [show word_Turned.f (w : Int) 62 true = _ from h, Option.bind_some]
  rfl

theorem tagged_eq {w : Nat} (hw : w < 2 ^ 64) : edge_Edge_Tagged.f (w : Int) = some ((9223372036854775808 + w % 9223372036854775808 : Nat) : Int) := by
  have h := turned_yes (a := 63) hw (by decide) true
  unfold edge_Edge_Tagged.f
  rw [show word_Turned.f (w : Int) 63 true = _ from h, Option.bind_some]
  refine congrArg some (congrArg _ ?_)
  show w / 2 ^ 64 * 2 ^ 64 + (1 % 2) * 2 ^ 63 + w % 2 ^ 63 = _
  have h0 : w / 2 ^ 64 = 0 := Nat.div_eq_of_lt hw
  omega
theorem keep_eq {w : Nat} (hw : w < 2 ^ 64) : edge_Edge_Keep.f (w : Int) = some ((w % 9223372036854775808 : Nat) : Int) := by
  have h := turned_yes (a := 63) hw (by decide) false
  unfold edge_Edge_Keep.f
  rw [show word_Turned.f (w : Int) 63 false = _ from h, Option.bind_some]
  refine congrArg some (congrArg _ ?_)
  show w / 2 ^ 64 * 2 ^ 64 + (0 % 2) * 2 ^ 63 + w % 2 ^ 63 = _
  have h0 : w / 2 ^ 64 = 0 := Nat.div_eq_of_lt hw
  omega

theorem make_eq {s : Int} {g : Nat} (hs : -9223372036854775808 ≤ s ∧ s ≤ 9223372036854775807) (hg : g < 2 ^ 64) :
    edge_Make.f s (g : Int) = some (((if 0 ≤ s ∧ s ≤ 4095 then s.toNat else 0) + 4096 * (g % 1125899906842624) : Nat) : Int) := by
  have key : ∀ t : Nat, t < 4096 → word_With.f (t : Int) 12 50 (g : Int) = some ((t + 4096 * (g % 1125899906842624) : Nat) : Int) := by
    intro t ht
    have h := with_yes (w := t) (a := 12) (b := 50) (by omega) hg (by decide) (by decide)
    rw [show word_With.f (t : Int) 12 50 (g : Int) = _ from h]
    refine congrArg some (congrArg _ ?_)
    show t / 2 ^ 62 * 2 ^ 62 + (g % 2 ^ 50) * 2 ^ 12 + t % 2 ^ 12 = _
    omega
  unfold edge_Make.f
  by_cases h1 : s < 0
  · have h := key 0 (by decide)
    rw [if_pos h1, if_neg (by omega), show word_With.f 0 12 50 (g : Int) = _ from h, Option.bind_some]
  · by_cases h2 : s > 4095
    · have h := key 0 (by decide)
      rw [if_neg h1, if_pos h2, if_neg (by omega), show word_With.f 0 12 50 (g : Int) = _ from h, Option.bind_some]
    · have h := key s.toNat (by omega)
      rw [if_neg h1, if_neg h2, if_pos (by omega), u64_wrap_of (by omega) (by omega)]
      rw [show ((s.toNat : Nat) : Int) = s from by omega] at h
      rw [h, Option.bind_some]

theorem lives_yes : deadwoodlaw03_lives.f = some true := by
  have h1 : edge_Make.f 3 1 = some 4099 := make_eq (s := 3) (g := 1) (by decide) (by decide)
  have h2 : edge_Edge_Flagged.f 4099 = some 4611686018427392003 := flagged_eq (w := 4099) (by decide)
  unfold deadwoodlaw03_lives.f
  rw [h1, Option.bind_some, if_pos rfl, Option.bind_some, h2, Option.bind_some]
  rfl

theorem put_eq {s g : Nat} (hs : s < 4096) (hg : g < 1125899906842624) (fl tg : Bool) :
    deadwoodref03_Put.f (s : Int) (g : Int) fl tg = some ((s + 4096 * g + (if fl then 4611686018427387904 else 0) + (if tg then 9223372036854775808 else 0) : Nat) : Int) := by
  unfold deadwoodref03_Put.f
  have h1 : IntKind.u64.wrap (s : Int) = s := u64_wrap_of (by omega) (by omega)
  have h2 : IntKind.u64.wrap (4096 * (g : Int)) = 4096 * g := u64_wrap_of (by omega) (by omega)
  have h3 : IntKind.u64.wrap ((s : Int) + 4096 * g) = s + 4096 * g := u64_wrap_of (by omega) (by omega)
  have h4 : IntKind.u64.wrap ((s : Int) + 4096 * g + 4611686018427387904) = s + 4096 * g + 4611686018427387904 := u64_wrap_of (by omega) (by omega)
  have h5 : IntKind.u64.wrap ((s : Int) + 4096 * g + 9223372036854775808) = s + 4096 * g + 9223372036854775808 := u64_wrap_of (by omega) (by omega)
  have h6 : IntKind.u64.wrap ((s : Int) + 4096 * g + 4611686018427387904 + 9223372036854775808) = s + 4096 * g + 4611686018427387904 + 9223372036854775808 := u64_wrap_of (by omega) (by omega)
  rw [h1, h2, h3, h4, h5, h6]
  cases fl <;> cases tg <;> simp <;> omega

theorem read_eq {w : Nat} (hw : w < 2 ^ 64) : deadwoodref03_Read.f (w : Int) = some (((w % 4096 : Nat) : Int), ((w / 4096 % 1125899906842624 : Nat) : Int), decide (w / 4611686018427387904 % 2 = 1), decide (9223372036854775808 ≤ w)) := by
  unfold deadwoodref03_Read.f
  rw [Int.tmod_eq_emod_of_nonneg (by omega), Int.tdiv_eq_ediv_of_nonneg (by omega), Int.tdiv_eq_ediv_of_nonneg (by omega)]
  have h1 : wrap64 ((w : Int) % 4096) = ((w % 4096 : Nat) : Int) := by rw [wrap64_of] <;> omega
  have h2 : IntKind.u64.wrap ((w : Int) / 4096) = ((w / 4096 : Nat) : Int) := by rw [u64_wrap_of] <;> omega
  have h3 : IntKind.u64.wrap ((w : Int) / 4611686018427387904) = ((w / 4611686018427387904 : Nat) : Int) := by rw [u64_wrap_of] <;> omega
  rw [h1, h2, h3, Int.tmod_eq_emod_of_nonneg (by omega), Int.tmod_eq_emod_of_nonneg (by omega)]
  have h4 : ((w / 4096 : Nat) : Int) % 1125899906842624 = ((w / 4096 % 1125899906842624 : Nat) : Int) := by omega
  have h5 : ((((w / 4611686018427387904 : Nat) : Int) % 2) == 1) = decide (w / 4611686018427387904 % 2 = 1) := by
    by_cases h : w / 4611686018427387904 % 2 = 1
    · rw [decide_eq_true h, beq_iff_eq]; omega
    · rw [decide_eq_false h, beq_eq_false_iff_ne]; omega
  have h6 : decide ((w : Int) ≥ 9223372036854775808) = decide (9223372036854775808 ≤ w) := decide_eq_decide.2 (by omega)
  rw [h4, h5, h6]

theorem to_some {w v : Nat} (hw : w < 2 ^ 64) (hv : v < 2 ^ 64) : ∃ b, edge_Edge_To.f (w : Int) (v : Int) = some b ∧ (b = true ↔ w % 4611686018427387904 = v % 4611686018427387904) := by
  unfold edge_Edge_To.f
  rw [node_eq hw, node_eq hv, Option.bind_some, Option.bind_some]
  refine ⟨_, rfl, ?_⟩
  rw [beq_iff_eq]
  omega
theorem EdgeMarks_walk (w v : Int) (W : World) (hw : (Lit.int .u64 w).wf = true) (hv : (Lit.int .u64 v).wf = true) : Calls Try.prog 10 #[.int .u64 w, .int .u64 v] W fun e W' => e = .returned (.bool true) ∧ Below W.heap.size W W' := by
  obtain ⟨w, rfl, hw1⟩ := wf_u64 hw
  obtain ⟨v, rfl, hv1⟩ := wf_u64 hv
  clear hw hv
  have hr := read_eq hw1
  have hq := read_eq hv1
  have hfl := flagged_eq hw1
  have htg := tagged_eq hw1
  have hkp := keep_eq hw1
  obtain ⟨t, hto, ito⟩ := to_some hw1 hv1
  obtain ⟨f, ef, hf⟩ : ∃ b : Bool, decide (w / 4611686018427387904 % 2 = 1) = b ∧ (b = true ↔ w / 4611686018427387904 % 2 = 1) := ⟨_, rfl, decide_eq_true_iff⟩
  obtain ⟨g, eg, hg⟩ : ∃ b : Bool, decide (9223372036854775808 ≤ w) = b ∧ (b = true ↔ 9223372036854775808 ≤ w) := ⟨_, rfl, decide_eq_true_iff⟩
  rw [ef, eg] at hr
  clear ef eg
  have hs : w % 4096 < 4096 := Nat.mod_lt _ (by decide)
  have hgn : w / 4096 % 1125899906842624 < 1125899906842624 := Nat.mod_lt _ (by decide)
  have pa : deadwoodref03_Put.f ((w % 4096 : Nat) : Int) ((w / 4096 % 1125899906842624 : Nat) : Int) true g = some ((w / 9223372036854775808 * 9223372036854775808 + 4611686018427387904 + w % 4611686018427387904 : Nat) : Int) := by
    rw [put_eq hs hgn true g]
    refine congrArg some (congrArg _ ?_)
    cases g with
    | true => have := hg.1 rfl; rw [if_pos rfl, if_pos rfl]; omega
    | false => have : ¬ 9223372036854775808 ≤ w := fun h => by have := hg.2 h; cases this
               rw [if_pos rfl, if_neg (by decide)]; omega
  have pb : deadwoodref03_Put.f ((w % 4096 : Nat) : Int) ((w / 4096 % 1125899906842624 : Nat) : Int) f true = some ((9223372036854775808 + w % 9223372036854775808 : Nat) : Int) := by
    rw [put_eq hs hgn f true]
    refine congrArg some (congrArg _ ?_)
    cases f with
    | true => have := hf.1 rfl; rw [if_pos rfl, if_pos rfl]; omega
    | false => have : ¬ w / 4611686018427387904 % 2 = 1 := fun h => by have := hf.2 h; cases this
               rw [if_neg (by decide), if_pos rfl]; omega
  have pc : deadwoodref03_Put.f ((w % 4096 : Nat) : Int) ((w / 4096 % 1125899906842624 : Nat) : Int) f false = some ((w % 9223372036854775808 : Nat) : Int) := by
    rw [put_eq hs hgn f false]
    refine congrArg some (congrArg _ ?_)
    cases f with
    | true => have := hf.1 rfl; rw [if_pos rfl, if_neg (by decide)]; omega
    | false => have : ¬ w / 4611686018427387904 % 2 = 1 := fun h => by have := hf.2 h; cases this
               rw [if_neg (by decide), if_neg (by decide)]; omega
  clear hf hg hs hgn
  have e1 : ∀ a b : Nat, ((a : Int) == (b : Int)) = decide (a = b) := fun a b => by
    by_cases h : a = b
    · rw [decide_eq_true h, h, beq_self_eq_true]
    · rw [decide_eq_false h, beq_eq_false_iff_ne]; omega
  have e2 : w % 4096 = v % 4096 → (t == (((w / 4096 % 1125899906842624 : Nat) : Int) == ((v / 4096 % 1125899906842624 : Nat) : Int))) = true := fun h => by
    rw [e1, beq_iff_eq]
    by_cases h2 : w / 4096 % 1125899906842624 = v / 4096 % 1125899906842624
    · rw [decide_eq_true h2]; exact ito.2 (by omega)
    · rw [decide_eq_false h2]
      exact Bool.eq_false_iff.2 (fun h3 => h2 (by have := ito.1 h3; omega))
  have e3 : ¬ w % 4096 = v % 4096 → (t == false) = true := fun h => by
    rw [beq_iff_eq]
    exact Bool.eq_false_iff.2 (fun h3 => h (by have := ito.1 h3; omega))
  have e4 : ((w % 4096 : Nat) : Int) = ((v % 4096 : Nat) : Int) ↔ w % 4096 = v % 4096 := by omega
  clear e1 ito
  generalize w / 9223372036854775808 * 9223372036854775808 + 4611686018427387904 + w % 4611686018427387904 = fa at hfl pa
  generalize 9223372036854775808 + w % 9223372036854775808 = fb at htg pb
  generalize w % 9223372036854775808 = fc at hkp pc
  generalize w / 4096 % 1125899906842624 = gw at *
  generalize v / 4096 % 1125899906842624 = gv at *
  generalize w % 4096 = sw at *
  generalize v % 4096 = sv at *
  refine EdgeLawM.walk_in _ _ _ _ _ _ _ _ _ _ _ _ _ _ W hr hq hfl pa htg pb hkp pc hto ?_ ?_ lives_yes
  · intro h
    exact e2 (e4.1 h)
  · intro h
    have := e3 (fun h2 => h (e4.2 h2))
    exact beq_iff_eq.1 this

end Go.Proofs.Ytdbenonbjklkdaa.Pure
