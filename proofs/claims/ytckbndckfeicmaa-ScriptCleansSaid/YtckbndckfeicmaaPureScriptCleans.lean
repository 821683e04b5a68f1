/- Clean brings any script's numbers into their bounds and cuts its entries at the cap, as the document says; of any script, with no condition. -/
import Derived.Test.YtckbndckfeicmaaPScriptCleansx9
import Derived.Test.YtckbndckfeicmaaNum
set_option linter.unusedVariables false
set_option linter.unusedSimpArgs false
namespace Go.Proofs.Ytckbndckfeicmaa.Pure
open Go Go.RowKit Go.Proofs.Ytckbndckfeicmaa.PScriptCleans Go.Proofs.YtckbndckfeicmaaW.PrintWords Go.Proofs.YtckbndckfeicmaaW.PrintLast Go.Proofs.YtckbndckfeicmaaW.PrintMore Go.Proofs.Ytckbndckfeicmaa.Num

/-! Entries of scripts. -/
abbrev En := S75
theorem w64p {n : Int} (h : -9223372036854775808 ≤ n ∧ n ≤ 9223372036854775807) : wrap64 n = n := by unfold wrap64; omega
theorem rdE (l : List En) (i : Nat) (hi : i < l.length) : rd_T75 l (i : Int) = l[i] := MayWalk.getD_eq l i hi
def eqE (x y : En) : Bool := x.f0 == y.f0 && (x.f1 == y.f1 && (x.f2.f0 == y.f2.f0 && (x.f2.f1 == y.f2.f1 && (x.f2.f2 == y.f2.f2 && (x.f2.f3 == y.f2.f3 && x.f2.f4 == y.f2.f4)))))
theorem neE (x y : En) : (!(x.f0 == y.f0) || (!(x.f1 == y.f1) || (!(x.f2.f0 == y.f2.f0) || (!(x.f2.f1 == y.f2.f1) || (!(x.f2.f2 == y.f2.f2) || (!(x.f2.f3 == y.f2.f3) || !(x.f2.f4 == y.f2.f4))))))) = !(eqE x y) := by
  unfold eqE
  simp only [Bool.not_and]
theorem eqE_self (x : En) : eqE x x = true := by unfold eqE; simp
def sameE : List En → List En → Bool
  | [], [] => true
  | x :: a, y :: b => eqE x y && sameE a b
  | _, _ => false
theorem sameE_self : ∀ a : List En, sameE a a = true
  | [] => rfl
  | x :: a => by rw [sameE, eqE_self, sameE_self a]; rfl
theorem sameE_len : ∀ a b : List En, a.length ≠ b.length → sameE a b = false
  | [], [], h => absurd rfl h
  | [], _ :: _, _ => rfl
  | _ :: _, [], _ => rfl
  | x :: a, y :: b, h => by rw [sameE, sameE_len a b (fun e => h (by simp [e])), Bool.and_false]
theorem sameE_drop (a b : List En) (i : Nat) (ha : i < a.length) (hb : i < b.length) : sameE (a.drop i) (b.drop i) = (eqE a[i] b[i] && sameE (a.drop (i + 1)) (b.drop (i + 1))) := by
  rw [List.drop_eq_getElem_cons ha, List.drop_eq_getElem_cons hb]
  rfl

def confB (a0 a1 a2 b0 b1 b2 : Int) : Bool := a0 == b0 && (a1 == b1 && (a2 == b2))

theorem rsame_loop (a b : List En) (a0 a1 a2 b0 b1 b2 : Int) (hl : a.length ≤ 1000000) (he : a.length = b.length) (d : Nat) : ∀ (k i : Nat), i + d = a.length → d < k → deadwoodref14_Same.l0 k (i : Int) a0 a1 a2 a b0 b1 b2 b = some (sameE (a.drop i) (b.drop i)) := by
  induction d with
  | zero =>
    intro k i hi hk
    obtain ⟨k, rfl⟩ : ∃ m, k = m + 1 := ⟨k - 1, by omega⟩
    rw [deadwoodref14_Same.l0, if_neg (by omega), List.drop_of_length_le (by omega), List.drop_of_length_le (by omega)]
    rfl
  | succ d ih =>
    intro k i hi hk
    obtain ⟨k, rfl⟩ : ∃ m, k = m + 1 := ⟨k - 1, by omega⟩
    rw [deadwoodref14_Same.l0, if_pos (by omega), if_pos (by omega), if_pos (by omega), rdE a i (by omega), rdE b i (by omega), sameE_drop a b i (by omega) (by omega), neE]
    cases hc : eqE a[i] b[i] with
    | true =>
      rw [if_neg (by decide), w64p (by omega), Bool.true_and, show (i : Int) + 1 = ((i + 1 : Nat) : Int) from by omega]
      exact ih k (i + 1) (by omega) (by omega)
    | false => rw [if_pos (by decide), Bool.false_and]
theorem rsame_eq (a0 a1 a2 : Int) (a : List En) (b0 b1 b2 : Int) (b : List En) (hl : a.length ≤ 1000000) {k : Nat} (hk : a.length + 1 < k) : deadwoodref14_Same.f k a0 a1 a2 a b0 b1 b2 b = some (confB a0 a1 a2 b0 b1 b2 && sameE a b) := by
  obtain ⟨k, rfl⟩ : ∃ m, k = m + 1 := ⟨k - 1, by omega⟩
  unfold deadwoodref14_Same.f confB
  have hn : (!(a0 == b0) || (!(a1 == b1) || !(a2 == b2))) = !(a0 == b0 && (a1 == b1 && (a2 == b2))) := by simp only [Bool.not_and]
  rw [hn]
  cases hc : (a0 == b0 && (a1 == b1 && (a2 == b2))) with
  | false => rw [if_pos (by decide), deadwoodref14_Same.j0, if_pos rfl, Bool.false_and]
  | true =>
    rw [if_neg (by decide), Bool.true_and]
    by_cases h : a.length = b.length
    · have e : ((a.length : Int) != (b.length : Int)) = false := by rw [h]; simp
      have := rsame_loop a b a0 a1 a2 b0 b1 b2 hl h a.length k 0 (by omega) (by omega)
      rw [List.drop_zero, List.drop_zero] at this
      rw [e, deadwoodref14_Same.j0, if_neg (by decide), show ((0 : Int)) = ((0 : Nat) : Int) from rfl, this]
    · have e : ((a.length : Int) != (b.length : Int)) = true := by rw [bne_iff_ne]; omega
      rw [e, deadwoodref14_Same.j0, if_pos rfl, sameE_len a b h]

/-! Fields and words, as the printed functions tell them. -/
theorem may_eq (a b : Int) : word_may.f a b = some (decide (0 ≤ a ∧ a < 64 ∧ 1 ≤ b ∧ b ≤ 64 - a)) := by
  unfold word_may.f
  by_cases h1 : a ≥ 0
  · by_cases h2 : a < 64
    · by_cases h3 : b ≥ 1
      · rw [if_pos h1, if_pos h2, if_pos h3, wrap64_of (by omega) (by omega)]
        congr 1
        apply decide_eq_decide.2
        omega
      · rw [if_pos h1, if_pos h2, if_neg h3]
        congr 1; symm
        exact decide_eq_false (by omega)
    · rw [if_pos h1, if_neg h2]
      congr 1; symm
      exact decide_eq_false (by omega)
  · rw [if_neg h1]
    congr 1; symm
    exact decide_eq_false (by omega)
theorem may_yes {a b : Nat} (hb : 1 ≤ b) (hab : a + b ≤ 64) : word_may.f (a : Int) (b : Int) = some true := by
  rw [may_eq]; congr 1; exact decide_eq_true (by omega)
theorem may_no {a b : Int} (h : ¬ (0 ≤ a ∧ 1 ≤ b ∧ a + b ≤ 64)) : word_may.f a b = some false := by
  rw [may_eq]; congr 1; exact decide_eq_false (by omega)
theorem mask_yes {a b : Nat} (hb : 1 ≤ b) (hab : a + b ≤ 64) : word_Mask.f (a : Int) (b : Int) = some ((maskN a b : Nat) : Int) := by
  unfold word_Mask.f
  rw [may_yes hb hab, Option.bind_some, if_pos rfl, wrap64_of (by omega) (by omega), if_pos (by omega), if_pos (by omega)]
  congr 1
  unfold shl shr
  rw [show ((64 : Int) - (b : Int)).toNat = 64 - b from by omega, show ((a : Nat) : Int).toNat = a from by omega]
  rw [show IntKind.u64.bits = 64 from rfl, Nat.min_eq_left (by omega : 64 - b ≤ 64), Nat.min_eq_left (by omega : a ≤ 64), ← maskN_made hab, u64_wrap_eq]
  rw [show ((2 : Int) ^ (64 - b)) = ((2 ^ (64 - b) : Nat) : Int) from (Int.natCast_pow 2 _).symm, show ((2 : Int) ^ a) = ((2 ^ a : Nat) : Int) from (Int.natCast_pow 2 _).symm]
  generalize 2 ^ (64 - b) = p
  generalize 2 ^ a = q
  rw [Int.natCast_emod, Int.natCast_mul, Int.natCast_ediv]
  rfl
theorem mask_no {a b : Int} (h : ¬ (0 ≤ a ∧ 1 ≤ b ∧ a + b ≤ 64)) : word_Mask.f a b = some 0 := by
  unfold word_Mask.f
  rw [may_no h, Option.bind_some, if_neg (by simp)]

theorem field_yes {w a b : Nat} (hw : w < 2 ^ 64) (hb : 1 ≤ b) (hab : a + b ≤ 64) : word_Field.f (w : Int) (a : Int) (b : Int) = some ((fieldN w a b : Nat) : Int) := by
  unfold word_Field.f
  rw [may_yes hb hab, Option.bind_some, if_pos rfl, mask_yes hb hab, Option.bind_some, if_pos (by omega)]
  congr 1
  unfold shr
  rw [bits_and_nat hw (maskN_lt hab), show ((a : Nat) : Int).toNat = a from by omega, show IntKind.u64.bits = 64 from rfl, Nat.min_eq_left (by omega), ← field_made hw hab]
  rw [show ((2 : Int) ^ a) = ((2 ^ a : Nat) : Int) from (Int.natCast_pow 2 _).symm, Int.natCast_ediv]
theorem field_no {a b : Int} (w : Int) (h : ¬ (0 ≤ a ∧ 1 ≤ b ∧ a + b ≤ 64)) : word_Field.f w a b = some 0 := by
  unfold word_Field.f
  rw [may_no h, Option.bind_some, if_neg (by simp)]

theorem with_yes {w a b n : Nat} (hw : w < 2 ^ 64) (hn : n < 2 ^ 64) (hb : 1 ≤ b) (hab : a + b ≤ 64) : word_With.f (w : Int) (a : Int) (b : Int) (n : Int) = some ((withN w a b n : Nat) : Int) := by
  unfold word_With.f
  rw [may_yes hb hab, Option.bind_some, if_pos rfl, mask_yes hb hab, Option.bind_some, if_pos (by omega)]
  congr 1
  obtain ⟨c, hc, hc1, hc2⟩ := bits_andNot_nat hw (maskN_lt hab)
  have hs : shl .u64 (n : Int) (a : Int) = ((n * 2 ^ a % 2 ^ 64 : Nat) : Int) := by
    unfold shl
    rw [show ((a : Nat) : Int).toNat = a from by omega, show IntKind.u64.bits = 64 from rfl, Nat.min_eq_left (by omega), u64_wrap_eq]
    rw [show ((2 : Int) ^ a) = ((2 ^ a : Nat) : Int) from (Int.natCast_pow 2 _).symm]
    generalize 2 ^ a = q
    rw [Int.natCast_emod, Int.natCast_mul]
    rfl
  have hs1 : n * 2 ^ a % 2 ^ 64 < 2 ^ 64 := Nat.mod_lt _ (by decide)
  rw [hc, hs, bits_and_nat hs1 (maskN_lt hab), bits_or_nat hc1 (Nat.and_lt_two_pow _ (maskN_lt hab)), with_made hw hn hab hc2]
theorem with_no {a b : Int} (w n : Int) (h : ¬ (0 ≤ a ∧ 1 ≤ b ∧ a + b ≤ 64)) : word_With.f w a b n = some w := by
  unfold word_With.f
  rw [may_no h, Option.bind_some, if_neg (by simp)]

theorem turned_yes {w a : Nat} (hw : w < 2 ^ 64) (ha : a < 64) (on : Bool) : word_Turned.f (w : Int) (a : Int) on = some ((withN w a 1 (if on then 1 else 0) : Nat) : Int) := by
  unfold word_Turned.f
  cases on
  · rw [if_neg (by simp), show (1 : Int) = ((1 : Nat) : Int) from rfl, show (0 : Int) = ((0 : Nat) : Int) from rfl, with_yes hw (by decide) (by omega) (by omega), Option.bind_some]
    rfl
  · rw [if_pos rfl, show (1 : Int) = ((1 : Nat) : Int) from rfl, with_yes hw (by decide) (by omega) (by omega), Option.bind_some]
    rfl

theorem wf_u64 {x : Int} (h : (Lit.int .u64 x).wf = true) : ∃ n : Nat, x = (n : Int) ∧ n < 2 ^ 64 := by
  have h' : 0 ≤ x ∧ x ≤ 18446744073709551615 := by simpa [Lit.wf, IntKind.min, IntKind.max, IntKind.signed, IntKind.bits] using h
  exact ⟨x.toNat, by omega, by omega⟩
theorem wf_i64 {x : Int} (h : (Lit.int .i64 x).wf = true) : -9223372036854775808 ≤ x ∧ x ≤ 9223372036854775807 := by
  simpa [Lit.wf, IntKind.min, IntKind.max, IntKind.signed, IntKind.bits] using h

theorem may_eq2 (c0 c1 c2 : Int) (l : List En) (hl : l.length ≤ 1000000) (k : Nat) : script_May.f k c0 c1 c2 l = some (planB c0 c1 c2 && (decide (l.length ≤ 60000) && l.all entryB)) := by
  unfold script_May.f
  rw [if_pos hl]

/-! Numbers, byte by byte. -/
def leB : Nat → Nat → List Int
  | 0, _ => []
  | k + 1, n => ((n % 256 : Nat) : Int) :: leB k (n / 256)
theorem leB_len : ∀ k n, (leB k n).length = k
  | 0, _ => rfl
  | k + 1, n => by rw [leB, List.length_cons, leB_len k]
theorem number_loop (n s : Nat) (hn : n < 2 ^ 64) (hs : s ≤ 8) (d : Nat) : ∀ (k i m : Nat) (l : List Int), i + d = s → m = n / 2 ^ (8 * i) → l.length + 8 < 140737488355328 + i → d < k → script_number.l0 k l (n : Int) (s : Int) (i : Int) = some (l ++ leB d m) := by
  induction d with
  | zero =>
    intro k i m l h hm hl hk
    obtain ⟨k, rfl⟩ : ∃ m, k = m + 1 := ⟨k - 1, by omega⟩
    rw [script_number.l0, if_neg (by omega), leB, List.append_nil]
  | succ d ih =>
    intro k i m l h hm hl hk
    obtain ⟨k, rfl⟩ : ∃ m, k = m + 1 := ⟨k - 1, by omega⟩
    have e : fieldN n (8 * i) 8 = m % 256 := by rw [hm]; rfl
    rw [script_number.l0, if_pos (by omega), w64p (by omega : _ ∧ (8 : Int) * (i : Int) ≤ _), show (8 : Int) * (i : Int) = ((8 * i : Nat) : Int) from by omega, show (8 : Int) = ((8 : Nat) : Int) from rfl, field_yes hn (by omega) (by omega), Option.bind_some, if_pos (by omega), w64p (by omega), show (i : Int) + 1 = ((i + 1 : Nat) : Int) from by omega, e]
    rw [show (((m % 256 : Nat) : Int) % 256) = ((m % 256 : Nat) : Int) from by omega]
    rw [ih k (i + 1) (m / 256) _ (by omega) ?_ (by simp; omega) (by omega), leB, List.append_assoc]
    · rfl
    · rw [hm, Nat.div_div_eq_div_mul, show 8 * (i + 1) = 8 * i + 8 from by omega, Nat.pow_add]
theorem number_eq (n s : Nat) (hn : n < 2 ^ 64) (hs : s ≤ 8) (l : List Int) (hl : l.length + 8 < 140737488355328) {k : Nat} (hk : 8 < k) : script_number.f k l (n : Int) (s : Int) = some (l ++ leB s n) := by
  unfold script_number.f
  exact number_loop n s hn hs s k 0 n l (by omega) (by simp) (by omega) (by omega)

/-! One entry's bytes. -/
def bitsN (n : Int) : Nat := (n % 18446744073709551616).toNat
theorem bitsN_lt (n : Int) : bitsN n < 2 ^ 64 := by unfold bitsN; omega
theorem bits_eq (n : Int) : word_Bits.f n = some ((bitsN n : Nat) : Int) := by
  unfold word_Bits.f bitsN
  rw [u64_wrap_eq]
  refine congrArg some ?_
  omega
def encE (x : En) : List Int := if x.f1 = true then [x.f0 + 128, x.f2.f0 % 256] ++ (leB 8 (bitsN x.f2.f1) ++ (leB 8 (bitsN x.f2.f2) ++ (leB 8 (bitsN x.f2.f3) ++ leB 2 (bitsN x.f2.f4)))) else [x.f0]
theorem encE_len (x : En) : (encE x).length ≤ 28 := by
  unfold encE
  split
  · simp only [List.length_append, leB_len, List.length_cons, List.length_nil]; omega
  · simp
theorem turn_on : ∀ t, t < 64 → withN t 7 1 1 = t + 128 := by decide +kernel
theorem turn_off : ∀ t, t < 64 → withN t 7 1 0 = t := by decide +kernel
theorem turned_eq {t : Int} (h0 : 0 ≤ t) (h1 : t ≤ 63) (b : Bool) : word_Turned.f (IntKind.u64.wrap t) 7 b = some (if b = true then t + 128 else t) := by
  obtain ⟨n, rfl⟩ : ∃ n : Nat, t = n := ⟨t.toNat, by omega⟩
  rw [u64_wrap_of (by omega) (by omega), show (7 : Int) = ((7 : Nat) : Int) from rfl, turned_yes (by omega) (by omega)]
  cases b with
  | true => rw [if_pos rfl, if_pos rfl, turn_on n (by omega)]; refine congrArg some ?_; omega
  | false => rw [if_neg (by decide), if_neg (by decide), turn_off n (by omega)]
theorem one_eq (x : En) (he : entryB x = true) (l : List Int) (hl : l.length + 100 < 140737488355328) {k : Nat} (hk : 20 < k) : script_one.f k l x.f0 x.f1 x.f2.f0 x.f2.f1 x.f2.f2 x.f2.f3 x.f2.f4 = some (l ++ encE x) := by
  unfold entryB entryF at he
  rw [Bool.and_eq_true, decide_eq_true_eq] at he
  obtain ⟨⟨h0, h1⟩, he⟩ := he
  unfold script_one.f encE
  rw [turned_eq h0 h1, Option.bind_some, if_pos (by omega), Option.bind_some]
  cases hb : x.f1 with
  | false =>
    rw [if_neg (by decide), if_neg (by decide), if_neg (by decide), show x.f0 % 256 = x.f0 from by omega]
  | true =>
    rw [hb, if_pos rfl, Bool.and_eq_true, decide_eq_true_eq, decide_eq_true_eq] at he
    rw [if_pos rfl, if_pos rfl, if_pos rfl, if_pos (by simp; omega), Option.bind_some]
    obtain ⟨k, rfl⟩ : ∃ m, k = m + 4 := ⟨k - 4, by omega⟩
    have hlim : IntKind.u64.wrap x.f2.f4 = ((bitsN x.f2.f4 : Nat) : Int) := by rw [u64_wrap_eq]; unfold bitsN; omega
    have n8 : (8 : Int) = ((8 : Nat) : Int) := rfl
    have n2 : (2 : Int) = ((2 : Nat) : Int) := rfl
    rw [show (([x.f2.f1, x.f2.f2, x.f2.f3] : List Int).length : Int) = 3 from rfl]
    rw [script_one.l0, if_pos (by decide), if_pos (by decide), if_pos (by simp), show rd [x.f2.f1, x.f2.f2, x.f2.f3] 0 = x.f2.f1 from rfl, bits_eq, Option.bind_some, n8, number_eq _ _ (bitsN_lt _) (by decide) _ (by simp; omega) (by omega), Option.bind_some, w64p (by decide : _ ∧ (0 : Int) + 1 ≤ _), show (0 : Int) + 1 = 1 from rfl]
    rw [script_one.l0, if_pos (by decide), if_pos (by decide), if_pos (by simp), show rd [x.f2.f1, x.f2.f2, x.f2.f3] 1 = x.f2.f2 from rfl, bits_eq, Option.bind_some, n8, number_eq _ _ (bitsN_lt _) (by decide) _ (by simp [leB_len]; omega) (by omega), Option.bind_some, w64p (by decide : _ ∧ (1 : Int) + 1 ≤ _), show (1 : Int) + 1 = 2 from rfl]
    rw [script_one.l0, if_pos (by decide), if_pos (by decide), if_pos (by simp), show rd [x.f2.f1, x.f2.f2, x.f2.f3] 2 = x.f2.f3 from rfl, bits_eq, Option.bind_some, n8, number_eq _ _ (bitsN_lt _) (by decide) _ (by simp [leB_len]; omega) (by omega), Option.bind_some, w64p (by decide : _ ∧ (2 : Int) + 1 ≤ _), show (2 : Int) + 1 = 3 from rfl]
    rw [script_one.l0, if_neg (by decide), hlim, n2, number_eq _ _ (bitsN_lt _) (by decide) _ (by simp [leB_len]; omega) (by omega), Option.bind_some]
    rw [show (x.f0 + 128) % 256 = x.f0 + 128 from by omega]
    simp only [List.append_assoc, List.cons_append, List.nil_append]
theorem drop_flat (l : List En) (i : Nat) (hi : i < l.length) : (l.drop i).flatMap encE = encE l[i] ++ (l.drop (i + 1)).flatMap encE := by
  rw [List.drop_eq_getElem_cons hi]
  rfl
theorem all_at {l : List En} (h : l.all entryB = true) (i : Nat) (hi : i < l.length) : entryB l[i] = true := List.all_eq_true.1 h _ (List.getElem_mem hi)
theorem put_loop (es : List En) (hl : es.length ≤ 1000000) (ha : es.all entryB = true) (d : Nat) : ∀ (k i : Nat) (l : List Int), i + d = es.length → l.length ≤ 100 + 28 * i → d + 21 < k → script_Put.l0 k l es (es.length : Int) (i : Int) = some (l ++ (es.drop i).flatMap encE, 0) := by
  induction d with
  | zero =>
    intro k i l h hn hk
    obtain ⟨k, rfl⟩ : ∃ m, k = m + 1 := ⟨k - 1, by omega⟩
    rw [script_Put.l0, if_neg (by omega), List.drop_of_length_le (by omega)]
    simp
  | succ d ih =>
    intro k i l h hn hk
    obtain ⟨k, rfl⟩ : ∃ m, k = m + 1 := ⟨k - 1, by omega⟩
    have he := encE_len es[i]
    rw [script_Put.l0, if_pos (by omega), if_pos (by omega), if_pos (by omega), rdE es i (by omega), one_eq es[i] (all_at ha i (by omega)) l (by omega) (by omega), Option.bind_some, w64p (by omega), show (i : Int) + 1 = ((i + 1 : Nat) : Int) from by omega, ih k (i + 1) _ (by omega) (by simp; omega) (by omega), drop_flat es i (by omega), List.append_assoc]
def bytesP (c0 : Int) (slots stamps : Nat) (es : List En) : List Int := [c0 % 256] ++ (leB 2 slots ++ (leB 8 stamps ++ es.flatMap encE))
theorem put_eq (c0 : Int) (slots stamps : Nat) (es : List En) (hl : es.length ≤ 60000) (hp : planB c0 slots stamps = true) (ha : es.all entryB = true) {k : Nat} (hk : es.length + 100 < k) : script_Put.f k c0 (slots : Int) (stamps : Int) es = some (bytesP c0 slots stamps es, 0) := by
  unfold planB at hp
  rw [Bool.and_eq_true, Bool.and_eq_true, decide_eq_true_eq, decide_eq_true_eq, decide_eq_true_eq] at hp
  have hp2 : planB c0 slots stamps = true := by
    unfold planB
    rw [decide_eq_true hp.1, decide_eq_true hp.2.1, decide_eq_true hp.2.2]
    rfl
  unfold script_Put.f bytesP
  rw [may_eq2 _ _ _ _ (by omega), hp2, decide_eq_true hl, ha, Option.bind_some, if_pos (show (true && (true && true)) = true from rfl), u64_wrap_of (by omega) (by omega), show (2 : Int) = ((2 : Nat) : Int) from rfl, number_eq _ _ (by omega) (by decide) _ (by simp) (by omega), Option.bind_some, show (8 : Int) = ((8 : Nat) : Int) from rfl, number_eq _ _ (by omega) (by decide) _ (by simp [leB_len]) (by omega), Option.bind_some, show (0 : Int) = ((0 : Nat) : Int) from rfl, put_loop es (by omega) ha es.length k 0 _ (by omega) (by simp [leB_len]) (by omega)]
  simp

theorem lives_eq {k : Nat} (hk : 200 < k) : deadwoodlaw14_lives.f k = some true := by
  have h := put_eq 1 7 1 [] (by decide) (by decide) (by decide) (k := k) (by simp; omega)
  unfold deadwoodlaw14_lives.f
  rw [show (7 : Int) = ((7 : Nat) : Int) from rfl, show script_Put.f k 1 ((7 : Nat) : Int) 1 [] = some (bytesP 1 7 1 [], 0) from h, Option.bind_some, if_pos rfl]
  refine congrArg some ?_
  decide +kernel

theorem rclean_take (l : List En) (a b c : Int) : (if (l.length : Int) > 60000 then (if 60000 ≤ (l.length : Int) then (some (a, b, c, (l.take 60000))) else (none)) else (some (a, b, c, l))) = some (a, b, c, l.take 60000) := by
  by_cases h : (l.length : Int) > 60000
  · rw [if_pos h, if_pos (by omega)]
  · rw [if_neg h, List.take_of_length_le (by omega)]
theorem rclean_4 (k : Nat) (p q r : Int) (l : List En) (a b c : Int) (hc : 1 ≤ c) : deadwoodref14_Clean.j4 (k + 1) p q r l a b c = some (a, b, clampI 1 1099511627776 c, l.take 60000) := by
  rw [deadwoodref14_Clean.j4]
  by_cases h : c > 1099511627776
  · rw [if_pos h, rclean_take, show clampI 1 1099511627776 c = 1099511627776 by unfold clampI; omega]
  · rw [if_neg h, rclean_take, show clampI 1 1099511627776 c = c by unfold clampI; omega]
theorem rclean_3 (k : Nat) (p q r : Int) (l : List En) (a b c : Int) : deadwoodref14_Clean.j3 (k + 2) p q r l a b c = some (a, b, clampI 1 1099511627776 c, l.take 60000) := by
  rw [deadwoodref14_Clean.j3]
  by_cases h : c < 1
  · rw [if_pos h, rclean_4 k p q r l a b 1 (by omega), show clampI 1 1099511627776 c = clampI 1 1099511627776 1 by unfold clampI; omega]
  · rw [if_neg h, rclean_4 k p q r l a b c (by omega)]
theorem rclean_2 (k : Nat) (p q r : Int) (l : List En) (a b c : Int) (hb : 7 ≤ b) : deadwoodref14_Clean.j2 (k + 3) p q r l a b c = some (a, clampI 7 250 b, clampI 1 1099511627776 c, l.take 60000) := by
  rw [deadwoodref14_Clean.j2]
  by_cases h : b > 250
  · rw [if_pos h, rclean_3, show clampI 7 250 b = 250 by unfold clampI; omega]
  · rw [if_neg h, rclean_3, show clampI 7 250 b = b by unfold clampI; omega]
theorem rclean_1 (k : Nat) (p q r : Int) (l : List En) (a b c : Int) : deadwoodref14_Clean.j1 (k + 4) p q r l a b c = some (a, clampI 7 250 b, clampI 1 1099511627776 c, l.take 60000) := by
  rw [deadwoodref14_Clean.j1]
  by_cases h : b < 7
  · rw [if_pos h, rclean_2 k p q r l a 7 c (by omega), show clampI 7 250 b = clampI 7 250 7 by unfold clampI; omega]
  · rw [if_neg h, rclean_2 k p q r l a b c (by omega)]
theorem rclean_0 (k : Nat) (p q r : Int) (l : List En) (a b c : Int) (ha : 1 ≤ a) : deadwoodref14_Clean.j0 (k + 5) p q r l a b c = some (clampI 1 6 a, clampI 7 250 b, clampI 1 1099511627776 c, l.take 60000) := by
  rw [deadwoodref14_Clean.j0]
  by_cases h : a > 6
  · rw [if_pos h, rclean_1, show clampI 1 6 a = 6 by unfold clampI; omega]
  · rw [if_neg h, rclean_1, show clampI 1 6 a = a by unfold clampI; omega]
theorem rclean_eq (k : Nat) (a b c : Int) (l : List En) : deadwoodref14_Clean.f (k + 5) a b c l = some (clampI 1 6 a, clampI 7 250 b, clampI 1 1099511627776 c, l.take 60000) := by
  unfold deadwoodref14_Clean.f
  by_cases h : a < 1
  · rw [if_pos h, rclean_0 k a b c l 1 b c (by omega), show clampI 1 6 a = clampI 1 6 1 by unfold clampI; omega]
  · rw [if_neg h, rclean_0 k a b c l a b c (by omega)]
theorem ScriptCleans : deadwoodlaw14_ScriptCleans.Pure := by
  intro x hx
  refine ⟨200005, ?_⟩
  have hlv : deadwoodlaw14_lives.f 200005 = some true := lives_eq (by decide)
  unfold deadwoodlaw14_ScriptCleans.f
  by_cases h : (x.f1.length : Int) > 60100
  · rw [if_pos h, hlv, Option.bind_some]
  · rw [if_neg h]
    have hc : script_Clean.f 200005 x.f0.f0 x.f0.f1 x.f0.f2 x.f1 = some (clampI 1 6 x.f0.f0, clampI 7 250 x.f0.f1, clampI 1 1099511627776 x.f0.f2, x.f1.take 60000) := by
      unfold script_Clean.f
      rw [if_pos (by omega)]
    have hr := rclean_eq 200000 x.f0.f0 x.f0.f1 x.f0.f2 x.f1
    have hl : (x.f1.take 60000).length ≤ 60000 := by rw [List.length_take]; omega
    have hs := rsame_eq (clampI 1 6 x.f0.f0) (clampI 7 250 x.f0.f1) (clampI 1 1099511627776 x.f0.f2) (x.f1.take 60000) (clampI 1 6 x.f0.f0) (clampI 7 250 x.f0.f1) (clampI 1 1099511627776 x.f0.f2) (x.f1.take 60000) (by omega) (k := 200005) (by omega)
    have hse : (confB (clampI 1 6 x.f0.f0) (clampI 7 250 x.f0.f1) (clampI 1 1099511627776 x.f0.f2) (clampI 1 6 x.f0.f0) (clampI 7 250 x.f0.f1) (clampI 1 1099511627776 x.f0.f2) && sameE (x.f1.take 60000) (x.f1.take 60000)) = true := by rw [sameE_self]; unfold confB; simp
    rw [hse] at hs
    rw [hc, Option.bind_some, hr, Option.bind_some]
    dsimp only
    rw [hs, Option.bind_some, if_pos rfl, hlv, Option.bind_some]

end Go.Proofs.Ytckbndckfeicmaa.Pure
