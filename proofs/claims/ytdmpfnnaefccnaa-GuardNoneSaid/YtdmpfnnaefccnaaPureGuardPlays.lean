/- What edges and the document's guards are, in numbers. -/
import Derived.Test.YtdmpfnnaefccnaaGDrop
import Derived.Test.YtdmpfnnaefccnaaPGuardPlaysx2
import Derived.Test.YtdmpfnnaefccnaaNum
set_option linter.unusedVariables false
set_option linter.unusedSimpArgs false
namespace Go.Proofs.Ytdmpfnnaefccnaa.Pure
open Go Go.RowKit Go.Proofs.Ytdmpfnnaefccnaa.PGuardPlays Go.Proofs.YtdmpfnnaefccnaaW.PrintWords Go.Proofs.YtdmpfnnaefccnaaW.PrintLast Go.Proofs.YtdmpfnnaefccnaaW.PrintMore Go.Proofs.Ytdmpfnnaefccnaa.Num

/-! Fields and words, as the printed functions tell them. -/
theorem may_eq (a b : Int) : word_may.f a b = some (decide (0 ≤ a ∧ a < 64 ∧ 1 ≤ b ∧ b ≤ 64 - a)) := by
  unfold word_may.f
  by_cases h1 : a ≥ 0
  · by_cases h2 : a < 64
    · by_cases h3 : b ≥ 1
      · rw [if_pos h1, if_pos h2, if_pos h3, wrap64_of (by omega) (by omega)]
        congr 1
        apply decide_eq_decide.2
        omega
      · rw [if_pos h1, if_pos h2, if_neg h3]
        congr 1; symm
        exact decide_eq_false (by omega)
    · rw [if_pos h1, if_neg h2]
      congr 1; symm
      exact decide_eq_false (by omega)
  · rw [if_neg h1]
    congr 1; symm
    exact decide_eq_false (by omega)
theorem may_yes {a b : Nat} (hb : 1 ≤ b) (hab : a + b ≤ 64) : word_may.f (a : Int) (b : Int) = some true := by
  rw [may_eq]; congr 1; exact decide_eq_true (by omega)
theorem may_no {a b : Int} (h : ¬ (0 ≤ a ∧ 1 ≤ b ∧ a + b ≤ 64)) : word_may.f a b = some false := by
  rw [may_eq]; congr 1; exact decide_eq_false (by omega)
theorem mask_yes {a b : Nat} (hb : 1 ≤ b) (hab : a + b ≤ 64) : word_Mask.f (a : Int) (b : Int) = some ((maskN a b : Nat) : Int) := by
  unfold word_Mask.f
  rw [may_yes hb hab, Option.bind_some, if_pos rfl, wrap64_of (by omega) (by omega), if_pos (by omega), if_pos (by omega)]
  congr 1
  unfold shl shr
  rw [show ((64 : Int) - (b : Int)).toNat = 64 - b from by omega, show ((a : Nat) : Int).toNat = a from by omega]
  rw [show IntKind.u64.bits = 64 from rfl, Nat.min_eq_left (by omega : 64 - b ≤ 64), Nat.min_eq_left (by omega : a ≤ 64), ← maskN_made hab, u64_wrap_eq]
  rw [show ((2 : Int) ^ (64 - b)) = ((2 ^ (64 - b) : Nat) : Int) from (Int.natCast_pow 2 _).symm, show ((2 : Int) ^ a) = ((2 ^ a : Nat) : Int) from (Int.natCast_pow 2 _).symm]
  generalize 2 ^ (64 - b) = p
  generalize 2 ^ a = q
  rw [Int.natCast_emod, Int.natCast_mul, Int.natCast_ediv]
  rfl
theorem mask_no {a b : Int} (h : ¬ (0 ≤ a ∧ 1 ≤ b ∧ a + b ≤ 64)) : word_Mask.f a b = some 0 := by
  unfold word_Mask.f
  rw [may_no h, Option.bind_some, if_neg (by simp)]

theorem with_yes {w a b n : Nat} (hw : w < 2 ^ 64) (hn : n < 2 ^ 64) (hb : 1 ≤ b) (hab : a + b ≤ 64) : word_With.f (w : Int) (a : Int) (b : Int) (n : Int) = some ((withN w a b n : Nat) : Int) := by
  unfold word_With.f
  rw [may_yes hb hab, Option.bind_some, if_pos rfl, mask_yes hb hab, Option.bind_some, if_pos (by omega)]
  congr 1
  obtain ⟨c, hc, hc1, hc2⟩ := bits_andNot_nat hw (maskN_lt hab)
  have hs : shl .u64 (n : Int) (a : Int) = ((n * 2 ^ a % 2 ^ 64 : Nat) : Int) := by
    unfold shl
    rw [show ((a : Nat) : Int).toNat = a from by omega, show IntKind.u64.bits = 64 from rfl, Nat.min_eq_left (by omega), u64_wrap_eq]
    rw [show ((2 : Int) ^ a) = ((2 ^ a : Nat) : Int) from (Int.natCast_pow 2 _).symm]
    generalize 2 ^ a = q
    rw [Int.natCast_emod, Int.natCast_mul]
    rfl
  have hs1 : n * 2 ^ a % 2 ^ 64 < 2 ^ 64 := Nat.mod_lt _ (by decide)
  rw [hc, hs, bits_and_nat hs1 (maskN_lt hab), bits_or_nat hc1 (Nat.and_lt_two_pow _ (maskN_lt hab)), with_made hw hn hab hc2]
theorem with_no {a b : Int} (w n : Int) (h : ¬ (0 ≤ a ∧ 1 ≤ b ∧ a + b ≤ 64)) : word_With.f w a b n = some w := by
  unfold word_With.f
  rw [may_no h, Option.bind_some, if_neg (by simp)]

theorem field_yes {w a b : Nat} (hw : w < 2 ^ 64) (hb : 1 ≤ b) (hab : a + b ≤ 64) : word_Field.f (w : Int) (a : Int) (b : Int) = some ((fieldN w a b : Nat) : Int) := by
  unfold word_Field.f
  rw [may_yes hb hab, Option.bind_some, if_pos rfl, mask_yes hb hab, Option.bind_some, if_pos (by omega)]
  congr 1
  unfold shr
  rw [bits_and_nat hw (maskN_lt hab), show ((a : Nat) : Int).toNat = a from by omega, show IntKind.u64.bits = 64 from rfl, Nat.min_eq_left (by omega), ← field_made hw hab]
  rw [show ((2 : Int) ^ a) = ((2 ^ a : Nat) : Int) from (Int.natCast_pow 2 _).symm, Int.natCast_ediv]
theorem field_no {a b : Int} (w : Int) (h : ¬ (0 ≤ a ∧ 1 ≤ b ∧ a + b ≤ 64)) : word_Field.f w a b = some 0 := by
  unfold word_Field.f
  rw [may_no h, Option.bind_some, if_neg (by simp)]

theorem wf_u64 {x : Int} (h : (Lit.int .u64 x).wf = true) : ∃ n : Nat, x = (n : Int) ∧ n < 2 ^ 64 := by
  have h' : 0 ≤ x ∧ x ≤ 18446744073709551615 := by simpa [Lit.wf, IntKind.min, IntKind.max, IntKind.signed, IntKind.bits] using h
  exact ⟨x.toNat, by omega, by omega⟩
theorem wf_i64 {x : Int} (h : (Lit.int .i64 x).wf = true) : -9223372036854775808 ≤ x ∧ x ≤ 9223372036854775807 := by
  simpa [Lit.wf, IntKind.min, IntKind.max, IntKind.signed, IntKind.bits] using h
theorem xor_high {n : Nat} (h : n < 2 ^ 64) : Go.bits .xor .u64 (n : Int) 9223372036854775808 = (((n + 9223372036854775808) % 18446744073709551616 : Nat) : Int) := by
  have hx := bits_xor_nat (b := 9223372036854775808) h (by decide)
  simp only [Int.cast_ofNat_Int] at hx
  rw [hx]
  refine congrArg _ ?_
  apply Nat.eq_of_testBit_eq
  intro i
  rw [Nat.testBit_xor, show (9223372036854775808 : Nat) = 2 ^ 63 from by decide, show (18446744073709551616 : Nat) = 2 ^ 64 from by decide, Nat.testBit_mod_two_pow, Nat.testBit_two_pow]
  by_cases hi : i < 64
  · by_cases h63 : i = 63
    · subst h63
      rw [Nat.testBit_eq_decide_div_mod_eq, Nat.testBit_eq_decide_div_mod_eq]
      have h1 : (n + 2 ^ 63) / 2 ^ 63 = n / 2 ^ 63 + 1 := by omega
      rw [h1]
      have h2 : n / 2 ^ 63 < 2 := by omega
      by_cases h3 : n / 2 ^ 63 = 1
      · simp [h3]
      · have : n / 2 ^ 63 = 0 := by omega
        simp [this]
    · have h1 : (2 ^ 63 + n).testBit i = n.testBit i := Nat.testBit_two_pow_add_gt (by omega) n
      rw [Nat.add_comm, h1]
      have : ¬ 63 = i := fun h => h63 h.symm
      simp [hi, this]
  · have : ¬ 63 = i := by omega
    have h2 := lt64 h (by omega : 64 ≤ i)
    simp [hi, this, h2]

theorem slot_eq {w : Nat} (hw : w < 2 ^ 64) : edge_Edge_Slot.f (w : Int) = some ((w % 4096 : Nat) : Int) := by
  have h := field_yes (a := 0) (b := 12) hw (by decide) (by decide)
  unfold edge_Edge_Slot.f
  rw [show word_Field.f (w : Int) 0 12 = _ from h, Option.bind_some]
  refine congrArg some ?_
  rw [field_zero, wrap64_of] <;> omega

theorem node_eq {w : Nat} (hw : w < 2 ^ 64) : edge_Edge_Node.f (w : Int) = some ((w % 4611686018427387904 : Nat) : Int) := by
  have h := field_yes (a := 0) (b := 62) hw (by decide) (by decide)
  unfold edge_Edge_Node.f
  rw [show word_Field.f (w : Int) 0 62 = _ from h, Option.bind_some, field_zero]

theorem make_eq {s : Int} {g : Nat} (hs : -9223372036854775808 ≤ s ∧ s ≤ 9223372036854775807) (hg : g < 2 ^ 64) :
    edge_Make.f s (g : Int) = some (((if 0 ≤ s ∧ s ≤ 4095 then s.toNat else 0) + 4096 * (g % 1125899906842624) : Nat) : Int) := by
  have key : ∀ t : Nat, t < 4096 → word_With.f (t : Int) 12 50 (g : Int) = some ((t + 4096 * (g % 1125899906842624) : Nat) : Int) := by
    intro t ht
    have h := with_yes (w := t) (a := 12) (b := 50) (by omega) hg (by decide) (by decide)
    rw [show word_With.f (t : Int) 12 50 (g : Int) = _ from h]
    refine congrArg some (congrArg _ ?_)
    show t / 2 ^ 62 * 2 ^ 62 + (g % 2 ^ 50) * 2 ^ 12 + t % 2 ^ 12 = _
    omega
  unfold edge_Make.f
  by_cases h1 : s < 0
  · have h := key 0 (by decide)
    rw [if_pos h1, if_neg (by omega), show word_With.f 0 12 50 (g : Int) = _ from h, Option.bind_some]
  · by_cases h2 : s > 4095
    · have h := key 0 (by decide)
      rw [if_neg h1, if_pos h2, if_neg (by omega), show word_With.f 0 12 50 (g : Int) = _ from h, Option.bind_some]
    · have h := key s.toNat (by omega)
      rw [if_neg h1, if_neg h2, if_pos (by omega), u64_wrap_of (by omega) (by omega)]
      rw [show ((s.toNat : Nat) : Int) = s from by omega] at h
      rw [h, Option.bind_some]

theorem put_eq {s g : Nat} (hs : s < 4096) (hg : g < 1125899906842624) (fl tg : Bool) :
    deadwoodref03_Put.f (s : Int) (g : Int) fl tg = some ((s + 4096 * g + (if fl then 4611686018427387904 else 0) + (if tg then 9223372036854775808 else 0) : Nat) : Int) := by
  unfold deadwoodref03_Put.f
  have h1 : IntKind.u64.wrap (s : Int) = s := u64_wrap_of (by omega) (by omega)
  have h2 : IntKind.u64.wrap (4096 * (g : Int)) = 4096 * g := u64_wrap_of (by omega) (by omega)
  have h3 : IntKind.u64.wrap ((s : Int) + 4096 * g) = s + 4096 * g := u64_wrap_of (by omega) (by omega)
  have h4 : IntKind.u64.wrap ((s : Int) + 4096 * g + 4611686018427387904) = s + 4096 * g + 4611686018427387904 := u64_wrap_of (by omega) (by omega)
  have h5 : IntKind.u64.wrap ((s : Int) + 4096 * g + 9223372036854775808) = s + 4096 * g + 9223372036854775808 := u64_wrap_of (by omega) (by omega)
  have h6 : IntKind.u64.wrap ((s : Int) + 4096 * g + 4611686018427387904 + 9223372036854775808) = s + 4096 * g + 4611686018427387904 + 9223372036854775808 := u64_wrap_of (by omega) (by omega)
  rw [h1, h2, h3, h4, h5, h6]
  cases fl <;> cases tg <;> simp <;> omega

theorem read_eq {w : Nat} (hw : w < 2 ^ 64) : deadwoodref03_Read.f (w : Int) = some (((w % 4096 : Nat) : Int), ((w / 4096 % 1125899906842624 : Nat) : Int), decide (w / 4611686018427387904 % 2 = 1), decide (9223372036854775808 ≤ w)) := by
  unfold deadwoodref03_Read.f
  rw [Int.tmod_eq_emod_of_nonneg (by omega), Int.tdiv_eq_ediv_of_nonneg (by omega), Int.tdiv_eq_ediv_of_nonneg (by omega)]
  have h1 : wrap64 ((w : Int) % 4096) = ((w % 4096 : Nat) : Int) := by rw [wrap64_of] <;> omega
  have h2 : IntKind.u64.wrap ((w : Int) / 4096) = ((w / 4096 : Nat) : Int) := by rw [u64_wrap_of] <;> omega
  have h3 : IntKind.u64.wrap ((w : Int) / 4611686018427387904) = ((w / 4611686018427387904 : Nat) : Int) := by rw [u64_wrap_of] <;> omega
  rw [h1, h2, h3, Int.tmod_eq_emod_of_nonneg (by omega), Int.tmod_eq_emod_of_nonneg (by omega)]
  have h4 : ((w / 4096 : Nat) : Int) % 1125899906842624 = ((w / 4096 % 1125899906842624 : Nat) : Int) := by omega
  have h5 : ((((w / 4611686018427387904 : Nat) : Int) % 2) == 1) = decide (w / 4611686018427387904 % 2 = 1) := by
    by_cases h : w / 4611686018427387904 % 2 = 1
    · rw [decide_eq_true h, beq_iff_eq]; omega
    · rw [decide_eq_false h, beq_eq_false_iff_ne]; omega
  have h6 : decide ((w : Int) ≥ 9223372036854775808) = decide (9223372036854775808 ≤ w) := decide_eq_decide.2 (by omega)
  rw [h4, h5, h6]

theorem to_some {w v : Nat} (hw : w < 2 ^ 64) (hv : v < 2 ^ 64) : ∃ b, edge_Edge_To.f (w : Int) (v : Int) = some b ∧ (b = true ↔ w % 4611686018427387904 = v % 4611686018427387904) := by
  unfold edge_Edge_To.f
  rw [node_eq hw, node_eq hv, Option.bind_some, Option.bind_some]
  refine ⟨_, rfl, ?_⟩
  rw [beq_iff_eq]
  omega
abbrev Sl := S91
def insideB (n : Nat) (s : Int) : Bool := decide (1 ≤ s) && decide (s ≤ n)
def slAt (L : List Sl) (s : Int) : Sl := L.getD (s - 1).toNat z91
def heldAt (L : List Sl) (s : Int) : Bool := insideB L.length s && (slAt L s).f0
def edgeV (L : List Sl) (s : Int) : Int := if insideB L.length s = true then s + 4096 * (slAt L s).f1 else 0
def slotN (w : Nat) : Int := ((w % 4096 : Nat) : Int)
def genN (w : Nat) : Int := ((w / 4096 % 1125899906842624 : Nat) : Int)
def leadsB (L : List Sl) (w : Nat) : Bool := heldAt L (slotN w) && ((slAt L (slotN w)).f1 == genN w)
def takeOk (L : List Sl) (s : Int) : Bool := insideB L.length s && !(slAt L s).f0
def putL (L : List Sl) (s : Int) (x : Sl) : List Sl := L.set (s - 1).toNat x
def takeL (L : List Sl) (s : Int) : List Sl := if takeOk L s = true then putL L s ⟨true, (slAt L s).f1⟩ else L
def takeS (L : List Sl) (sl s : Int) : Int := if takeOk L s = true then sl else wrap64 (sl + 1)
def nextG (g : Int) : Int := (g + 1) % 1125899906842624
def dropL (L : List Sl) (w : Nat) : List Sl := if leadsB L w = true then putL L (slotN w) ⟨false, nextG (slAt L (slotN w)).f1⟩ else L
def dropS (L : List Sl) (sl : Int) (w : Nat) : Int := if leadsB L w = true then sl else wrap64 (sl + 1)
def heldN (L : List Sl) : Nat := (L.filter (fun x => x.f0)).length
def WfL (L : List Sl) : Prop := L.length ≤ 250 ∧ ∀ x ∈ L, 0 ≤ x.f1 ∧ x.f1 < 1125899906842624
theorem slAt_mem {L : List Sl} {s : Int} (h : insideB L.length s = true) : slAt L s ∈ L := by
  unfold insideB at h
  simp only [Bool.and_eq_true, decide_eq_true_eq] at h
  have hl : (s - 1).toNat < L.length := by omega
  unfold slAt
  rw [List.getD_eq_getElem?_getD, List.getElem?_eq_getElem hl]
  exact List.getElem_mem hl
theorem slAt_bound {L : List Sl} (hL : WfL L) {s : Int} (h : insideB L.length s = true) : 0 ≤ (slAt L s).f1 ∧ (slAt L s).f1 < 1125899906842624 := hL.2 _ (slAt_mem h)
theorem inside_iff {n : Nat} {s : Int} : insideB n s = true ↔ 1 ≤ s ∧ s ≤ n := by
  unfold insideB
  rw [Bool.and_eq_true, decide_eq_true_eq, decide_eq_true_eq]
theorem set_wf {L : List Sl} (hL : WfL L) (s : Int) (x : Sl) (hx : 0 ≤ x.f1 ∧ x.f1 < 1125899906842624) : WfL (putL L s x) := by
  refine ⟨by unfold putL; rw [List.length_set]; exact hL.1, fun y hy => ?_⟩
  rcases List.mem_or_eq_of_mem_set hy with h | rfl
  · exact hL.2 y h
  · exact hx
theorem take_wf {L : List Sl} (hL : WfL L) (s : Int) : WfL (takeL L s) := by
  unfold takeL
  split
  · rename_i h
    unfold takeOk at h
    rw [Bool.and_eq_true] at h
    exact set_wf hL s _ (slAt_bound hL h.1)
  · exact hL
theorem drop_wf {L : List Sl} (hL : WfL L) (w : Nat) : WfL (dropL L w) := by
  unfold dropL
  split
  · exact set_wf hL _ _ ⟨Int.emod_nonneg _ (by decide), Int.emod_lt_of_pos _ (by decide)⟩
  · exact hL
theorem putL_len (L : List Sl) (s : Int) (x : Sl) : (putL L s x).length = L.length := by unfold putL; rw [List.length_set]
theorem takeL_len (L : List Sl) (s : Int) : (takeL L s).length = L.length := by unfold takeL; split; exact putL_len _ _ _; rfl
theorem dropL_len (L : List Sl) (w : Nat) : (dropL L w).length = L.length := by unfold dropL; split; exact putL_len _ _ _; rfl
theorem wrap_pred {s : Int} (h1 : 1 ≤ s) (h2 : s ≤ 9223372036854775807) : wrap64 (s - 1) = s - 1 := wrap64_of (by omega) (by omega)
theorem ref_edge {L : List Sl} (hL : WfL L) (sl s : Int) : deadwoodref07_Edge.f L sl s = some (edgeV L s) := by
  unfold deadwoodref07_Edge.f edgeV
  by_cases h1 : s < 1
  · rw [if_pos h1, if_neg (by rw [inside_iff]; omega)]
  · by_cases h2 : s > (L.length : Int)
    · rw [if_neg h1, if_pos h2, if_neg (by rw [inside_iff]; omega)]
    · have hi : insideB L.length s = true := inside_iff.2 ⟨by omega, by omega⟩
      have hb := slAt_bound hL hi
      have := hL.1
      rw [if_neg h1, if_neg h2, wrap_pred (by omega) (by omega), if_pos (by omega), if_pos (by omega), if_pos hi]
      show ((deadwoodref03_Put.f s (slAt L s).f1 false false).bind fun t => some t) = _
      obtain ⟨g, hg⟩ : ∃ g : Nat, (slAt L s).f1 = g := ⟨(slAt L s).f1.toNat, by omega⟩
      obtain ⟨n, rfl⟩ : ∃ n : Nat, s = n := ⟨s.toNat, by omega⟩
      rw [hg] at hb ⊢
      rw [put_eq (by omega) (by omega), Option.bind_some]
      refine congrArg some ?_
      rw [if_neg (by decide), if_neg (by decide)]
      omega
theorem ref_leads {L : List Sl} (hL : WfL L) (sl : Int) {w : Nat} (hw : w < 2 ^ 64) : deadwoodref07_Leads.f L sl (w : Int) = some (leadsB L w) := by
  unfold deadwoodref07_Leads.f leadsB heldAt
  rw [read_eq hw, Option.bind_some]
  dsimp only
  have hs : slotN w = ((w % 4096 : Nat) : Int) := rfl
  have hg : genN w = ((w / 4096 % 1125899906842624 : Nat) : Int) := rfl
  rw [← hs, ← hg]
  generalize slotN w = s at *
  generalize genN w = g at *
  clear hg
  by_cases h1 : s > 0
  · by_cases h2 : s ≤ (L.length : Int)
    · have hi : insideB L.length s = true := inside_iff.2 ⟨by omega, by omega⟩
      have := hL.1
      rw [if_pos h1, if_pos h2, wrap_pred (by omega) (by omega), if_pos (by omega), if_pos (by omega), hi]
      show (if (slAt L s).f0 = true then some ((slAt L s).f1 == g) else some false) = _
      cases (slAt L s).f0 <;> rfl
    · rw [if_pos h1, if_neg h2, show insideB L.length s = false from Bool.eq_false_iff.2 (by rw [ne_eq, inside_iff]; omega)]
      rfl
  · rw [if_neg h1, show insideB L.length s = false from Bool.eq_false_iff.2 (by rw [ne_eq, inside_iff]; omega)]
    rfl
theorem ref_take {L : List Sl} (hL : WfL L) (sl s : Int) : deadwoodref07_Take.f L sl s = some (takeL L s, takeS L sl s, takeOk L s) := by
  unfold deadwoodref07_Take.f takeL takeS takeOk
  by_cases h1 : s < 1
  · rw [if_pos h1, show insideB L.length s = false from Bool.eq_false_iff.2 (by rw [ne_eq, inside_iff]; omega)]
    rfl
  · by_cases h2 : s > (L.length : Int)
    · rw [if_neg h1, if_pos h2, show insideB L.length s = false from Bool.eq_false_iff.2 (by rw [ne_eq, inside_iff]; omega)]
      rfl
    · have hi : insideB L.length s = true := inside_iff.2 ⟨by omega, by omega⟩
      have := hL.1
      rw [if_neg h1, if_neg h2, wrap_pred (by omega) (by omega), if_pos (by omega), if_pos (by omega), hi]
      show (if (slAt L s).f0 = true then _ else _) = _
      by_cases hf : (slAt L s).f0 = true
      · rw [if_pos hf, hf]
        rfl
      · rw [if_neg hf, Option.bind_some, if_pos (by rw [List.length_nil]; omega), Option.bind_some, if_pos (by rw [List.nil_append]; omega)]
        rw [show (slAt L s).f0 = false from Bool.eq_false_iff.2 hf]
        rfl
theorem ref_drop {L : List Sl} (hL : WfL L) (sl : Int) {w : Nat} (hw : w < 2 ^ 64) : deadwoodref07_Drop.f L sl (w : Int) = some (dropL L w, dropS L sl w, leadsB L w) := by
  unfold deadwoodref07_Drop.f dropL dropS
  rw [ref_leads hL sl hw, Option.bind_some]
  by_cases hl : leadsB L w = true
  · have hi : insideB L.length (slotN w) = true := by
      unfold leadsB heldAt at hl
      rw [Bool.and_eq_true, Bool.and_eq_true] at hl
      exact hl.1.1
    have hi2 := inside_iff.1 hi
    have hb := slAt_bound hL hi
    have := hL.1
    have hs : slotN w = ((w % 4096 : Nat) : Int) := rfl
    rw [if_pos hl, if_pos hl, if_pos hl, read_eq hw, Option.bind_some]
    dsimp only
    rw [← hs]
    rw [Option.bind_some, if_pos (by rw [List.length_nil]; omega), Option.bind_some, wrap_pred (by omega) (by omega), if_pos (by omega), if_pos (by rw [List.nil_append]; omega), Option.bind_some, hl]
    refine congrArg some ?_
    have e1 : (([] : List Sl) ++ L) = L := List.nil_append L
    rw [e1]
    have hn : (slotN w - 1).toNat < L.length := by omega
    have e2 : rd_T91 (L.set (slotN w - 1).toNat ⟨false, (rd_T91 L (slotN w - 1)).f1⟩) (slotN w - 1) = ⟨false, (slAt L (slotN w)).f1⟩ := by
      unfold rd_T91 slAt
      rw [List.getD_eq_getElem?_getD, List.getElem?_set, if_pos rfl, if_pos hn]
      rfl
    rw [e2, List.set_set]
    have e3 : Int.tmod (IntKind.u64.wrap ((slAt L (slotN w)).f1 + 1)) 1125899906842624 = nextG (slAt L (slotN w)).f1 := by
      unfold nextG
      rw [u64_wrap_of (by omega) (by omega), Int.tmod_eq_emod_of_nonneg (by omega)]
    rw [e3]
    rfl
  · rw [if_neg hl, if_neg hl, if_neg hl, show leadsB L w = false from Bool.eq_false_iff.2 hl]
theorem ref_held_loop {L : List Sl} (hL : WfL L) (sl : Int) : ∀ (d i n : Nat), i + d = L.length → n ≤ i → deadwoodref07_Held.l0 (d + 1) (n : Int) (i : Int) L sl = some ((n + heldN (L.drop i) : Nat) : Int)
  | 0, i, n, hi, hn => by
    rw [deadwoodref07_Held.l0, if_neg (by omega), List.drop_of_length_le (by omega)]
    rfl
  | d + 1, i, n, hi, hn => by
    have hl : i < L.length := by omega
    have := hL.1
    have e : rd_T91 L (i : Int) = L[i] := by unfold rd_T91; rw [Int.toNat_natCast]; simp [List.getD, hl]
    rw [deadwoodref07_Held.l0, if_pos (by omega), if_pos (by omega), e, List.drop_eq_getElem_cons hl]
    unfold heldN
    rw [List.filter_cons]
    by_cases h : L[i].f0 = true
    · rw [if_pos h, if_pos h, wrap64_of (by omega) (by omega), wrap64_of (by omega) (by omega), show (n : Int) + 1 = ((n + 1 : Nat) : Int) by omega, show (i : Int) + 1 = ((i + 1 : Nat) : Int) by omega, ref_held_loop hL sl d (i + 1) (n + 1) (by omega) (by omega), List.length_cons]
      unfold heldN
      refine congrArg some (congrArg _ ?_)
      omega
    · rw [if_neg h, if_neg h, wrap64_of (by omega) (by omega), show (i : Int) + 1 = ((i + 1 : Nat) : Int) by omega, ref_held_loop hL sl d (i + 1) n (by omega) (by omega)]
      rfl
theorem ref_held {L : List Sl} (hL : WfL L) (sl : Int) : ∃ k, deadwoodref07_Held.f k L sl = some (heldN L : Int) := by
  refine ⟨L.length + 1, ?_⟩
  have h := ref_held_loop hL sl L.length 0 0 (by omega) (by omega)
  rw [List.drop_zero, Nat.zero_add] at h
  exact h
def newL (n : Int) : List Sl := if insideB 250 n = true then List.replicate n.toNat z91 else []
theorem ref_new (n : Int) : deadwoodref07_New.f n = some (newL n, 0) := by
  unfold deadwoodref07_New.f newL
  by_cases h1 : n < 1
  · rw [if_pos h1, if_neg (by rw [inside_iff]; omega)]
  · by_cases h2 : n > 250
    · rw [if_neg h1, if_pos h2, if_neg (by rw [inside_iff]; omega)]
    · rw [if_neg h1, if_neg h2, if_pos (by omega), if_pos (by omega), if_pos (inside_iff.2 ⟨by omega, by omega⟩)]
theorem new_wf (n : Int) : WfL (newL n) := by
  unfold newL
  split
  · rename_i h
    have := inside_iff.1 h
    refine ⟨by rw [List.length_replicate]; omega, fun x hx => ?_⟩
    rw [List.eq_of_mem_replicate hx]
    exact ⟨Int.le_refl _, by decide⟩
  · exact ⟨Nat.zero_le _, fun x hx => by cases hx⟩
theorem heldN_le (L : List Sl) : heldN L ≤ L.length := List.length_filter_le _ _

end Go.Proofs.Ytdmpfnnaefccnaa.Pure
