/- Whether a history may be: the document's count, thread by thread, is the program's. -/
import Derived.Test.YtacajonkkfmibaaPHistOpersx4
import Derived.Test.YtacajonkkfmibaaNum
set_option linter.unusedVariables false
set_option linter.unusedSimpArgs false
namespace Go.Proofs.Ytacajonkkfmibaa.HistMayRef
open Go Go.RowKit Go.Proofs.YtacajonkkfmibaaW.PrintWords Go.Proofs.Ytacajonkkfmibaa.PHistOpers Go.Proofs.Ytacajonkkfmibaa.PHistOpers.HistW Go.Proofs.Ytacajonkkfmibaa.Num
def cnt (t : Int) (l : List Ev) : Nat := (l.filter (fun e => e.f0 == t)).length
theorem cnt_cons (t : Int) (e : Ev) (l : List Ev) : cnt t (e :: l) = (if e.f0 = t then 1 else 0) + cnt t l := by
  unfold cnt
  rw [List.filter_cons]
  by_cases h : e.f0 = t
  · rw [if_pos (beq_iff_eq.2 h), if_pos h, List.length_cons]; omega
  · rw [if_neg (by rw [beq_iff_eq]; exact h), if_neg h]; omega
theorem cnt_snoc (t : Int) (l : List Ev) (i : Nat) (hi : i < l.length) : cnt t (l.take (i + 1)) = cnt t (l.take i) + (if l[i].f0 = t then 1 else 0) := by
  rw [List.take_succ_eq_append_getElem hi]
  unfold cnt
  rw [List.filter_append, List.length_append, List.filter_cons]
  by_cases h : l[i].f0 = t
  · rw [if_pos h, if_pos (beq_iff_eq.2 h)]; rfl
  · rw [if_neg h, if_neg (by rw [beq_iff_eq]; exact h)]; rfl
theorem l1_run (l : List Ev) (i : Nat) (hi : i < l.length) (hl : l.length ≤ 1000000) (K : Nat) : ∀ (d j n : Nat), j + d = i → n ≤ j →
    deadwoodref11_May.l1 (K + 1 + d) l (i : Int) (n : Int) (j : Int) = (if (l[i].f1 != (Int.tmod ((n + cnt l[i].f0 ((l.take i).drop j) : Nat) : Int) 2 == 1)) = true then some false else deadwoodref11_May.l0 K l (wrap64 ((i : Int) + 1))) := by
  intro d
  induction d with
  | zero =>
    intro j n hj hn
    obtain rfl : j = i := by omega
    have e : (l.take j).drop j = [] := by rw [List.drop_eq_nil_iff]; simp; omega
    rw [e, show cnt l[j].f0 [] = 0 from rfl, Nat.add_zero, Nat.add_zero, deadwoodref11_May.l1, if_neg (by omega), if_pos (by omega), if_pos (by omega), rd_ev l j hi, Nat.add_zero]
  | succ d ih =>
    intro j n hj hn
    have hjl : j < l.length := by omega
    have e : (l.take i).drop j = l[j] :: (l.take i).drop (j + 1) := by
      rw [List.drop_eq_getElem_cons (by simp; omega)]
      simp
    rw [e, cnt_cons]
    show deadwoodref11_May.l1 (K + 1 + d + 1) l i n j = _
    rw [deadwoodref11_May.l1, if_pos (by omega), if_pos (by omega), if_pos (by omega), if_pos (by omega), if_pos (by omega), rd_ev l j hjl, rd_ev l i hi]
    by_cases h : l[j].f0 = l[i].f0
    · rw [if_pos h, if_pos h, wrap64_of (by omega) (by omega), wrap64_of (by omega) (by omega), show (n : Int) + 1 = ((n + 1 : Nat) : Int) by omega, show (j : Int) + 1 = ((j + 1 : Nat) : Int) by omega, ih (j + 1) (n + 1) (by omega) (by omega), Nat.add_assoc n 1]
    · rw [if_neg h, if_neg h, wrap64_of (by omega) (by omega), show (j : Int) + 1 = ((j + 1 : Nat) : Int) by omega, ih (j + 1) n (by omega) (by omega), Nat.zero_add]
theorem par (n : Nat) : (Int.tmod (n : Int) 2 == 1) = decide (n % 2 = 1) := by
  rw [Int.tmod_eq_emod_of_nonneg (by omega)]
  by_cases h : n % 2 = 1
  · rw [decide_eq_true h, beq_iff_eq]; omega
  · rw [decide_eq_false h, beq_eq_false_iff_ne]; omega
theorem l0_run (l : List Ev) (hl : l.length ≤ 120) : ∀ (d i : Nat) (st : List Bool) (s : Nat), i + d = l.length → (st.length = 6 ∧ ∀ t : Nat, t < 6 → st.getD t false = decide (cnt (t : Int) (l.take i) % 2 = 1)) →
    deadwoodref11_May.l0 (d * 123 + 1 + s) l (i : Int) = some (mrun st (l.drop i)) := by
  intro d
  induction d with
  | zero =>
    intro i st s hi hst
    rw [List.drop_of_length_le (by omega), show 0 * 123 + 1 + s = s + 1 by omega, deadwoodref11_May.l0, if_neg (by omega)]
    rfl
  | succ d ih =>
    intro i st s hi hst
    have hil : i < l.length := by omega
    rw [mrun_drop st l i hil]
    obtain ⟨s', hs'⟩ : ∃ s', s' = s + (120 - i) := ⟨_, rfl⟩
    rw [show (d + 1) * 123 + 1 + s = ((d * 123 + 1 + s') + 1 + i + 1) + 1 by omega]
    rw [deadwoodref11_May.l0, if_pos (by omega), if_pos (by omega), rd_ev l i hil]
    have key := l1_run l i hil (by omega) (d * 123 + 1 + s') i 0 0 (by omega) (by omega)
    rw [List.drop_zero, Nat.zero_add, par] at key
    unfold okE
    by_cases h0 : l[i].f0 < 0
    · rw [if_pos h0, deadwoodref11_May.j1, if_pos rfl, decide_eq_false (by omega)]
      rfl
    · by_cases h6 : l[i].f0 > 5
      · rw [if_neg h0, decide_eq_true h6, deadwoodref11_May.j1, if_pos rfl, decide_eq_true (by omega), decide_eq_false (by omega)]
        rfl
      · rw [if_neg h0, decide_eq_false h6, deadwoodref11_May.j1, if_neg (by decide), decide_eq_true (by omega), decide_eq_true (by omega), Bool.true_and, Bool.true_and]
        have key2 : deadwoodref11_May.l1 (d * 123 + 1 + s' + 1 + i) l (i : Int) 0 0 = _ := key
        rw [key2]
        obtain ⟨t, ht⟩ : ∃ t : Nat, l[i].f0 = t := ⟨l[i].f0.toNat, by omega⟩
        have hg := hst.2 t (by omega)
        rw [ht, Int.toNat_natCast, hg]
        by_cases hb : l[i].f1 = decide (cnt (t : Int) (l.take i) % 2 = 1)
        · rw [if_neg (by rw [hb]; simp), wrap64_of (by omega) (by omega), show (i : Int) + 1 = ((i + 1 : Nat) : Int) by omega, ih (i + 1) (st.set t (!l[i].f1)) s' (by omega) ⟨by rw [List.length_set]; exact hst.1, ?_⟩]
          · rw [hb, beq_self_eq_true, Bool.true_and]
          · intro t2 ht2
            rw [List.getD_eq_getElem?_getD, List.getElem?_set, cnt_snoc _ _ _ hil, ht]
            by_cases e2 : t = t2
            · subst e2
              rw [if_pos rfl, if_pos (by rw [hst.1]; omega), if_pos rfl, hb]
              simp only [Option.getD_some]
              by_cases hc : cnt (t : Int) (l.take i) % 2 = 1
              · rw [decide_eq_true hc, decide_eq_false (by omega)]; rfl
              · rw [decide_eq_false hc, decide_eq_true (by omega)]; rfl
            · rw [if_neg e2, if_neg (by omega), Nat.add_zero, ← List.getD_eq_getElem?_getD]
              exact hst.2 t2 ht2
        · rw [if_pos (by rw [bne_iff_ne]; exact hb)]
          have : (decide (cnt (t : Int) (l.take i) % 2 = 1) == l[i].f1) = false := by rw [beq_eq_false_iff_ne]; exact fun h => hb h.symm
          rw [this]
          rfl
theorem ref_may (l : List Ev) (hl : l.length ≤ 120) : deadwoodref11_May.f fuelR l = some (mayF l) := by
  obtain ⟨s, hs⟩ : ∃ s, l.length * 123 + 1 + s = fuelR := ⟨fuelR - (l.length * 123 + 1), by unfold fuelR; omega⟩
  have h := l0_run l hl l.length 0 st0 s (by omega) ⟨rfl, fun t _ => by rw [st0_get]; rfl⟩
  rw [hs, List.drop_zero] at h
  exact h
end Go.Proofs.Ytacajonkkfmibaa.HistMayRef
