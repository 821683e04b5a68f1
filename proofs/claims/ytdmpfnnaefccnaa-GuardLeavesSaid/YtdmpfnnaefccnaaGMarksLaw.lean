/- What edges and the document's guards are, in numbers. -/
import Derived.Test.YtdmpfnnaefccnaaPureGuardPlays
import Derived.Test.YtdmpfnnaefccnaaGMarks
import Derived.Test.YtdmpfnnaefccnaaNum
set_option linter.unusedVariables false
set_option linter.unusedSimpArgs false
namespace Go.Proofs.Ytdmpfnnaefccnaa.Pure
open Go Go.RowKit Go.Proofs.Ytdmpfnnaefccnaa.PGuardPlays Go.Proofs.YtdmpfnnaefccnaaW.PrintWords Go.Proofs.YtdmpfnnaefccnaaW.PrintLast Go.Proofs.YtdmpfnnaefccnaaW.PrintMore Go.Proofs.Ytdmpfnnaefccnaa.Num

theorem turned_yes {w a : Nat} (hw : w < 2 ^ 64) (ha : a < 64) (on : Bool) : word_Turned.f (w : Int) (a : Int) on = some ((withN w a 1 (if on then 1 else 0) : Nat) : Int) := by
  unfold word_Turned.f
  cases on
  · rw [if_neg (by simp), show (1 : Int) = ((1 : Nat) : Int) from rfl, show (0 : Int) = ((0 : Nat) : Int) from rfl, with_yes hw (by decide) (by omega) (by omega), Option.bind_some]
    rfl
  · rw [if_pos rfl, show (1 : Int) = ((1 : Nat) : Int) from rfl, with_yes hw (by decide) (by omega) (by omega), Option.bind_some]
    rfl

theorem flagged_eq {w : Nat} (hw : w < 2 ^ 64) : edge_Edge_Flagged.f (w : Int) = some ((w / 9223372036854775808 * 9223372036854775808 + 4611686018427387904 + w % 4611686018427387904 : Nat) : Int) := by
  have h := turned_yes (a := 62) hw (by decide) true
  unfold edge_Edge_Flagged.f
  rw [show word_Turned.f (w : Int) 62 true = _ from h, Option.bind_some]
  rfl

theorem tagged_eq {w : Nat} (hw : w < 2 ^ 64) : edge_Edge_Tagged.f (w : Int) = some ((9223372036854775808 + w % 9223372036854775808 : Nat) : Int) := by
  have h := turned_yes (a := 63) hw (by decide) true
  unfold edge_Edge_Tagged.f
  rw [show word_Turned.f (w : Int) 63 true = _ from h, Option.bind_some]
  refine congrArg some (congrArg _ ?_)
  show w / 2 ^ 64 * 2 ^ 64 + (1 % 2) * 2 ^ 63 + w % 2 ^ 63 = _
  have h0 : w / 2 ^ 64 = 0 := Nat.div_eq_of_lt hw
  omega
theorem nextG_ne {g : Int} (h0 : 0 ≤ g) (h1 : g < 1125899906842624) : ¬ nextG g = g := by unfold nextG; omega
theorem wrap_two (x : Int) : wrap64 (wrap64 (x + 1) + 1) = wrap64 (x + 2) := by unfold wrap64; omega
theorem leads_at {L : List Sl} {s : Int} (hi : insideB L.length s = true) {x : Nat} (hs : slotN x = s) : leadsB L x = ((slAt L s).f0 && ((slAt L s).f1 == genN x)) := by
  unfold leadsB heldAt
  rw [hs, hi, Bool.true_and]
/-- An edge's word: it leads to its slot, at its generation; so do its marked twins. -/
theorem edge_word {L : List Sl} (hL : WfL L) {s : Int} (hi : insideB L.length s = true) : ∃ e : Nat, edgeV L s = e ∧ e < 4611686018427387904 ∧ slotN e = s ∧ genN e = (slAt L s).f1 := by
  have hb := slAt_bound hL hi
  obtain ⟨i1, i2⟩ := inside_iff.1 hi
  have hl := hL.1
  unfold edgeV slotN genN
  rw [if_pos hi]
  exact ⟨(s + 4096 * (slAt L s).f1).toNat, by omega, by omega, by omega, by omega⟩
theorem flagged_word {e : Nat} (he : e < 4611686018427387904) : ∃ f : Nat, edge_Edge_Flagged.f (e : Int) = some (f : Int) ∧ f < 2 ^ 64 ∧ slotN f = slotN e ∧ genN f = genN e := by
  refine ⟨_, flagged_eq (by omega), by omega, ?_, ?_⟩
  · unfold slotN; omega
  · unfold genN; omega
theorem tagged_word {e : Nat} (he : e < 4611686018427387904) : ∃ f : Nat, edge_Edge_Tagged.f (e : Int) = some (f : Int) ∧ f < 2 ^ 64 ∧ slotN f = slotN e ∧ genN f = genN e := by
  refine ⟨_, tagged_eq (by omega), by omega, ?_, ?_⟩
  · unfold slotN; omega
  · unfold genN; omega
theorem filter_put (p : Sl → Bool) : ∀ (L : List Sl) (j : Nat) (hj : j < L.length) (x : Sl), ((L.set j x).filter p).length + (if p L[j] = true then 1 else 0) = (L.filter p).length + (if p x = true then 1 else 0)
  | [], j, hj, x => by simp at hj
  | y :: L, 0, hj, x => by
    simp only [List.set_cons_zero, List.filter_cons, List.getElem_cons_zero]
    split <;> split <;> simp
  | y :: L, j + 1, hj, x => by
    have ih := filter_put p L j (by simpa using hj) x
    simp only [List.set_cons_succ, List.filter_cons, List.getElem_cons_succ]
    split <;> (try rw [List.length_cons]) <;> (try rw [List.length_cons]) <;> omega
theorem filter_one (L : List Sl) {s : Int} (h : insideB L.length s = true) (x : Sl) : heldN (putL L s x) + (if (slAt L s).f0 = true then 1 else 0) = heldN L + (if x.f0 = true then 1 else 0) := by
  obtain ⟨i1, i2⟩ := inside_iff.1 h
  have hj : (s - 1).toNat < L.length := by omega
  have e : slAt L s = L[(s - 1).toNat] := by unfold slAt; rw [List.getD_eq_getElem?_getD, List.getElem?_eq_getElem hj]; rfl
  rw [e]
  exact filter_put (fun y => y.f0) L _ hj x
structure Leaves (L1 L2 L4 L5 : List Sl) (s : Int) (e f t : Nat) : Prop where
  ev : edgeV L1 s = e
  lt : e < 2 ^ 64 ∧ f < 2 ^ 64 ∧ t < 2 ^ 64
  fl : edge_Edge_Flagged.f (e : Int) = some (f : Int)
  tg : edge_Edge_Tagged.f (e : Int) = some (t : Int)
  a1 : leadsB L1 e = false
  a2 : takeOk L1 s = true
  l2 : takeL L1 s = L2
  a3 : leadsB L2 e = true
  a4 : leadsB L2 f = true
  a5 : leadsB L2 t = true
  a6 : heldN L2 = heldN L1 + 1
  a7 : takeOk L2 s = false
  l4 : dropL L2 t = L4
  a8 : leadsB L4 e = false
  a9 : heldN L4 = heldN L1
  b1 : takeOk L4 s = true
  l5 : takeL L4 s = L5
  b2 : leadsB L5 e = false
  w2 : WfL L2
  w4 : WfL L4
  w5 : WfL L5
theorem leaves {L1 : List Sl} (hL : WfL L1) {s : Int} (hi : insideB L1.length s = true) (hf : (slAt L1 s).f0 = false) : ∃ L2 L4 L5 e f t, Leaves L1 L2 L4 L5 s e f t := by
  obtain ⟨e, e1, e2, e3, e4⟩ := edge_word hL hi
  obtain ⟨f, f1, f2, f3, f4⟩ := flagged_word e2
  obtain ⟨t, t1, t2, t3, t4⟩ := tagged_word e2
  have hb := slAt_bound hL hi
  obtain ⟨i1, i2⟩ := inside_iff.1 hi
  have ok1 : takeOk L1 s = true := by unfold takeOk; rw [hi, hf]; rfl
  have h2 : takeL L1 s = putL L1 s ⟨true, (slAt L1 s).f1⟩ := by unfold takeL; rw [ok1, if_pos rfl]
  have same : ∀ (L : List Sl) (x : Sl), insideB L.length s = true → slAt (putL L s x) s = x := fun L x h => by
    obtain ⟨j1, j2⟩ := inside_iff.1 h
    unfold slAt putL
    rw [List.getD_eq_getElem?_getD, List.getElem?_set, if_pos rfl, if_pos (by omega)]
    rfl
  have n2 : ∀ (L : List Sl) (x : Sl), insideB L.length s = true → insideB (putL L s x).length s = true := fun L x h => by rw [putL_len]; exact h
  have i2' := n2 L1 ⟨true, (slAt L1 s).f1⟩ hi
  have s2 := same L1 ⟨true, (slAt L1 s).f1⟩ hi
  have w2 := take_wf hL s
  rw [h2] at w2
  have c2 := filter_one L1 hi (⟨true, (slAt L1 s).f1⟩ : Sl)
  generalize putL L1 s ⟨true, (slAt L1 s).f1⟩ = L2 at h2 i2' s2 w2 c2
  have le : leadsB L2 e = true := by rw [leads_at i2' e3, s2, e4]; simp
  have lf : leadsB L2 f = true := by rw [leads_at i2' (f3.trans e3), s2, f4, e4]; simp
  have lt : leadsB L2 t = true := by rw [leads_at i2' (t3.trans e3), s2, t4, e4]; simp
  have ts : slotN t = s := t3.trans e3
  have h4 : dropL L2 t = putL L2 s ⟨false, nextG (slAt L1 s).f1⟩ := by unfold dropL; rw [lt, if_pos rfl, ts, s2]
  have s4 := same L2 ⟨false, nextG (slAt L1 s).f1⟩ i2'
  have i4 := n2 L2 ⟨false, nextG (slAt L1 s).f1⟩ i2'
  have w4 := drop_wf w2 t
  rw [h4] at w4
  have c4 := filter_one L2 i2' (⟨false, nextG (slAt L1 s).f1⟩ : Sl)
  rw [s2] at c4
  generalize putL L2 s ⟨false, nextG (slAt L1 s).f1⟩ = L4 at h4 s4 i4 w4 c4
  have ok4 : takeOk L4 s = true := by unfold takeOk; rw [i4, s4]; rfl
  have h5 : takeL L4 s = putL L4 s ⟨true, nextG (slAt L1 s).f1⟩ := by unfold takeL; rw [ok4, if_pos rfl, s4]
  have s5 := same L4 ⟨true, nextG (slAt L1 s).f1⟩ i4
  have i5 := n2 L4 ⟨true, nextG (slAt L1 s).f1⟩ i4
  have w5 := take_wf w4 s
  rw [h5] at w5
  have ng := nextG_ne hb.1 hb.2
  refine ⟨L2, L4, _, e, f, t, ⟨e1, ⟨by omega, f2, t2⟩, f1, t1, by rw [leads_at hi e3, hf]; rfl, ok1, h2, le, lf, lt, ?_, by unfold takeOk; rw [i2', s2]; rfl, h4, by rw [leads_at i4 e3, s4]; rfl, ?_, ok4, h5, ?_, w2, w4, w5⟩⟩
  · rw [hf] at c2
    simp only [if_true] at c2
    have : ¬ (false = true) := by decide
    rw [if_neg this] at c2
    omega
  · rw [hf] at c2
    have : ¬ (false = true) := by decide
    simp only [if_true] at c2 c4
    rw [if_neg this] at c2 c4
    omega
  · rw [leads_at i5 e3, s5, e4, Bool.true_and, beq_eq_false_iff_ne]
    exact ng

end Go.Proofs.Ytdmpfnnaefccnaa.Pure
