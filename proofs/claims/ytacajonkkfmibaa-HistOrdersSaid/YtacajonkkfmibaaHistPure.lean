/- Of a history that may be: what its calls are, without memory. -/
import Derived.Test.YtacajonkkfmibaaPHistOrdersx2
set_option linter.unusedVariables false
set_option linter.unusedSimpArgs false
namespace Go.Proofs.Ytacajonkkfmibaa.HistPure
open Go Go.RowKit Go.Proofs.YtacajonkkfmibaaW.PrintWords Go.Proofs.Ytacajonkkfmibaa.PHistOrders Go.Proofs.Ytacajonkkfmibaa.PHistOrders.HistW
structure Inv (st : List Bool) (last : List Nat) (out : List Opr) (i : Nat) : Prop where
  sl : st.length = 6
  ll : last.length = 6
  a : ∀ (j : Nat) (o : Opr), out[j]? = some o → 0 ≤ o.f3 ∧ o.f3 < i ∧ (o.f4 = -1 ∨ (o.f3 < o.f4 ∧ o.f4 < i))
  b : ∀ (k j : Nat) (p o : Opr), k < j → out[k]? = some p → out[j]? = some o → p.f3 < o.f3 ∧ (p.f0 = o.f0 → 0 ≤ p.f4 ∧ p.f4 < o.f3)
  c : ∀ t : Nat, st[t]? = some true → ∃ o, out[last.getD t 0]? = some o ∧ o.f0 = t ∧ ∀ (j : Nat) (p : Opr), last.getD t 0 < j → out[j]? = some p → p.f0 ≠ t
  d : ∀ t : Nat, st[t]? = some false → ∀ (j : Nat) (o : Opr), out[j]? = some o → o.f0 = t → 0 ≤ o.f4
theorem getD_some {st : List Bool} {t : Nat} (h : t < st.length) {b : Bool} (hb : st.getD t false = b) : st[t]? = some b := by
  rw [List.getD_eq_getElem?_getD, List.getElem?_eq_getElem h] at hb
  rw [List.getElem?_eq_getElem h]
  exact congrArg some hb
theorem Inv.start : Inv st0 (List.replicate 6 0) [] 0 := by
  refine ⟨rfl, rfl, fun j o h => by simp at h, fun k j p o _ h => by simp at h, fun t h => ?_, fun t _ j o h => by simp at h⟩
  unfold st0 at h
  rw [List.getElem?_replicate] at h
  split at h <;> simp at h
theorem Inv.begin {st : List Bool} {last : List Nat} {out : List Opr} {i : Nat} (h : Inv st last out i) {e : Ev} {t : Nat} (ht : e.f0 = t) (h6 : t < 6) (hs : st.getD t false = false) : Inv (st.set t true) (last.set t out.length) (out ++ [oprNew e i]) (i + 1) := by
  have hst := getD_some (by rw [h.sl]; exact h6) hs
  have get : ∀ (j : Nat) (o : Opr), (out ++ [oprNew e i])[j]? = some o → (j < out.length ∧ out[j]? = some o) ∨ (j = out.length ∧ o = oprNew e i) := by
    intro j o ho
    by_cases hj : j < out.length
    · rw [List.getElem?_append_left hj] at ho; exact .inl ⟨hj, ho⟩
    · rw [List.getElem?_append_right (by omega)] at ho
      have : j - out.length = 0 := by
        have := (List.getElem?_eq_some_iff.1 ho).1
        simp at this; omega
      rw [this] at ho
      simp at ho
      exact .inr ⟨by omega, ho.symm⟩
  refine ⟨by rw [List.length_set]; exact h.sl, by rw [List.length_set]; exact h.ll, fun j o ho => ?_, fun k j p o hkj hp ho => ?_, fun t2 h2 => ?_, fun t2 h2 j o ho hf => ?_⟩
  · rcases get j o ho with ⟨_, ho⟩ | ⟨rfl, rfl⟩
    · have := h.a j o ho; omega
    · exact ⟨by show (0 : Int) ≤ i; omega, by show (i : Int) < ((i + 1 : Nat) : Int); omega, .inl rfl⟩
  · rcases get j o ho with ⟨hj, ho⟩ | ⟨rfl, rfl⟩
    · rcases get k p hp with ⟨hk, hp⟩ | ⟨rfl, rfl⟩
      · exact h.b k j p o hkj hp ho
      · omega
    · rcases get k p hp with ⟨hk, hp⟩ | ⟨rfl, rfl⟩
      · have ha := h.a k p hp
        refine ⟨by simp only [oprNew]; omega, fun hf => ?_⟩
        have hd := h.d t hst k p hp (by rw [hf]; exact ht)
        simp only [oprNew]
        omega
      · omega
  · rw [List.getElem?_set] at h2
    by_cases e2 : t = t2
    · subst e2
      refine ⟨oprNew e i, ?_, ht, fun j p hj hp => ?_⟩
      · rw [List.getD_eq_getElem?_getD, List.getElem?_set, if_pos rfl, if_pos (by rw [h.ll]; exact h6)]
        simp
      · rw [List.getD_eq_getElem?_getD, List.getElem?_set, if_pos rfl, if_pos (by rw [h.ll]; exact h6)] at hj
        simp only [Option.getD_some] at hj
        rcases get j p hp with ⟨hj2, _⟩ | ⟨rfl, _⟩ <;> omega
    · rw [if_neg e2] at h2
      obtain ⟨o, ho, hf, hn⟩ := h.c t2 h2
      have e3 : (last.set t out.length).getD t2 0 = last.getD t2 0 := by rw [List.getD_eq_getElem?_getD, List.getElem?_set, if_neg e2, ← List.getD_eq_getElem?_getD]
      rw [e3]
      have hlt := (List.getElem?_eq_some_iff.1 ho).1
      refine ⟨o, by rw [List.getElem?_append_left hlt]; exact ho, hf, fun j p hj hp => ?_⟩
      rcases get j p hp with ⟨hj2, hp⟩ | ⟨rfl, rfl⟩
      · exact hn j p hj hp
      · show ¬ e.f0 = t2
        omega
  · rw [List.getElem?_set] at h2
    by_cases e2 : t = t2
    · rw [if_pos e2] at h2; split at h2 <;> simp at h2
    · rw [if_neg e2] at h2
      rcases get j o ho with ⟨hj, ho⟩ | ⟨rfl, rfl⟩
      · exact h.d t2 h2 j o ho hf
      · exfalso; have : e.f0 = t2 := hf; omega
theorem Inv.back {st : List Bool} {last : List Nat} {out : List Opr} {i : Nat} (h : Inv st last out i) {e : Ev} {t : Nat} (h6 : t < 6) (hs : st.getD t false = true) : Inv (st.set t false) last (out.set (last.getD t 0) (oprBack (out.getD (last.getD t 0) zO) e i)) (i + 1) := by
  have hst := getD_some (by rw [h.sl]; exact h6) hs
  obtain ⟨o0, ho0, hf0, hn0⟩ := h.c t hst
  generalize last.getD t 0 = j0 at ho0 hn0
  have hlt := (List.getElem?_eq_some_iff.1 ho0).1
  have eo : out.getD j0 zO = o0 := by rw [List.getD_eq_getElem?_getD, ho0]; rfl
  rw [eo]
  have get : ∀ (j : Nat) (o : Opr), (out.set j0 (oprBack o0 e i))[j]? = some o → (j = j0 ∧ o = oprBack o0 e i) ∨ (j ≠ j0 ∧ out[j]? = some o) := by
    intro j o ho
    rw [List.getElem?_set] at ho
    by_cases e2 : j0 = j
    · rw [if_pos e2, if_pos hlt] at ho
      exact .inl ⟨e2.symm, (Option.some.inj ho).symm⟩
    · rw [if_neg e2] at ho
      exact .inr ⟨fun e3 => e2 e3.symm, ho⟩
  have ha0 := h.a j0 o0 ho0
  refine ⟨by rw [List.length_set]; exact h.sl, h.ll, fun j o ho => ?_, fun k j p o hkj hp ho => ?_, fun t2 h2 => ?_, fun t2 h2 j o ho hf => ?_⟩
  · rcases get j o ho with ⟨rfl, rfl⟩ | ⟨_, ho⟩
    · simp only [oprBack]; omega
    · have := h.a j o ho; omega
  · rcases get j o ho with ⟨rfl, rfl⟩ | ⟨hj, ho2⟩
    · rcases get k p hp with ⟨rfl, rfl⟩ | ⟨hk, hp⟩
      · omega
      · exact h.b k j p o0 hkj hp ho0
    · clear ho
      rcases get k p hp with ⟨rfl, rfl⟩ | ⟨hk, hp2⟩
      · refine ⟨(h.b k j o0 o hkj ho0 ho2).1, fun hf => ?_⟩
        exact absurd (show o.f0 = t from hf.symm.trans hf0) (hn0 j o hkj ho2)
      · exact h.b k j p o hkj hp2 ho2
  · rw [List.getElem?_set] at h2
    by_cases e2 : t = t2
    · rw [if_pos e2] at h2; split at h2 <;> simp at h2
    · rw [if_neg e2] at h2
      obtain ⟨o, ho, hf, hn⟩ := h.c t2 h2
      have hj2 : last.getD t2 0 ≠ j0 := fun e3 => by
        rw [e3, ho0] at ho
        obtain rfl := Option.some.inj ho
        omega
      refine ⟨o, by rw [List.getElem?_set, if_neg (fun e3 => hj2 e3.symm)]; exact ho, hf, fun j p hj hp => ?_⟩
      rcases get j p hp with ⟨rfl, rfl⟩ | ⟨_, hp⟩
      · show o0.f0 ≠ t2
        omega
      · exact hn j p hj hp
  · rcases get j o ho with ⟨rfl, rfl⟩ | ⟨hj, ho⟩
    · show (0 : Int) ≤ i
      omega
    · rw [List.getElem?_set] at h2
      by_cases e2 : t = t2
      · subst e2
        by_cases hjj : j < j0
        · exact ((h.b j j0 o o0 hjj ho ho0).2 (by rw [hf, hf0])).1
        · exact absurd hf (hn0 j o (by omega) ho)
      · rw [if_neg e2] at h2
        exact h.d t2 h2 j o ho hf
theorem run_inv (l : List Ev) : ∀ (st : List Bool) (last : List Nat) (out : List Opr) (i : Nat), Inv st last out i → mrun st l = true → ∃ st' last', Inv st' last' (orun last out i l) (i + l.length) ∧ (orun last out i l).length = out.length + (l.filter (fun e => !e.f1)).length := by
  induction l with
  | nil => intro st last out i h _; exact ⟨st, last, h, by simp [orun]⟩
  | cons e l ih =>
    intro st last out i h hm
    rw [mrun, Bool.and_eq_true] at hm
    obtain ⟨n0, n6, hst⟩ := okE_true hm.1
    obtain ⟨t, ht⟩ : ∃ t : Nat, e.f0 = t := ⟨e.f0.toNat, by omega⟩
    have et : e.f0.toNat = t := by omega
    rw [et] at hst
    have hm2 := hm.2
    rw [et] at hm2
    cases hf : e.f1 with
    | true =>
      rw [hf] at hst hm2
      have hb := h.back (e := e) (t := t) (by omega) hst
      obtain ⟨st', last', h1, h2⟩ := ih _ _ _ _ hb hm2
      rw [orun, if_pos hf, et]
      refine ⟨st', last', ?_, ?_⟩
      · rw [List.length_cons, show i + (l.length + 1) = i + 1 + l.length by omega]; exact h1
      · rw [h2, List.length_set, List.filter_cons, hf]; rfl
    | false =>
      rw [hf] at hst hm2
      have hb := h.begin ht (by omega) hst
      obtain ⟨st', last', h1, h2⟩ := ih _ _ _ _ hb hm2
      rw [orun, if_neg (by rw [hf]; decide), et]
      refine ⟨st', last', ?_, ?_⟩
      · rw [List.length_cons, show i + (l.length + 1) = i + 1 + l.length by omega]; exact h1
      · rw [h2, List.length_append, List.filter_cons, hf]
        simp only [Bool.not_false, if_true, List.length_cons, List.length_nil]
        omega
def begins (l : List Ev) : Nat := (l.filter (fun e => !e.f1)).length
theorem facts {l : List Ev} (hm : mayF l = true) : (opersF l).length = begins l ∧
    (∀ (j : Nat) (o : Opr), (opersF l)[j]? = some o → 0 ≤ o.f3 ∧ o.f3 < l.length ∧ (o.f4 = -1 ∨ o.f3 < o.f4)) ∧
    (∀ (k j : Nat) (p o : Opr), k < j → (opersF l)[k]? = some p → (opersF l)[j]? = some o → p.f3 < o.f3 ∧ (p.f0 = o.f0 → 0 ≤ p.f4 ∧ p.f4 < o.f3)) := by
  obtain ⟨st', last', h1, h2⟩ := run_inv l st0 (List.replicate 6 0) [] 0 Inv.start hm
  have e : opersF l = orun (List.replicate 6 0) [] 0 l := by unfold opersF; rw [hm, if_pos rfl]
  rw [e]
  refine ⟨by rw [h2]; simp [begins], fun j o ho => ?_, h1.b⟩
  have := h1.a j o ho
  rw [Nat.zero_add] at this
  exact ⟨this.1, this.2.1, by omega⟩
end Go.Proofs.Ytacajonkkfmibaa.HistPure
