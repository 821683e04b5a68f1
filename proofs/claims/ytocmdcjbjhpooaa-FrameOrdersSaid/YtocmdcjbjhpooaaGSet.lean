/- A whole record of a row is written. -/
import Derived.Test.YtocmdcjbjhpooaaGRow
import Derived.Deep.MidRow
set_option linter.unusedVariables false
set_option linter.unusedSimpArgs false
namespace Go.Proofs.Ytocmdcjbjhpooaa.GRow
open Go Go.RowKit Go.Proofs.YtocmdcjbjhpooaaW.PrintWords
section
variable {T sz : Nat} {w w' : World} {g c : Nat} {recs : List (List Value)}
theorem GRow.there (h : GRow T sz w g c recs) (j : Nat) (hj : j < recs.length) : w.there g (j * sz) sz := fun k hk => by
  obtain ⟨h1, h2⟩ := h.cell j k hj hk
  refine ⟨?_, h2⟩
  rw [h1, List.getElem?_eq_getElem (by rw [h.wide j hj]; exact hk)]
  rfl
theorem GRow.range (h : GRow T sz w g c recs) (j : Nat) (hj : j < recs.length) : w.rangeAt g (j * sz) recs[j] := fun k v hv => by
  have hk := (List.getElem?_eq_some_iff.1 hv).1
  exact ((h.cell j k hj (by rw [← h.wide j hj]; exact hk)).1).trans hv
theorem GRow.setc (vs : List Value) : ∀ {w : World} {recs : List (List Value)} (k j : Nat) (rec_ : List Value), GRow T sz w g c recs → ∀ hj : j < recs.length, recs[j] = rec_ → k + vs.length ≤ sz → GRow T sz (w.setCells g (j * sz + k) vs) g c (recs.set j (rec_.take k ++ vs ++ rec_.drop (k + vs.length))) := by
  induction vs with
  | nil =>
    intro w recs k j rec_ h hj hr hk
    subst hr
    rw [List.append_nil, List.length_nil, Nat.add_zero, List.take_append_drop, List.set_getElem_self]
    exact h
  | cons v vs ih =>
    intro w recs k j rec_ h hj hr hk
    rw [List.length_cons] at hk
    have hw := h.wide j hj
    subst hr
    have h1 := h.set j k hj (by omega) v
    have h2 := ih (k + 1) j (recs[j].set k v) h1 (by rw [List.length_set]; exact hj) (by rw [List.getElem_set_self]) (by omega)
    rw [World.setCells]
    rw [List.set_set] at h2
    have e1 : (recs[j].set k v).take (k + 1) = recs[j].take k ++ [v] := by
      rw [List.take_succ_eq_append_getElem (by rw [List.length_set]; omega), List.getElem_set_self, List.take_set_of_le (Nat.le_refl _)]
    have e2 : (recs[j].set k v).drop (k + 1 + vs.length) = recs[j].drop (k + (v :: vs).length) := by
      rw [List.drop_set_of_lt (by omega), List.length_cons, show k + (vs.length + 1) = k + 1 + vs.length by omega]
    rw [e1, e2, List.append_assoc, List.append_assoc] at h2
    rw [List.append_assoc]
    exact h2
theorem GRow.setAll (h : GRow T sz w g c recs) (j : Nat) (hj : j < recs.length) {r : List Value} (hr : r.length = sz) : GRow T sz (w.setCells g (j * sz) r) g c (recs.set j r) := by
  have := GRow.setc r 0 j recs[j] h hj rfl (by omega)
  rw [Nat.add_zero, Nat.zero_add, List.take_zero, List.nil_append, List.drop_of_length_le (by rw [h.wide j hj]; omega), List.append_nil] at this
  exact this
theorem heap_setCells (g : Nat) : ∀ (vs : List Value) (o : Nat) (w : World) (k : Nat), k ≠ g → (w.setCells g o vs).heap[k]? = w.heap[k]?
  | [], _, _, _, _ => rfl
  | v :: vs, o, w, k, hk => by
    rw [World.setCells, heap_setCells g vs (o + 1) _ k hk]
    exact Below.heap_setCell w ⟨g, o, none⟩ v k hk
theorem size_setCells (g : Nat) : ∀ (vs : List Value) (o : Nat) (w : World), (w.setCells g o vs).heap.size = w.heap.size
  | [], _, _ => rfl
  | v :: vs, o, w => by
    rw [World.setCells, size_setCells g vs (o + 1) _]
    simp
theorem below_setCells {n g : Nat} {A B : World} (h : Below n A B) (hg : n ≤ g) : ∀ (vs : List Value) (o : Nat), Below n A (B.setCells g o vs) := by
  intro vs
  induction vs generalizing B with
  | nil => intro o; exact h
  | cons v vs ih =>
    intro o
    rw [World.setCells]
    exact ih (h.setCell (p := ⟨g, o, none⟩) hg v) (o + 1)
end
end Go.Proofs.Ytocmdcjbjhpooaa.GRow
