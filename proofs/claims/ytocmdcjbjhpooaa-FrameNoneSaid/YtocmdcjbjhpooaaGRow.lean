/- A row of records of one's own, told by its block: each record's cells. -/
import Derived.Test.YtocmdcjbjhpooaaWMore
import Derived.Test.YtocmdcjbjhpooaaWLast
import Derived.Test.YtocmdcjbjhpooaaNum
import Derived.Lib.SliceRun
import Derived.WalkKit
import Derived.Deep.LoopGhost
set_option linter.unusedVariables false
set_option linter.unusedSimpArgs false
namespace Go.Proofs.Ytocmdcjbjhpooaa.GRow
open Go Go.RowKit Go.Proofs.YtocmdcjbjhpooaaW.PrintWords
def GRow (T sz : Nat) (w : World) (g c : Nat) (recs : List (List Value)) : Prop :=
  ∃ cur, w.heap[g]? = some (.cells cur T (0, 0)) ∧ cur.size = c * sz ∧ recs.length ≤ c ∧ c ≤ maxLen ∧ (∀ j (h : j < recs.length), recs[j].length = sz ∧ ∀ k, k < sz → cur[j * sz + k]? = recs[j][k]?)
section
variable {T sz : Nat} {w w' : World} {g c : Nat} {recs : List (List Value)}
theorem GRow.move (h : GRow T sz w g c recs) (hg : w'.heap[g]? = w.heap[g]?) : GRow T sz w' g c recs := by
  obtain ⟨cur, h1, h2⟩ := h
  exact ⟨cur, hg.trans h1, h2⟩
theorem GRow.lt (h : GRow T sz w g c recs) : g < w.heap.size := by
  obtain ⟨cur, h1, h2⟩ := h
  exact (Array.getElem?_eq_some_iff.1 h1).1
theorem GRow.typed (h : GRow T sz w g c recs) : ∃ cur, w.heap[g]? = some (.cells cur T (0, 0)) := by
  obtain ⟨cur, h1, h2⟩ := h
  exact ⟨cur, h1⟩
theorem GRow.below (h : GRow T sz w g c recs) (hb : Below w.heap.size w w') : GRow T sz w' g c recs := h.move (hb.block g h.lt)
theorem GRow.alloc (h : GRow T sz w g c recs) (o : Obj) : GRow T sz (w.alloc o) g c recs := h.below (below_alloc (Below.refl _ _) o)
theorem GRow.far (h : GRow T sz w g c recs) {p : Addr} (hp : g ≠ p.block) (u : Value) : GRow T sz (w.setCell p u) g c recs := h.move (Below.heap_setCell w p u g hp)
theorem GRow.len (h : GRow T sz w g c recs) : recs.length ≤ c ∧ c ≤ maxLen := by
  obtain ⟨cur, h1, h2, h3, h4, h5⟩ := h
  exact ⟨h3, h4⟩
theorem GRow.wide (h : GRow T sz w g c recs) (j : Nat) (hj : j < recs.length) : recs[j].length = sz := by
  obtain ⟨cur, h1, h2, h3, h4, h5⟩ := h
  exact (h5 j hj).1
theorem GRow.cell (h : GRow T sz w g c recs) (j k : Nat) (hj : j < recs.length) (hk : k < sz) : w.cell? ⟨g, j * sz + k, none⟩ = recs[j][k]? ∧ w.frozen? ⟨g, j * sz + k, none⟩ = false := by
  obtain ⟨cur, h1, h2, h3, h4, h5⟩ := h
  exact ⟨(blk_cell h1 _).trans ((h5 j hj).2 k hk), blk_frozen h1 _⟩
theorem at_unique {sz j k j' k' : Nat} (hk : k < sz) (hk' : k' < sz) (h : j * sz + k = j' * sz + k') : j = j' ∧ k = k' := by
  have e1 : (j * sz + k) / sz = j := by rw [Nat.mul_comm, Nat.mul_add_div (by omega), Nat.div_eq_of_lt hk, Nat.add_zero]
  have e2 : (j' * sz + k') / sz = j' := by rw [Nat.mul_comm, Nat.mul_add_div (by omega), Nat.div_eq_of_lt hk', Nat.add_zero]
  have : j = j' := by rw [← e1, ← e2, h]
  subst this
  exact ⟨rfl, by omega⟩
theorem GRow.set (h : GRow T sz w g c recs) (j k : Nat) (hj : j < recs.length) (hk : k < sz) (u : Value) : GRow T sz (w.setCell ⟨g, j * sz + k, none⟩ u) g c (recs.set j (recs[j].set k u)) := by
  obtain ⟨cur, h1, h2, h3, h4, h5⟩ := h
  have hin : j * sz + k < cur.size := by
    rw [h2]
    have : j * sz + sz ≤ c * sz := by rw [← Nat.succ_mul]; exact Nat.mul_le_mul_right _ (by omega)
    omega
  refine ⟨cur.setIfInBounds (j * sz + k) u, blk_set h1 _ _, by simpa using h2, by simpa using h3, h4, fun j' hj' => ?_⟩
  rw [List.length_set] at hj'
  rw [List.getElem_set]
  by_cases e : j = j'
  · subst e
    rw [if_pos rfl]
    refine ⟨by rw [List.length_set]; exact (h5 j hj).1, fun k' hk' => ?_⟩
    rw [Array.getElem?_setIfInBounds, List.getElem?_set]
    by_cases e2 : k = k'
    · subst e2
      rw [if_pos rfl, if_pos rfl, if_pos hin, if_pos (by rw [(h5 j hj).1]; exact hk)]
    · rw [if_neg (fun e3 => e2 (at_unique hk hk' e3).2), if_neg e2]
      exact (h5 j hj).2 k' hk'
  · rw [if_neg e]
    refine ⟨(h5 j' hj').1, fun k' hk' => ?_⟩
    rw [Array.getElem?_setIfInBounds, if_neg (fun e3 => e (at_unique hk hk' e3).1)]
    exact (h5 j' hj').2 k' hk'
theorem flat_len (recs : List (List Value)) (h : ∀ r ∈ recs, r.length = sz) : recs.flatten.length = recs.length * sz := by
  induction recs with
  | nil => simp
  | cons r rs ih => rw [List.flatten_cons, List.length_append, ih (fun r hr => h r (List.mem_cons_of_mem _ hr)), h r List.mem_cons_self, List.length_cons, Nat.succ_mul, Nat.add_comm]
theorem flat_get (recs : List (List Value)) (h : ∀ r ∈ recs, r.length = sz) : ∀ (j k : Nat) (hj : j < recs.length), k < sz → recs.flatten[j * sz + k]? = recs[j][k]? := by
  induction recs with
  | nil => intro j k hj; simp at hj
  | cons r rs ih =>
    intro j k hj hk
    have hr := h r List.mem_cons_self
    have hrs : ∀ r ∈ rs, r.length = sz := fun r hr => h r (List.mem_cons_of_mem _ hr)
    rw [List.flatten_cons]
    cases j with
    | zero =>
      rw [Nat.zero_mul, Nat.zero_add, List.getElem?_append_left (by omega)]
      rfl
    | succ j =>
      rw [List.getElem?_append_right (by rw [Nat.succ_mul]; omega), show (j + 1) * sz + k - r.length = j * sz + k by rw [Nat.succ_mul]; omega]
      exact ih hrs j k (by simpa using hj) hk
theorem GRow.wide_all (h : GRow T sz w g c recs) : ∀ r ∈ recs, r.length = sz := by
  intro r hr
  obtain ⟨j, hj, rfl⟩ := List.getElem_of_mem hr
  exact h.wide j hj
theorem GRow.own {base : Nat} (h : GRow T sz w g c recs) (hb : base ≤ g) (hsz : 0 < sz) : w.ownsRow base T sz (.slice (some ⟨g, 0, none⟩) recs.length c) recs.length recs.flatten := by
  have hw := h.wide_all
  obtain ⟨cur, h1, h2, h3, h4, h5⟩ := h
  refine ⟨flat_len recs hw, .inr ⟨g, c, cur, rfl, hb, h1, h3, h4, h2, ?_⟩⟩
  apply List.ext_getElem?
  intro i
  by_cases hi : i < recs.length * sz
  · rw [List.getElem?_take, if_pos hi, Array.getElem?_toList]
    have e : i = (i / sz) * sz + i % sz := by rw [Nat.mul_comm]; exact (Nat.div_add_mod i sz).symm
    have hj : i / sz < recs.length := by rw [Nat.div_lt_iff_lt_mul hsz]; exact hi
    rw [e, flat_get recs hw _ _ hj (Nat.mod_lt _ hsz)]
    exact (h5 _ hj).2 _ (Nat.mod_lt _ hsz)
  · rw [List.getElem?_eq_none (by rw [List.length_take]; omega), List.getElem?_eq_none (by rw [flat_len recs hw]; omega)]
theorem GRow.of_own {base n : Nat} {v : Value} (h : w.ownsRow base T sz v n recs.flatten) (hn : n = recs.length) (hw : ∀ r ∈ recs, r.length = sz) (h1 : 1 ≤ recs.length) : ∃ g c, v = .slice (some ⟨g, 0, none⟩) recs.length c ∧ base ≤ g ∧ GRow T sz w g c recs := by
  subst hn
  rcases h.2 with ⟨_, hz⟩ | ⟨g, cap, cur, rfl, hbg, hh, hnc, hcm, hcs, ht⟩
  · omega
  · refine ⟨g, cap, rfl, hbg, cur, hh, hcs, hnc, hcm, fun j hj => ⟨hw _ (List.getElem_mem hj), fun k hk => ?_⟩⟩
    have h2 : (cur.toList.take (recs.length * sz))[j * sz + k]? = recs[j][k]? := by rw [ht]; exact flat_get recs hw j k hj hk
    have hin : j * sz + k < recs.length * sz := by
      have : j * sz + sz ≤ recs.length * sz := by rw [← Nat.succ_mul]; exact Nat.mul_le_mul_right _ (by omega)
      omega
    rw [List.getElem?_take, if_pos hin, Array.getElem?_toList] at h2
    exact h2
/-- It reads as a list of this kind. -/
theorem GRow.reads {α : Type} {d : Kd α} {xs : List α} (h : GRow T sz w g c recs) (hsz : d.sz = sz) (hl : xs.length = recs.length) (hK : ∀ j (h1 : j < xs.length) (h2 : j < recs.length), d.K w xs[j] recs[j]) : Kd.C d w (some ⟨g, 0, none⟩) xs.length xs := by
  have hlen := h.len
  refine ⟨rfl, by have := hlen.2; unfold maxLen at this; omega, fun _ => ⟨⟨g, 0, none⟩, rfl, fun j p hj => ?_⟩⟩
  obtain ⟨h1, h2⟩ := List.getElem?_eq_some_iff.1 hj
  have h3 : j < recs.length := by omega
  refine ⟨recs[j], by rw [hsz]; exact h.wide j h3, by rw [← h2]; exact hK j h1 h3, fun i u hu => ?_⟩
  have hi : i < sz := by rw [← h.wide j h3]; exact (List.getElem?_eq_some_iff.1 hu).1
  rw [add_at, Nat.zero_add, hsz]
  exact ((h.cell j i h3 hi).1).trans hu
end
/-- A row of one's own, or none yet. -/
def OV (T sz : Nat) (w : World) (base : Nat) (v : Value) (recs : List (List Value)) : Prop :=
  (v = .slice none 0 0 ∧ recs = []) ∨ ∃ g c, v = .slice (some ⟨g, 0, none⟩) recs.length c ∧ base ≤ g ∧ GRow T sz w g c recs
section
variable {T sz base : Nat} {w w' : World} {v : Value} {recs : List (List Value)}
theorem OV.nil (T sz : Nat) (w : World) (base : Nat) : OV T sz w base (.slice none 0 0) [] := .inl ⟨rfl, rfl⟩
theorem OV.slice (h : OV T sz w base v recs) : ∃ A c, v = .slice A recs.length c ∧ recs.length ≤ c := by
  rcases h with ⟨rfl, rfl⟩ | ⟨g, c, rfl, _, h⟩
  · exact ⟨none, 0, rfl, Nat.le_refl _⟩
  · exact ⟨_, c, rfl, h.len.1⟩
theorem OV.move (h : OV T sz w base v recs) (hm : ∀ k, base ≤ k → k < w.heap.size → v.ownBlock = some k → w'.heap[k]? = w.heap[k]?) : OV T sz w' base v recs := by
  rcases h with h | ⟨g, c, rfl, hb, h⟩
  · exact .inl h
  · exact .inr ⟨g, c, rfl, hb, h.move (hm g hb h.lt rfl)⟩
theorem OV.below (h : OV T sz w base v recs) (hb : Below w.heap.size w w') : OV T sz w' base v recs := h.move (fun k _ hk _ => hb.block k hk)
theorem OV.alloc (h : OV T sz w base v recs) (o : Obj) : OV T sz (w.alloc o) base v recs := h.below (below_alloc (Below.refl _ _) o)
theorem OV.own (h : OV T sz w base v recs) (hsz : 0 < sz) : w.ownsRow base T sz v recs.length recs.flatten := by
  rcases h with ⟨rfl, rfl⟩ | ⟨g, c, rfl, hb, h⟩
  · exact own_nil _ _ _ _
  · exact h.own hb hsz
theorem OV.wide (h : OV T sz w base v recs) : ∀ r ∈ recs, r.length = sz := by
  rcases h with ⟨rfl, rfl⟩ | ⟨g, c, rfl, hb, h⟩
  · intro r hr; simp at hr
  · exact h.wide_all
theorem OV.of_own {n : Nat} (h : w.ownsRow base T sz v n recs.flatten) (hn : n = recs.length) (hw : ∀ r ∈ recs, r.length = sz) (h1 : 1 ≤ recs.length) : OV T sz w base v recs := .inr (GRow.of_own h hn hw h1)
/-- Behind an append of one record. -/
theorem OV.snoc {n : Nat} {r : List Value} (h : w.ownsRow base T sz v n (recs.flatten ++ r)) (hn : n = recs.length + 1) (hw : ∀ r ∈ recs, r.length = sz) (hr : r.length = sz) : OV T sz w base v (recs ++ [r]) :=
  OV.of_own (by rw [List.flatten_append]; simpa using h) (by simpa using hn) (fun x hx => by rcases List.mem_append.1 hx with h | h; exact hw x h; rw [List.mem_singleton.1 h]; exact hr) (by simp)
theorem OV.reads {α : Type} {d : Kd α} {xs : List α} (h : OV T sz w base v recs) (hsz : d.sz = sz) (hl : xs.length = recs.length) (hK : ∀ j (h1 : j < xs.length) (h2 : j < recs.length), d.K w xs[j] recs[j]) : ∃ A c, v = .slice A xs.length c ∧ xs.length ≤ c ∧ Kd.C d w A xs.length xs := by
  rcases h with ⟨rfl, rfl⟩ | ⟨g, c, rfl, hb, h⟩
  · have : xs = [] := List.eq_nil_of_length_eq_zero hl
    subst this
    exact ⟨none, 0, rfl, Nat.le_refl _, Kd.C_nil d w⟩
  · exact ⟨some ⟨g, 0, none⟩, c, by rw [hl], by rw [hl]; exact h.len.1, h.reads hsz hl hK⟩
end
end Go.Proofs.Ytocmdcjbjhpooaa.GRow
