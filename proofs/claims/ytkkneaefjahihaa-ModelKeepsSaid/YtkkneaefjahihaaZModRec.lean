/- Rows of sessions, told record by record. -/
import Derived.Test.YtkkneaefjahihaaZPModelToldx1
import Derived.Test.YtkkneaefjahihaaZGRow
import Derived.Test.YtkkneaefjahihaaZInsW
set_option linter.unusedVariables false
set_option linter.unusedSimpArgs false
namespace Go.Proofs.Ytkkneaefjahihaa.ModRec
open Go Go.RowKit Go.Proofs.YtkkneaefjahihaaW.PrintWords Go.Proofs.YtkkneaefjahihaaW.PrintLast Go.Proofs.YtkkneaefjahihaaW.PrintMore Go.Proofs.Ytkkneaefjahihaa.PModelTold Go.Proofs.Ytkkneaefjahihaa.GRow
section
variable {α : Type} {d : Kd α} {w w' : World} {ok ok' : Nat → Prop} {xs : List α} {recs : List (List Value)} {A : Option Addr} {n : Nat}
/-- Each record is the element's. -/
def Recs (d : Kd α) (w : World) (ok : Nat → Prop) (xs : List α) (recs : List (List Value)) : Prop := xs.length = recs.length ∧ ∀ j (h1 : j < xs.length) (h2 : j < recs.length), recs[j].length = d.sz ∧ Kd.FK d w ok xs[j] recs[j]
theorem Recs.below (h : Recs d w ok xs recs) (hb : Below w.heap.size w w') : Recs d w' ok xs recs := ⟨h.1, fun j h1 h2 => ⟨(h.2 j h1 h2).1, Kd.FK_below (h.2 j h1 h2).2 hb⟩⟩
theorem Recs.mono (h : Recs d w ok xs recs) (hk : ∀ k, ok k → ok' k) : Recs d w ok' xs recs := ⟨h.1, fun j h1 h2 => ⟨(h.2 j h1 h2).1, Kd.FK_mono (h.2 j h1 h2).2 hk⟩⟩
theorem Recs.set (h : Recs d w ok xs recs) (i : Nat) {x : α} {r : List Value} (hl : r.length = d.sz) (hr : Kd.FK d w ok x r) : Recs d w ok (xs.set i x) (recs.set i r) := by
  refine ⟨by simp [h.1], fun j h1 h2 => ?_⟩
  rw [List.getElem_set, List.getElem_set]
  by_cases e : i = j
  · rw [if_pos e, if_pos e]; exact ⟨hl, hr⟩
  · rw [if_neg e, if_neg e]
    exact h.2 j (by simpa using h1) (by simpa using h2)
theorem Recs.snoc (h : Recs d w ok xs recs) {x : α} {r : List Value} (hl : r.length = d.sz) (hr : Kd.FK d w ok x r) : Recs d w ok (xs ++ [x]) (recs ++ [r]) := by
  refine ⟨by simp [h.1], fun j h1 h2 => ?_⟩
  by_cases hj : j < xs.length
  · rw [List.getElem_append_left hj, List.getElem_append_left (by rw [← h.1]; exact hj)]
    exact h.2 j hj _
  · have e : j = xs.length := by simp at h1; omega
    subst e
    rw [List.getElem_append_right (Nat.le_refl _), List.getElem_append_right (by rw [h.1]; exact Nat.le_refl _)]
    simp only [Nat.sub_self, h.1]
    exact ⟨hl, hr⟩
theorem Recs.nil (d : Kd α) (w : World) (ok : Nat → Prop) : Recs d w ok [] [] := ⟨rfl, fun j h1 _ => by simp at h1⟩
theorem Recs.wide (h : Recs d w ok xs recs) : ∀ r ∈ recs, r.length = d.sz := by
  intro r hr
  obtain ⟨j, hj, rfl⟩ := List.getElem_of_mem hr
  exact (h.2 j (by rw [h.1]; exact hj) hj).1
/-- A row that is read has its records. -/
theorem recs_of (h : Kd.F d w ok A xs.length xs) : ∃ recs, Recs d w ok xs recs ∧ (∀ ad, A = some ad → ∀ j u, recs.flatten[j]? = some u → w.cell? (ad.add j) = some u) ∧ (A = none → xs = []) := by
  obtain ⟨hl, hm, hr⟩ := Kd.F_rows h
  rcases Nat.eq_zero_or_pos xs.length with h0 | h0
  · obtain rfl := List.eq_nil_of_length_eq_zero h0
    exact ⟨[], Recs.nil _ _ _, fun ad _ j u hj => by simp at hj, fun _ => rfl⟩
  · obtain ⟨ad, rfl, hr2⟩ := hr h0
    have key : ∀ m, m ≤ xs.length → ∃ recs : List (List Value), recs.length = m ∧ ∀ j (h1 : j < xs.length) (h2 : j < recs.length), recs[j].length = d.sz ∧ Kd.FK d w ok xs[j] recs[j] ∧ ∀ i u, recs[j][i]? = some u → w.cell? (ad.add (j * d.sz + i)) = some u := by
      intro m
      induction m with
      | zero => intro _; exact ⟨[], rfl, fun j _ h2 => by simp at h2⟩
      | succ m ih =>
        intro hm2
        obtain ⟨recs, hrl, hrr⟩ := ih (by omega)
        obtain ⟨c, hc, hK, hcell⟩ := hr2 m xs[m] (List.getElem?_eq_getElem (by omega))
        refine ⟨recs ++ [c], by simp [hrl], fun j h1 h2 => ?_⟩
        by_cases hj : j < recs.length
        · rw [List.getElem_append_left hj]
          exact hrr j h1 hj
        · have e : j = m := by simp at h2; omega
          subst e
          rw [List.getElem_append_right (by omega)]
          simp only [hrl, Nat.sub_self, List.getElem_cons_zero]
          exact ⟨hc, hK, hcell⟩
    obtain ⟨recs, hrl, hrr⟩ := key xs.length (Nat.le_refl _)
    refine ⟨recs, ⟨hrl.symm, fun j h1 h2 => ⟨(hrr j h1 h2).1, (hrr j h1 h2).2.1⟩⟩, fun ad' he j u hj => ?_, fun h => by cases h⟩
    injection he with he
    subst he
    have hw : ∀ r ∈ recs, r.length = d.sz := by
      intro r hr
      obtain ⟨j, hj, rfl⟩ := List.getElem_of_mem hr
      exact (hrr j (by omega) hj).1
    have hfl := flat_len recs hw
    have hjl := (List.getElem?_eq_some_iff.1 hj).1
    have hsz : 0 < d.sz := by
      rcases Nat.eq_zero_or_pos d.sz with h | h
      · rw [hfl, h] at hjl; omega
      · exact h
    have hq : j / d.sz < recs.length := by rw [Nat.div_lt_iff_lt_mul hsz]; omega
    have e : j = (j / d.sz) * d.sz + j % d.sz := by rw [Nat.mul_comm]; exact (Nat.div_add_mod j d.sz).symm
    rw [e] at hj ⊢
    rw [flat_get recs hw _ _ hq (Nat.mod_lt _ hsz)] at hj
    exact (hrr _ (by omega) hq).2.2 _ _ hj
theorem recs_V {base T : Nat} {v : Value} {W : World} (h : OV T d.sz W base v recs) (hr : Recs d W ok xs recs) : Kd.V d T W base (fun k => ok k ∨ base ≤ k) v xs := by
  obtain ⟨A, c, hv, hlc⟩ := h.slice
  refine ⟨A, c, by rw [hv, hr.1], by rw [hr.1]; exact hlc, fun W' hW => ?_⟩
  have h2 : OV T d.sz W' base v recs := h.move (fun k hk hlt _ => hW k (.inr hk) hlt)
  obtain ⟨A8, c8, e8, hl8, hr8⟩ := h2.reads (d := d) rfl hr.1 (fun j h1 h3 => (hr.2 j h1 h3).2 W' (fun k hk hlt => hW k (.inl hk) hlt))
  rw [hv] at e8
  injection e8 with e1 e2 e3
  subst e1
  exact hr8
end
theorem one_of {α : Type} {d : Kd α} {w : World} {ok : Nat → Prop} {xs : List α} {recs : List (List Value)} (h : Recs d w ok xs recs) (h1 : ∀ (x : α) (c : List Value), Kd.FK d w ok x c → ∀ u ∈ c, u.oneCell' = true) : ∀ u ∈ recs.flatten, u.oneCell' = true := by
  intro u hu
  obtain ⟨r, hr, hu⟩ := List.mem_flatten.1 hu
  obtain ⟨j, hj, rfl⟩ := List.getElem_of_mem hr
  exact h1 _ _ (h.2 j (by rw [h.1]; exact hj) hj).2 u hu
theorem one_sess {w : World} {ok : Nat → Prop} (x : S62) (c : List Value) (h : Kd.FK k62 w ok x c) : ∀ u ∈ c, u.oneCell' = true := by
  obtain ⟨A, c2, rfl, _⟩ := k62_openF h
  simp [Value.oneCell']
theorem info_sess : ∃ i0, Try.prog.info? 62 = some i0 ∧ i0.size = 4 ∧ i0.bytes = 40 ∧ i0.zero = some (.agg #[.bool false, .bool false, .slice none 0 0, .int .i64 0]) := by
  have h : (Try.prog.info? 62).map (fun i => (i.size, i.bytes, i.zero)) = some (4, 40, some (.agg #[.bool false, .bool false, .slice none 0 0, .int .i64 0])) := by kernel_rfl
  obtain ⟨i, hi, he⟩ := Option.map_eq_some_iff.1 h
  simp only [Prod.mk.injEq] at he
  exact ⟨i, hi, he.1, he.2.1, he.2.2⟩
end Go.Proofs.Ytkkneaefjahihaa.ModRec
