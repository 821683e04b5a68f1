/- A row of words of one's own, told by its block. -/
import Derived.Test.YtdmpfnnaefccnaaMemPlaysNum
set_option linter.unusedVariables false
set_option linter.unusedSimpArgs false
namespace Go.Proofs.Ytdmpfnnaefccnaa.MemRow
open Go Go.RowKit Go.Proofs.YtdmpfnnaefccnaaW.PrintWords Go.Proofs.YtdmpfnnaefccnaaW.PrintLast Go.Proofs.Ytdmpfnnaefccnaa.MemW Go.Proofs.Ytdmpfnnaefccnaa.MemDo Go.Proofs.Ytdmpfnnaefccnaa.MemPlaysNum Go.Proofs.Ytdmpfnnaefccnaa.Num
def Row (w : World) (g c : Nat) (ws : List Int) : Prop :=
  ∃ cur, w.heap[g]? = some (.cells cur 29 (0, 0)) ∧ cur.size = c ∧ ws.length ≤ c ∧ c ≤ 9223372036854775807 ∧ ∀ i (h : i < ws.length), cur[i]? = some (.int .u64 ws[i])
section
variable {w w' : World} {g c : Nat} {ws : List Int}
theorem Row.move (h : Row w g c ws) (hg : w'.heap[g]? = w.heap[g]?) : Row w' g c ws := by
  obtain ⟨cur, h1, h2⟩ := h
  exact ⟨cur, hg.trans h1, h2⟩
theorem Row.lt (h : Row w g c ws) : g < w.heap.size := by
  obtain ⟨cur, h1, h2⟩ := h
  exact (Array.getElem?_eq_some_iff.1 h1).1
theorem Row.below (h : Row w g c ws) (hb : Below w.heap.size w w') : Row w' g c ws := h.move (hb.block g h.lt)
theorem Row.alloc (h : Row w g c ws) (o : Obj) : Row (w.alloc o) g c ws := h.below (below_alloc (Below.refl _ _) o)
theorem Row.far (h : Row w g c ws) {p : Addr} (hp : g ≠ p.block) (u : Value) : Row (w.setCell p u) g c ws := h.move (Below.heap_setCell w p u g hp)
theorem Row.word (h : Row w g c ws) (i : Nat) (hi : i < ws.length) : w.cell? ⟨g, i, none⟩ = some (.int .u64 ws[i]) ∧ w.frozen? ⟨g, i, none⟩ = false := by
  obtain ⟨cur, h1, h2, h3, h4, h5⟩ := h
  exact ⟨(blk_cell h1 i).trans (h5 i hi), blk_frozen h1 i⟩
theorem Row.len (h : Row w g c ws) : ws.length ≤ c ∧ c ≤ 9223372036854775807 := by
  obtain ⟨cur, h1, h2, h3, h4, h5⟩ := h
  exact ⟨h3, h4⟩
theorem Row.setw (h : Row w g c ws) (i : Nat) (hi : i < ws.length) (x : Int) : Row (w.setCell ⟨g, i, none⟩ (.int .u64 x)) g c (ws.set i x) := by
  obtain ⟨cur, h1, h2, h3, h4, h5⟩ := h
  refine ⟨cur.setIfInBounds i (.int .u64 x), blk_set h1 i _, by simpa using h2, by simpa using h3, h4, fun j hj => ?_⟩
  rw [List.length_set] at hj
  rw [Array.getElem?_setIfInBounds, List.getElem_set]
  by_cases e : i = j
  · subst e; rw [if_pos rfl, if_pos rfl, if_pos (by omega)]
  · rw [if_neg e, if_neg e]; exact h5 j hj
theorem Row.reads (h : Row w g c ws) : Kd.C (Kd.int .u64) w (some ⟨g, 0, none⟩) ws.length ws := by
  have hl := h.len
  refine ⟨rfl, by omega, fun _ => ⟨⟨g, 0, none⟩, rfl, fun j p hj => ⟨[.int .u64 p], rfl, rfl, fun i u hu => ?_⟩⟩⟩
  obtain ⟨h1, h2⟩ := List.getElem?_eq_some_iff.1 hj
  have hi : i = 0 := by have := (List.getElem?_eq_some_iff.1 hu).1; simp at this; exact this
  subst hi
  have hu2 : u = .int .u64 p := by simpa using hu.symm
  subst hu2
  have := (h.word j h1).1
  rw [h2] at this
  rw [add_at, Nat.zero_add, show j * (Kd.int .u64).sz + 0 = j from Nat.mul_one j]
  exact this
end
theorem Row.of_own {w : World} {base n : Nat} {v : Value} {ws : List Int} (h : w.ownsRow base 29 1 v n (ws.map (Value.int .u64))) (hn : n = ws.length) (h1 : 1 ≤ ws.length) : ∃ g c, v = .slice (some ⟨g, 0, none⟩) ws.length c ∧ base ≤ g ∧ Row w g c ws := by
  subst hn
  rcases h.2 with ⟨_, hz⟩ | ⟨g, cap, cur, rfl, hbg, hh, hnc, hcm, hcs, ht⟩
  · omega
  · refine ⟨g, cap, rfl, hbg, cur, hh, by omega, hnc, by unfold maxLen at hcm; omega, fun i hi => ?_⟩
    have h2 : (cur.toList.take (ws.length * 1))[i]? = some (.int .u64 ws[i]) := by rw [ht, List.getElem?_map, List.getElem?_eq_getElem hi]; rfl
    rw [List.getElem?_take, if_pos (by omega), Array.getElem?_toList] at h2
    exact h2
theorem Row.of_R {w : World} {base : Nat} {ok : Nat → Prop} {v : Value} {ws : List Int} (h : Kd.R (Kd.int .u64) 29 w base ok v ws) (h1 : 1 ≤ ws.length) : ∃ g c, v = .slice (some ⟨g, 0, none⟩) ws.length c ∧ base ≤ g ∧ Row w g c ws := by
  obtain ⟨_, inner, ho, hl, hr⟩ := h
  have e : inner = ws.map (Value.int .u64) := by
    apply List.ext_getElem?
    intro i
    by_cases hi : i < ws.length
    · have := hr i ws[i] (List.getElem?_eq_getElem hi)
      have h2 : (inner.drop (i * (Kd.int .u64).sz)).take (Kd.int .u64).sz = [Value.int .u64 ws[i]] := this
      rw [show (Kd.int .u64).sz = 1 from rfl, Nat.mul_one] at h2
      have h3 : ((inner.drop i).take 1)[0]? = some (Value.int .u64 ws[i]) := by rw [h2]; rfl
      rw [List.getElem?_take, if_pos (by omega), List.getElem?_drop, Nat.add_zero] at h3
      rw [h3, List.getElem?_map, List.getElem?_eq_getElem hi]; rfl
    · have hl2 : inner.length = ws.length := by rw [hl]; exact Nat.mul_one _
      rw [List.getElem?_eq_none (by omega), List.getElem?_eq_none (by simp; omega)]
  subst e
  exact Row.of_own ho rfl h1
end Go.Proofs.Ytdmpfnnaefccnaa.MemRow
