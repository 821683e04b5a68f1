/- Boxes: what some blocks hold, all told at once, and moved at once. -/
import Derived.Test.YtocmdcjbjhpooaaWMore
import Derived.Test.YtocmdcjbjhpooaaGSet
set_option linter.unusedVariables false
set_option linter.unusedSimpArgs false
namespace Go.Proofs.Ytocmdcjbjhpooaa.Bxs
open Go Go.RowKit Go.Proofs.YtocmdcjbjhpooaaW.PrintWords Go.Proofs.Ytocmdcjbjhpooaa.GRow
abbrev Box := Nat × Array Value × Nat
/-- What the call made: blocks from w's end on; nothing elder is turned. -/
structure Bxs (w W : World) (L : List Box) : Prop where
  at_ : ∀ x ∈ L, W.heap[x.1]? = some (.cells x.2.1 x.2.2 (0, 0))
  ne : (L.map (·.1)).Nodup
  ge : ∀ x ∈ L, w.heap.size ≤ x.1
  b : Below w.heap.size w W
section
variable {w W W' : World} {L : List Box} {j : Nat} {b t : Nat} {c : Array Value}
theorem Bxs.nil (w : World) : Bxs w w [] := ⟨fun _ h => by simp at h, List.nodup_nil, fun _ h => by simp at h, Below.refl _ _⟩
theorem mem_of {j : Nat} {x : Box} (h : L[j]? = some x) : x ∈ L := by
  obtain ⟨h1, rfl⟩ := List.getElem?_eq_some_iff.1 h
  exact List.getElem_mem h1
theorem Bxs.get (h : Bxs w W L) (j : Nat) (hj : L[j]? = some (b, c, t)) : W.heap[b]? = some (.cells c t (0, 0)) := h.at_ _ (mem_of hj)
theorem Bxs.cell (h : Bxs w W L) (j i : Nat) (hj : L[j]? = some (b, c, t)) : W.cell? ⟨b, i, none⟩ = c[i]? := blk_cell (h.get j hj) i
theorem Bxs.frz (h : Bxs w W L) (j i : Nat) (hj : L[j]? = some (b, c, t)) : W.frozen? ⟨b, i, none⟩ = false := blk_frozen (h.get j hj) i
theorem Bxs.lt (h : Bxs w W L) (j : Nat) (hj : L[j]? = some (b, c, t)) : b < W.heap.size := (Array.getElem?_eq_some_iff.1 (h.get j hj)).1
theorem Bxs.below (h : Bxs w W L) (hb : Below W.heap.size W W') : Bxs w W' L := ⟨fun x hx => blk_below (h.at_ x hx) hb, h.ne, h.ge, below_then h.b h.b.size hb⟩
theorem Bxs.drew (h : Bxs w W L) : Bxs w W.drew L := ⟨h.at_, h.ne, h.ge, below_drew1 h.b⟩
theorem Bxs.alloc (h : Bxs w W L) (o : Obj) : Bxs w (W.alloc o) L := h.below (below_alloc (Below.refl _ _) o)
theorem Bxs.box (h : Bxs w W L) (c : Array Value) (t : Nat) {n : Nat} (hn : W.heap.size = n) : Bxs w (W.alloc (.cells c t (0, 0))) ((n, c, t) :: L) := by
  subst hn
  refine ⟨fun x hx => ?_, ?_, fun x hx => ?_, below_alloc h.b _⟩
  · rcases List.mem_cons.1 hx with rfl | hx
    · exact heap_alloc_new W _
    · exact blk_alloc (h.at_ x hx) _
  · rw [List.map_cons, List.nodup_cons]
    refine ⟨fun hm => ?_, h.ne⟩
    obtain ⟨x, hx, he⟩ := List.mem_map.1 hm
    have hlt := (Array.getElem?_eq_some_iff.1 (h.at_ x hx)).1
    simp only at he
    omega
  · rcases List.mem_cons.1 hx with rfl | hx
    · exact h.b.size
    · exact h.ge x hx
theorem Bxs.perm (h : Bxs w W L) {L' : List Box} (hp : L'.Perm L) : Bxs w W L' := ⟨fun x hx => h.at_ x (hp.mem_iff.1 hx), ((hp.map (·.1)).nodup_iff).2 h.ne, fun x hx => h.ge x (hp.mem_iff.1 hx), h.b⟩
theorem Bxs.sub (h : Bxs w W L) {L' : List Box} (hp : L'.Sublist L) : Bxs w W L' := ⟨fun x hx => h.at_ x (hp.subset hx), (hp.map (·.1)).nodup h.ne, fun x hx => h.ge x (hp.subset hx), h.b⟩
theorem ne_at (h : (L.map (·.1)).Nodup) {i j : Nat} {x y : Box} (hi : L[i]? = some x) (hj : L[j]? = some y) (hij : i ≠ j) : x.1 ≠ y.1 := by
  obtain ⟨h1, rfl⟩ := List.getElem?_eq_some_iff.1 hi
  obtain ⟨h2, rfl⟩ := List.getElem?_eq_some_iff.1 hj
  intro he
  have hp := List.pairwise_iff_getElem.1 h
  rcases Nat.lt_or_gt_of_ne hij with hl | hl
  · exact hp i j (by simpa using h1) (by simpa using h2) hl (by simpa using he)
  · exact hp j i (by simpa using h2) (by simpa using h1) hl (by simpa using he.symm)
theorem Bxs.set (h : Bxs w W L) (j i : Nat) (u : Value) (hj : L[j]? = some (b, c, t)) {L' : List Box} (e : L.set j (b, c.setIfInBounds i u, t) = L') : Bxs w (W.setCell ⟨b, i, none⟩ u) L' := by
  subst e
  have hlt := (List.getElem?_eq_some_iff.1 hj).1
  have hm : (L.set j (b, c.setIfInBounds i u, t)).map (·.1) = L.map (·.1) := by
    rw [List.map_set]
    apply List.ext_getElem?
    intro k
    rw [List.getElem?_set]
    by_cases hk : j = k
    · subst hk
      rw [if_pos rfl, if_pos (by simpa using hlt), List.getElem?_map, hj]
      rfl
    · rw [if_neg hk]
  refine ⟨fun x hx => ?_, by rw [hm]; exact h.ne, fun x hx => ?_, h.b.setCell (p := ⟨b, i, none⟩) (h.ge _ (mem_of hj)) u⟩
  · obtain ⟨k, hk, rfl⟩ := List.getElem_of_mem hx
    rw [List.length_set] at hk
    rw [List.getElem_set]
    by_cases e : j = k
    · subst e
      rw [if_pos rfl]
      exact blk_set (h.get j hj) i u
    · rw [if_neg e]
      exact (Below.heap_setCell W ⟨b, i, none⟩ u _ (ne_at h.ne (List.getElem?_eq_getElem hk) hj (fun e2 => e e2.symm))).trans (h.at_ _ (List.getElem_mem hk))
  · have : x.1 ∈ (L.set j (b, c.setIfInBounds i u, t)).map (·.1) := List.mem_map_of_mem hx
    rw [hm] at this
    obtain ⟨y, hy, he⟩ := List.mem_map.1 this
    rw [← he]
    exact h.ge y hy
theorem Bxs.far (h : Bxs w W L) {p : Addr} (u : Value) (hp : ∀ x ∈ L, x.1 ≠ p.block) (hw : w.heap.size ≤ p.block) : Bxs w (W.setCell p u) L :=
  ⟨fun x hx => (Below.heap_setCell W p u _ (hp x hx)).trans (h.at_ x hx), h.ne, h.ge, h.b.setCell hw u⟩
theorem Bxs.fars (h : Bxs w W L) {g : Nat} (hp : ∀ x ∈ L, x.1 ≠ g) (hw : w.heap.size ≤ g) (o : Nat) (vs : List Value) : Bxs w (W.setCells g o vs) L :=
  ⟨fun x hx => (heap_setCells g vs o W _ (hp x hx)).trans (h.at_ x hx), h.ne, h.ge, below_setCells h.b hw vs o⟩
theorem Bxs.old (h : Bxs w W L) : Below w.heap.size w W := h.b
end
/-- Nothing is turned but what lies from lo on, ahead of hi. -/
def Out (lo hi : Nat) (W W' : World) : Prop := ∀ k, (k < lo ∨ hi ≤ k) → k < W.heap.size → W'.heap[k]? = W.heap[k]?
section
variable {lo hi : Nat} {W W1 W2 : World}
theorem Out.refl (lo hi : Nat) (W : World) : Out lo hi W W := fun _ _ _ => rfl
theorem Out.below (h : Out lo hi W W1) (hs : W.heap.size ≤ W1.heap.size) (hb : Below W1.heap.size W1 W2) : Out lo hi W W2 := fun k hk hl => (hb.block k (Nat.lt_of_lt_of_le hl hs)).trans (h k hk hl)
theorem Out.alloc (h : Out lo hi W W1) (hs : W.heap.size ≤ W1.heap.size) (o : Obj) : Out lo hi W (W1.alloc o) := h.below hs (below_alloc (Below.refl _ _) o)
theorem Out.drew (h : Out lo hi W W1) : Out lo hi W W1.drew := h
theorem Out.set (h : Out lo hi W W1) {p : Addr} (u : Value) (h1 : lo ≤ p.block) (h2 : p.block < hi) : Out lo hi W (W1.setCell p u) := fun k hk hl => (Below.heap_setCell W1 p u k (by omega)).trans (h k hk hl)
theorem Out.sets (h : Out lo hi W W1) {g : Nat} (h1 : lo ≤ g) (h2 : g < hi) (o : Nat) (vs : List Value) : Out lo hi W (W1.setCells g o vs) := fun k hk hl => (heap_setCells g vs o W1 k (by omega)).trans (h k hk hl)
theorem Out.trans (h : Out lo hi W W1) (hs : W.heap.size ≤ W1.heap.size) (h2 : Out lo hi W1 W2) : Out lo hi W W2 := fun k hk hl => (h2 k hk (Nat.lt_of_lt_of_le hl hs)).trans (h k hk hl)
theorem Out.V {α : Type} {d : Kd α} {e base base' : Nat} {ok : Nat → Prop} {v : Value} {xs : List α} (h : Out lo hi W W1) (hv : Kd.V d e W base ok v xs) (ho : ∀ k, ok k → k < lo ∨ hi ≤ k) : Kd.V d e W1 base' ok v xs := Kd.V_step hv (fun k hk hl => h k (ho k hk) hl)
end
theorem bx_gen {P : Program} {cd : Code} {Q : Exit → Act → World → Prop} {ac : Act} {w W : World} {L : List Box} (h : Bxs w W L) (k : ∀ wr, Bxs w wr L → cd.wp P Q ac wr) : cd.wp P Q ac W := k W h
/-- The same, and the world's size. -/
theorem bx_gens {P : Program} {cd : Code} {Q : Exit → Act → World → Prop} {ac : Act} {w W : World} {L : List Box} (h : Bxs w W L) (k : ∀ wr, Bxs w wr L → wr.heap.size = W.heap.size → cd.wp P Q ac wr) : cd.wp P Q ac W := k W h rfl
/-! Two results in boxes: a struct of two cells, one of five; either is written first. -/
section
variable {R : Exit → Act → World → Prop} {e : Exit} {act : Act} {w W : World} {T U b6 b7 : Nat} {L : List Box} {z0 z1 x0 x1 x2 x3 x4 u0 u1 y0 y1 y2 y3 y4 : Value}
theorem fin67 (M : Bxs w W ((b7, #[x0, x1, x2, x3, x4], U) :: (b6, #[z0, z1], T) :: L)) (hs : w.heap.size + 4 ≤ W.heap.size) (h6 : b6 < w.heap.size + 4) (h7 : b7 < w.heap.size + 4) (k : ∀ Wf, Bxs w Wf ((b7, #[y0, y1, y2, y3, y4], U) :: (b6, #[u0, u1], T) :: L) → Out w.heap.size (w.heap.size + 4) W Wf → R e act Wf) :
    R e act (((((((W.setCell ⟨b6, 0, none⟩ u0).setCell ⟨b6, 1, none⟩ u1).setCell ⟨b7, 0, none⟩ y0).setCell ⟨b7, 1, none⟩ y1).setCell ⟨b7, 2, none⟩ y2).setCell ⟨b7, 3, none⟩ y3).setCell ⟨b7, 4, none⟩ y4) :=
  have g6 := M.ge _ (List.mem_cons_of_mem _ List.mem_cons_self)
  have g7 := M.ge _ List.mem_cons_self
  k _ (((((((M.set 1 0 u0 rfl rfl).set 1 1 u1 rfl rfl).set 0 0 y0 rfl rfl).set 0 1 y1 rfl rfl).set 0 2 y2 rfl rfl).set 0 3 y3 rfl rfl).set 0 4 y4 rfl rfl)
    ((((((((Out.refl _ _ W).set (p := ⟨b6, 0, none⟩) u0 g6 h6).set (p := ⟨b6, 1, none⟩) u1 g6 h6).set (p := ⟨b7, 0, none⟩) y0 g7 h7).set (p := ⟨b7, 1, none⟩) y1 g7 h7).set (p := ⟨b7, 2, none⟩) y2 g7 h7).set (p := ⟨b7, 3, none⟩) y3 g7 h7).set (p := ⟨b7, 4, none⟩) y4 g7 h7)
theorem fin76 (M : Bxs w W ((b7, #[x0, x1, x2, x3, x4], U) :: (b6, #[z0, z1], T) :: L)) (hs : w.heap.size + 4 ≤ W.heap.size) (h6 : b6 < w.heap.size + 4) (h7 : b7 < w.heap.size + 4) (k : ∀ Wf, Bxs w Wf ((b7, #[y0, y1, y2, y3, y4], U) :: (b6, #[u0, u1], T) :: L) → Out w.heap.size (w.heap.size + 4) W Wf → R e act Wf) :
    R e act (((((((W.setCell ⟨b7, 0, none⟩ y0).setCell ⟨b7, 1, none⟩ y1).setCell ⟨b7, 2, none⟩ y2).setCell ⟨b7, 3, none⟩ y3).setCell ⟨b7, 4, none⟩ y4).setCell ⟨b6, 0, none⟩ u0).setCell ⟨b6, 1, none⟩ u1) :=
  have g6 := M.ge _ (List.mem_cons_of_mem _ List.mem_cons_self)
  have g7 := M.ge _ List.mem_cons_self
  k _ (((((((M.set 0 0 y0 rfl rfl).set 0 1 y1 rfl rfl).set 0 2 y2 rfl rfl).set 0 3 y3 rfl rfl).set 0 4 y4 rfl rfl).set 1 0 u0 rfl rfl).set 1 1 u1 rfl rfl)
    ((((((((Out.refl _ _ W).set (p := ⟨b7, 0, none⟩) y0 g7 h7).set (p := ⟨b7, 1, none⟩) y1 g7 h7).set (p := ⟨b7, 2, none⟩) y2 g7 h7).set (p := ⟨b7, 3, none⟩) y3 g7 h7).set (p := ⟨b7, 4, none⟩) y4 g7 h7).set (p := ⟨b6, 0, none⟩) u0 g6 h6).set (p := ⟨b6, 1, none⟩) u1 g6 h6)
theorem fin7 (M : Bxs w W ((b7, #[x0, x1, x2, x3, x4], U) :: L)) (hs : w.heap.size + 4 ≤ W.heap.size) (h7 : b7 < w.heap.size + 4) (k : ∀ Wf, Bxs w Wf ((b7, #[y0, y1, y2, y3, y4], U) :: L) → Out w.heap.size (w.heap.size + 4) W Wf → R e act Wf) :
    R e act (((((W.setCell ⟨b7, 0, none⟩ y0).setCell ⟨b7, 1, none⟩ y1).setCell ⟨b7, 2, none⟩ y2).setCell ⟨b7, 3, none⟩ y3).setCell ⟨b7, 4, none⟩ y4) :=
  have g7 := M.ge _ List.mem_cons_self
  k _ (((((M.set 0 0 y0 rfl rfl).set 0 1 y1 rfl rfl).set 0 2 y2 rfl rfl).set 0 3 y3 rfl rfl).set 0 4 y4 rfl rfl)
    ((((((Out.refl _ _ W).set (p := ⟨b7, 0, none⟩) y0 g7 h7).set (p := ⟨b7, 1, none⟩) y1 g7 h7).set (p := ⟨b7, 2, none⟩) y2 g7 h7).set (p := ⟨b7, 3, none⟩) y3 g7 h7).set (p := ⟨b7, 4, none⟩) y4 g7 h7)
theorem fin5 {hi : Nat} (M : Bxs w W ((b7, #[x0, x1, x2, x3, x4], U) :: L)) (h7 : b7 < hi) (k : ∀ Wf, Bxs w Wf ((b7, #[y0, y1, y2, y3, y4], U) :: L) → Out w.heap.size hi W Wf → R e act Wf) :
    R e act (((((W.setCell ⟨b7, 0, none⟩ y0).setCell ⟨b7, 1, none⟩ y1).setCell ⟨b7, 2, none⟩ y2).setCell ⟨b7, 3, none⟩ y3).setCell ⟨b7, 4, none⟩ y4) :=
  have g7 := M.ge _ List.mem_cons_self
  k _ (((((M.set 0 0 y0 rfl rfl).set 0 1 y1 rfl rfl).set 0 2 y2 rfl rfl).set 0 3 y3 rfl rfl).set 0 4 y4 rfl rfl)
    ((((((Out.refl _ _ W).set (p := ⟨b7, 0, none⟩) y0 g7 h7).set (p := ⟨b7, 1, none⟩) y1 g7 h7).set (p := ⟨b7, 2, none⟩) y2 g7 h7).set (p := ⟨b7, 3, none⟩) y3 g7 h7).set (p := ⟨b7, 4, none⟩) y4 g7 h7)
/-- Two boxes. -/
theorem two (w : World) (s c : Array Value) (S C : Nat) : Bxs w ((w.alloc (.cells s S (0, 0))).alloc (.cells c C (0, 0))) [(w.heap.size + 1, c, C), (w.heap.size, s, S)] :=
  ((Bxs.nil w).box s S rfl).box c C (by simp)
/-- Four boxes, one behind the other. -/
theorem four (w : World) (s c z y : Array Value) (S C Z Y : Nat) : Bxs w ((((w.alloc (.cells s S (0, 0))).alloc (.cells c C (0, 0))).alloc (.cells z Z (0, 0))).alloc (.cells y Y (0, 0))) [(w.heap.size + 1 + 1 + 1, y, Y), (w.heap.size + 1 + 1, z, Z), (w.heap.size + 1, c, C), (w.heap.size, s, S)] :=
  ((((Bxs.nil w).box s S rfl).box c C (by simp)).box z Z (by simp)).box y Y (by simp)
end
end Go.Proofs.Ytocmdcjbjhpooaa.Bxs
