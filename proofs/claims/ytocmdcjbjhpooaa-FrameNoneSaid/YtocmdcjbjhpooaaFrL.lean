/- The document's thread: what it holds, told; rows appended to rows. -/
import Derived.Test.YtocmdcjbjhpooaaFrK
import Derived.Laws.OwnMore
set_option linter.unusedVariables false
set_option linter.unusedSimpArgs false
namespace Go.Proofs.Ytocmdcjbjhpooaa.FrW
open Go Go.RowKit Go.Proofs.YtocmdcjbjhpooaaW.PrintWords Go.Proofs.YtocmdcjbjhpooaaW.PrintLast Go.Proofs.YtocmdcjbjhpooaaW.PrintMore Go.Proofs.Ytocmdcjbjhpooaa.PFrameOrders Go.Proofs.Ytocmdcjbjhpooaa.GRow Go.Proofs.Ytocmdcjbjhpooaa.Num Go.Proofs.Ytocmdcjbjhpooaa.Bxs Go.Proofs.Ytocmdcjbjhpooaa.InsW
/-- A frame, as it is told: its function, its place, its registers. -/
abbrev Co := Int × Int × (Nat → Int)
def gC (f : Co) : List Value := .int .i64 f.1 :: .int .i64 f.2.1 :: ws 24 f.2.2
theorem gC_len (f : Co) : (gC f).length = 26 := by simp [gC, ws]
theorem frC_core (f : Fr) : frC f = gC f.core := rfl
def tC (r : Nat → Int) (vF vR vS : Value) : List Value := ws 12 r ++ [vF, vR, vS]
theorem tC_len (r : Nat → Int) (vF vR vS : Value) : (tC r vF vR vS).length = 15 := by simp [tC, ws]
def upd (r : Nat → Int) (j : Nat) (x : Int) : Nat → Int := fun i => if i = j then x else r i
theorem ws_set (n : Nat) (r : Nat → Int) (j : Nat) (x : Int) : (ws n r).set j (.int .u64 x) = ws n (upd r j x) := by
  apply List.ext_getElem
  · simp [ws]
  · intro i h1 h2
    rw [ws_len] at h2
    have e : upd r j x i = if i = j then x else r i := rfl
    rw [List.getElem_set, ws_get n r _ h2, ws_get n (upd r j x) _ h2, e]
    by_cases h : j = i
    · rw [if_pos h, if_pos h.symm]
    · rw [if_neg h, if_neg (fun e => h e.symm)]
theorem ws_ext {n : Nat} {r r' : Nat → Int} (h : ∀ i, i < n → r i = r' i) : ws n r = ws n r' := List.map_congr_left fun i hi => by rw [h i (List.mem_range.1 hi)]
theorem info_g : ∃ i0 z, Try.prog.info? 113 = some i0 ∧ i0.zero = some z ∧ i0.size = 26 ∧ i0.bytes = 208 ∧ z.cells.size = 26 := by
  have h : (Try.prog.info? 113).map (fun i => (i.zero.map fun z => z.cells.size, i.size, i.bytes)) = some (some 26, 26, 208) := by kernel_rfl
  obtain ⟨i, hi, he⟩ := Option.map_eq_some_iff.1 h
  simp only [Prod.mk.injEq] at he
  obtain ⟨z, hz, hs⟩ := Option.map_eq_some_iff.1 he.1
  exact ⟨i, z, hi, hz, he.2.1, he.2.2, hs⟩
/-- A row appended to a row of one's own. -/
theorem append_rows {W : World} {base t ty e sz by_ : Nat} {i0 : TypeInfo} {z : Value} (ht : Try.prog.underlying t = some (.slice e)) (hi : Try.prog.info? e = some i0) (hz : i0.zero = some z) (hs : i0.size = sz) (hb : i0.bytes = by_) (hzs : z.cells.size = sz) (h0 : 0 < sz)
    {v u : Value} {recs news : List (List Value)} {base' : Nat} {X : World} (hv : OV e sz W base v recs) (hu : OV e sz X base' u news) (hX : Below X.heap.size X W) (h1 : ∀ r ∈ news, ∀ x ∈ r, x.oneCell' = true) (hm : (recs.length + news.length) * by_ ≤ 140737488355328) (hm2 : recs.length + news.length ≤ maxLen) (hbw : base ≤ W.heap.size) :
    ∃ v' w', (Builtin.append_ #[t, t] ty #[v, u]).run Try.prog W = .ok v' w' ∧ OV e sz w' base v' (recs ++ news) ∧ W.grownBy w' v.ownBlock ∧ (v'.ownBlock = v.ownBlock ∨ v'.ownBlock = some W.heap.size) := by
  rcases hu with ⟨rfl, rfl⟩ | ⟨g, c, rfl, hg, hG⟩
  · refine ⟨v, W, run_append_owned_none W base t ty e i0 sz ht hi v recs.length recs.flatten (hv.own h0), by rw [List.append_nil]; exact hv, ⟨rfl, rfl, rfl, Nat.le_refl _, fun k _ _ => rfl⟩, .inl rfl⟩
  · have hw := hG.wide_all
    obtain ⟨v', w', r1, r2, r3, _, r5⟩ := run_append_own_at (P := Try.prog) W base t ty e i0 z sz by_ ht hi hz hs hb hzs h0 v recs.length recs.flatten (hv.own h0) ⟨g, 0, none⟩ news.length c news.flatten (flat_len news hw)
      (fun j x hj => by
        rw [add_at, Nat.zero_add]
        have hlt := (List.getElem?_eq_some_iff.1 hj).1
        rw [flat_len news hw] at hlt
        have ej : j = (j / sz) * sz + j % sz := by rw [Nat.mul_comm]; exact (Nat.div_add_mod j sz).symm
        have hq : j / sz < news.length := by rw [Nat.div_lt_iff_lt_mul h0]; exact hlt
        rw [ej] at hj ⊢
        rw [flat_get news hw _ _ hq (Nat.mod_lt _ h0)] at hj
        have hG2 : GRow e sz W g c news := hG.move (hX.block g hG.lt)
        rw [(hG2.cell _ _ hq (Nat.mod_lt _ h0)).1]
        exact hj)
      (fun x hx => by obtain ⟨r, hr, hxr⟩ := List.mem_flatten.1 hx; exact h1 r hr x hxr) hm2 hm hbw
    refine ⟨v', w', r1, OV.of_row (n := recs.length + news.length) (by rw [List.flatten_append]; exact r2) (by simp) (fun r hr => ?_) h0, r3, r5⟩
    rcases List.mem_append.1 hr with hr | hr
    · exact hv.wide r hr
    · exact hw r hr
theorem one_gC (f : Co) : ∀ x ∈ gC f, x.oneCell' = true := fun v hv => by
  unfold gC ws at hv
  rcases List.mem_cons.1 hv with rfl | hv
  · rfl
  · rcases List.mem_cons.1 hv with rfl | hv
    · rfl
    · obtain ⟨i, _, rfl⟩ := List.mem_map.1 hv
      rfl
/-- The document's thread. -/
structure RT (W : World) (ok : Nat → Prop) (vF vR vS : Value) (fs : List Co) (row : List S37) (st : List Int) : Prop where
  fo : OV 113 26 W 0 vF (fs.map gC)
  so : OV 27 1 W 0 vS (st.map fun x => [.int .u64 x])
  sk : ∀ k, vS.ownBlock = some k → ok k
  ro : Kd.V k37 37 W 0 ok vR row
section
variable {W W' : World} {ok : Nat → Prop} {vF vR vS : Value} {fs : List Co} {row : List S37} {st : List Int}
theorem RT.below (h : RT W ok vF vR vS fs row st) (hb : Below W.heap.size W W') : RT W' ok vF vR vS fs row st := ⟨h.fo.below hb, h.so.below hb, h.sk, Kd.V_below h.ro hb⟩
theorem RT.sF (h : RT W ok vF vR vS fs row st) : ∃ A c, vF = .slice A fs.length c ∧ fs.length ≤ c := by
  obtain ⟨A, c, h1, h2⟩ := h.fo.slice
  rw [List.length_map] at h1 h2
  exact ⟨A, c, h1, h2⟩
theorem RT.sS (h : RT W ok vF vR vS fs row st) : ∃ A c, vS = .slice A st.length c ∧ st.length ≤ c := by
  obtain ⟨A, c, h1, h2⟩ := h.so.slice
  rw [List.length_map] at h1 h2
  exact ⟨A, c, h1, h2⟩
/-- A thread moves: what the document's one holds stands. -/
theorem RT.mv {base b : Nat} {P : Nat → Prop} {r : Nat → Int} {s : Ses} {v1 v2 v3 : Value} {fs1 : List Fr} {row1 : List S37} {st1 : List Int} (hT : Th W base P b r s v1 v2 v3 fs1 row1 st1) (hok : ∀ k, ok k → ¬ P k) (h : RT W ok vF vR vS fs row st) (hm : Mv W W' base (own b v1 v3 fs1)) : RT W' ok vF vR vS fs row st := by
  have hP : ∀ k, own b v1 v3 fs1 k → P k := fun k hk => (hT.ge k hk).2
  have key : ∀ k, ok k → k < W.heap.size → W'.heap[k]? = W.heap[k]? := fun k hk hl => hm.k k hl (fun ho => hok k hk (hP k ho))
  refine ⟨h.fo.move (fun k _ hl hk => hm.k k hl (fun ho => ?_)), h.so.move (fun k _ hl hk => key k (h.sk k hk) hl), h.sk, Kd.V_step h.ro key⟩
  obtain ⟨cur, hc⟩ := OV.typed h.fo hk
  rcases ho with rfl | ⟨f, hf, rfl⟩ | ho | ho
  · exact typ_ne hc hT.blk (by decide) rfl
  · exact typ_ne hc (hT.fb f hf) (by decide) rfl
  · obtain ⟨cur2, hc2⟩ := OV.typed hT.fo ho
    exact typ_ne hc hc2 (by decide) rfl
  · obtain ⟨cur2, hc2⟩ := OV.typed hT.so ho
    exact typ_ne hc hc2 (by decide) rfl
end
/-- A whole box, written anew. -/
theorem _root_.Go.Proofs.Ytocmdcjbjhpooaa.Bxs.Bxs.setAll {w W : World} {L : List Box} {b t : Nat} {c : Array Value} (h : Bxs w W L) (j : Nat) (vs : List Value) (hj : L[j]? = some (b, c, t)) (hl : vs.length = c.size) {L' : List Box} (e : L.set j (b, vs.toArray, t) = L') : Bxs w (W.setCells b 0 vs) L' := by
  subst e
  have hlt := (List.getElem?_eq_some_iff.1 hj).1
  have hm : (L.set j (b, vs.toArray, t)).map (·.1) = L.map (·.1) := by
    rw [List.map_set]
    apply List.ext_getElem?
    intro k
    rw [List.getElem?_set]
    by_cases hk : j = k
    · subst hk
      rw [if_pos rfl, if_pos (by simpa using hlt), List.getElem?_map, hj]
      rfl
    · rw [if_neg hk]
  refine ⟨fun x hx => ?_, by rw [hm]; exact h.ne, fun x hx => ?_, below_setCells h.b (h.ge _ (mem_of hj)) vs 0⟩
  · obtain ⟨k, hk, rfl⟩ := List.getElem_of_mem hx
    rw [List.length_set] at hk
    rw [List.getElem_set]
    by_cases e : j = k
    · subst e
      rw [if_pos rfl]
      have K := blk_setCells vs W [] c.toList [] (by simpa using hl.symm) (b := b) (T := t) (by simpa using h.get j hj)
      simpa using K
    · rw [if_neg e]
      exact (heap_setCells b vs 0 W _ (ne_at h.ne (List.getElem?_eq_getElem hk) hj (fun e2 => e e2.symm))).trans (h.at_ _ (List.getElem_mem hk))
  · have : x.1 ∈ (L.set j (b, vs.toArray, t)).map (·.1) := List.mem_map_of_mem hx
    rw [hm] at this
    obtain ⟨y, hy, he⟩ := List.mem_map.1 this
    rw [← he]
    exact h.ge y hy
theorem _root_.Go.Proofs.Ytocmdcjbjhpooaa.Bxs.Bxs.rng {w W : World} {L : List Box} {b t : Nat} {cs : List Value} (h : Bxs w W L) (j : Nat) (hj : L[j]? = some (b, cs.toArray, t)) : W.rangeAt b 0 cs := fun i v hv => by
  rw [Nat.zero_add, h.cell j i hj, List.getElem?_toArray]
  exact hv
theorem _root_.Go.Proofs.Ytocmdcjbjhpooaa.Bxs.Bxs.thr {w W : World} {L : List Box} {b t : Nat} {c : Array Value} (h : Bxs w W L) (j : Nat) (hj : L[j]? = some (b, c, t)) {n : Nat} (hn : n = c.size) : W.there b 0 n := fun i hi => by
  rw [Nat.zero_add]
  refine ⟨?_, h.frz j i hj⟩
  rw [h.cell j i hj, Array.getElem?_eq_getElem (by omega)]
  rfl
end Go.Proofs.Ytocmdcjbjhpooaa.FrW
