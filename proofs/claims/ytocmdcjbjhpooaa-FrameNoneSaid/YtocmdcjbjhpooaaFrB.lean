/- A thread: words pushed, and taken away. -/
import Derived.Test.YtocmdcjbjhpooaaFrA
import Derived.Test.YtocmdcjbjhpooaaInsW
import Derived.Maps.AppendAt
import Derived.Deep.DeepMust
import Derived.Deep.QuietTactic
set_option linter.unusedVariables false
set_option linter.unusedSimpArgs false
namespace Go.Proofs.Ytocmdcjbjhpooaa.FrW
open Go Go.RowKit Go.Proofs.YtocmdcjbjhpooaaW.PrintWords Go.Proofs.YtocmdcjbjhpooaaW.PrintLast Go.Proofs.YtocmdcjbjhpooaaW.PrintMore Go.Proofs.Ytocmdcjbjhpooaa.PFrameOrders Go.Proofs.Ytocmdcjbjhpooaa.GRow Go.Proofs.Ytocmdcjbjhpooaa.Num Go.Proofs.Ytocmdcjbjhpooaa.Bxs Go.Proofs.Ytocmdcjbjhpooaa.InsW
theorem info_u64 : ∃ i0, Try.prog.info? 27 = some i0 ∧ i0.zero = some (.int .u64 0) ∧ i0.size = 1 ∧ i0.bytes = 8 := by
  have h : (Try.prog.info? 27).map (fun i => (i.zero, i.size, i.bytes)) = some (some (.int .u64 0), 1, 8) := by kernel_rfl
  obtain ⟨i, hi, he⟩ := Option.map_eq_some_iff.1 h
  simp only [Prod.mk.injEq] at he
  exact ⟨i, hi, he.1, he.2.1, he.2.2⟩
theorem info_fp : ∃ i0, Try.prog.info? 46 = some i0 ∧ i0.zero = some (.pointer none) ∧ i0.size = 1 ∧ i0.bytes = 8 := by
  have h : (Try.prog.info? 46).map (fun i => (i.zero, i.size, i.bytes)) = some (some (.pointer none), 1, 8) := by kernel_rfl
  obtain ⟨i, hi, he⟩ := Option.map_eq_some_iff.1 h
  simp only [Prod.mk.injEq] at he
  exact ⟨i, hi, he.1, he.2.1, he.2.2⟩
/-- One more element on a row of one's own: where it lies. -/
theorem append_one {W : World} {base t ty e : Nat} {z : Value} (ht : Try.prog.underlying t = some (.slice e)) (hi : ∃ i0, Try.prog.info? e = some i0 ∧ i0.zero = some z ∧ i0.size = 1 ∧ i0.bytes = 8) (hz : z.cells.size = 1)
    {v : Value} {recs : List (List Value)} (hv : OV e 1 W base v recs) (hm : recs.length ≤ 1000000) (hb : base ≤ W.heap.size) {g : Nat} {x : Value} (hx : W.cell? ⟨g, 0, none⟩ = some x) (h1 : x.oneCell' = true) :
    ∃ A' c' w', (Builtin.append_ #[t, t] ty #[v, .slice (some ⟨g, 0, none⟩) 1 1]).run Try.prog W = .ok (.slice A' (recs.length + 1) c') w' ∧ OV e 1 w' base (.slice A' (recs.length + 1) c') (recs ++ [[x]]) ∧ W.grownBy w' v.ownBlock ∧ ((Value.slice A' (recs.length + 1) c').ownBlock = v.ownBlock ∨ (Value.slice A' (recs.length + 1) c').ownBlock = some W.heap.size) := by
  obtain ⟨i0, i1, i2, i3, i4⟩ := hi
  obtain ⟨v', w', r1, r2, r3, _, r5⟩ := run_append_own_at (P := Try.prog) W base t ty e i0 z 1 8 ht i1 i2 i3 i4 hz (by decide) v recs.length recs.flatten (hv.own (by decide)) ⟨g, 0, none⟩ 1 1 [x] rfl
    (fun j u hj => by
      cases j with
      | zero => exact (Option.some.inj hj) ▸ hx
      | succ j => exact absurd hj (by simp))
    (by simpa using h1) (by unfold maxLen; omega) (by omega) hb
  have ho := OV.snoc (r := [x]) r2 rfl hv.wide rfl
  obtain ⟨A', c', h3, _⟩ := ho.slice
  rw [List.length_append, List.length_singleton] at h3
  subst h3
  exact ⟨A', c', w', r1, ho, r3, r5⟩
/-- A protected set, and what is new. -/
def PN (P : Nat → Prop) (W W' : World) (k : Nat) : Prop := P k ∨ (W.heap.size ≤ k ∧ k < W'.heap.size)
theorem PN_set (P : Nat → Prop) (W w3 : World) (p : Addr) (u : Value) : PN P W (w3.setCell p u) = PN P W w3 := by
  funext k
  unfold PN
  rw [World.size_setCell]
theorem OV.typed {T sz base : Nat} {w : World} {v : Value} {recs : List (List Value)} (h : OV T sz w base v recs) {k : Nat} (hk : v.ownBlock = some k) : ∃ cur, w.heap[k]? = some (.cells cur T (0, 0)) := by
  rcases h with ⟨rfl, _⟩ | ⟨g, c, rfl, _, hg⟩
  · cases hk
  · cases hk
    exact hg.typed
theorem typ_ne {w : World} {k j T U : Nat} {a c : Array Value} (h : w.heap[k]? = some (.cells a T (0, 0))) (h2 : w.heap[j]? = some (.cells c U (0, 0))) (hn : T ≠ U) : k ≠ j := by
  rintro rfl
  rw [h] at h2
  injection h2 with h2
  injection h2 with _ h2
  exact hn h2
/-- What moves: blocks of one's own. -/
structure Mv (W W' : World) (base : Nat) (F : Nat → Prop) : Prop where
  b : Below base W W'
  k : ∀ k, k < W.heap.size → ¬ F k → W'.heap[k]? = W.heap[k]?
section
variable {W : World} {base : Nat} {P : Nat → Prop} {b : Nat} {r : Nat → Int} {s : Ses} {vF vR vS : Value} {fs : List Fr} {row : List S37} {st : List Int}
theorem Th.setS (h : Th W base P b r s vF vR vS fs row st) {w3 : World} {v' : Value} {st' : List Int} (hg : ∀ k, k < W.heap.size → some k ≠ vS.ownBlock → w3.heap[k]? = W.heap[k]?) (hs : W.heap.size ≤ w3.heap.size)
    (ho : OV 27 1 w3 base v' (st'.map fun x => [.int .u64 x])) (hv : ∀ k, v'.ownBlock = some k → vS.ownBlock = some k ∨ W.heap.size ≤ k) (hbw : base ≤ W.heap.size) :
    Th (w3.setCell ⟨b, 26, none⟩ v') base (PN P W (w3.setCell ⟨b, 26, none⟩ v')) b r s vF vR v' fs row st' := by
  rw [PN_set]
  have n0 : ∀ {k : Nat} {a : Array Value} {T : Nat}, W.heap[k]? = some (.cells a T (0, 0)) → T ≠ 27 → some k ≠ vS.ownBlock := fun hk hT he => by
    obtain ⟨cur, hc⟩ := OV.typed h.so he.symm
    exact typ_ne hk hc hT rfl
  have m0 : ∀ {k : Nat} {a : Array Value} {T : Nat}, W.heap[k]? = some (.cells a T (0, 0)) → T ≠ 27 → w3.heap[k]? = W.heap[k]? := fun hk hT => hg _ (Array.getElem?_eq_some_iff.1 hk).1 (n0 hk hT)
  have m1 : ∀ {k : Nat} {a : Array Value} {T : Nat}, W.heap[k]? = some (.cells a T (0, 0)) → T ≠ 27 → T ≠ 57 → (w3.setCell ⟨b, 26, none⟩ v').heap[k]? = W.heap[k]? := fun hk hT hT2 => (Below.heap_setCell w3 ⟨b, 26, none⟩ v' _ (typ_ne hk h.blk hT2)).trans (m0 hk hT)
  have hb3 := (m0 h.blk (by decide)).trans h.blk
  refine ⟨(blk_set hb3 26 v').trans rfl, h.fo.move (fun k _ _ hk => ?_), fun f hf => (m1 (h.fb f hf) (by decide) (by decide)).trans (h.fb f hf), h.nd, ho.move (fun k _ hk hk2 => ?_), ?_, ?_⟩
  · obtain ⟨cur, hc⟩ := OV.typed h.fo hk
    exact m1 hc (by decide) (by decide)
  · obtain ⟨cur, hc⟩ := OV.typed ho hk2
    exact Below.heap_setCell w3 ⟨b, 26, none⟩ v' k (typ_ne hc hb3 (by decide))
  · refine Kd.V_mono (Kd.V_step (Kd.V_bound h.ro) (fun k hk hl => ?_)) (fun k hk => ⟨hk.1.1, fun hp => hp.elim hk.1.2 (fun q => by have := hk.2; omega)⟩)
    exact (Below.heap_setCell w3 ⟨b, 26, none⟩ v' k (fun e => hk.1.2 (e ▸ (h.ge b (.inl rfl)).2))).trans (hg k hl (fun e => hk.1.2 (h.ge k (.inr (.inr (.inr e.symm)))).2))
  · intro k hk
    rcases hk with rfl | hk | hk | hk
    · exact ⟨(h.ge _ (.inl rfl)).1, .inl (h.ge _ (.inl rfl)).2⟩
    · exact ⟨(h.ge k (.inr (.inl hk))).1, .inl (h.ge k (.inr (.inl hk))).2⟩
    · exact ⟨(h.ge k (.inr (.inr (.inl hk)))).1, .inl (h.ge k (.inr (.inr (.inl hk)))).2⟩
    · obtain ⟨cur, hc⟩ := OV.typed ho hk
      have hlt := (Array.getElem?_eq_some_iff.1 hc).1
      rcases hv k hk with h2 | h2
      · exact ⟨(h.ge k (.inr (.inr (.inr h2)))).1, .inl (h.ge k (.inr (.inr (.inr h2)))).2⟩
      · exact ⟨by omega, .inr ⟨h2, hlt⟩⟩
/-- What a method of one's own moves. -/
theorem mv_of {w3 W' : World} {F : Nat → Prop} (hB : Below W.heap.size W w3 ∨ True) (h : Below base W W') (hk : ∀ k, k < W.heap.size → ¬ F k → W'.heap[k]? = W.heap[k]?) : Mv W W' base F := ⟨h, hk⟩
set_option maxHeartbeats 4000000 in
set_option maxRecDepth 100000 in
theorem push_calls (h : Th W base P b r s vF vR vS fs row st) (hm : st.length ≤ 1000000) (hbw : base ≤ W.heap.size) (x : Int) :
    Calls Try.prog 18 #[.pointer (some ⟨b, 0, none⟩), .int .u64 x] W fun e W' => e = .returned (.tuple #[]) ∧ ∃ vS', Th W' base (PN P W W') b r s vF vR vS' fs row (st ++ [x]) ∧ Mv W W' base (own b vF vS fs) := by
  have hu := Try.underlying57
  obtain ⟨A, c, rfl, hc⟩ := h.sS
  have c26 := h.cS
  have HR : Aside0 (∃ A' c' w', (Builtin.append_ #[31, 31] 31 #[.slice A st.length c, .slice (some ⟨W.heap.size, 0, none⟩) 1 1]).run Try.prog (W.alloc (.cells #[.int .u64 x] 27 (0, 0))) = .ok (.slice A' (st.length + 1) c') w' ∧ OV 27 1 w' base (.slice A' (st.length + 1) c') ((st.map fun x => [Value.int .u64 x]) ++ [[.int .u64 x]]) ∧ (W.alloc (.cells #[.int .u64 x] 27 (0, 0))).grownBy w' (Value.slice A st.length c).ownBlock ∧ ((Value.slice A' (st.length + 1) c').ownBlock = (Value.slice A st.length c).ownBlock ∨ (Value.slice A' (st.length + 1) c').ownBlock = some (W.alloc (.cells #[.int .u64 x] 27 (0, 0))).heap.size)) :=
    ⟨by have K := append_one (ty := 31) Try.underlying31 info_u64 rfl (h.so.alloc (.cells #[.int .u64 x] 27 (0, 0))) (by rw [List.length_map]; exact hm) (by simp; omega) (x := .int .u64 x) (g := W.heap.size) ((blk_cell (heap_alloc_new W (.cells #[.int .u64 x] 27 (0, 0))) 0).trans rfl) rfl; rw [List.length_map] at K; exact K⟩
  obtain ⟨A', c', w3, e1, e2, e3, e4⟩ := HR.out
  have X1 := Aside0.mk e1
  have hsz : W.heap.size + 1 ≤ w3.heap.size := by have := e3.size; simpa using this
  have hg : ∀ k, k < W.heap.size → some k ≠ (Value.slice A st.length c).ownBlock → w3.heap[k]? = W.heap[k]? := fun k hk hn => (e3.block k (by simp; omega) hn).trans (Below.heap_alloc W _ k hk)
  have hT := h.setS (v' := .slice A' (st.length + 1) c') (st' := st ++ [x]) hg (by omega) (by rw [List.map_append]; exact e2) (fun k hk => by
    rcases e4 with e4 | e4
    · exact .inl (e4 ▸ hk)
    · rw [e4] at hk
      injection hk with hk
      exact .inr (by rw [← hk]; simp)) hbw
  have HT := Aside0.mk hT
  have hb3 : w3.heap[b]? = some (.cells (thC r s vF vR (.slice A st.length c)).toArray 57 (0, 0)) := (hg b h.lt (fun he => by
    obtain ⟨cur, hc⟩ := OV.typed h.so he.symm
    exact typ_ne h.blk hc (by decide) rfl)).trans h.blk
  have f26 := blk_frozen hb3 26
  have c26b : w3.cell? ⟨b, 26, none⟩ = some (.slice A st.length c) := (blk_cell hb3 26).trans rfl
  have hB : Below base W w3 := ((Below.refl base W).alloc hbw (.cells #[.int .u64 x] 27 (0, 0))).grown e3 (by simp; omega) (fun k hk => (h.ge k (.inr (.inr (.inr hk)))).1)
  have HM : Aside0 (Mv W (w3.setCell ⟨b, 26, none⟩ (.slice A' (st.length + 1) c')) base (own b vF (.slice A st.length c) fs)) :=
    ⟨⟨hB.setCell (p := ⟨b, 26, none⟩) (h.ge b (.inl rfl)).1 _, fun k hk hn => (Below.heap_setCell w3 ⟨b, 26, none⟩ _ k (fun e => hn (.inl e))).trans (hg k hk (fun e => hn (.inr (.inr (.inr e.symm)))))⟩⟩
  clear HR e1 e2 e3 e4 hT hb3 hg
  go_enter Try.func18, Try.ntmps18
  go_wp2_with (at_builtin; go_must (refine wpList_append_at _ rfl _ _ _ _ rfl _ _ rfl rfl X1.out ?_))
  go_end0
  exact ⟨rfl, _, HT.out, HM.out⟩
theorem growTake {T sz : Nat} {w : World} {g c : Nat} {recs : List (List Value)} (h : GRow T sz w g c recs) (n : Nat) : GRow T sz w g c (recs.take n) := by
  obtain ⟨cur, h1, h2, h3, h4, h5⟩ := h
  refine ⟨cur, h1, h2, by rw [List.length_take]; omega, h4, fun j hj => ?_⟩
  rw [List.length_take] at hj
  rw [List.getElem_take]
  exact h5 j (by omega)
/-- A row of one's own, cut. -/
theorem OV.cut {T sz base : Nat} {w : World} {g n c : Nat} {recs : List (List Value)} (h : OV T sz w base (.slice (some ⟨g, 0, none⟩) n c) recs) (m : Nat) (hm : m ≤ n) : OV T sz w base (.slice (some ⟨g, 0, none⟩) m c) (recs.take m) := by
  rcases h with ⟨h1, _⟩ | ⟨g2, c2, h1, h2, h3⟩
  · cases h1
  · injection h1 with e1 e2 e3
    injection e1 with e1
    injection e1 with e1
    subst e1
    subst e3
    refine .inr ⟨g, c, by rw [List.length_take]; congr 1; omega, h2, growTake h3 m⟩
theorem Th.drew (h : Th W base P b r s vF vR vS fs row st) : Th W.drew base P b r s vF vR vS fs row st :=
  ⟨h.blk, h.fo.move (fun k _ _ _ => rfl), h.fb, h.nd, h.so.move (fun k _ _ _ => rfl), Kd.V_step h.ro (fun k _ _ => rfl), h.ge⟩
theorem Mv.drew {W' : World} {F : Nat → Prop} (h : Mv W W' base F) : Mv W W'.drew base F := ⟨below_drew1 h.b, h.k⟩
/-- A cell of the stack. -/
theorem Th.atS (h : Th W base P b r s vF vR vS fs row st) (i : Nat) (hi : i < st.length) : ∃ g c, vS = .slice (some ⟨g, 0, none⟩) st.length c ∧ st.length ≤ c ∧ W.cell? ⟨g, i, none⟩ = some (.int .u64 st[i]) := by
  rcases h.so with ⟨_, h2⟩ | ⟨g, c, h1, h2, h3⟩
  · rw [List.map_eq_nil_iff] at h2
    subst h2
    exact absurd hi (Nat.not_lt_zero _)
  · have hl := h3.len.1
    rw [List.length_map] at h1 hl
    have hc := (h3.cell i 0 (by rw [List.length_map]; exact hi) (by decide)).1
    rw [Nat.mul_one, Nat.add_zero] at hc
    exact ⟨g, c, h1, hl, hc.trans (by rw [List.getElem_map]; rfl)⟩
set_option maxHeartbeats 4000000 in
set_option maxRecDepth 100000 in
theorem pop_calls (h : Th W base P b r s vF vR vS fs row st) (hm : st.length ≤ 1000000) (hbw : base ≤ W.heap.size) (hn : 0 < st.length) :
    Calls Try.prog 20 #[.pointer (some ⟨b, 0, none⟩)] W fun e W' => e = .returned (.tuple #[.int .u64 (st[st.length - 1]'(by omega)), .bool true]) ∧ ∃ vS', Th W' base (PN P W W') b r s vF vR vS' fs row (st.take (st.length - 1)) ∧ Mv W W' base (own b vF vS fs) := by
  have hu := Try.underlying57
  obtain ⟨g, c, rfl, hc, hg⟩ := h.atS (st.length - 1) (by omega)
  have c26 := h.cS
  have z1 : ((st.length : Int) == 0) = false := by rw [beq_eq_false_iff_ne]; omega
  have hg2 : W.cell? ⟨g, ((st.length : Int) - 1).toNat, none⟩ = some (.int .u64 (st[st.length - 1]'(by omega))) := by rw [show ((st.length : Int) - 1).toNat = st.length - 1 by omega]; exact hg
  have hi : ((st.length : Int) - 1) = ((st.length - 1 : Nat) : Int) := by omega
  have f26 := h.frz 26
  have hT := h.setS (w3 := W) (v' := .slice (some ⟨g, 0, none⟩) (st.length - 1) c) (st' := st.take (st.length - 1)) (fun k hk hn => rfl) (Nat.le_refl _) (by rw [List.map_take]; exact OV.cut h.so _ (by omega)) (fun k hk => .inl hk) hbw
  have HT := Aside0.mk hT
  have HM : Aside0 (Mv W (W.setCell ⟨b, 26, none⟩ (.slice (some ⟨g, 0, none⟩) (st.length - 1) c)) base (own b vF (.slice (some ⟨g, 0, none⟩) st.length c) fs)) :=
    ⟨⟨(Below.refl base W).setCell (p := ⟨b, 26, none⟩) (h.ge b (.inl rfl)).1 _, fun k hk hn => Below.heap_setCell W ⟨b, 26, none⟩ _ k (fun e => hn (.inl e))⟩⟩
  clear hT
  go_enter Try.func20, Try.ntmps20
  go_upto_region 3 with (fail)
  go_region
  go_upto_region 4 with (fail)
  go_region
  go_wp2
  go_ret2
  exact ⟨rfl, _, HT.out.drew.drew, HM.out.drew.drew⟩
end
end Go.Proofs.Ytocmdcjbjhpooaa.FrW
