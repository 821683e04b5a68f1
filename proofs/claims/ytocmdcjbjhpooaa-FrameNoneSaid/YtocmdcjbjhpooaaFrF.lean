/- A frame put upon the others; taken away. -/
import Derived.Test.YtocmdcjbjhpooaaFrE
set_option linter.unusedVariables false
set_option linter.unusedSimpArgs false
namespace Go.Proofs.Ytocmdcjbjhpooaa.FrW
open Go Go.RowKit Go.Proofs.YtocmdcjbjhpooaaW.PrintWords Go.Proofs.YtocmdcjbjhpooaaW.PrintLast Go.Proofs.YtocmdcjbjhpooaaW.PrintMore Go.Proofs.Ytocmdcjbjhpooaa.PFrameOrders Go.Proofs.Ytocmdcjbjhpooaa.GRow Go.Proofs.Ytocmdcjbjhpooaa.Num Go.Proofs.Ytocmdcjbjhpooaa.Bxs Go.Proofs.Ytocmdcjbjhpooaa.InsW
section
variable {W : World} {base : Nat} {P : Nat → Prop} {b : Nat} {r : Nat → Int} {s : Ses} {vF vR vS : Value} {fs : List Fr} {row : List S37} {st : List Int}
theorem Th.setF (h : Th W base P b r s vF vR vS fs row st) {w3 : World} {v' : Value} {fs' : List Fr} (hg : ∀ k, k < W.heap.size → some k ≠ vF.ownBlock → w3.heap[k]? = W.heap[k]?) (hs : W.heap.size ≤ w3.heap.size)
    (ho : OV 46 1 w3 base v' (fs'.map ptr)) (hfb : ∀ f ∈ fs', w3.heap[f.bk]? = some (.cells (frC f).toArray 50 (0, 0))) (hnd : (fs'.map Fr.bk).Nodup) (hbk : ∀ f ∈ fs', (∃ f0 ∈ fs, f0.bk = f.bk) ∨ W.heap.size ≤ f.bk)
    (hv : ∀ k, v'.ownBlock = some k → vF.ownBlock = some k ∨ W.heap.size ≤ k) (hbw : base ≤ W.heap.size) :
    Th (w3.setCell ⟨b, 24, none⟩ v') base (PN P W (w3.setCell ⟨b, 24, none⟩ v')) b r s v' vR vS fs' row st := by
  rw [PN_set]
  have n0 : ∀ {k : Nat} {a : Array Value} {T : Nat}, W.heap[k]? = some (.cells a T (0, 0)) → T ≠ 46 → some k ≠ vF.ownBlock := fun hk hT he => by
    obtain ⟨cur, hc⟩ := OV.typed h.fo he.symm
    exact typ_ne hk hc hT rfl
  have m0 : ∀ {k : Nat} {a : Array Value} {T : Nat}, W.heap[k]? = some (.cells a T (0, 0)) → T ≠ 46 → w3.heap[k]? = W.heap[k]? := fun hk hT => hg _ (Array.getElem?_eq_some_iff.1 hk).1 (n0 hk hT)
  have m1 : ∀ {k : Nat} {a : Array Value} {T : Nat}, W.heap[k]? = some (.cells a T (0, 0)) → T ≠ 46 → T ≠ 57 → (w3.setCell ⟨b, 24, none⟩ v').heap[k]? = W.heap[k]? := fun hk hT hT2 => (Below.heap_setCell w3 ⟨b, 24, none⟩ v' _ (typ_ne hk h.blk hT2)).trans (m0 hk hT)
  have hb3 := (m0 h.blk (by decide)).trans h.blk
  refine ⟨(blk_set hb3 24 v').trans rfl, ho.move (fun k _ hk hk2 => ?_), fun f hf => (Below.heap_setCell w3 ⟨b, 24, none⟩ v' _ (typ_ne (hfb f hf) hb3 (by decide))).trans (hfb f hf), hnd, h.so.move (fun k _ _ hk => ?_), ?_, ?_⟩
  · obtain ⟨cur, hc⟩ := OV.typed ho hk2
    exact Below.heap_setCell w3 ⟨b, 24, none⟩ v' k (typ_ne hc hb3 (by decide))
  · obtain ⟨cur, hc⟩ := OV.typed h.so hk
    exact m1 hc (by decide) (by decide)
  · refine Kd.V_mono (Kd.V_step (Kd.V_bound h.ro) (fun k hk hl => ?_)) (fun k hk => ⟨hk.1.1, fun hp => hp.elim hk.1.2 (fun q => by have := hk.2; omega)⟩)
    exact (Below.heap_setCell w3 ⟨b, 24, none⟩ v' k (fun e => hk.1.2 (e ▸ (h.ge b (.inl rfl)).2))).trans (hg k hl (fun e => hk.1.2 (h.ge k (.inr (.inr (.inl e.symm)))).2))
  · intro k hk
    rcases hk with rfl | ⟨f, hf, rfl⟩ | hk | hk
    · exact ⟨(h.ge _ (.inl rfl)).1, .inl (h.ge _ (.inl rfl)).2⟩
    · have hlt := (Array.getElem?_eq_some_iff.1 (hfb f hf)).1
      rcases hbk f hf with ⟨f0, h0, h1⟩ | h1
      · have := h.ge f.bk (.inr (.inl ⟨f0, h0, h1⟩))
        exact ⟨this.1, .inl this.2⟩
      · exact ⟨by omega, .inr ⟨h1, hlt⟩⟩
    · obtain ⟨cur, hc⟩ := OV.typed ho hk
      have hlt := (Array.getElem?_eq_some_iff.1 hc).1
      rcases hv k hk with h2 | h2
      · exact ⟨(h.ge k (.inr (.inr (.inl h2)))).1, .inl (h.ge k (.inr (.inr (.inl h2)))).2⟩
      · exact ⟨by omega, .inr ⟨h2, hlt⟩⟩
    · exact ⟨(h.ge k (.inr (.inr (.inr hk)))).1, .inl (h.ge k (.inr (.inr (.inr hk)))).2⟩
set_option maxHeartbeats 4000000 in
set_option maxRecDepth 100000 in
theorem call_nil (fn : Int) (v : Value) : Calls Try.prog 17 #[.pointer none, .int .i64 fn, v] W fun e W' => e = .returned (.tuple #[]) ∧ W' = W := by
  have hu := Try.underlying57
  go_enter Try.func17, Try.ntmps17
  go_wp2
  refine bodyPost_ret (results_none rfl _ _ _) rfl ?_
  exact ⟨rfl, rfl⟩
set_option maxHeartbeats 4000000 in
set_option maxRecDepth 100000 in
theorem call_calls (h : Th W base P b r s vF vR vS fs row st) (hm : fs.length ≤ 1000000) (hbw : base ≤ W.heap.size) (fn : Int) {A : Option Addr} {c : Nat} {l : List Int} (hC : Kd.C (Kd.int .u64) W A l.length l) :
    Calls Try.prog 17 #[.pointer (some ⟨b, 0, none⟩), .int .i64 fn, .slice A l.length c] W fun e W' => e = .returned (.tuple #[]) ∧ ∃ vF', Th W' base (PN P W W') b r s vF' vR vS (fs ++ [⟨W.heap.size, fn, 0, regs l⟩]) row st ∧ Mv W W' base (own b vF vS fs) := by
  have hu := Try.underlying57
  have huF := Try.underlying50
  have huA := Try.underlying48
  obtain ⟨AF, cF, rfl, hcF⟩ := h.sF
  have hg1 := heap_alloc_new W (.cells (frC ⟨W.heap.size, fn, 0, fun _ => 0⟩).toArray 50 (0, 0))
  obtain ⟨w2, e1, e2, e3, e4, e5⟩ := copy_words (dT := 31) (sT := 31) (ty := 3) (o := 2) (n := 24) (c := c) Try.underlying31 hg1 (Nat.le_refl 26) (Kd.C_below hC (below_alloc (Below.refl _ _) _))
  have X1 : (Builtin.copy_ #[31, 31] 3 #[.slice (some ⟨W.heap.size, 2, none⟩) 24 24, .slice A l.length c]).run Try.prog (W.alloc (.cells #[.int .i64 fn, .int .i64 0, .int .u64 0, .int .u64 0, .int .u64 0, .int .u64 0, .int .u64 0, .int .u64 0, .int .u64 0, .int .u64 0, .int .u64 0, .int .u64 0, .int .u64 0, .int .u64 0, .int .u64 0, .int .u64 0, .int .u64 0, .int .u64 0, .int .u64 0, .int .u64 0, .int .u64 0, .int .u64 0, .int .u64 0, .int .u64 0, .int .u64 0, .int .u64 0] 50 (0, 0))) = .ok (goInt (l.take 24).length) w2 := e1
  have B2 : Below W.heap.size W w2 := (below_alloc (Below.refl W.heap.size W) (.cells (frC ⟨W.heap.size, fn, 0, fun _ => 0⟩).toArray 50 (0, 0))).trans (e5 _ (Nat.le_refl _))
  have sz2 : w2.heap.size = W.heap.size + 1 := by rw [e3]; simp
  have T2 := h.below B2
  have c24 := T2.cF
  have hnew : w2.heap[W.heap.size]? = some (.cells (frC ⟨W.heap.size, fn, 0, regs l⟩).toArray 50 (0, 0)) := by
    rw [e2]
    congr 3
    show [Value.int .i64 fn, .int .i64 0] ++ ((l.take 24).map fun x => Value.int .u64 x) ++ (Value.int .i64 fn :: .int .i64 0 :: ws 24 fun _ => 0).drop (2 + (l.take 24).length) = .int .i64 fn :: .int .i64 0 :: ws 24 (regs l)
    rw [Nat.add_comm 2, List.drop_succ_cons, List.drop_succ_cons, List.append_assoc, ws_regs]
    rfl
  have HR : ∃ A' c' w', (Builtin.append_ #[55, 55] 55 #[.slice AF fs.length cF, .slice (some ⟨w2.heap.size, 0, none⟩) 1 1]).run Try.prog (w2.alloc (.cells #[.pointer (some ⟨W.heap.size, 0, none⟩)] 46 (0, 0))) = .ok (.slice A' (fs.length + 1) c') w' ∧ OV 46 1 w' base (.slice A' (fs.length + 1) c') (fs.map ptr ++ [[.pointer (some ⟨W.heap.size, 0, none⟩)]]) ∧ (w2.alloc (.cells #[.pointer (some ⟨W.heap.size, 0, none⟩)] 46 (0, 0))).grownBy w' (Value.slice AF fs.length cF).ownBlock ∧ ((Value.slice A' (fs.length + 1) c').ownBlock = (Value.slice AF fs.length cF).ownBlock ∨ (Value.slice A' (fs.length + 1) c').ownBlock = some (w2.alloc (.cells #[.pointer (some ⟨W.heap.size, 0, none⟩)] 46 (0, 0))).heap.size) := by
    have K := append_one (ty := 55) Try.underlying55 info_fp rfl (T2.fo.alloc (.cells #[.pointer (some ⟨W.heap.size, 0, none⟩)] 46 (0, 0))) (by rw [List.length_map]; exact hm) (by simp; omega) (x := .pointer (some ⟨W.heap.size, 0, none⟩)) (g := w2.heap.size) ((blk_cell (heap_alloc_new w2 (.cells #[.pointer (some ⟨W.heap.size, 0, none⟩)] 46 (0, 0))) 0).trans rfl) rfl
    rw [List.length_map] at K
    exact K
  obtain ⟨A', c', w4, r1, r2, r3, r4⟩ := HR
  have XA := Aside0.mk r1
  have sz4 : w2.heap.size + 1 ≤ w4.heap.size := by have := r3.size; simpa using this
  have ownlt : ∀ k, (Value.slice AF fs.length cF).ownBlock = some k → k < W.heap.size := fun k hk => by
    obtain ⟨cur, hc⟩ := OV.typed h.fo hk
    exact (Array.getElem?_eq_some_iff.1 hc).1
  have k2 : ∀ k, k < w2.heap.size → some k ≠ (Value.slice AF fs.length cF).ownBlock → w4.heap[k]? = w2.heap[k]? := fun k hk hn => (r3.block k (by simp; omega) hn).trans (Below.heap_alloc w2 _ k hk)
  have hg : ∀ k, k < W.heap.size → some k ≠ (Value.slice AF fs.length cF).ownBlock → w4.heap[k]? = W.heap[k]? := fun k hk hn => (k2 k (by omega) hn).trans (B2.block k hk)
  have frlt : ∀ f ∈ fs, f.bk < W.heap.size := fun f hf => (Array.getElem?_eq_some_iff.1 (h.fb f hf)).1
  have hT := h.setF (v' := .slice A' (fs.length + 1) c') (fs' := fs ++ [⟨W.heap.size, fn, 0, regs l⟩]) hg (by omega) (by rw [List.map_append]; exact r2) (fun f hf => by
    rcases List.mem_append.1 hf with hf | hf
    · exact (hg _ (frlt f hf) (fun he => by
        obtain ⟨cur, hc⟩ := OV.typed h.fo he.symm
        exact typ_ne (h.fb f hf) hc (by decide) rfl)).trans (h.fb f hf)
    · obtain rfl := List.mem_singleton.1 hf
      exact (k2 W.heap.size (by omega) (fun he => by have := ownlt W.heap.size he.symm; omega)).trans hnew) (by
    rw [List.map_append, List.nodup_append]
    refine ⟨h.nd, by simp, fun x hx y hy => ?_⟩
    obtain ⟨f, hf, rfl⟩ := List.mem_map.1 hx
    have := frlt f hf
    simp only [List.map_cons, List.map_nil, List.mem_singleton] at hy
    omega) (fun f hf => by
    rcases List.mem_append.1 hf with hf | hf
    · exact .inl ⟨f, hf, rfl⟩
    · obtain rfl := List.mem_singleton.1 hf
      exact .inr (Nat.le_refl _)) (fun k hk => by
    rcases r4 with r4 | r4
    · exact .inl (r4 ▸ hk)
    · rw [r4] at hk
      injection hk with hk
      exact .inr (by rw [← hk]; simp; omega)) hbw
  have HT := Aside0.mk hT
  have hb4 : w4.heap[b]? = some (.cells (thC r s (.slice AF fs.length cF) vR vS).toArray 57 (0, 0)) := (hg b h.lt (fun he => by
    obtain ⟨cur, hc⟩ := OV.typed h.fo he.symm
    exact typ_ne h.blk hc (by decide) rfl)).trans h.blk
  have f24 := blk_frozen hb4 24
  have c24b : w4.cell? ⟨b, 24, none⟩ = some (.slice AF fs.length cF) := (blk_cell hb4 24).trans rfl
  have hB : Below base W w4 := ((below_base hbw B2).alloc (by omega) (.cells #[.pointer (some ⟨W.heap.size, 0, none⟩)] 46 (0, 0))).grown r3 (by simp; omega) (fun k hk => (h.ge k (.inr (.inr (.inl hk)))).1)
  have HM : Aside0 (Mv W (w4.setCell ⟨b, 24, none⟩ (.slice A' (fs.length + 1) c')) base (own b (.slice AF fs.length cF) vS fs)) :=
    ⟨⟨hB.setCell (p := ⟨b, 24, none⟩) (h.ge b (.inl rfl)).1 _, fun k hk hn => (Below.heap_setCell w4 ⟨b, 24, none⟩ _ k (fun e => hn (.inl e))).trans (hg k hk (fun e => hn (.inr (.inr (.inl e.symm)))))⟩⟩
  clear e1 e2 e3 e4 e5 sz2 sz4 B2 hnew r1 r2 r3 r4 ownlt k2 hg frlt hT hb4 T2
  go_enter Try.func17, Try.ntmps17
  go_upto_region 3 with (fail)
  go_wp2_with (at_builtin; go_must (refine wpList_append_at _ rfl _ _ _ _ rfl _ _ rfl rfl XA.out ?_))
  go_end0
  exact ⟨rfl, _, HT.out, HM.out⟩
end
end Go.Proofs.Ytocmdcjbjhpooaa.FrW
