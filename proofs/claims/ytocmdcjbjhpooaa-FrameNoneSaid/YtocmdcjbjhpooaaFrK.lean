/- A thread's copy. -/
import Derived.Test.YtocmdcjbjhpooaaFrJ
import Derived.Deep.MidRow
set_option linter.unusedVariables false
set_option linter.unusedSimpArgs false
namespace Go.Proofs.Ytocmdcjbjhpooaa.FrW
open Go Go.RowKit Go.Proofs.YtocmdcjbjhpooaaW.PrintWords Go.Proofs.YtocmdcjbjhpooaaW.PrintLast Go.Proofs.YtocmdcjbjhpooaaW.PrintMore Go.Proofs.Ytocmdcjbjhpooaa.PFrameOrders Go.Proofs.Ytocmdcjbjhpooaa.GRow Go.Proofs.Ytocmdcjbjhpooaa.Num Go.Proofs.Ytocmdcjbjhpooaa.Bxs Go.Proofs.Ytocmdcjbjhpooaa.InsW
def cl_T : Bool × List (List Nat × List Nat) := (true, [([], []), ([0], [0]), ([1], [1]), ([2], [2]), ([], []), ([4], [4]), ([5], [5]), ([6], [6]), ([], []), ([8], [8]), ([9], [9]), ([10], [10]), ([11], [11]), ([], []), ([13], [13]), ([14], [14]), ([15], [15]), ([16, 12], [16]), ([3, 7, 12, 17], [3, 7, 12, 17]), ([18], [18]), ([19, 17, 0, 1, 2, 3, 4, 5, 6, 7, 8, 9, 10, 11, 12, 13, 14, 15, 16, 17, 18, 19], [19])])
def cl_B : List Nat := [0, 1, 3, 7, 0, 16, 48, 112, 0, 256, 768, 1792, 3840, 0, 8192, 24576, 57344, 130816, 262143, 524287, 1048575]
theorem cl_tab : rtab .any (opsOf Try.f26 3) = cl_T := by kernel_rfl
theorem cl_bits : waitsOk cl_T.2 cl_B = true := by kernel_rfl
theorem OV.base {T sz base : Nat} {w : World} {v : Value} {recs : List (List Value)} (h : OV T sz w base v recs) {k : Nat} (hk : v.ownBlock = some k) : base ≤ k ∧ k < w.heap.size := by
  rcases h with ⟨rfl, _⟩ | ⟨g, c, rfl, hb, hg⟩
  · cases hk
  · cases hk
    exact ⟨hb, hg.lt⟩
theorem OV.lower {T sz base base' : Nat} {w : World} {v : Value} {recs : List (List Value)} (h : OV T sz w base v recs) (hb : base' ≤ base) : OV T sz w base' v recs := by
  rcases h with h | ⟨g, c, h1, h2, h3⟩
  · exact .inl h
  · exact .inr ⟨g, c, h1, by omega, h3⟩
/-- What two rows, cloned in any order, have come to. -/
structure CF (base : Nat) (wd : World) (row : List S37) (st : List Int) (oR oS : Option Value) (w' : World) : Prop where
  b : Below wd.heap.size wd w'
  R : ∀ v, oR = some v → Kd.V k37 37 w' 0 (fun k => wd.heap.size ≤ k ∧ ∀ u, oS = some u → u.ownBlock ≠ some k) v row
  S : ∀ v, oS = some v → OV 27 1 w' wd.heap.size v (st.map fun x => [.int .u64 x])
theorem CF.start (base : Nat) (wd : World) (row : List S37) (st : List Int) : CF base wd row st none none wd := ⟨Below.refl _ _, (by intro _ h; cases h), (by intro _ h; cases h)⟩
section
variable {base : Nat} {wd w' w1 : World} {row : List S37} {st : List Int} {oR oS : Option Value} {v vR vS : Value}
theorem CF.callR (h : CF base wd row st none oS w') (hv : Kd.V k37 37 w1 0 (fun k => w'.heap.size ≤ k) v row) (hb : Below w'.heap.size w' w1) : CF base wd row st (some v) oS w1 := by
  have hs := h.b.size
  refine ⟨below_then h.b hs hb, fun u hu => ?_, fun u hu => (h.S u hu).below hb⟩
  injection hu with hu
  subst hu
  refine Kd.V_mono hv (fun k hk => ⟨by omega, fun u hu e => ?_⟩)
  have := (OV.base (h.S u hu) e).2
  omega
theorem CF.callS (h : CF base wd row st oR none w') (hv : OV 27 1 w1 w'.heap.size v (st.map fun x => [.int .u64 x])) (hb : Below w'.heap.size w' w1) : CF base wd row st oR (some v) w1 := by
  have hs := h.b.size
  refine ⟨below_then h.b hs hb, fun u hu => ?_, fun u hu => ?_⟩
  · refine Kd.V_mono (Kd.V_below (Kd.V_bound (h.R u hu)) hb) (fun k hk => ⟨hk.1.1, fun x hx e => ?_⟩)
    injection hx with hx
    subst hx
    have := (OV.base hv e).1
    have := hk.2
    omega
  · injection hu with hu
    subst hu
    exact OV.lower hv hs
theorem CF.th (h : CF base wd row st (some vR) (some vS) w') {g : Nat} {r : Nat → Int} {s : Ses} (hg : g = w'.heap.size) (hbox : w1.heap[g]? = some (.cells (thC r s (.slice none 0 0) vR vS).toArray 57 (0, 0))) (hb : Below w'.heap.size w' w1) :
    Th w1 wd.heap.size (own g (.slice none 0 0) vS []) g r s (.slice none 0 0) vR vS [] row st ∧ Below wd.heap.size wd w1 := by
  have hs := h.b.size
  subst hg
  refine ⟨⟨hbox, OV.nil _ _ _ _, (fun f hf => nomatch hf), List.nodup_nil, (h.S vS rfl).below hb, Kd.V_mono (Kd.V_below (Kd.V_bound (h.R vR rfl)) hb) (fun k hk => ⟨hk.1.1, fun ho => ?_⟩), fun k hk => ⟨?_, hk⟩⟩, below_then h.b hs hb⟩
  · have h2 := hk.1.2 vS rfl
    have h3 := hk.2
    rcases ho with ho | ⟨f, hf, _⟩ | ho | ho
    · omega
    · exact (nomatch hf)
    · cases ho
    · exact h2 ho
  · rcases hk with rfl | ⟨f, hf, _⟩ | ho | ho
    · exact hs
    · exact (nomatch hf)
    · cases ho
    · exact (OV.base (h.S vS rfl) ho).1
end
theorem words_C {W : World} {base : Nat} {A : Option Addr} {n c : Nat} {l : List Int} (h : OV 27 1 W base (.slice A n c) (l.map fun x => [.int .u64 x])) : Kd.C (Kd.int .u64) W A l.length l := by
  obtain ⟨A', c', e, _, hC⟩ := OV.reads (d := Kd.int .u64) (xs := l) h rfl (by simp) (fun j h1 h2 => by rw [List.getElem_map]; rfl)
  injection e with e1 e2 e3
  subst e1
  exact hC
theorem below_drewl {W X : World} (h : Below W.drew.heap.size W.drew X) : Below W.heap.size W X := (below_drew1 (Below.refl W.heap.size W)).trans h
def Fr.core (f : Fr) : Int × Int × (Nat → Int) := (f.fn, f.pc, f.R)
section
variable {W : World} {base : Nat} {P : Nat → Prop} {b : Nat} {r : Nat → Int} {s : Ses} {vF vR vS : Value} {fs : List Fr} {row : List S37} {st : List Int}
theorem size_alloc (W : World) (o : Obj) : (W.alloc o).heap.size = W.heap.size + 1 := by simp
theorem Th.own_lt (h : Th W base P b r s vF vR vS fs row st) {k : Nat} (hk : own b vF vS fs k) : k < W.heap.size := by
  rcases hk with rfl | ⟨f, hf, rfl⟩ | hk | hk
  · exact h.lt
  · exact (Array.getElem?_eq_some_iff.1 (h.fb f hf)).1
  · exact (OV.base h.fo hk).2
  · exact (OV.base h.so hk).2
/-- One more frame: where it lies, and what has moved. -/
theorem Th.pushF (h : Th W base P b r s vF vR vS fs row st) (hm : fs.length ≤ 1000000) (hbw : base ≤ W.heap.size) {W1 : World} {f : Fr} (hB : Below W.heap.size W W1) (hf : W.heap.size ≤ f.bk) (hnew : W1.heap[f.bk]? = some (.cells (frC f).toArray 50 (0, 0))) :
    ∃ A' c' w4, (Builtin.append_ #[55, 55] 55 #[vF, .slice (some ⟨W1.heap.size, 0, none⟩) 1 1]).run Try.prog (W1.alloc (.cells #[.pointer (some ⟨f.bk, 0, none⟩)] 46 (0, 0))) = .ok (.slice A' (fs.length + 1) c') w4 ∧ Th (w4.setCell ⟨b, 24, none⟩ (.slice A' (fs.length + 1) c')) base (PN P W (w4.setCell ⟨b, 24, none⟩ (.slice A' (fs.length + 1) c'))) b r s (.slice A' (fs.length + 1) c') vR vS (fs ++ [f]) row st ∧
      Mv W (w4.setCell ⟨b, 24, none⟩ (.slice A' (fs.length + 1) c')) base (own b vF vS fs) ∧ w4.cell? ⟨b, 24, none⟩ = some vF ∧ w4.frozen? ⟨b, 24, none⟩ = false := by
  have T2 := h.below hB
  have hsz := hB.size
  have HR : ∃ A' c' w', (Builtin.append_ #[55, 55] 55 #[vF, .slice (some ⟨W1.heap.size, 0, none⟩) 1 1]).run Try.prog (W1.alloc (.cells #[.pointer (some ⟨f.bk, 0, none⟩)] 46 (0, 0))) = .ok (.slice A' (fs.length + 1) c') w' ∧ OV 46 1 w' base (.slice A' (fs.length + 1) c') (fs.map ptr ++ [[.pointer (some ⟨f.bk, 0, none⟩)]]) ∧ (W1.alloc (.cells #[.pointer (some ⟨f.bk, 0, none⟩)] 46 (0, 0))).grownBy w' vF.ownBlock ∧ ((Value.slice A' (fs.length + 1) c').ownBlock = vF.ownBlock ∨ (Value.slice A' (fs.length + 1) c').ownBlock = some (W1.alloc (.cells #[.pointer (some ⟨f.bk, 0, none⟩)] 46 (0, 0))).heap.size) := by
    have K := append_one (ty := 55) Try.underlying55 info_fp rfl (T2.fo.alloc (.cells #[.pointer (some ⟨f.bk, 0, none⟩)] 46 (0, 0))) (by rw [List.length_map]; exact hm) (by simp; omega) (x := .pointer (some ⟨f.bk, 0, none⟩)) (g := W1.heap.size) ((blk_cell (heap_alloc_new W1 (.cells #[.pointer (some ⟨f.bk, 0, none⟩)] 46 (0, 0))) 0).trans rfl) rfl
    rw [List.length_map] at K
    exact K
  obtain ⟨A', c', w4, r1, r2, r3, r4⟩ := HR
  have sz4 : W1.heap.size + 1 ≤ w4.heap.size := by have := r3.size; simpa using this
  have ownlt : ∀ k, vF.ownBlock = some k → k < W.heap.size := fun k hk => (OV.base h.fo hk).2
  have k2 : ∀ k, k < W1.heap.size → some k ≠ vF.ownBlock → w4.heap[k]? = W1.heap[k]? := fun k hk hn => (r3.block k (by simp; omega) hn).trans (Below.heap_alloc W1 _ k hk)
  have hg : ∀ k, k < W.heap.size → some k ≠ vF.ownBlock → w4.heap[k]? = W.heap[k]? := fun k hk hn => (k2 k (by omega) hn).trans (hB.block k hk)
  have frlt : ∀ f ∈ fs, f.bk < W.heap.size := fun f hf => (Array.getElem?_eq_some_iff.1 (h.fb f hf)).1
  have flt : f.bk < W1.heap.size := (Array.getElem?_eq_some_iff.1 hnew).1
  have hT := h.setF (v' := .slice A' (fs.length + 1) c') (fs' := fs ++ [f]) hg (by omega) (by rw [List.map_append]; exact r2) (fun g hg2 => by
    rcases List.mem_append.1 hg2 with hg2 | hg2
    · exact (hg _ (frlt g hg2) (fun he => by
        obtain ⟨cur, hc⟩ := OV.typed h.fo he.symm
        exact typ_ne (h.fb g hg2) hc (by decide) rfl)).trans (h.fb g hg2)
    · obtain rfl := List.mem_singleton.1 hg2
      exact (k2 g.bk flt (fun he => by have := ownlt g.bk he.symm; omega)).trans hnew) (by
    rw [List.map_append, List.nodup_append]
    refine ⟨h.nd, by simp, fun x hx y hy => ?_⟩
    obtain ⟨g, hg2, rfl⟩ := List.mem_map.1 hx
    have := frlt g hg2
    simp only [List.map_cons, List.map_nil, List.mem_singleton] at hy
    omega) (fun g hg2 => by
    rcases List.mem_append.1 hg2 with hg2 | hg2
    · exact .inl ⟨g, hg2, rfl⟩
    · obtain rfl := List.mem_singleton.1 hg2
      exact .inr hf) (fun k hk => by
    rcases r4 with r4 | r4
    · exact .inl (r4 ▸ hk)
    · rw [r4] at hk
      injection hk with hk
      exact .inr (by rw [← hk]; simp; omega)) hbw
  have hb4 : w4.heap[b]? = some (.cells (thC r s vF vR vS).toArray 57 (0, 0)) := (hg b h.lt (fun he => by
    obtain ⟨cur, hc⟩ := OV.typed h.fo he.symm
    exact typ_ne h.blk hc (by decide) rfl)).trans h.blk
  have hB4 : Below base W w4 := ((below_base hbw hB).alloc (by omega) (.cells #[.pointer (some ⟨f.bk, 0, none⟩)] 46 (0, 0))).grown r3 (by simp; omega) (fun k hk => (h.ge k (.inr (.inr (.inl hk)))).1)
  exact ⟨A', c', w4, r1, hT, ⟨hB4.setCell (p := ⟨b, 24, none⟩) (h.ge b (.inl rfl)).1 _, fun k hk hn => (Below.heap_setCell w4 ⟨b, 24, none⟩ _ k (fun e => hn (.inl e))).trans (hg k hk (fun e => hn (.inr (.inr (.inl e.symm)))))⟩, (blk_cell hb4 24).trans rfl, blk_frozen hb4 24⟩
set_option maxHeartbeats 4000000 in
set_option maxRecDepth 100000 in
theorem clone_nil : Calls Try.prog 26 #[.pointer none] W fun e W' => e = .returned (.pointer none) ∧ W' = W := by
  have hu := Try.underlying57
  go_enter Try.func26, Try.ntmps26
  go_wp2
  go_ret
  exact ⟨rfl, rfl⟩
theorem rng_frame {w : World} {o : Fr} (h : w.heap[o.bk]? = some (.cells (frC o).toArray 50 (0, 0))) : w.rangeAt o.bk 0 (frC o) := fun j v hv => by
  rw [Nat.zero_add, blk_cell h j, List.getElem?_toArray]
  exact hv
theorem thr_frame (w : World) (o : Fr) : (w.alloc (.cells (frC ⟨0, 0, 0, fun _ => 0⟩).toArray 50 (0, 0))).there w.heap.size 0 (frC o).toArray.size := fun j hj => by
  have hn := heap_alloc_new w (.cells (frC ⟨0, 0, 0, fun _ => 0⟩).toArray 50 (0, 0))
  rw [Nat.zero_add]
  refine ⟨?_, blk_frozen hn j⟩
  rw [blk_cell hn j, List.getElem?_toArray]
  have : j < (frC ⟨0, 0, 0, fun _ => 0⟩).length := hj
  rw [List.getElem?_eq_getElem this]
  rfl
theorem one_frame (o : Fr) : (frC o).toArray.all (·.oneCell') = true := all_oneCell_toArray (fun v hv => by
  unfold frC ws at hv
  rcases List.mem_cons.1 hv with rfl | hv
  · rfl
  · rcases List.mem_cons.1 hv with rfl | hv
    · rfl
    · obtain ⟨i, _, rfl⟩ := List.mem_map.1 hv
      rfl)
theorem new_frame (w : World) (o : Fr) : Below w.heap.size w ((w.alloc (.cells (frC ⟨0, 0, 0, fun _ => 0⟩).toArray 50 (0, 0))).setCells w.heap.size 0 (frC o)) ∧ ((w.alloc (.cells (frC ⟨0, 0, 0, fun _ => 0⟩).toArray 50 (0, 0))).setCells w.heap.size 0 (frC o)).heap[w.heap.size]? = some (.cells (frC ⟨w.heap.size, o.fn, o.pc, o.R⟩).toArray 50 (0, 0)) ∧ ((w.alloc (.cells (frC ⟨0, 0, 0, fun _ => 0⟩).toArray 50 (0, 0))).setCells w.heap.size 0 (frC o)).heap.size = w.heap.size + 1 := by
  refine ⟨below_setCells (below_alloc (Below.refl _ _) _) (Nat.le_refl _) _ 0, ?_, by rw [size_setCells, size_alloc]⟩
  have K := blk_setCells (frC o) (w.alloc (.cells (frC ⟨0, 0, 0, fun _ => 0⟩).toArray 50 (0, 0))) [] (frC ⟨0, 0, 0, fun _ => 0⟩) [] (by simp [frC, ws]) (b := w.heap.size) (T := 50) ((heap_alloc_new w _).trans (by rw [List.append_nil]; rfl))
  rw [List.append_nil] at K
  exact K
def tl : Nat → Code → Code
  | 0, c => c
  | n + 1, .seq _ b => tl n b
  | _ + 1, c => c
def bodyC (f : Func) : Code := f.body.getD .skip
set_option maxHeartbeats 4000000 in
set_option maxRecDepth 100000 in
theorem clone_tail {AF : Option Addr} {cF : Nat} (HTh : Aside0 (Th W base P b r s (.slice AF fs.length cF) vR vS fs row st)) (hfs : fs.length ≤ 1000000) {X : World} {g : Nat} {P' : Nat → Prop} {AR2 AS2 : Option Addr} {cR2 cS2 : Nat} {m1 m2 m4 m5 m6 m7 m8 m9 m10 m11 m12 m13 m14 m15 m16 m17 m18 m19 m20 m21 m22 m23 m24 m25 m26 m27 m28 m29 m30 m31 m32 m33 m34 m35 m36 m37 m38 m39 m40 m41 m42 m43 m44 m45 m46 m47 m48 m49 m50 m51 : Value} (TG : Aside0 (Th X W.heap.size P' g r s (.slice none 0 0) (.slice AR2 row.length cR2) (.slice AS2 st.length cS2) [] row st)) (LT : Aside0 (∀ k, P' k → k < X.heap.size)) (BG : Aside0 (Below W.heap.size W X)) :
    Code.wp Try.prog (tl 3 (bodyC Try.f26)) (bodyPost Try.prog Try.f26 (fun e W' => ∃ (g : Nat) (P' : Nat → Prop) (vF' vR' vS' : Value) (fs' : List Fr), e = .returned (.pointer (some ⟨g, 0, none⟩)) ∧ Th W' W.heap.size P' g r s vF' vR' vS' fs' row st ∧ (∀ k, P' k → k < W'.heap.size) ∧ fs'.map Fr.core = fs.map Fr.core ∧ Below W.heap.size W W')) { tmps := List.toArray (.pointer (some ⟨b, 0, none⟩) :: m1 :: m2 :: .pointer (some ⟨g, 0, none⟩) :: m4 :: m5 :: m6 :: m7 :: m8 :: m9 :: m10 :: m11 :: m12 :: m13 :: m14 :: m15 :: m16 :: m17 :: m18 :: m19 :: m20 :: m21 :: m22 :: m23 :: m24 :: m25 :: m26 :: m27 :: m28 :: m29 :: m30 :: m31 :: m32 :: m33 :: m34 :: m35 :: m36 :: m37 :: m38 :: m39 :: m40 :: m41 :: m42 :: m43 :: m44 :: m45 :: m46 :: m47 :: m48 :: m49 :: m50 :: m51 :: []), defers := [] } X := by
  have hu := Try.underlying57
  have c24 := (HTh.out.below BG.out).cF
  conv => arg 2; whnf
  go_wp2
  go_loopg [34] fs.length (fun kx s34 wr => ∃ (j : Nat) (P' : Nat → Prop) (vF' : Value) (fs' : List Fr), s34 = .int .i64 j ∧ j + kx = fs.length ∧ Aside0 (Th wr W.heap.size P' g r s vF' (.slice AR2 row.length cR2) (.slice AS2 st.length cS2) fs' row st) ∧ Aside0 (∀ k, P' k → k < wr.heap.size) ∧ Aside0 (fs'.map Fr.core = (fs.take j).map Fr.core) ∧ Aside0 (Below W.heap.size W wr))
  case atStart => exact ⟨0, _, _, [], rfl, by omega, TG, LT, ⟨rfl⟩, BG⟩
  case round =>
    clear TG BG LT c24
    obtain ⟨j, P', vF', fs', rfl, hj, TG, LT, CO, BG⟩ := hrel
    by_cases hlt : j < fs.length
    · obtain ⟨g0, c0, e0, hc0, y⟩ := (HTh.out.below BG.out).at_ j hlt
      injection e0 with e1 e2 e3
      subst e1 e3
      have q1 : (j : Int) < (fs.length : Int) := by omega
      have OB := Aside0.mk ((HTh.out.below BG.out).fb fs[j] (List.getElem_mem hlt))
      have HJ := Aside0.mk (show (fs.take (j + 1)).map Fr.core = (fs.take j).map Fr.core ++ [fs[j].core] by rw [List.take_succ_eq_append_getElem hlt, List.map_append]; rfl)
      generalize fs[j] = o at y OB HJ
      have RNG := Aside0.mk (rng_frame OB.out)
      have THR := Aside0.mk (thr_frame wr o)
      have ONE := Aside0.mk (one_frame o)
      have HL := Aside0.mk (show fs'.length = j by have := congrArg List.length CO.out; simpa [Nat.min_eq_left (Nat.le_of_lt hlt)] using this)
      have BW := BG.out.size
      obtain ⟨AX, cX, eX, hcX⟩ := TG.out.sF
      rw [HL.out] at eX
      subst eX
      go_upto_region 8 with (first | ((with_reducible refine gate_dst (N := 40) rfl ?_); refine wpList_load_mid rfl 50 _ rfl o.bk 0 rfl (frC o) _ RNG.out Try.underlying50 rfl (by kernel_rfl) ?_) | ((with_reducible refine gate_store (t := 50) (p := 6) rfl ?_); refine wpList_store_mid rfl 50 _ _ rfl wr.heap.size 0 (frC o).toArray rfl rfl THR.out (by kernel_rfl) ONE.out ?_))
      refine gen2 (Φ := fun Y => Below wr.heap.size wr Y ∧ Y.heap[wr.heap.size]? = some (.cells (frC ⟨wr.heap.size, o.fn, o.pc, o.R⟩).toArray 50 (0, 0)) ∧ Y.heap.size = wr.heap.size + 1) (new_frame wr o) ?_
      intro Y HY
      obtain ⟨YB, YN, YS⟩ := HY
      have c24 := (TG.out.below YB).cF
      obtain ⟨A4, c4, w4, r4, T4, M4, k4, z4⟩ := TG.out.pushF (by rw [HL.out]; omega) BW (W1 := Y) (f := ⟨wr.heap.size, o.fn, o.pc, o.R⟩) YB (Nat.le_refl _) YN
      rw [HL.out] at r4 T4 M4
      have X4 := Aside0.mk r4
      have T4 := Aside0.mk T4
      have M4 := Aside0.mk M4
      clear YB YN YS r4 HTh OB
      go_wp2_with (at_builtin; go_must (refine wpList_append_at _ rfl _ _ _ _ rfl _ _ rfl rfl X4.out ?_))
      go_roundg (fs.length - (j + 1))
      rotate_left
      · exact (show fs.length - (j + 1) < _ by omega)
      · refine ⟨j + 1, _, _, fs' ++ [⟨wr.heap.size, o.fn, o.pc, o.R⟩], by go_num, by omega, T4, ⟨fun k hk => ?_⟩, ⟨by rw [List.map_append, CO.out, HJ.out]; rfl⟩, ⟨BG.out.trans M4.out.b⟩⟩
        rcases hk with hk | hk
        · exact Nat.lt_of_lt_of_le (LT.out k hk) M4.out.b.size
        · exact hk.2
    · have q1 : ¬ (j : Int) < (fs.length : Int) := by omega
      go_wp2
      go_ret
      exact ⟨_, rfl, _, _, _, _, _, TG.out, LT.out, by rw [CO.out, List.take_of_length_le (by omega)], BG.out⟩
set_option maxHeartbeats 4000000 in
set_option maxRecDepth 100000 in
theorem clone_calls (h : Th W base P b r s vF vR vS fs row st) (hfs : fs.length ≤ 1000000) (hrow : row.length ≤ 1000000) (hst : st.length ≤ 1000000) :
    Calls Try.prog 26 #[.pointer (some ⟨b, 0, none⟩)] W fun e W' => ∃ (g : Nat) (P' : Nat → Prop) (vF' vR' vS' : Value) (fs' : List Fr), e = .returned (.pointer (some ⟨g, 0, none⟩)) ∧ Th W' W.heap.size P' g r s vF' vR' vS' fs' row st ∧ (∀ k, P' k → k < W'.heap.size) ∧ fs'.map Fr.core = fs.map Fr.core ∧ Below W.heap.size W W' := by
  have hu := Try.underlying57
  have huF := Try.underlying50
  have hu1 := Try.underlying28
  have hu2 := Try.underlying54
  obtain ⟨AF, cF, rfl, hcF⟩ := h.sF
  obtain ⟨AS, cS, rfl, hcS⟩ := h.sS
  obtain ⟨AR, cR, rfl⟩ := Kd.V_slice h.ro
  have a0 : W.drew.cell? ⟨b, 0, none⟩ = some (.int .u64 (r 0)) := (h.cell 0).trans rfl
  have a1 : W.drew.cell? ⟨b, 1, none⟩ = some (.int .u64 (r 1)) := (h.cell 1).trans rfl
  have a2 : W.drew.cell? ⟨b, 2, none⟩ = some (.int .u64 (r 2)) := (h.cell 2).trans rfl
  have a3 : W.drew.cell? ⟨b, 3, none⟩ = some (.int .u64 (r 3)) := (h.cell 3).trans rfl
  have a4 : W.drew.cell? ⟨b, 4, none⟩ = some (.int .u64 (r 4)) := (h.cell 4).trans rfl
  have a5 : W.drew.cell? ⟨b, 5, none⟩ = some (.int .u64 (r 5)) := (h.cell 5).trans rfl
  have a6 : W.drew.cell? ⟨b, 6, none⟩ = some (.int .u64 (r 6)) := (h.cell 6).trans rfl
  have a7 : W.drew.cell? ⟨b, 7, none⟩ = some (.int .u64 (r 7)) := (h.cell 7).trans rfl
  have a8 : W.drew.cell? ⟨b, 8, none⟩ = some (.int .u64 (r 8)) := (h.cell 8).trans rfl
  have a9 : W.drew.cell? ⟨b, 9, none⟩ = some (.int .u64 (r 9)) := (h.cell 9).trans rfl
  have a10 : W.drew.cell? ⟨b, 10, none⟩ = some (.int .u64 (r 10)) := (h.cell 10).trans rfl
  have a11 : W.drew.cell? ⟨b, 11, none⟩ = some (.int .u64 (r 11)) := (h.cell 11).trans rfl
  have a12 : W.drew.cell? ⟨b, 12, none⟩ = some (.bool s.jo) := (h.cell 12).trans rfl
  have a13 : W.drew.cell? ⟨b, 13, none⟩ = some (.bool s.pi) := (h.cell 13).trans rfl
  have a14 : W.drew.cell? ⟨b, 14, none⟩ = some (.bool s.en) := (h.cell 14).trans rfl
  have a15 : W.drew.cell? ⟨b, 15, none⟩ = some (.int .u64 s.pa) := (h.cell 15).trans rfl
  have a16 : W.drew.cell? ⟨b, 16, none⟩ = some (.int .u64 s.vv) := (h.cell 16).trans rfl
  have a17 : W.drew.cell? ⟨b, 17, none⟩ = some (.int .u64 s.ti) := (h.cell 17).trans rfl
  have a18 : W.drew.cell? ⟨b, 18, none⟩ = some (.int .i64 s.lo) := (h.cell 18).trans rfl
  have a19 : W.drew.cell? ⟨b, 19, none⟩ = some (.int .i64 s.hi) := (h.cell 19).trans rfl
  have a20 : W.drew.cell? ⟨b, 20, none⟩ = some (.int .i64 s.ba) := (h.cell 20).trans rfl
  have a21 : W.drew.cell? ⟨b, 21, none⟩ = some (.int .i64 s.tp) := (h.cell 21).trans rfl
  have a22 : W.drew.cell? ⟨b, 22, none⟩ = some (.int .i64 s.pt) := (h.cell 22).trans rfl
  have a23 : W.drew.cell? ⟨b, 23, none⟩ = some (.int .i64 s.li) := (h.cell 23).trans rfl
  have a24 : W.drew.cell? ⟨b, 25, none⟩ = some (.slice AR row.length cR) := (h.cell 25).trans rfl
  have a25 : W.drew.cell? ⟨b, 26, none⟩ = some (.slice AS st.length cS) := (h.cell 26).trans rfl
  have HTh := Aside0.mk h
  have HB : Aside0 (Below W.heap.size W W.drew ∧ W.drew.heap.size = W.heap.size) := ⟨below_drew1 (Below.refl W.heap.size W), rfl⟩
  have CR := Aside0.mk (fun (X : World) (hb : Below W.drew.heap.size W.drew X) => Kd.C_below (Kd.V_reads' h.ro).2.2 (below_drewl hb))
  have CS := Aside0.mk (fun (X : World) (hb : Below W.drew.heap.size W.drew X) => Kd.C_below (words_C h.so) (below_drewl hb))
  clear h
  go_enter Try.func26, Try.ntmps26
  go_upto_region 3 with (fail)
  rename_i KK hKK
  have HKK := Aside0.mk hKK
  clear hKK
  refine start_ (n := 21) (S := fun W' => W'.cell? ⟨b, 0, none⟩ = some (.int .u64 (r 0)) ∧ W'.cell? ⟨b, 1, none⟩ = some (.int .u64 (r 1)) ∧ W'.cell? ⟨b, 2, none⟩ = some (.int .u64 (r 2)) ∧ W'.cell? ⟨b, 3, none⟩ = some (.int .u64 (r 3)) ∧ W'.cell? ⟨b, 4, none⟩ = some (.int .u64 (r 4)) ∧ W'.cell? ⟨b, 5, none⟩ = some (.int .u64 (r 5)) ∧ W'.cell? ⟨b, 6, none⟩ = some (.int .u64 (r 6)) ∧ W'.cell? ⟨b, 7, none⟩ = some (.int .u64 (r 7)) ∧ W'.cell? ⟨b, 8, none⟩ = some (.int .u64 (r 8)) ∧ W'.cell? ⟨b, 9, none⟩ = some (.int .u64 (r 9)) ∧ W'.cell? ⟨b, 10, none⟩ = some (.int .u64 (r 10)) ∧ W'.cell? ⟨b, 11, none⟩ = some (.int .u64 (r 11)) ∧ W'.cell? ⟨b, 12, none⟩ = some (.bool s.jo) ∧ W'.cell? ⟨b, 13, none⟩ = some (.bool s.pi) ∧ W'.cell? ⟨b, 14, none⟩ = some (.bool s.en) ∧ W'.cell? ⟨b, 15, none⟩ = some (.int .u64 s.pa) ∧ W'.cell? ⟨b, 16, none⟩ = some (.int .u64 s.vv) ∧ W'.cell? ⟨b, 17, none⟩ = some (.int .u64 s.ti) ∧ W'.cell? ⟨b, 18, none⟩ = some (.int .i64 s.lo) ∧ W'.cell? ⟨b, 19, none⟩ = some (.int .i64 s.hi) ∧ W'.cell? ⟨b, 20, none⟩ = some (.int .i64 s.ba) ∧ W'.cell? ⟨b, 21, none⟩ = some (.int .i64 s.tp) ∧ W'.cell? ⟨b, 22, none⟩ = some (.int .i64 s.pt) ∧ W'.cell? ⟨b, 23, none⟩ = some (.int .i64 s.li) ∧ W'.cell? ⟨b, 25, none⟩ = some (.slice AR row.length cR) ∧ W'.cell? ⟨b, 26, none⟩ = some (.slice AS st.length cS)) (ds := [19]) #[false, false, false, false, false, false, false, false, false, false, false, false, false, false, false, false, false, false, false, false, false] (by kernel_rfl) rfl rfl ⟨a0, a1, a2, a3, a4, a5, a6, a7, a8, a9, a10, a11, a12, a13, a14, a15, a16, a17, a18, a19, a20, a21, a22, a23, a24, a25⟩ (fun hHeld => ?_); refine with_tabW cl_tab cl_bits (fun HT_ HW_ => ?_)
  generalize W.drew = wd_ at a0 a1 a2 a3 a4 a5 a6 a7 a8 a9 a10 a11 a12 a13 a14 a15 a16 a17 a18 a19 a20 a21 a22 a23 a24 a25 CR CS HB hHeld ⊢
  refine pure_ (i := 0) (N := some 9) (v := ?_) (a' := ?_) #[true, false, false, false, false, false, false, false, false, false, false, false, false, false, false, false, false, false, false, false, false] rfl rfl (any_of HT_.out (by kernel_rfl)) (fun _ _ _ h => h) (Or.inl ⟨by rfl, ?_⟩) ?_ ?_
  rotate_left
  · intro w'
    go_simp
    with_reducible rfl
  rotate_left
  · simp only [Act.put, List.setIfInBounds_toArray, List.set_cons_zero, List.set_cons_succ, i64_w, i32_w]
    rfl
  refine pure_ (i := 1) (N := some 10) (v := ?_) (a' := ?_) #[true, true, false, false, false, false, false, false, false, false, false, false, false, false, false, false, false, false, false, false, false] rfl rfl (any_of HT_.out (by kernel_rfl)) (fun _ _ _ h => h) (Or.inl ⟨by rfl, ?_⟩) ?_ ?_
  rotate_left
  · intro w'
    go_simp
    with_reducible rfl
  rotate_left
  · simp only [Act.put, List.setIfInBounds_toArray, List.set_cons_zero, List.set_cons_succ, i64_w, i32_w]
    rfl
  refine pure_ (i := 2) (N := some 11) (v := ?_) (a' := ?_) #[true, true, true, false, false, false, false, false, false, false, false, false, false, false, false, false, false, false, false, false, false] rfl rfl (any_of HT_.out (by kernel_rfl)) (fun _ _ _ h => h) (Or.inl ⟨by rfl, ?_⟩) ?_ ?_
  rotate_left
  · intro w'
    go_simp
    with_reducible rfl
  rotate_left
  · simp only [Act.put, List.setIfInBounds_toArray, List.set_cons_zero, List.set_cons_succ, i64_w, i32_w]
    rfl
  refine pure_ (i := 4) (N := some 13) (v := ?_) (a' := ?_) #[true, true, true, false, true, false, false, false, false, false, false, false, false, false, false, false, false, false, false, false, false] rfl rfl (any_of HT_.out (by kernel_rfl)) (fun _ _ _ h => h) (Or.inl ⟨by rfl, ?_⟩) ?_ ?_
  rotate_left
  · intro w'
    go_simp
    with_reducible rfl
  rotate_left
  · simp only [Act.put, List.setIfInBounds_toArray, List.set_cons_zero, List.set_cons_succ, i64_w, i32_w]
    rfl
  refine pure_ (i := 5) (N := some 14) (v := ?_) (a' := ?_) #[true, true, true, false, true, true, false, false, false, false, false, false, false, false, false, false, false, false, false, false, false] rfl rfl (any_of HT_.out (by kernel_rfl)) (fun _ _ _ h => h) (Or.inl ⟨by rfl, ?_⟩) ?_ ?_
  rotate_left
  · intro w'
    go_simp
    with_reducible rfl
  rotate_left
  · simp only [Act.put, List.setIfInBounds_toArray, List.set_cons_zero, List.set_cons_succ, i64_w, i32_w]
    rfl
  refine pure_ (i := 6) (N := some 15) (v := ?_) (a' := ?_) #[true, true, true, false, true, true, true, false, false, false, false, false, false, false, false, false, false, false, false, false, false] rfl rfl (any_of HT_.out (by kernel_rfl)) (fun _ _ _ h => h) (Or.inl ⟨by rfl, ?_⟩) ?_ ?_
  rotate_left
  · intro w'
    go_simp
    with_reducible rfl
  rotate_left
  · simp only [Act.put, List.setIfInBounds_toArray, List.set_cons_zero, List.set_cons_succ, i64_w, i32_w]
    rfl
  refine pure_ (i := 8) (N := some 17) (v := ?_) (a' := ?_) #[true, true, true, false, true, true, true, false, true, false, false, false, false, false, false, false, false, false, false, false, false] rfl rfl (any_of HT_.out (by kernel_rfl)) (fun _ _ _ h => h) (Or.inl ⟨by rfl, ?_⟩) ?_ ?_
  rotate_left
  · intro w'
    go_simp
    with_reducible rfl
  rotate_left
  · simp only [Act.put, List.setIfInBounds_toArray, List.set_cons_zero, List.set_cons_succ, i64_w, i32_w]
    rfl
  refine pure_ (i := 9) (N := some 18) (v := ?_) (a' := ?_) #[true, true, true, false, true, true, true, false, true, true, false, false, false, false, false, false, false, false, false, false, false] rfl rfl (any_of HT_.out (by kernel_rfl)) (fun _ _ _ h => h) (Or.inl ⟨by rfl, ?_⟩) ?_ ?_
  rotate_left
  · intro w'
    go_simp
    with_reducible rfl
  rotate_left
  · simp only [Act.put, List.setIfInBounds_toArray, List.set_cons_zero, List.set_cons_succ, i64_w, i32_w]
    rfl
  refine pure_ (i := 10) (N := some 19) (v := ?_) (a' := ?_) #[true, true, true, false, true, true, true, false, true, true, true, false, false, false, false, false, false, false, false, false, false] rfl rfl (any_of HT_.out (by kernel_rfl)) (fun _ _ _ h => h) (Or.inl ⟨by rfl, ?_⟩) ?_ ?_
  rotate_left
  · intro w'
    go_simp
    with_reducible rfl
  rotate_left
  · simp only [Act.put, List.setIfInBounds_toArray, List.set_cons_zero, List.set_cons_succ, i64_w, i32_w]
    rfl
  refine pure_ (i := 13) (N := some 22) (v := ?_) (a' := ?_) #[true, true, true, false, true, true, true, false, true, true, true, false, false, true, false, false, false, false, false, false, false] rfl rfl (any_of HT_.out (by kernel_rfl)) (fun _ _ _ h => h) (Or.inl ⟨by rfl, ?_⟩) ?_ ?_
  rotate_left
  · intro w'
    go_simp
    with_reducible rfl
  rotate_left
  · simp only [Act.put, List.setIfInBounds_toArray, List.set_cons_zero, List.set_cons_succ, i64_w, i32_w]
    rfl
  refine pure_ (i := 14) (N := some 23) (v := ?_) (a' := ?_) #[true, true, true, false, true, true, true, false, true, true, true, false, false, true, true, false, false, false, false, false, false] rfl rfl (any_of HT_.out (by kernel_rfl)) (fun _ _ _ h => h) (Or.inl ⟨by rfl, ?_⟩) ?_ ?_
  rotate_left
  · intro w'
    go_simp
    with_reducible rfl
  rotate_left
  · simp only [Act.put, List.setIfInBounds_toArray, List.set_cons_zero, List.set_cons_succ, i64_w, i32_w]
    rfl
  refine pure_ (i := 15) (N := some 24) (v := ?_) (a' := ?_) #[true, true, true, false, true, true, true, false, true, true, true, false, false, true, true, true, false, false, false, false, false] rfl rfl (any_of HT_.out (by kernel_rfl)) (fun _ _ _ h => h) (Or.inl ⟨by rfl, ?_⟩) ?_ ?_
  rotate_left
  · intro w'
    go_simp
    with_reducible rfl
  rotate_left
  · simp only [Act.put, List.setIfInBounds_toArray, List.set_cons_zero, List.set_cons_succ, i64_w, i32_w]
    rfl
  refine take_ (i := 3) (N := some 12) (v := ?_) (a' := ?_) #[true, true, true, true, true, true, true, false, true, true, true, false, false, true, true, true, false, false, false, false, false] rfl rfl (take_ofW HT_.out HW_.out (by kernel_rfl)) (fun _ _ _ h => h) (Or.inl ⟨by rfl, ?_⟩) hHeld ?_ ?_
  rotate_left
  · rintro w' ⟨s0, s1, s2, s3, s4, s5, s6, s7, s8, s9, s10, s11, s12, s13, s14, s15, s16, s17, s18, s19, s20, s21, s22, s23, s24, s25⟩
    go_simp
    with_reducible rfl
  rotate_left
  · simp only [Act.put, List.setIfInBounds_toArray, List.set_cons_zero, List.set_cons_succ, i64_w, i32_w]
    rfl
  refine take_ (i := 7) (N := some 16) (v := ?_) (a' := ?_) #[true, true, true, true, true, true, true, true, true, true, true, false, false, true, true, true, false, false, false, false, false] rfl rfl (take_ofW HT_.out HW_.out (by kernel_rfl)) (fun _ _ _ h => h) (Or.inl ⟨by rfl, ?_⟩) hHeld ?_ ?_
  rotate_left
  · rintro w' ⟨s0, s1, s2, s3, s4, s5, s6, s7, s8, s9, s10, s11, s12, s13, s14, s15, s16, s17, s18, s19, s20, s21, s22, s23, s24, s25⟩
    go_simp
    with_reducible rfl
  rotate_left
  · simp only [Act.put, List.setIfInBounds_toArray, List.set_cons_zero, List.set_cons_succ, i64_w, i32_w]
    rfl
  refine take_ (i := 11) (N := some 20) (v := ?_) (a' := ?_) #[true, true, true, true, true, true, true, true, true, true, true, true, false, true, true, true, false, false, false, false, false] rfl rfl (take_ofW HT_.out HW_.out (by kernel_rfl)) (fun _ _ _ h => h) (Or.inl ⟨by rfl, ?_⟩) hHeld ?_ ?_
  rotate_left
  · rintro w' ⟨s0, s1, s2, s3, s4, s5, s6, s7, s8, s9, s10, s11, s12, s13, s14, s15, s16, s17, s18, s19, s20, s21, s22, s23, s24, s25⟩
    go_simp
    with_reducible rfl
  rotate_left
  · simp only [Act.put, List.setIfInBounds_toArray, List.set_cons_zero, List.set_cons_succ, i64_w, i32_w]
    rfl
  refine take_ (i := 16) (N := some 25) (v := ?_) (a' := ?_) #[true, true, true, true, true, true, true, true, true, true, true, true, false, true, true, true, true, false, false, false, false] rfl rfl (take_ofW HT_.out HW_.out (by kernel_rfl)) (fun _ _ _ h => h) (Or.inl ⟨by rfl, ?_⟩) hHeld ?_ ?_
  rotate_left
  · rintro w' ⟨s0, s1, s2, s3, s4, s5, s6, s7, s8, s9, s10, s11, s12, s13, s14, s15, s16, s17, s18, s19, s20, s21, s22, s23, s24, s25⟩
    go_simp
    with_reducible rfl
  rotate_left
  · simp only [Act.put, List.setIfInBounds_toArray, List.set_cons_zero, List.set_cons_succ, i64_w, i32_w]
    rfl
  have FR0 := Aside0.mk (CF.start 0 wd_ row st)
  refine join_ (σ := Value × Value) 3 #[true, true, true, true, true, true, true, true, true, true, true, true, true, true, true, true, true, true, false, false, false] (fun s_ => [(21, s_.1), (26, s_.2)]) (fun s_ w' => (w'.cell? ⟨b, 0, none⟩ = some (.int .u64 (r 0)) ∧ w'.cell? ⟨b, 1, none⟩ = some (.int .u64 (r 1)) ∧ w'.cell? ⟨b, 2, none⟩ = some (.int .u64 (r 2)) ∧ w'.cell? ⟨b, 3, none⟩ = some (.int .u64 (r 3)) ∧ w'.cell? ⟨b, 4, none⟩ = some (.int .u64 (r 4)) ∧ w'.cell? ⟨b, 5, none⟩ = some (.int .u64 (r 5)) ∧ w'.cell? ⟨b, 6, none⟩ = some (.int .u64 (r 6)) ∧ w'.cell? ⟨b, 7, none⟩ = some (.int .u64 (r 7)) ∧ w'.cell? ⟨b, 8, none⟩ = some (.int .u64 (r 8)) ∧ w'.cell? ⟨b, 9, none⟩ = some (.int .u64 (r 9)) ∧ w'.cell? ⟨b, 10, none⟩ = some (.int .u64 (r 10)) ∧ w'.cell? ⟨b, 11, none⟩ = some (.int .u64 (r 11)) ∧ w'.cell? ⟨b, 12, none⟩ = some (.bool s.jo) ∧ w'.cell? ⟨b, 13, none⟩ = some (.bool s.pi) ∧ w'.cell? ⟨b, 14, none⟩ = some (.bool s.en) ∧ w'.cell? ⟨b, 15, none⟩ = some (.int .u64 s.pa) ∧ w'.cell? ⟨b, 16, none⟩ = some (.int .u64 s.vv) ∧ w'.cell? ⟨b, 17, none⟩ = some (.int .u64 s.ti) ∧ w'.cell? ⟨b, 18, none⟩ = some (.int .i64 s.lo) ∧ w'.cell? ⟨b, 19, none⟩ = some (.int .i64 s.hi) ∧ w'.cell? ⟨b, 20, none⟩ = some (.int .i64 s.ba) ∧ w'.cell? ⟨b, 21, none⟩ = some (.int .i64 s.tp) ∧ w'.cell? ⟨b, 22, none⟩ = some (.int .i64 s.pt) ∧ w'.cell? ⟨b, 23, none⟩ = some (.int .i64 s.li) ∧ w'.cell? ⟨b, 25, none⟩ = some (.slice AR row.length cR) ∧ w'.cell? ⟨b, 26, none⟩ = some (.slice AS st.length cS)) ∧ Aside0 (CF 0 wd_ row st (some s_.1) (some s_.2) w')) ?_ ?_
  rotate_left
  · intro hCont
    refine one_ (i := 12) (N := some 21) #[true, true, true, true, true, true, true, true, true, true, true, true, true, true, true, true, true, false, false, false, false] rfl rfl (one_of HT_.out (by kernel_rfl)) (by decide) (fun K hK => ?_)
    skip
    refine goes_ Try.func62 (by kernel_rfl) rfl #[.slice AR row.length cR] (by rfl) rfl rfl (by (try simp only [List.map_toArray, List.map_cons, List.map_nil]); first | done | rfl) ?_
    refine (clone_pairs (CR.out _ FR0.out.b) hrow).mono ?_
    rintro e_ wq ⟨v21, rfl, hV, hb⟩
    have FR1 := Aside0.mk (CF.callR FR0.out hV hb)
    clear hV
    refine ⟨_, rfl, ?_⟩
    have hS_ := hHeld
    obtain ⟨s0, s1, s2, s3, s4, s5, s6, s7, s8, s9, s10, s11, s12, s13, s14, s15, s16, s17, s18, s19, s20, s21, s22, s23, s24, s25⟩ := hS_
    refine hK.out _ _ ⟨pw_cell_below hb s0, pw_cell_below hb s1, pw_cell_below hb s2, pw_cell_below hb s3, pw_cell_below hb s4, pw_cell_below hb s5, pw_cell_below hb s6, pw_cell_below hb s7, pw_cell_below hb s8, pw_cell_below hb s9, pw_cell_below hb s10, pw_cell_below hb s11, pw_cell_below hb s12, pw_cell_below hb s13, pw_cell_below hb s14, pw_cell_below hb s15, pw_cell_below hb s16, pw_cell_below hb s17, pw_cell_below hb s18, pw_cell_below hb s19, pw_cell_below hb s20, pw_cell_below hb s21, pw_cell_below hb s22, pw_cell_below hb s23, pw_cell_below hb s24, pw_cell_below hb s25⟩ (fun hHeld => ?_)
    clear hK K s0 s1 s2 s3 s4 s5 s6 s7 s8 s9 s10 s11 s12 s13 s14 s15 s16 s17 s18 s19 s20 s21 s22 s23 s24 s25
    refine norm_ (a' := ?_) ?_ ?_
    rotate_left
    · show Act.put _ (some 21) _ = _
      simp only [Act.put, List.setIfInBounds_toArray, List.set_cons_zero, List.set_cons_succ, i64_w, i32_w]
      rfl
    refine one_ (i := 17) (N := some 26) #[true, true, true, true, true, true, true, true, true, true, true, true, true, true, true, true, true, true, false, false, false] rfl rfl (one_of HT_.out (by kernel_rfl)) (by decide) (fun K hK => ?_)
    skip
    refine goes_ Try.func64 (by kernel_rfl) rfl #[.slice AS st.length cS] (by rfl) rfl rfl (by (try simp only [List.map_toArray, List.map_cons, List.map_nil]); first | done | rfl) ?_
    refine (clone_words (CS.out _ FR1.out.b) hst).mono ?_
    rintro e_ wq ⟨v26, rfl, hV, hb⟩
    have FR2 := Aside0.mk (CF.callS FR1.out hV hb)
    clear hV
    refine ⟨_, rfl, ?_⟩
    have hS_ := hHeld
    obtain ⟨s0, s1, s2, s3, s4, s5, s6, s7, s8, s9, s10, s11, s12, s13, s14, s15, s16, s17, s18, s19, s20, s21, s22, s23, s24, s25⟩ := hS_
    refine hK.out _ _ ⟨pw_cell_below hb s0, pw_cell_below hb s1, pw_cell_below hb s2, pw_cell_below hb s3, pw_cell_below hb s4, pw_cell_below hb s5, pw_cell_below hb s6, pw_cell_below hb s7, pw_cell_below hb s8, pw_cell_below hb s9, pw_cell_below hb s10, pw_cell_below hb s11, pw_cell_below hb s12, pw_cell_below hb s13, pw_cell_below hb s14, pw_cell_below hb s15, pw_cell_below hb s16, pw_cell_below hb s17, pw_cell_below hb s18, pw_cell_below hb s19, pw_cell_below hb s20, pw_cell_below hb s21, pw_cell_below hb s22, pw_cell_below hb s23, pw_cell_below hb s24, pw_cell_below hb s25⟩ (fun hHeld => ?_)
    clear hK K s0 s1 s2 s3 s4 s5 s6 s7 s8 s9 s10 s11 s12 s13 s14 s15 s16 s17 s18 s19 s20 s21 s22 s23 s24 s25
    refine norm_ (a' := ?_) ?_ ?_
    rotate_left
    · show Act.put _ (some 26) _ = _
      simp only [Act.put, List.setIfInBounds_toArray, List.set_cons_zero, List.set_cons_succ, i64_w, i32_w]
      rfl
    exact norm_ (by simp only [putAll, Act.put, List.setIfInBounds_toArray, List.set_cons_zero, List.set_cons_succ]) (hCont (v21, v26) _ ⟨hHeld, FR2⟩)
  rintro ⟨v21, v26⟩ wj ⟨hHeld, FJ⟩
  obtain ⟨AR2, cR2, eR⟩ := Kd.V_slice (FJ.out.R _ rfl)
  obtain ⟨AS2, cS2, eS⟩ := OV.slice (FJ.out.S _ rfl)
  rw [List.length_map] at eS
  have eS := eS.1
  subst eR eS
  refine norm_ (a' := ?_) ?_ ?_
  rotate_left
  · simp only [putAll, Act.put, List.setIfInBounds_toArray, List.set_cons_zero, List.set_cons_succ]
    rfl
  refine pure_ (i := 18) (N := some 27) (v := ?_) (a' := ?_) #[true, true, true, true, true, true, true, true, true, true, true, true, true, true, true, true, true, true, true, false, false] rfl rfl (any_of HT_.out (by kernel_rfl)) (fun _ _ _ h => h) (Or.inl ⟨by rfl, ?_⟩) ?_ ?_
  rotate_left
  · intro w'
    go_simp
    with_reducible rfl
  rotate_left
  · simp only [Act.put, List.setIfInBounds_toArray, List.set_cons_zero, List.set_cons_succ, i64_w, i32_w]
    rfl
  refine last_ (i := 19) (N := some 28) #[true, true, true, true, true, true, true, true, true, true, true, true, true, true, true, true, true, true, true, true, false] rfl rfl (one_of HT_.out (by kernel_rfl)) (by decide) (fun K hK => ?_)
  refine box_step ?hg (N := 28) ?hd (cs := (thC r s (.slice none 0 0) (.slice AR2 row.length cR2) (.slice AS2 st.length cS2)).toArray) (t := 57) ?hr ?_; (case hd => rfl); (case hg => rfl); (case hr => first | (go_simp; done) | (go_simp; rfl))
  intro g28 hg28 wq hbox hb
  have TB := Aside0.mk (CF.th FJ.out hg28 hbox hb)
  clear hbox hb hg28
  refine hK.out _ _ ?_
  clear hK K
  refine norm_ (a' := ?_) ?_ ?_
  rotate_left
  · show Act.put _ (some 28) _ = _
    simp only [Act.put, List.setIfInBounds_toArray, List.set_cons_zero, List.set_cons_succ, i64_w, i32_w]
    rfl
  refine pure_ (i := 20) (N := some 3) (v := ?_) (a' := ?_) #[true, true, true, true, true, true, true, true, true, true, true, true, true, true, true, true, true, true, true, true, true] rfl rfl (any_of HT_.out (by kernel_rfl)) (fun _ _ _ h => h) (Or.inl ⟨by rfl, ?_⟩) ?_ ?_
  rotate_left
  · intro w'
    go_simp
    with_reducible rfl
  rotate_left
  · simp only [Act.put, List.setIfInBounds_toArray, List.set_cons_zero, List.set_cons_succ, i64_w, i32_w]
    rfl
  refine done_ (done_of HT_.out (by kernel_rfl)) ?_
  obtain ⟨TG, BG⟩ := TB.out
  rw [HB.out.2] at TG
  have BG := Aside0.mk (below_then HB.out.1 HB.out.1.size BG)
  have LT := Aside0.mk (fun k hk => TG.own_lt (k := k) hk)
  have TG := Aside0.mk TG
  clear TB HB FJ CR CS hHeld FR0
  refine HKK.out _ _ ?_
  exact clone_tail HTh hfs TG LT BG
end
end Go.Proofs.Ytocmdcjbjhpooaa.FrW
