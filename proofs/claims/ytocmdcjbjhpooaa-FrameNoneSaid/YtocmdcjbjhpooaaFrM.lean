/- The document's thread: what a call of it does. -/
import Derived.Test.YtocmdcjbjhpooaaFrL
set_option linter.unusedVariables false
set_option linter.unusedSimpArgs false
namespace Go.Proofs.Ytocmdcjbjhpooaa.FrW
open Go Go.RowKit Go.Proofs.YtocmdcjbjhpooaaW.PrintWords Go.Proofs.YtocmdcjbjhpooaaW.PrintLast Go.Proofs.YtocmdcjbjhpooaaW.PrintMore Go.Proofs.Ytocmdcjbjhpooaa.PFrameOrders Go.Proofs.Ytocmdcjbjhpooaa.GRow Go.Proofs.Ytocmdcjbjhpooaa.Num Go.Proofs.Ytocmdcjbjhpooaa.Bxs Go.Proofs.Ytocmdcjbjhpooaa.InsW
/-- What is told, and the thread behind. -/
def RDone (w : World) (ok : Nat → Prop) (r : Nat → Int) (fs : List Co) (row : List S37) (st : List Int) (x : Int) (is : Bool) (e : Ending) (W' : World) : Prop :=
  ∃ vF vR vS, e = .returned (.tuple #[.agg (tC r vF vR vS).toArray, .int .u64 x, .bool is]) ∧ RT W' ok vF vR vS fs row st ∧ Below w.heap.size w W'
section
variable {w X : World} {ok : Nat → Prop} {r : Nat → Int} {vF vR vS : Value} {fs : List Co} {row : List S37} {st : List Int} {b2 b3 b4 : Nat}
theorem one_tC {r : Nat → Int} {A1 A2 A3 : Option Addr} {n1 n2 n3 c1 c2 c3 : Nat} : (tC r (.slice A1 n1 c1) (.slice A2 n2 c2) (.slice A3 n3 c3)).toArray.all (·.oneCell') = true := all_oneCell_toArray (fun v hv => by
  unfold tC ws at hv
  rcases List.mem_append.1 hv with hv | hv
  · obtain ⟨i, _, rfl⟩ := List.mem_map.1 hv
    rfl
  · simp only [List.mem_cons, List.not_mem_nil, or_false] at hv
    rcases hv with rfl | rfl | rfl <;> rfl)
/-- Results: a cell's struct and two slots. -/
theorem results_cell_tmp2 {P : Program} {fn : Func} {p u v : Tmp} {ty : TypeId} (h : fn.results = #[.cell p ty, .tmp u, .tmp v]) (tmps : Array Value) (w : World) (g : Nat) (t : TypeId) (cs : Array Value) (fr : Nat × Nat) (d : TypeDesc)
    (hp : tmps.getD p undef = .pointer (some ⟨g, 0, none⟩)) (hg : w.heap[g]? = some (.cells cs t fr))
    (hu : P.underlying ty = some d) (hd : (match d with | .struct _ | .array _ _ => true | _ => false) = true) (hi : (P.info? ty).map (·.size) = some cs.size) :
    (results fn tmps).run P w = .ok (.tuple #[.agg cs, tmps.getD u undef, tmps.getD v undef]) w := by
  have hp' : tmps[p]?.getD undef = .pointer (some ⟨g, 0, none⟩) := by simpa using hp
  simp [results, h, hp', asAddr, run_loadVar_row w g t ty cs fr d hg hu hd hi]
theorem RT.start {w Y : World} {ok : Nat → Prop} {vF vR vS : Value} {fs : List Co} {row : List S37} {st : List Int} {b4 : Nat} (h : RT w ok vF vR vS fs row st) (hb : w.heap.size ≤ b4) (hB : Below w.heap.size w Y) : RT Y (fun k => ok k ∧ k ≠ b4) vF vR vS fs row st := by
  have h2 := h.below hB
  refine ⟨h2.fo, h2.so, fun k hk => ⟨h.sk k hk, ?_⟩, Kd.V_mono (Kd.V_below (Kd.V_bound h.ro) hB) (fun k hk => ⟨hk.1, by have := hk.2; omega⟩)⟩
  have := (OV.base h.so hk).2
  omega
theorem OV.is_some {W : World} {base : Nat} {v : Value} {fs : List Co} (h : OV 113 26 W base v (fs.map gC)) (hi : 0 < fs.length) : ∃ g c, v = .slice (some ⟨g, 0, none⟩) fs.length c ∧ fs.length ≤ c := by
  rcases h with ⟨_, h2⟩ | ⟨g, c, h1, h2, h3⟩
  · rw [List.map_eq_nil_iff] at h2
    subst h2
    exact absurd hi (Nat.lt_irrefl _)
  · have hl := h3.len.1
    rw [List.length_map] at h1 hl
    exact ⟨g, c, h1, hl⟩
theorem one_ws {n : Nat} {r : Nat → Int} : (ws n r).toArray.all (·.oneCell') = true := all_oneCell_toArray (fun v hv => by
  unfold ws at hv
  obtain ⟨i, _, rfl⟩ := List.mem_map.1 hv
  rfl)
/-- A slice made anew: one step of a region that draws. -/
theorem slice_step {P : Program} {ops : Array Oper} {o : Oper} {a : Act} {Q : Exit → Act → World → Prop} {Kc : Act → World → Prop} {W : World} (hw : Region.wanted o (yielded ops a.tmps) = true) {N : Tmp} (_hd : o.dst = .some N) {cs : Array Value} {t : TypeId} {n : Nat}
    (hrun : (execOp a.eval o).run P W = .ok (.value (.slice (.some ⟨W.heap.size, 0, none⟩) n n)) (W.alloc (.cells cs t (0, 0))))
    (h : ∀ g, g = W.heap.size → ∀ w1, w1.heap[g]? = .some (.cells cs t (0, 0)) → Below W.heap.size W w1 → Kc (a.put o.dst (.slice (.some ⟨g, 0, none⟩) n n)) w1) : if Region.wanted o (yielded ops a.tmps) = true then Oper.wp P o a W Kc Q else Kc (a.put o.dst undef) W :=
  event_step hw hrun (h _ rfl _ (heap_alloc_new W _) (below_alloc (Below.refl _ _) _))
/-- A row copied into a new one, and one element made beside it. -/
structure AFr (T sz : Nat) (wd : World) (nc : List Value) (oA : Option (Value × List (List Value))) (oB : Option Nat) (w' : World) : Prop where
  b : Below wd.heap.size wd w'
  A : ∀ v l, oA = .some (v, l) → OV T sz w' wd.heap.size v l
  B : ∀ g, oB = .some g → w'.heap[g]? = .some (.cells nc.toArray T (0, 0)) ∧ wd.heap.size ≤ g ∧ ∀ v l, oA = .some (v, l) → v.ownBlock ≠ .some g
section
variable {T sz : Nat} {wd w' w1 : World} {nc : List Value} {oA : Option (Value × List (List Value))} {oB : Option Nat} {g : Nat} {v v1 : Value} {l news : List (List Value)}
theorem AFr.start (T sz : Nat) (wd : World) (nc : List Value) : AFr T sz wd nc none none wd := ⟨Below.refl _ _, (by intro _ _ h; cases h), (by intro _ h; cases h)⟩
theorem AFr.made (h : AFr T sz wd nc none oB w') (hg : g = w'.heap.size) (hbox : w1.heap[g]? = .some (.cells #[] T (0, 0))) (hb : Below w'.heap.size w' w1) : AFr T sz wd nc (.some (.slice (.some ⟨g, 0, none⟩) 0 0, [])) oB w1 := by
  have hs := h.b.size
  subst hg
  refine ⟨below_then h.b hs hb, fun v l e => ?_, fun g e => ?_⟩
  · injection e with e
    injection e with e1 e2
    subst e1 e2
    exact .inr ⟨_, 0, rfl, hs, #[], hbox, (Nat.zero_mul sz).symm, Nat.le_refl 0, Nat.zero_le _, fun j hj => absurd hj (Nat.not_lt_zero j)⟩
  · obtain ⟨h1, h2, _⟩ := h.B g e
    have hlt := (Array.getElem?_eq_some_iff.1 h1).1
    refine ⟨blk_below h1 hb, h2, fun v l e2 e3 => ?_⟩
    injection e2 with e2
    injection e2 with e2 _
    subst e2
    have e4 : w'.heap.size = g := Option.some.inj e3
    omega
theorem AFr.box (h : AFr T sz wd nc oA none w') (hg : g = w'.heap.size) (hbox : w1.heap[g]? = .some (.cells nc.toArray T (0, 0))) (hb : Below w'.heap.size w' w1) : AFr T sz wd nc oA (.some g) w1 := by
  have hs := h.b.size
  subst hg
  refine ⟨below_then h.b hs hb, fun v l e => (h.A v l e).below hb, fun g e => ?_⟩
  injection e with e
  subst e
  refine ⟨hbox, hs, fun v l e2 e3 => ?_⟩
  have := (OV.base (h.A v l e2) e3).2
  omega
theorem AFr.app (h : AFr T sz wd nc (.some (v, l)) oB w') (hO : OV T sz w1 wd.heap.size v1 (l ++ news)) (hg : w'.grownBy w1 v.ownBlock) (ha : v1.ownBlock = v.ownBlock ∨ v1.ownBlock = .some w'.heap.size) : AFr T sz wd nc (.some (v1, l ++ news)) oB w1 := by
  have hs := h.b.size
  refine ⟨h.b.grown hg hs (fun k hk => (OV.base (h.A v l rfl) hk).1), fun v2 l2 e => ?_, fun g e => ?_⟩
  · injection e with e
    injection e with e1 e2
    subst e1 e2
    exact hO
  · obtain ⟨h1, h2, h3⟩ := h.B g e
    have hlt := (Array.getElem?_eq_some_iff.1 h1).1
    refine ⟨(hg.block g hlt (fun e2 => h3 v l rfl e2.symm)).trans h1, h2, fun v2 l2 e2 e3 => ?_⟩
    injection e2 with e2
    injection e2 with e2 _
    subst e2
    rcases ha with ha | ha
    · exact h3 v l rfl (ha ▸ e3)
    · rw [ha] at e3
      injection e3 with e3
      omega
end
theorem one_row {T sz : Nat} {w : World} {nc : List Value} {g : Nat} (h : w.heap[g]? = .some (.cells nc.toArray T (0, 0))) (hn : nc.length = sz) : OV T sz w 0 (.slice (.some ⟨g, 0, none⟩) 1 1) [nc] := by
  refine .inr ⟨g, 1, rfl, Nat.zero_le _, nc.toArray, h, by rw [List.size_toArray, Nat.one_mul, hn], Nat.le_refl 1, by decide, fun j hj => ?_⟩
  have : j = 0 := by simpa using hj
  subst this
  refine ⟨hn, fun k hk => ?_⟩
  rw [Nat.zero_mul, Nat.zero_add, List.getElem?_toArray]
  rfl
/-- A word of a row. -/
theorem OV.atW {W : World} {base : Nat} {v : Value} {st : List Int} (h : OV 27 1 W base v (st.map fun x => [.int .u64 x])) (i : Nat) (hi : i < st.length) : ∃ g c, v = .slice (some ⟨g, 0, none⟩) st.length c ∧ st.length ≤ c ∧ W.cell? ⟨g, i, none⟩ = some (.int .u64 st[i]) := by
  rcases h with ⟨_, h2⟩ | ⟨g, c, h1, h2, h3⟩
  · rw [List.map_eq_nil_iff] at h2
    subst h2
    exact absurd hi (Nat.not_lt_zero _)
  · have hl := h3.len.1
    rw [List.length_map] at h1 hl
    have hc := (h3.cell i 0 (by rw [List.length_map]; exact hi) (by decide)).1
    rw [Nat.mul_one, Nat.add_zero] at hc
    exact ⟨g, c, h1, hl, hc.trans (by rw [List.getElem_map]; rfl)⟩
theorem tC_set (r : Nat → Int) (vF vR vS : Value) (i : Nat) (hi : i < 12) (x : Int) : (tC r vF vR vS).toArray.setIfInBounds i (.int .u64 x) = (tC (upd r i x) vF vR vS).toArray := by
  rw [List.setIfInBounds_toArray]
  unfold tC
  rw [List.set_append_left _ _ (by rw [ws_len]; exact hi), ws_set]
theorem gC_set (a b : Int) (r : Nat → Int) (i : Nat) (hi : i < 24) (x : Int) : (gC (a, b, r)).toArray.setIfInBounds (2 + i) (.int .u64 x) = (gC (a, b, upd r i x)).toArray := by
  rw [List.setIfInBounds_toArray]
  unfold gC
  rw [Nat.add_comm, List.set_cons_succ, List.set_cons_succ, ws_set]
theorem thr_g (w : World) (f : Co) : (w.alloc (.cells (gC (0, 0, fun _ => 0)).toArray 113 (0, 0))).there w.heap.size 0 (gC f).toArray.size := fun j hj => by
  have hn := heap_alloc_new w (.cells (gC (0, 0, fun _ => 0)).toArray 113 (0, 0))
  rw [Nat.zero_add]
  refine ⟨?_, blk_frozen hn j⟩
  rw [blk_cell hn j, List.getElem?_toArray]
  have : j < (gC (0, 0, fun _ => 0)).length := hj
  rw [List.getElem?_eq_getElem this]
  rfl
theorem rng_below {w w' : World} {b o : Nat} {cs : List Value} (hb : Below w.heap.size w w') (h : w.rangeAt b o cs) : w'.rangeAt b o cs := fun j v hv => pw_cell_below hb (h j v hv)
set_option maxHeartbeats 4000000 in
set_option maxRecDepth 100000 in
theorem build_one (f : Co) (o : Oper) (ho : o.op = .buildSlice 29 1 #[(0, .tmp 49)]) (a : Act) (ha : a.eval (.tmp 49) = .agg (gC f).toArray) (X : World) : (execOp a.eval o).run Try.prog X = .ok (.value (.slice (.some ⟨X.heap.size, 0, none⟩) 1 1)) (X.alloc (.cells (gC f).toArray 113 (0, 0))) := by
  have huL := Try.underlying29
  have ha1 : a.tmps[49]?.getD undef = .agg (gC f).toArray := by simpa [Act.eval] using ha
  have ha2 : a.tmps[49]?.getD undef = .agg #[.int .i64 f.1, .int .i64 f.2.1, .int .u64 (f.2.2 0), .int .u64 (f.2.2 1), .int .u64 (f.2.2 2), .int .u64 (f.2.2 3), .int .u64 (f.2.2 4), .int .u64 (f.2.2 5), .int .u64 (f.2.2 6), .int .u64 (f.2.2 7), .int .u64 (f.2.2 8), .int .u64 (f.2.2 9), .int .u64 (f.2.2 10), .int .u64 (f.2.2 11), .int .u64 (f.2.2 12), .int .u64 (f.2.2 13), .int .u64 (f.2.2 14), .int .u64 (f.2.2 15), .int .u64 (f.2.2 16), .int .u64 (f.2.2 17), .int .u64 (f.2.2 18), .int .u64 (f.2.2 19), .int .u64 (f.2.2 20), .int .u64 (f.2.2 21), .int .u64 (f.2.2 22), .int .u64 (f.2.2 23)] := ha1
  clear ha1
  clear ha
  unfold execOp
  rw [ho]
  go_simp
  rfl
theorem _root_.Go.Proofs.Ytocmdcjbjhpooaa.GRow.GRow.at_g {w : World} {g c : Nat} {fs : List Co} (h : GRow 113 26 w g c (fs.map gC)) (i : Nat) (hi : i < fs.length) (k : Nat) (hk : k < 26) : w.cell? ⟨g, i * 26 + k, none⟩ = (gC fs[i])[k]? ∧ w.frozen? ⟨g, i * 26 + k, none⟩ = false := by
  have := h.cell i k (by rw [List.length_map]; exact hi) hk
  rw [List.getElem_map] at this
  exact this
theorem map_set_g {fs : List Co} {i : Nat} (hi : i < fs.length) (f : Co) : (fs.map gC).set i (gC f) = (fs.set i f).map gC := by rw [List.map_set]
theorem _root_.Go.Proofs.Ytocmdcjbjhpooaa.GRow.GRow.pc {w : World} {g c : Nat} {fs : List Co} (h : GRow 113 26 w g c (fs.map gC)) (i : Nat) (hi : i < fs.length) (x : Int) : GRow 113 26 (w.setCell ⟨g, i * 26 + 1, none⟩ (.int .i64 x)) g c ((fs.set i (fs[i].1, x, fs[i].2.2)).map gC) := by
  have := h.set i 1 (by rw [List.length_map]; exact hi) (by decide) (.int .i64 x)
  rw [List.getElem_map] at this
  rw [← map_set_g hi]
  exact this
theorem _root_.Go.Proofs.Ytocmdcjbjhpooaa.GRow.GRow.reg {w : World} {g c : Nat} {fs : List Co} (h : GRow 113 26 w g c (fs.map gC)) (i : Nat) (hi : i < fs.length) (k : Nat) (hk : k < 24) (x : Int) : GRow 113 26 (w.setCell ⟨g, i * 26 + (2 + k), none⟩ (.int .u64 x)) g c ((fs.set i (fs[i].1, fs[i].2.1, upd fs[i].2.2 k x)).map gC) := by
  have := h.set i (2 + k) (by rw [List.length_map]; exact hi) (by omega) (.int .u64 x)
  rw [List.getElem_map] at this
  rw [← map_set_g hi]
  have e : (gC fs[i]).set (2 + k) (.int .u64 x) = gC (fs[i].1, fs[i].2.1, upd fs[i].2.2 k x) := by
    unfold gC
    rw [Nat.add_comm, List.set_cons_succ, List.set_cons_succ, ws_set]
  rw [e] at this
  exact this
/-- A frame, touched: its place, and a register one more. -/
def touch (fn : Int) (f : Co) : Co := (f.1, fn, if 0 ≤ fn then upd f.2.2 (fn % 24).toNat (IntKind.u64.wrap (f.2.2 (fn % 24).toNat + 1)) else f.2.2)
theorem touch_set {fs fs2 : List Co} {i : Nat} {f : Co} {fn : Int} {k : Nat} (h : fs.set i (f.1, fn, f.2.2) = fs2) (hq : 0 ≤ fn) (hk : (fn % 24).toNat = k) (hi : i < fs.length) {h2 : i < fs2.length} : fs2.set i (fs2[i].1, fs2[i].2.1, upd fs2[i].2.2 k (IntKind.u64.wrap (f.2.2 k + 1))) = fs.set i (touch fn f) := by
  subst h
  subst hk
  rw [List.set_set]
  congr 1
  simp only [List.getElem_set_self]
  unfold touch
  rw [if_pos hq]
/-- A row of frames, copied into a new one. -/
theorem copy_rows {Y : World} {A : Option Addr} {c : Nat} {fs : List Co} (h : OV 113 26 Y 0 (.slice A fs.length c) (fs.map gC)) (h0 : 0 < fs.length) (hm : fs.length ≤ 1000000) :
    ∃ w5 g5 c5, (Builtin.append_ #[29, 29] 29 #[.slice (.some ⟨Y.heap.size, 0, none⟩) 0 0, .slice A fs.length c]).run Try.prog (Y.alloc (.cells #[] 113 (0, 0))) = .ok (.slice (.some ⟨g5, 0, none⟩) fs.length c5) w5 ∧ Below Y.heap.size Y w5 ∧ GRow 113 26 w5 g5 c5 (fs.map gC) ∧ Y.heap.size ≤ g5 := by
  obtain ⟨iG, iz, iG1, iG2, iG3, iG4, iG5⟩ := info_g
  have hO : OV 113 26 (Y.alloc (.cells #[] 113 (0, 0))) Y.heap.size (.slice (.some ⟨Y.heap.size, 0, none⟩) 0 0) [] := .inr ⟨_, 0, rfl, Nat.le_refl _, #[], heap_alloc_new Y _, (Nat.zero_mul 26).symm, Nat.le_refl 0, Nat.zero_le _, fun j hj => absurd hj (Nat.not_lt_zero j)⟩
  have hB := below_alloc (Below.refl Y.heap.size Y) (.cells #[] 113 (0, 0))
  obtain ⟨v5, w5, r1, r2, r3, r4⟩ := append_rows (t := 29) (ty := 29) Try.underlying29 iG1 iG2 iG3 iG4 iG5 (by decide) hO h hB (fun r hr x hx => by obtain ⟨y, _, rfl⟩ := List.mem_map.1 hr; exact one_gC y x hx) (by rw [List.length_map, List.length_nil]; omega) (by rw [List.length_map, List.length_nil]; unfold maxLen; omega) hB.size
  rw [List.nil_append] at r2
  rcases r2 with ⟨_, h2⟩ | ⟨g, c5, h1, h2, h3⟩
  · rw [List.map_eq_nil_iff] at h2
    subst h2
    exact absurd h0 (Nat.lt_irrefl _)
  · rw [List.length_map] at h1
    subst h1
    exact ⟨w5, g, c5, r1, hB.grown r3 hB.size (fun k hk => Nat.le_of_eq (Option.some.inj (show some Y.heap.size = some k from hk))), h3, h2⟩
/-- The first so many words of a list. -/
def regN (l : List Int) (i k : Nat) : Int := if k < i then regs l k else 0
theorem regN_zero (l : List Int) (n : Nat) : ws n (fun _ => 0) = ws n (regN l 0) := ws_ext fun i _ => by unfold regN; rw [if_neg (Nat.not_lt_zero _)]
theorem regN_upd (l : List Int) (i : Nat) (h : i < l.length) : upd (regN l i) i l[i] = regN l (i + 1) := by
  funext k
  unfold upd regN
  by_cases e : k = i
  · subst e
    rw [if_pos rfl, if_pos (by omega)]
    unfold regs
    rw [List.getD_eq_getElem?_getD, List.getElem?_eq_getElem h]
    rfl
  · rw [if_neg e]
    by_cases h1 : k < i
    · rw [if_pos h1, if_pos (by omega)]
    · rw [if_neg h1, if_neg (by omega)]
theorem regN_all {l : List Int} {i n : Nat} (h : n ≤ i ∨ l.length ≤ i) : ws n (regN l i) = ws n (regs l) := ws_ext fun k hk => by
  unfold regN
  by_cases h1 : k < i
  · rw [if_pos h1]
  · rw [if_neg h1]
    unfold regs
    rw [List.getD_eq_getElem?_getD, List.getElem?_eq_none (by omega)]
    rfl
/-- The head of a box, written anew. -/
theorem _root_.Go.Proofs.Ytocmdcjbjhpooaa.Bxs.Bxs.setPre {w W : World} {L : List Box} {b t : Nat} (h : Bxs w W L) (j : Nat) (vs old suf : List Value) (hj : L[j]? = some (b, (old ++ suf).toArray, t)) (hl : old.length = vs.length) {L' : List Box} (e : L.set j (b, (vs ++ suf).toArray, t) = L') : Bxs w (W.setCells b 0 vs) L' := by
  have K := blk_setCells vs W [] old suf hl (b := b) (T := t) (h.get j hj)
  subst e
  have hlt := (List.getElem?_eq_some_iff.1 hj).1
  have hm : (L.set j (b, (vs ++ suf).toArray, t)).map (·.1) = L.map (·.1) := by
    rw [List.map_set]
    apply List.ext_getElem?
    intro k
    rw [List.getElem?_set]
    by_cases hk : j = k
    · subst hk
      rw [if_pos rfl, if_pos (by simpa using hlt), List.getElem?_map, hj]
      rfl
    · rw [if_neg hk]
  refine ⟨fun x hx => ?_, by rw [hm]; exact h.ne, fun x hx => ?_, below_setCells h.b (h.ge _ (mem_of hj)) vs 0⟩
  · obtain ⟨k, hk, rfl⟩ := List.getElem_of_mem hx
    rw [List.length_set] at hk
    rw [List.getElem_set]
    by_cases e : j = k
    · subst e
      rw [if_pos rfl]
      exact K
    · rw [if_neg e]
      exact (heap_setCells b vs 0 W _ (ne_at h.ne (List.getElem?_eq_getElem hk) hj (fun e2 => e e2.symm))).trans (h.at_ _ (List.getElem_mem hk))
  · have : x.1 ∈ (L.set j (b, (vs ++ suf).toArray, t)).map (·.1) := List.mem_map_of_mem hx
    rw [hm] at this
    obtain ⟨y, hy, he⟩ := List.mem_map.1 this
    rw [← he]
    exact h.ge y hy
/-- The end of each road: what was told lies in the result's block. -/
theorem rdo_ret {w Y : World} {ok : Nat → Prop} {r : Nat → Int} {vF vR vS : Value} {fs : List Co} {row : List S37} {st : List Int} {b4 : Nat} {x : Int} {is : Bool} {a : Act}
    (h4 : a.tmps.getD 4 undef = .pointer (some ⟨b4, 0, none⟩)) (h5 : a.tmps.getD 5 undef = .int .u64 x) (h6 : a.tmps.getD 6 undef = .bool is) (hd : a.defers = [])
    (hb : Y.heap[b4]? = some (.cells (tC r vF vR vS).toArray 33 (0, 0))) (hR : RT Y ok vF vR vS fs row st) (hB : Below w.heap.size w Y) : bodyPost Try.prog Try.f14 (RDone w ok r fs row st x is) .ret a Y := by
  refine bodyPost_ret (results_cell_tmp2 rfl a.tmps Y b4 33 _ (0, 0) _ h4 hb Try.underlying33 rfl (by rw [List.size_toArray, tC_len]; kernel_rfl)) hd ?_
  rw [h5, h6]
  exact ⟨vF, vR, vS, rfl, hR, hB⟩
/-- A box that none of the rows lies in is written. -/
theorem RT.box (h : RT X (fun k => ok k ∧ k ≠ b4) vF vR vS fs row st) {c : Array Value} (hb : X.heap[b4]? = some (.cells c 33 (0, 0))) (vs : List Value) : RT (X.setCells b4 0 vs) ok vF vR vS fs row st := by
  have key : ∀ k, k ≠ b4 → (X.setCells b4 0 vs).heap[k]? = X.heap[k]? := fun k hk => heap_setCells b4 vs 0 X k hk
  refine ⟨h.fo.move (fun k _ _ hk => key k ?_), h.so.move (fun k _ _ hk => key k (h.sk k hk).2), fun k hk => (h.sk k hk).1, Kd.V_mono (Kd.V_step h.ro (fun k hk _ => key k hk.2)) (fun k hk => hk.1)⟩
  obtain ⟨cur, hc⟩ := OV.typed h.fo hk
  exact typ_ne hc hb (by decide)
def rd9_T : Bool × List (List Nat × List Nat) := (true, [([], []), ([], []), ([1], [1]), ([0, 2], [0, 2]), ([], []), ([4], [4]), ([3, 5, 3], [3, 5]), ([0, 1, 2, 3, 4, 5, 6], []), ([7, 6, 6, 0, 1, 2, 3, 4, 5, 6], [6, 7])])
def rd9_B : List Nat := [0, 0, 2, 7, 0, 16, 63, 127, 255]
theorem rd9_tab : rtab .any (opsOf Try.f14 9) = rd9_T := by kernel_rfl
theorem rd9_bits : waitsOk rd9_T.2 rd9_B = true := by kernel_rfl
def rd23_T : Bool × List (List Nat × List Nat) := (true, [([], []), ([], []), ([1], [1]), ([0, 2], [0, 2]), ([], []), ([4], [4]), ([5], [5]), ([6], [6]), ([3, 7, 3], [3, 7]), ([0, 1, 2, 3, 4, 5, 6, 7, 8], []), ([9, 8, 8, 0, 1, 2, 3, 4, 5, 6, 7, 8], [8, 9])])
def rd23_B : List Nat := [0, 0, 2, 7, 0, 16, 48, 112, 255, 511, 1023]
theorem rd23_tab : rtab .any (opsOf Try.f14 23) = rd23_T := by kernel_rfl
theorem rd23_bits : waitsOk rd23_T.2 rd23_B = true := by kernel_rfl
set_option maxHeartbeats 4000000 in
set_option maxRecDepth 100000 in
theorem rdo_tail (HB : Aside0 (Bxs w X [(b4, (tC (fun _ => 0) (.slice none 0 0) (.slice none 0 0) (.slice none 0 0)).toArray, 33), (b2, (tC r vF vR vS).toArray, 33)])) (HR : Aside0 (RT X (fun k => ok k ∧ k ≠ b4) vF vR vS fs row st)) {m0 m1 m3 m5 m6 m7 m8 m9 m10 m11 m12 m13 m14 m15 m16 m17 m18 m19 m20 m21 m22 m23 m24 m25 m26 m27 m28 m29 m30 m31 m32 m33 m34 m35 m36 m37 m38 m39 m40 m41 m42 m43 m44 m45 m46 m47 m48 m49 m50 m51 m52 m53 m54 m55 m56 m57 m58 m59 m60 m61 m62 m63 m64 m65 m66 m67 m68 m69 m70 m71 m72 m73 m74 m75 m76 m77 m78 m79 m80 m81 m82 m83 m84 m85 m86 m87 m88 m89 m90 m91 m92 m93 m94 m95 m96 m97 m98 m99 m100 m101 m102 m103 m104 m105 m106 m107 m108 m109 m110 m111 m112 m113 m114 m115 m116 m117 m118 m119 m120 m121 m122 m123 m124 m125 m126 m127 m128 m129 m130 m131 m132 m133 m134 m135 m136 m137 m138 m139 m140 m141 m142 m143 m144 m145 m146 m147 m148 m149 m150 m151 m152 m153 m154 m155 m156 m157 m158 m159 m160 m161 m162 m163 m164 m165 m166 m167 m168 m169 m170 m171 : Value} :
    Code.wp Try.prog (tl 3 (bodyC Try.f14)) (bodyPost Try.prog Try.f14 (RDone w ok r fs row st 0 false)) { tmps := List.toArray (m0 :: m1 :: .pointer (some ⟨b2, 0, none⟩) :: m3 :: .pointer (some ⟨b4, 0, none⟩) :: m5 :: m6 :: m7 :: m8 :: m9 :: m10 :: m11 :: m12 :: m13 :: m14 :: m15 :: m16 :: m17 :: m18 :: m19 :: m20 :: m21 :: m22 :: m23 :: m24 :: m25 :: m26 :: m27 :: m28 :: m29 :: m30 :: m31 :: m32 :: m33 :: m34 :: m35 :: m36 :: m37 :: m38 :: m39 :: m40 :: m41 :: m42 :: m43 :: m44 :: m45 :: m46 :: m47 :: m48 :: m49 :: m50 :: m51 :: m52 :: m53 :: m54 :: m55 :: m56 :: m57 :: m58 :: m59 :: m60 :: m61 :: m62 :: m63 :: m64 :: m65 :: m66 :: m67 :: m68 :: m69 :: m70 :: m71 :: m72 :: m73 :: m74 :: m75 :: m76 :: m77 :: m78 :: m79 :: m80 :: m81 :: m82 :: m83 :: m84 :: m85 :: m86 :: m87 :: m88 :: m89 :: m90 :: m91 :: m92 :: m93 :: m94 :: m95 :: m96 :: m97 :: m98 :: m99 :: m100 :: m101 :: m102 :: m103 :: m104 :: m105 :: m106 :: m107 :: m108 :: m109 :: m110 :: m111 :: m112 :: m113 :: m114 :: m115 :: m116 :: m117 :: m118 :: m119 :: m120 :: m121 :: m122 :: m123 :: m124 :: m125 :: m126 :: m127 :: m128 :: m129 :: m130 :: m131 :: m132 :: m133 :: m134 :: m135 :: m136 :: m137 :: m138 :: m139 :: m140 :: m141 :: m142 :: m143 :: m144 :: m145 :: m146 :: m147 :: m148 :: m149 :: m150 :: m151 :: m152 :: m153 :: m154 :: m155 :: m156 :: m157 :: m158 :: m159 :: m160 :: m161 :: m162 :: m163 :: m164 :: m165 :: m166 :: m167 :: m168 :: m169 :: m170 :: m171 :: []), defers := [] } X := by
  have hu := Try.underlying33
  obtain ⟨AF, cF, eF, _⟩ := HR.out.sF
  obtain ⟨AS, cS, eS, _⟩ := HR.out.sS
  obtain ⟨AR, cR, eR⟩ := Kd.V_slice HR.out.ro
  have ONE : Aside0 ((tC r vF vR vS).toArray.all (·.oneCell') = true) := ⟨by rw [eF, eS, eR]; exact one_tC⟩
  have RNG := Aside0.mk (HB.out.rng 1 rfl)
  have THR := Aside0.mk (HB.out.thr (n := (tC r vF vR vS).toArray.size) 0 rfl (by rw [List.size_toArray, List.size_toArray, tC_len, tC_len]))
  have BE := Aside0.mk (HB.out.setAll 0 (tC r vF vR vS) rfl (by rw [List.size_toArray, tC_len, tC_len]) rfl)
  have RE := Aside0.mk (HR.out.box (HB.out.get 0 rfl) (tC r vF vR vS))
  clear eF eS eR
  conv => arg 2; whnf
  go_wp2_with (first | ((with_reducible refine gate_dst (N := 171) rfl ?_); refine wpList_load_mid rfl 33 _ rfl b2 0 rfl (tC r vF vR vS) _ RNG.out Try.underlying33 rfl (by kernel_rfl) ?_) | ((with_reducible refine gate_store (t := 33) (p := 4) rfl ?_); refine wpList_store_mid rfl 33 _ _ rfl b4 0 (tC r vF vR vS).toArray rfl rfl THR.out (by kernel_rfl) ONE.out ?_; generalize X.setCells b4 0 (List.toArray (tC r vF vR vS)).toList = Y at BE RE ⊢))
  exact rdo_ret rfl rfl rfl rfl (BE.out.get 0 rfl) RE.out BE.out.old
set_option maxHeartbeats 4000000 in
set_option maxRecDepth 100000 in
theorem rdo_other (h : RT w ok vF vR vS fs row st) (hok : ∀ k, w.heap.size ≤ k → ok k) {AL : Option Addr} {cL : Nat} {l : List Int} (fn pk pv : Int) (hm1 : fs.length ≤ 1000000) (hm2 : st.length ≤ 1000000) {kind : Int} (hk : kind < 0 ∨ 6 < kind) :
    Calls Try.prog 14 #[.agg (tC r vF vR vS).toArray, .agg #[.int .i64 kind, .int .i64 fn, .slice AL l.length cL, .int .i64 pk, .int .i64 pv]] w (RDone w ok r fs row st 0 false) := by
  have hu := Try.underlying33
  have huO := Try.underlying39
  obtain ⟨AF, cF, rfl, hcF⟩ := h.sF
  obtain ⟨AS, cS, rfl, hcS⟩ := h.sS
  obtain ⟨AR, cR, rfl⟩ := Kd.V_slice h.ro
  have HR0 := Aside0.mk h
  have HOK := Aside0.mk hok
  have dk0 : ((kind : Int) == 0) = false := beq_eq_false_iff_ne.2 (by omega)
  have dk1 : ((kind : Int) == 1) = false := beq_eq_false_iff_ne.2 (by omega)
  have dk2 : ((kind : Int) == 2) = false := beq_eq_false_iff_ne.2 (by omega)
  have dk3 : ((kind : Int) == 3) = false := beq_eq_false_iff_ne.2 (by omega)
  have dk4 : ((kind : Int) == 4) = false := beq_eq_false_iff_ne.2 (by omega)
  have dk5 : ((kind : Int) == 5) = false := beq_eq_false_iff_ne.2 (by omega)
  have dk6 : ((kind : Int) == 6) = false := beq_eq_false_iff_ne.2 (by omega)
  clear h hok
  go_enter Try.func14, Try.ntmps14
  go_upto_region 1 with (fail)
  refine gen2 (Φ := fun Y => Bxs w Y [((w.heap.size + 1 + 1), (tC (fun _ => 0) (.slice none 0 0) (.slice none 0 0) (.slice none 0 0)).toArray, 33), ((w.heap.size + 1), #[.int .i64 kind, .int .i64 fn, .slice AL l.length cL, .int .i64 pk, .int .i64 pv], 39), (w.heap.size, (tC r (.slice AF fs.length cF) (.slice AR row.length cR) (.slice AS st.length cS)).toArray, 33)]) ((((Bxs.nil w).box _ _ rfl).box _ _ (n := w.heap.size + 1) (by simp)).box _ _ (n := w.heap.size + 1 + 1) (by simp)) ?_
  intro Y hB
  have HB := Aside0.mk hB
  have HR := Aside0.mk (HR0.out.start (b4 := (w.heap.size + 1 + 1)) (by omega) HB.out.old)
  have q0 : Y.cell? ⟨(w.heap.size + 1), 0, none⟩ = some (.int .i64 kind) := (hB.cell 1 0 rfl).trans rfl
  have q1 : Y.cell? ⟨(w.heap.size + 1), 1, none⟩ = some (.int .i64 fn) := (hB.cell 1 1 rfl).trans rfl
  have q2 : Y.cell? ⟨(w.heap.size + 1), 2, none⟩ = some (.slice AL l.length cL) := (hB.cell 1 2 rfl).trans rfl
  have y12 : Y.cell? ⟨w.heap.size, 12, none⟩ = some (.slice AF fs.length cF) := (hB.cell 2 12 rfl).trans rfl
  have y13 : Y.cell? ⟨w.heap.size, 13, none⟩ = some (.slice AR row.length cR) := (hB.cell 2 13 rfl).trans rfl
  have y14 : Y.cell? ⟨w.heap.size, 14, none⟩ = some (.slice AS st.length cS) := (hB.cell 2 14 rfl).trans rfl
  have f12 := hB.frz 2 12 rfl
  have f13 := hB.frz 2 13 rfl
  have f14 := hB.frz 2 14 rfl
  clear hB
  go_upto_region 2 with (fail)
  rename_i KK hKK K2 hK2
  have HKK := Aside0.mk hKK
  clear hKK
  go_wp2
  refine HKK.out _ _ ?_
  exact rdo_tail ⟨HB.out.sub (List.Sublist.cons_cons _ (List.Sublist.cons _ (List.Sublist.refl _)))⟩ HR
set_option maxHeartbeats 4000000 in
set_option maxRecDepth 100000 in
theorem rdo_5 (h : RT w ok vF vR vS fs row st) (hok : ∀ k, w.heap.size ≤ k → ok k) {AL : Option Addr} {cL : Nat} {l : List Int} (fn pk pv : Int) (hm1 : fs.length ≤ 1000000) (hm2 : st.length ≤ 1000000)  :
    Calls Try.prog 14 #[.agg (tC r vF vR vS).toArray, .agg #[.int .i64 5, .int .i64 fn, .slice AL l.length cL, .int .i64 pk, .int .i64 pv]] w (RDone w ok r fs [] [] 0 false) := by
  have hu := Try.underlying33
  have huO := Try.underlying39
  obtain ⟨AF, cF, rfl, hcF⟩ := h.sF
  obtain ⟨AS, cS, rfl, hcS⟩ := h.sS
  obtain ⟨AR, cR, rfl⟩ := Kd.V_slice h.ro
  have HR0 := Aside0.mk h
  have HOK := Aside0.mk hok
  clear h hok
  go_enter Try.func14, Try.ntmps14
  go_upto_region 1 with (fail)
  refine gen2 (Φ := fun Y => Bxs w Y [((w.heap.size + 1 + 1), (tC (fun _ => 0) (.slice none 0 0) (.slice none 0 0) (.slice none 0 0)).toArray, 33), ((w.heap.size + 1), #[.int .i64 5, .int .i64 fn, .slice AL l.length cL, .int .i64 pk, .int .i64 pv], 39), (w.heap.size, (tC r (.slice AF fs.length cF) (.slice AR row.length cR) (.slice AS st.length cS)).toArray, 33)]) ((((Bxs.nil w).box _ _ rfl).box _ _ (n := w.heap.size + 1) (by simp)).box _ _ (n := w.heap.size + 1 + 1) (by simp)) ?_
  intro Y hB
  have HB := Aside0.mk hB
  have HR := Aside0.mk (HR0.out.start (b4 := (w.heap.size + 1 + 1)) (by omega) HB.out.old)
  have q0 : Y.cell? ⟨(w.heap.size + 1), 0, none⟩ = some (.int .i64 5) := (hB.cell 1 0 rfl).trans rfl
  have q1 : Y.cell? ⟨(w.heap.size + 1), 1, none⟩ = some (.int .i64 fn) := (hB.cell 1 1 rfl).trans rfl
  have q2 : Y.cell? ⟨(w.heap.size + 1), 2, none⟩ = some (.slice AL l.length cL) := (hB.cell 1 2 rfl).trans rfl
  have y12 : Y.cell? ⟨w.heap.size, 12, none⟩ = some (.slice AF fs.length cF) := (hB.cell 2 12 rfl).trans rfl
  have y13 : Y.cell? ⟨w.heap.size, 13, none⟩ = some (.slice AR row.length cR) := (hB.cell 2 13 rfl).trans rfl
  have y14 : Y.cell? ⟨w.heap.size, 14, none⟩ = some (.slice AS st.length cS) := (hB.cell 2 14 rfl).trans rfl
  have f12 := hB.frz 2 12 rfl
  have f13 := hB.frz 2 13 rfl
  have f14 := hB.frz 2 14 rfl
  clear hB
  go_upto_region 2 with (fail)
  rename_i KK hKK K2 hK2
  have HKK := Aside0.mk hKK
  clear hKK
  go_wp2
  have BX : Aside0 (Bxs w ((Y.setCell ⟨w.heap.size, 13, none⟩ (.slice none 0 0)).setCell ⟨w.heap.size, 14, none⟩ (.slice none 0 0)) [((w.heap.size + 1 + 1), (tC (fun _ => 0) (.slice none 0 0) (.slice none 0 0) (.slice none 0 0)).toArray, 33), ((w.heap.size + 1), #[.int .i64 5, .int .i64 fn, .slice AL l.length cL, .int .i64 pk, .int .i64 pv], 39), (w.heap.size, (tC r (.slice AF fs.length cF) (.slice none 0 0) (.slice none 0 0)).toArray, 33)]) := ⟨(HB.out.set 2 13 _ rfl rfl).set 2 14 _ rfl rfl⟩
  have R5 := (HR0.out.start (b4 := (w.heap.size + 1 + 1)) (by omega) BX.out.old)
  refine HKK.out _ _ ?_
  exact rdo_tail (row := []) (st := []) (vR := .slice none 0 0) (vS := .slice none 0 0) ⟨BX.out.sub (List.Sublist.cons_cons _ (List.Sublist.cons _ (List.Sublist.refl _)))⟩ ⟨⟨R5.fo, OV.nil _ _ _ _, (fun k hk => by cases hk), ⟨none, 0, rfl, Nat.le_refl 0, Kd.F_nil _ _ _⟩⟩⟩
set_option maxHeartbeats 4000000 in
set_option maxRecDepth 100000 in
theorem rdo_4n (h : RT w ok vF vR vS fs row st) (hok : ∀ k, w.heap.size ≤ k → ok k) {AL : Option Addr} {cL : Nat} {l : List Int} (fn pk pv : Int) (hm1 : fs.length ≤ 1000000) (hm2 : st.length ≤ 1000000) (h0 : Aside0 (st.length = 0)) :
    Calls Try.prog 14 #[.agg (tC r vF vR vS).toArray, .agg #[.int .i64 4, .int .i64 fn, .slice AL l.length cL, .int .i64 pk, .int .i64 pv]] w (RDone w ok r fs row st 0 false) := by
  have hu := Try.underlying33
  have huO := Try.underlying39
  obtain ⟨AF, cF, rfl, hcF⟩ := h.sF
  obtain ⟨AS, cS, rfl, hcS⟩ := h.sS
  obtain ⟨AR, cR, rfl⟩ := Kd.V_slice h.ro
  have HR0 := Aside0.mk h
  have HOK := Aside0.mk hok
  clear h hok
  go_enter Try.func14, Try.ntmps14
  go_upto_region 1 with (fail)
  refine gen2 (Φ := fun Y => Bxs w Y [((w.heap.size + 1 + 1), (tC (fun _ => 0) (.slice none 0 0) (.slice none 0 0) (.slice none 0 0)).toArray, 33), ((w.heap.size + 1), #[.int .i64 4, .int .i64 fn, .slice AL l.length cL, .int .i64 pk, .int .i64 pv], 39), (w.heap.size, (tC r (.slice AF fs.length cF) (.slice AR row.length cR) (.slice AS st.length cS)).toArray, 33)]) ((((Bxs.nil w).box _ _ rfl).box _ _ (n := w.heap.size + 1) (by simp)).box _ _ (n := w.heap.size + 1 + 1) (by simp)) ?_
  intro Y hB
  have HB := Aside0.mk hB
  have HR := Aside0.mk (HR0.out.start (b4 := (w.heap.size + 1 + 1)) (by omega) HB.out.old)
  have q0 : Y.cell? ⟨(w.heap.size + 1), 0, none⟩ = some (.int .i64 4) := (hB.cell 1 0 rfl).trans rfl
  have q1 : Y.cell? ⟨(w.heap.size + 1), 1, none⟩ = some (.int .i64 fn) := (hB.cell 1 1 rfl).trans rfl
  have q2 : Y.cell? ⟨(w.heap.size + 1), 2, none⟩ = some (.slice AL l.length cL) := (hB.cell 1 2 rfl).trans rfl
  have y12 : Y.cell? ⟨w.heap.size, 12, none⟩ = some (.slice AF fs.length cF) := (hB.cell 2 12 rfl).trans rfl
  have y13 : Y.cell? ⟨w.heap.size, 13, none⟩ = some (.slice AR row.length cR) := (hB.cell 2 13 rfl).trans rfl
  have y14 : Y.cell? ⟨w.heap.size, 14, none⟩ = some (.slice AS st.length cS) := (hB.cell 2 14 rfl).trans rfl
  have f12 := hB.frz 2 12 rfl
  have f13 := hB.frz 2 13 rfl
  have f14 := hB.frz 2 14 rfl
  clear hB
  go_upto_region 2 with (fail)
  rename_i KK hKK K2 hK2
  have HKK := Aside0.mk hKK
  clear hKK
  have z1 : ((st.length : Int) == 0) = true := by rw [h0.out]; rfl
  have BX := HB
  have RNG := Aside0.mk (BX.out.rng 2 rfl)
  have THR := Aside0.mk (BX.out.thr (n := (tC r (.slice AF fs.length cF) (.slice AR row.length cR) (.slice AS st.length cS)).toArray.size) 0 rfl (by rw [List.size_toArray, List.size_toArray, tC_len, tC_len]))
  have BE := Aside0.mk (BX.out.setAll 0 (tC r (.slice AF fs.length cF) (.slice AR row.length cR) (.slice AS st.length cS)) rfl (by rw [List.size_toArray, tC_len, tC_len]) rfl)
  have RE := Aside0.mk (RT.box (vF := (.slice AF fs.length cF)) (vR := (.slice AR row.length cR)) (vS := (.slice AS st.length cS)) ((HR0.out.start (b4 := (w.heap.size + 1 + 1)) (by omega) BX.out.old)) (BX.out.get 0 rfl) (tC r (.slice AF fs.length cF) (.slice AR row.length cR) (.slice AS st.length cS)))
  have ON := Aside0.mk (one_tC (r := r) (A1 := AF) (n1 := _) (c1 := _) : (tC r (.slice AF fs.length cF) (.slice AR row.length cR) (.slice AS st.length cS)).toArray.all (·.oneCell') = true)
  go_wp2_with (first | ((with_reducible refine gate_dst (N := 117) rfl ?_); refine wpList_load_mid rfl 33 _ rfl w.heap.size 0 rfl (tC r (.slice AF fs.length cF) (.slice AR row.length cR) (.slice AS st.length cS)) _ RNG.out Try.underlying33 rfl (by kernel_rfl) ?_) | ((with_reducible refine gate_store (t := 33) (p := 4) rfl ?_); refine wpList_store_mid rfl 33 _ _ rfl (w.heap.size + 1 + 1) 0 (tC r (.slice AF fs.length cF) (.slice AR row.length cR) (.slice AS st.length cS)).toArray rfl rfl THR.out (by kernel_rfl) ON.out ?_; generalize Y.setCells (w.heap.size + 1 + 1) 0 (List.toArray (tC r (.slice AF fs.length cF) (.slice AR row.length cR) (.slice AS st.length cS))).toList = E9 at BE RE ⊢))
  exact rdo_ret rfl rfl rfl rfl (BE.out.get 0 rfl) RE.out BE.out.old
set_option maxHeartbeats 4000000 in
set_option maxRecDepth 100000 in
theorem rdo_4 (h : RT w ok vF vR vS fs row st) (hok : ∀ k, w.heap.size ≤ k → ok k) {AL : Option Addr} {cL : Nat} {l : List Int} (fn pk pv : Int) (hm1 : fs.length ≤ 1000000) (hm2 : st.length ≤ 1000000) (h0 : 0 < st.length) :
    Calls Try.prog 14 #[.agg (tC r vF vR vS).toArray, .agg #[.int .i64 4, .int .i64 fn, .slice AL l.length cL, .int .i64 pk, .int .i64 pv]] w (RDone w ok r fs row (st.take (st.length - 1)) (st[st.length - 1]'(by omega)) true) := by
  have hu := Try.underlying33
  have huO := Try.underlying39
  obtain ⟨AF, cF, rfl, hcF⟩ := h.sF
  obtain ⟨AS, cS, rfl, hcS⟩ := h.sS
  obtain ⟨AR, cR, rfl⟩ := Kd.V_slice h.ro
  have HR0 := Aside0.mk h
  have HOK := Aside0.mk hok
  clear h hok
  go_enter Try.func14, Try.ntmps14
  go_upto_region 1 with (fail)
  refine gen2 (Φ := fun Y => Bxs w Y [((w.heap.size + 1 + 1), (tC (fun _ => 0) (.slice none 0 0) (.slice none 0 0) (.slice none 0 0)).toArray, 33), ((w.heap.size + 1), #[.int .i64 4, .int .i64 fn, .slice AL l.length cL, .int .i64 pk, .int .i64 pv], 39), (w.heap.size, (tC r (.slice AF fs.length cF) (.slice AR row.length cR) (.slice AS st.length cS)).toArray, 33)]) ((((Bxs.nil w).box _ _ rfl).box _ _ (n := w.heap.size + 1) (by simp)).box _ _ (n := w.heap.size + 1 + 1) (by simp)) ?_
  intro Y hB
  have HB := Aside0.mk hB
  have HR := Aside0.mk (HR0.out.start (b4 := (w.heap.size + 1 + 1)) (by omega) HB.out.old)
  have q0 : Y.cell? ⟨(w.heap.size + 1), 0, none⟩ = some (.int .i64 4) := (hB.cell 1 0 rfl).trans rfl
  have q1 : Y.cell? ⟨(w.heap.size + 1), 1, none⟩ = some (.int .i64 fn) := (hB.cell 1 1 rfl).trans rfl
  have q2 : Y.cell? ⟨(w.heap.size + 1), 2, none⟩ = some (.slice AL l.length cL) := (hB.cell 1 2 rfl).trans rfl
  have y12 : Y.cell? ⟨w.heap.size, 12, none⟩ = some (.slice AF fs.length cF) := (hB.cell 2 12 rfl).trans rfl
  have y13 : Y.cell? ⟨w.heap.size, 13, none⟩ = some (.slice AR row.length cR) := (hB.cell 2 13 rfl).trans rfl
  have y14 : Y.cell? ⟨w.heap.size, 14, none⟩ = some (.slice AS st.length cS) := (hB.cell 2 14 rfl).trans rfl
  have f12 := hB.frz 2 12 rfl
  have f13 := hB.frz 2 13 rfl
  have f14 := hB.frz 2 14 rfl
  clear hB
  go_upto_region 2 with (fail)
  rename_i KK hKK K2 hK2
  have HKK := Aside0.mk hKK
  clear hKK
  obtain ⟨g, c, eg, hc, hg⟩ := OV.atW HR.out.so (st.length - 1) (by omega)
  injection eg with e1 e2 e3
  subst e1 e3
  have z1 : ((st.length : Int) == 0) = false := by rw [beq_eq_false_iff_ne]; omega
  have hg2 : Y.cell? ⟨g, ((st.length : Int) - 1).toNat, none⟩ = some (.int .u64 (st[st.length - 1]'(by omega))) := by rw [show ((st.length : Int) - 1).toNat = st.length - 1 by omega]; exact hg
  have hi : ((st.length : Int) - 1) = ((st.length - 1 : Nat) : Int) := by omega
  go_upto_region 30 with (fail)
  refine gen2 (Φ := fun X => Bxs w X [((w.heap.size + 1 + 1), (tC (fun _ => 0) (.slice none 0 0) (.slice none 0 0) (.slice none 0 0)).toArray, 33), ((w.heap.size + 1), #[.int .i64 4, .int .i64 fn, .slice AL l.length cL, .int .i64 pk, .int .i64 pv], 39), (w.heap.size, (tC r (.slice AF fs.length cF) (.slice AR row.length cR) (.slice (some ⟨g, 0, none⟩) (st.length - 1) cS)).toArray, 33)]) (HB.out.set 2 14 (.slice (some ⟨g, 0, none⟩) (st.length - 1) cS) rfl rfl) ?_
  intro X BX
  have BX := Aside0.mk BX
  have R5 := (HR0.out.start (b4 := (w.heap.size + 1 + 1)) (by omega) BX.out.old)
  have RNG := Aside0.mk (BX.out.rng 2 rfl)
  have THR := Aside0.mk (BX.out.thr (n := (tC r (.slice AF fs.length cF) (.slice AR row.length cR) (.slice (some ⟨g, 0, none⟩) (st.length - 1) cS)).toArray.size) 0 rfl (by rw [List.size_toArray, List.size_toArray, tC_len, tC_len]))
  have BE := Aside0.mk (BX.out.setAll 0 (tC r (.slice AF fs.length cF) (.slice AR row.length cR) (.slice (some ⟨g, 0, none⟩) (st.length - 1) cS)) rfl (by rw [List.size_toArray, tC_len, tC_len]) rfl)
  have RE := Aside0.mk (RT.box (vF := (.slice AF fs.length cF)) (vR := (.slice AR row.length cR)) (vS := (.slice (some ⟨g, 0, none⟩) (st.length - 1) cS)) ⟨R5.fo, by rw [List.map_take]; exact OV.cut R5.so (st.length - 1) (Nat.sub_le _ _), R5.sk, R5.ro⟩ (BX.out.get 0 rfl) (tC r (.slice AF fs.length cF) (.slice AR row.length cR) (.slice (some ⟨g, 0, none⟩) (st.length - 1) cS)))
  have ON := Aside0.mk (one_tC (r := r) (A1 := AF) (n1 := _) (c1 := _) : (tC r (.slice AF fs.length cF) (.slice AR row.length cR) (.slice (some ⟨g, 0, none⟩) (st.length - 1) cS)).toArray.all (·.oneCell') = true)
  go_wp2_with (first | ((with_reducible refine gate_dst (N := 130) rfl ?_); refine wpList_load_mid rfl 33 _ rfl w.heap.size 0 rfl (tC r (.slice AF fs.length cF) (.slice AR row.length cR) (.slice (some ⟨g, 0, none⟩) (st.length - 1) cS)) _ RNG.out Try.underlying33 rfl (by kernel_rfl) ?_) | ((with_reducible refine gate_store (t := 33) (p := 4) rfl ?_); refine wpList_store_mid rfl 33 _ _ rfl (w.heap.size + 1 + 1) 0 (tC r (.slice AF fs.length cF) (.slice AR row.length cR) (.slice (some ⟨g, 0, none⟩) (st.length - 1) cS)).toArray rfl rfl THR.out (by kernel_rfl) ON.out ?_; generalize X.setCells (w.heap.size + 1 + 1) 0 (List.toArray (tC r (.slice AF fs.length cF) (.slice AR row.length cR) (.slice (some ⟨g, 0, none⟩) (st.length - 1) cS))).toList = E9 at BE RE ⊢))
  exact rdo_ret rfl rfl rfl rfl (BE.out.get 0 rfl) RE.out BE.out.old
set_option maxHeartbeats 4000000 in
set_option maxRecDepth 100000 in
theorem rdo_2 (h : RT w ok vF vR vS fs row st) (hok : ∀ k, w.heap.size ≤ k → ok k) {AL : Option Addr} {cL : Nat} {l : List Int} (fn pk pv : Int) (hm1 : fs.length ≤ 1000000) (hm2 : st.length ≤ 1000000) {n : Nat} {r1 : List S37} {r2 : Bool} (hf : deadwoodref08_Put.f n row pk pv = some (r1, r2)) :
    Calls Try.prog 14 #[.agg (tC r vF vR vS).toArray, .agg #[.int .i64 2, .int .i64 fn, .slice AL l.length cL, .int .i64 pk, .int .i64 pv]] w (RDone w ok r fs r1 st 0 r2) := by
  have hu := Try.underlying33
  have huO := Try.underlying39
  obtain ⟨AF, cF, rfl, hcF⟩ := h.sF
  obtain ⟨AS, cS, rfl, hcS⟩ := h.sS
  obtain ⟨AR, cR, rfl⟩ := Kd.V_slice h.ro
  have HR0 := Aside0.mk h
  have HOK := Aside0.mk hok
  clear h hok
  go_enter Try.func14, Try.ntmps14
  go_upto_region 1 with (fail)
  refine gen2 (Φ := fun Y => Bxs w Y [((w.heap.size + 1 + 1), (tC (fun _ => 0) (.slice none 0 0) (.slice none 0 0) (.slice none 0 0)).toArray, 33), ((w.heap.size + 1), #[.int .i64 2, .int .i64 fn, .slice AL l.length cL, .int .i64 pk, .int .i64 pv], 39), (w.heap.size, (tC r (.slice AF fs.length cF) (.slice AR row.length cR) (.slice AS st.length cS)).toArray, 33)]) ((((Bxs.nil w).box _ _ rfl).box _ _ (n := w.heap.size + 1) (by simp)).box _ _ (n := w.heap.size + 1 + 1) (by simp)) ?_
  intro Y hB
  have HB := Aside0.mk hB
  have HR := Aside0.mk (HR0.out.start (b4 := (w.heap.size + 1 + 1)) (by omega) HB.out.old)
  have q0 : Y.cell? ⟨(w.heap.size + 1), 0, none⟩ = some (.int .i64 2) := (hB.cell 1 0 rfl).trans rfl
  have q1 : Y.cell? ⟨(w.heap.size + 1), 1, none⟩ = some (.int .i64 fn) := (hB.cell 1 1 rfl).trans rfl
  have q2 : Y.cell? ⟨(w.heap.size + 1), 2, none⟩ = some (.slice AL l.length cL) := (hB.cell 1 2 rfl).trans rfl
  have y12 : Y.cell? ⟨w.heap.size, 12, none⟩ = some (.slice AF fs.length cF) := (hB.cell 2 12 rfl).trans rfl
  have y13 : Y.cell? ⟨w.heap.size, 13, none⟩ = some (.slice AR row.length cR) := (hB.cell 2 13 rfl).trans rfl
  have y14 : Y.cell? ⟨w.heap.size, 14, none⟩ = some (.slice AS st.length cS) := (hB.cell 2 14 rfl).trans rfl
  have f12 := hB.frz 2 12 rfl
  have f13 := hB.frz 2 13 rfl
  have f14 := hB.frz 2 14 rfl
  clear hB
  go_upto_region 2 with (fail)
  rename_i KK hKK K2 hK2
  have HKK := Aside0.mk hKK
  clear hKK
  have HF := Aside0.mk hf
  clear hf
  have q3 : Y.cell? ⟨(w.heap.size + 1), 3, none⟩ = some (.int .i64 pk) := (HB.out.cell 1 3 rfl).trans rfl
  have q4 : Y.cell? ⟨(w.heap.size + 1), 4, none⟩ = some (.int .i64 pv) := (HB.out.cell 1 4 rfl).trans rfl
  have hup := Try.underlying37
  go_wp2_with fail
  refine (deadwoodref08_Put.calls n _ AR cR row pk pv r1 r2 _ (Kd.V_below (Kd.V_bound (rb HR0.out.ro)) HB.out.old) HF.out).mono ?_
  rintro e w5 ⟨v0, rfl, V0, hb⟩
  obtain ⟨A8, c8, rfl⟩ := Kd.V_slice V0
  have HB5 := Aside0.mk (HB.out.below hb)
  have V5 := Aside0.mk (Kd.V_mono (rb (base' := 0) V0) (ok' := fun k => (ok k ∧ k ≠ (w.heap.size + 1 + 1)) ∧ k ≠ w.heap.size) (fun k hk => hk.elim (fun q => ⟨⟨q.1, by have := q.2; omega⟩, by have := q.2; omega⟩) (fun q => ⟨⟨HOK.out k (Nat.le_trans HB.out.old.size q), fun e => by have := HB.out.lt 0 rfl; omega⟩, fun e => by have := HB.out.lt 2 rfl; omega⟩)))
  have f13b := HB5.out.frz 2 13 rfl
  have y13b : w5.cell? ⟨w.heap.size, 13, none⟩ = some (.slice AR row.length cR) := (HB5.out.cell 2 13 rfl).trans rfl
  clear V0 hb HB HR y12 y13 y14 q0 q1 q2 f12 f13 f14
  go_upto_region 21 with (fail)
  refine gen2 (Φ := fun X => Bxs w X [((w.heap.size + 1 + 1), (tC (fun _ => 0) (.slice none 0 0) (.slice none 0 0) (.slice none 0 0)).toArray, 33), ((w.heap.size + 1), #[.int .i64 2, .int .i64 fn, .slice AL l.length cL, .int .i64 pk, .int .i64 pv], 39), (w.heap.size, (tC r (.slice AF fs.length cF) (.slice A8 r1.length c8) (.slice AS st.length cS)).toArray, 33)] ∧ Kd.V k37 37 X 0 (fun k => ok k ∧ k ≠ (w.heap.size + 1 + 1)) (.slice A8 r1.length c8) r1) ⟨HB5.out.set 2 13 (.slice A8 r1.length c8) rfl rfl, ?_⟩ ?_
  · exact Kd.V_mono (Kd.V_far V5.out (fun k hk => hk.2) _) (fun k hk => hk.1)
  intro X BX
  obtain ⟨BX, VX⟩ := BX
  have BX := Aside0.mk BX
  have VX := Aside0.mk VX
  have R5 := (HR0.out.start (b4 := (w.heap.size + 1 + 1)) (by omega) BX.out.old)
  have RNG := Aside0.mk (BX.out.rng 2 rfl)
  have THR := Aside0.mk (BX.out.thr (n := (tC r (.slice AF fs.length cF) (.slice A8 r1.length c8) (.slice AS st.length cS)).toArray.size) 0 rfl (by rw [List.size_toArray, List.size_toArray, tC_len, tC_len]))
  have BE := Aside0.mk (BX.out.setAll 0 (tC r (.slice AF fs.length cF) (.slice A8 r1.length c8) (.slice AS st.length cS)) rfl (by rw [List.size_toArray, tC_len, tC_len]) rfl)
  have RE := Aside0.mk (RT.box (vF := (.slice AF fs.length cF)) (vR := (.slice A8 r1.length c8)) (vS := (.slice AS st.length cS)) ⟨R5.fo, R5.so, R5.sk, VX.out⟩ (BX.out.get 0 rfl) (tC r (.slice AF fs.length cF) (.slice A8 r1.length c8) (.slice AS st.length cS)))
  have ON := Aside0.mk (one_tC (r := r) (A1 := AF) (n1 := _) (c1 := _) : (tC r (.slice AF fs.length cF) (.slice A8 r1.length c8) (.slice AS st.length cS)).toArray.all (·.oneCell') = true)
  go_wp2_with (first | ((with_reducible refine gate_dst (N := 96) rfl ?_); refine wpList_load_mid rfl 33 _ rfl w.heap.size 0 rfl (tC r (.slice AF fs.length cF) (.slice A8 r1.length c8) (.slice AS st.length cS)) _ RNG.out Try.underlying33 rfl (by kernel_rfl) ?_) | ((with_reducible refine gate_store (t := 33) (p := 4) rfl ?_); refine wpList_store_mid rfl 33 _ _ rfl (w.heap.size + 1 + 1) 0 (tC r (.slice AF fs.length cF) (.slice A8 r1.length c8) (.slice AS st.length cS)).toArray rfl rfl THR.out (by kernel_rfl) ON.out ?_; generalize X.setCells (w.heap.size + 1 + 1) 0 (List.toArray (tC r (.slice AF fs.length cF) (.slice A8 r1.length c8) (.slice AS st.length cS))).toList = E9 at BE RE ⊢))
  exact rdo_ret rfl rfl rfl rfl (BE.out.get 0 rfl) RE.out BE.out.old
set_option maxHeartbeats 4000000 in
set_option maxRecDepth 100000 in
theorem rdo_1n (h : RT w ok vF vR vS fs row st) (hok : ∀ k, w.heap.size ≤ k → ok k) {AL : Option Addr} {cL : Nat} {l : List Int} (fn pk pv : Int) (hm1 : fs.length ≤ 1000000) (hm2 : st.length ≤ 1000000) (hL : Kd.C (Kd.int .u64) w AL l.length l) (hcL : l.length ≤ cL) (hl : l.length ≤ 1000000) (h0 : Aside0 (fs.length = 0)) :
    Calls Try.prog 14 #[.agg (tC r vF vR vS).toArray, .agg #[.int .i64 1, .int .i64 fn, .slice AL l.length cL, .int .i64 pk, .int .i64 pv]] w (RDone w ok (regs l) (fs) row st 0 false) := by
  have hu := Try.underlying33
  have huO := Try.underlying39
  obtain ⟨AF, cF, rfl, hcF⟩ := h.sF
  obtain ⟨AS, cS, rfl, hcS⟩ := h.sS
  obtain ⟨AR, cR, rfl⟩ := Kd.V_slice h.ro
  have HR0 := Aside0.mk h
  have HOK := Aside0.mk hok
  clear h hok
  go_enter Try.func14, Try.ntmps14
  go_upto_region 1 with (fail)
  refine gen2 (Φ := fun Y => Bxs w Y [((w.heap.size + 1 + 1), (tC (fun _ => 0) (.slice none 0 0) (.slice none 0 0) (.slice none 0 0)).toArray, 33), ((w.heap.size + 1), #[.int .i64 1, .int .i64 fn, .slice AL l.length cL, .int .i64 pk, .int .i64 pv], 39), (w.heap.size, (tC r (.slice AF fs.length cF) (.slice AR row.length cR) (.slice AS st.length cS)).toArray, 33)]) ((((Bxs.nil w).box _ _ rfl).box _ _ (n := w.heap.size + 1) (by simp)).box _ _ (n := w.heap.size + 1 + 1) (by simp)) ?_
  intro Y hB
  have HB := Aside0.mk hB
  have HR := Aside0.mk (HR0.out.start (b4 := (w.heap.size + 1 + 1)) (by omega) HB.out.old)
  have q0 : Y.cell? ⟨(w.heap.size + 1), 0, none⟩ = some (.int .i64 1) := (hB.cell 1 0 rfl).trans rfl
  have q1 : Y.cell? ⟨(w.heap.size + 1), 1, none⟩ = some (.int .i64 fn) := (hB.cell 1 1 rfl).trans rfl
  have q2 : Y.cell? ⟨(w.heap.size + 1), 2, none⟩ = some (.slice AL l.length cL) := (hB.cell 1 2 rfl).trans rfl
  have y12 : Y.cell? ⟨w.heap.size, 12, none⟩ = some (.slice AF fs.length cF) := (hB.cell 2 12 rfl).trans rfl
  have y13 : Y.cell? ⟨w.heap.size, 13, none⟩ = some (.slice AR row.length cR) := (hB.cell 2 13 rfl).trans rfl
  have y14 : Y.cell? ⟨w.heap.size, 14, none⟩ = some (.slice AS st.length cS) := (hB.cell 2 14 rfl).trans rfl
  have f12 := hB.frz 2 12 rfl
  have f13 := hB.frz 2 13 rfl
  have f14 := hB.frz 2 14 rfl
  clear hB
  go_upto_region 2 with (fail)
  rename_i KK hKK K2 hK2
  have HKK := Aside0.mk hKK
  clear hKK
  have HL := Aside0.mk hL
  clear hL
  have hu28 := Try.underlying28
  have z1 : decide ((fs.length : Int) > 0) = false := decide_eq_false (by rw [h0.out]; omega)
  have z2 : ¬ 0 < fs.length := by rw [h0.out]; omega
  go_upto_region 13 with (fail)
  refine gen2 (Φ := fun X => Bxs w X [((w.heap.size + 1 + 1), (tC (fun _ => 0) (.slice none 0 0) (.slice none 0 0) (.slice none 0 0)).toArray, 33), ((w.heap.size + 1), #[.int .i64 1, .int .i64 fn, .slice AL l.length cL, .int .i64 pk, .int .i64 pv], 39), (w.heap.size, (tC r (.slice AF fs.length cF) (.slice AR row.length cR) (.slice AS st.length cS)).toArray, 33)]) HB.out ?_
  intro X1 BY
  have BY := Aside0.mk BY
  have THR := Aside0.mk (BY.out.thr (n := 15) 2 rfl (by rw [List.size_toArray, tC_len]))
  have BX : Aside0 (Bxs w (X1.setCells w.heap.size 0 (ws 12 (fun _ => 0))) [((w.heap.size + 1 + 1), (tC (fun _ => 0) (.slice none 0 0) (.slice none 0 0) (.slice none 0 0)).toArray, 33), ((w.heap.size + 1), #[.int .i64 1, .int .i64 fn, .slice AL l.length cL, .int .i64 pk, .int .i64 pv], 39), (w.heap.size, (tC (regN l 0) (.slice AF fs.length cF) (.slice AR row.length cR) (.slice AS st.length cS)).toArray, 33)]) := ⟨by have K := BY.out.setPre 2 (ws 12 (fun _ => 0)) (ws 12 r) [(.slice AF fs.length cF), (.slice AR row.length cR), (.slice AS st.length cS)] rfl (by rw [ws_len, ws_len]) rfl; rw [regN_zero l 12] at K ⊢; exact K⟩
  clear BY HB HR y12 y13 y14 q0 q1 q2 f12 f13 f14
  go_upto_region 14 with ((with_reducible refine gate_store (t := 28) (p := 64) rfl ?_); refine wpList_store_mid rfl 28 _ _ rfl w.heap.size 0 (ws 12 (fun _ => 0)).toArray rfl rfl (fun j hj => THR.out j (Nat.lt_trans (by rw [List.size_toArray, ws_len] at hj; exact hj) (by decide))) (by kernel_rfl) one_ws ?_; generalize X1.setCells w.heap.size 0 (List.toArray (ws 12 (fun _ => 0))).toList = X2 at BX ⊢)
  go_wp2
  go_loopg [10] 12 (fun kx s10 wr => ∃ i : Nat, s10 = .int .i64 i ∧ i + kx = 12 ∧ i ≤ l.length ∧ Aside0 (Bxs w wr [((w.heap.size + 1 + 1), (tC (fun _ => 0) (.slice none 0 0) (.slice none 0 0) (.slice none 0 0)).toArray, 33), ((w.heap.size + 1), #[.int .i64 1, .int .i64 fn, .slice AL l.length cL, .int .i64 pk, .int .i64 pv], 39), (w.heap.size, (tC (regN l i) (.slice AF fs.length cF) (.slice AR row.length cR) (.slice AS st.length cS)).toArray, 33)]))
  case atStart => exact ⟨0, rfl, rfl, Nat.zero_le _, BX⟩
  case round =>
    clear BX
    obtain ⟨i, rfl, hi, hil, BX⟩ := hrel
    have q2 : wr.cell? ⟨(w.heap.size + 1), 2, none⟩ = some (.slice AL l.length cL) := (BX.out.cell 1 2 rfl).trans rfl
    by_cases h1 : i < l.length
    · have d1 : (i : Int) < (l.length : Int) := by omega
      by_cases h2 : i < 12
      · have d2 : (i : Int) < 12 := by omega
        have lr : wr.cell? ⟨w.heap.size, i, none⟩ = some (.int .u64 (regN l i i)) := (BX.out.cell 2 i rfl).trans (by rw [List.getElem?_toArray]; unfold tC; rw [List.getElem?_append_left (by rw [ws_len]; exact h2), List.getElem?_eq_getElem (by rw [ws_len]; exact h2), ws_get _ _ _ h2])
        have lf := BX.out.frz 2 i rfl
        have BN : Aside0 (Bxs w (wr.setCell ⟨w.heap.size, i, none⟩ (.int .u64 l[i])) [((w.heap.size + 1 + 1), (tC (fun _ => 0) (.slice none 0 0) (.slice none 0 0) (.slice none 0 0)).toArray, 33), ((w.heap.size + 1), #[.int .i64 1, .int .i64 fn, .slice AL l.length cL, .int .i64 pk, .int .i64 pv], 39), (w.heap.size, (tC (regN l (i + 1)) (.slice AF fs.length cF) (.slice AR row.length cR) (.slice AS st.length cS)).toArray, 33)]) := ⟨by have K := BX.out.set 2 i (.int .u64 l[i]) rfl rfl; rw [tC_set _ _ _ _ _ h2, regN_upd l i h1] at K; exact K⟩
        obtain ⟨ad, rfl, hcw⟩ := words_cells HL.out (by omega : 0 < l.length)
        have lc : wr.cell? (ad.add i) = some (.int .u64 l[i]) := by
          obtain ⟨ad2, e2, hc2⟩ := words_cells (Kd.C_below HL.out BX.out.old) (by omega : 0 < l.length)
          injection e2 with e2
          subst e2
          exact hc2 i _ (by rw [List.getElem?_map, List.getElem?_eq_getElem h1]; rfl)
        clear hcw HL HR0
        go_wp2
        go_roundg (12 - (i + 1))
        rotate_left
        · exact (show 12 - (i + 1) < _ by omega)
        · exact ⟨i + 1, by go_num, by omega, by omega, BN⟩
      · have d2 : ¬ (i : Int) < 12 := by omega
        go_wp2
        have R5 := (HR0.out.start (b4 := (w.heap.size + 1 + 1)) (by omega) BX.out.old)
        refine HKK.out _ _ ?_
        refine rdo_tail (r := regs l) (fs := fs) ⟨?_⟩ ⟨R5⟩
        have K := BX.out.sub (List.Sublist.cons_cons _ (List.Sublist.cons _ (List.Sublist.refl _)))
        unfold tC at K ⊢
        rw [regN_all (n := 12) (l := l) (i := i) (by omega)] at K
        exact K
    · have d1 : ¬ (i : Int) < (l.length : Int) := by omega
      go_wp2
      have R5 := (HR0.out.start (b4 := (w.heap.size + 1 + 1)) (by omega) BX.out.old)
      refine HKK.out _ _ ?_
      refine rdo_tail (r := regs l) (fs := fs) ⟨?_⟩ ⟨R5⟩
      have K := BX.out.sub (List.Sublist.cons_cons _ (List.Sublist.cons _ (List.Sublist.refl _)))
      unfold tC at K ⊢
      rw [regN_all (n := 12) (l := l) (i := i) (by omega)] at K
      exact K
set_option maxHeartbeats 4000000 in
set_option maxRecDepth 100000 in
theorem rdo_1 (h : RT w ok vF vR vS fs row st) (hok : ∀ k, w.heap.size ≤ k → ok k) {AL : Option Addr} {cL : Nat} {l : List Int} (fn pk pv : Int) (hm1 : fs.length ≤ 1000000) (hm2 : st.length ≤ 1000000) (hL : Kd.C (Kd.int .u64) w AL l.length l) (hcL : l.length ≤ cL) (hl : l.length ≤ 1000000) (h0 : 0 < fs.length) :
    Calls Try.prog 14 #[.agg (tC r vF vR vS).toArray, .agg #[.int .i64 1, .int .i64 fn, .slice AL l.length cL, .int .i64 pk, .int .i64 pv]] w (RDone w ok (regs l) (fs.take (fs.length - 1)) row st 0 false) := by
  have hu := Try.underlying33
  have huO := Try.underlying39
  obtain ⟨AF, cF, rfl, hcF⟩ := h.sF
  obtain ⟨AS, cS, rfl, hcS⟩ := h.sS
  obtain ⟨AR, cR, rfl⟩ := Kd.V_slice h.ro
  have HR0 := Aside0.mk h
  have HOK := Aside0.mk hok
  clear h hok
  go_enter Try.func14, Try.ntmps14
  go_upto_region 1 with (fail)
  refine gen2 (Φ := fun Y => Bxs w Y [((w.heap.size + 1 + 1), (tC (fun _ => 0) (.slice none 0 0) (.slice none 0 0) (.slice none 0 0)).toArray, 33), ((w.heap.size + 1), #[.int .i64 1, .int .i64 fn, .slice AL l.length cL, .int .i64 pk, .int .i64 pv], 39), (w.heap.size, (tC r (.slice AF fs.length cF) (.slice AR row.length cR) (.slice AS st.length cS)).toArray, 33)]) ((((Bxs.nil w).box _ _ rfl).box _ _ (n := w.heap.size + 1) (by simp)).box _ _ (n := w.heap.size + 1 + 1) (by simp)) ?_
  intro Y hB
  have HB := Aside0.mk hB
  have HR := Aside0.mk (HR0.out.start (b4 := (w.heap.size + 1 + 1)) (by omega) HB.out.old)
  have q0 : Y.cell? ⟨(w.heap.size + 1), 0, none⟩ = some (.int .i64 1) := (hB.cell 1 0 rfl).trans rfl
  have q1 : Y.cell? ⟨(w.heap.size + 1), 1, none⟩ = some (.int .i64 fn) := (hB.cell 1 1 rfl).trans rfl
  have q2 : Y.cell? ⟨(w.heap.size + 1), 2, none⟩ = some (.slice AL l.length cL) := (hB.cell 1 2 rfl).trans rfl
  have y12 : Y.cell? ⟨w.heap.size, 12, none⟩ = some (.slice AF fs.length cF) := (hB.cell 2 12 rfl).trans rfl
  have y13 : Y.cell? ⟨w.heap.size, 13, none⟩ = some (.slice AR row.length cR) := (hB.cell 2 13 rfl).trans rfl
  have y14 : Y.cell? ⟨w.heap.size, 14, none⟩ = some (.slice AS st.length cS) := (hB.cell 2 14 rfl).trans rfl
  have f12 := hB.frz 2 12 rfl
  have f13 := hB.frz 2 13 rfl
  have f14 := hB.frz 2 14 rfl
  clear hB
  go_upto_region 2 with (fail)
  rename_i KK hKK K2 hK2
  have HKK := Aside0.mk hKK
  clear hKK
  have HL := Aside0.mk hL
  clear hL
  have hu28 := Try.underlying28
  have z1 : decide ((fs.length : Int) > 0) = true := decide_eq_true (by omega)
  obtain ⟨g, c, eg, hc⟩ : ∃ g c, Value.slice AF fs.length cF = .slice (some ⟨g, 0, none⟩) fs.length c ∧ fs.length ≤ c := OV.is_some HR.out.fo h0
  injection eg with e1 e2 e3
  subst e1 e3
  have hi : ((fs.length : Int) - 1) = ((fs.length - 1 : Nat) : Int) := by omega
  go_upto_region 13 with (fail)
  refine gen2 (Φ := fun X => Bxs w X [((w.heap.size + 1 + 1), (tC (fun _ => 0) (.slice none 0 0) (.slice none 0 0) (.slice none 0 0)).toArray, 33), ((w.heap.size + 1), #[.int .i64 1, .int .i64 fn, .slice AL l.length cL, .int .i64 pk, .int .i64 pv], 39), (w.heap.size, (tC r (.slice (some ⟨g, 0, none⟩) (fs.length - 1) cF) (.slice AR row.length cR) (.slice AS st.length cS)).toArray, 33)]) (HB.out.set 2 12 (.slice (some ⟨g, 0, none⟩) (fs.length - 1) cF) rfl rfl) ?_
  intro X1 BY
  have BY := Aside0.mk BY
  have THR := Aside0.mk (BY.out.thr (n := 15) 2 rfl (by rw [List.size_toArray, tC_len]))
  have BX : Aside0 (Bxs w (X1.setCells w.heap.size 0 (ws 12 (fun _ => 0))) [((w.heap.size + 1 + 1), (tC (fun _ => 0) (.slice none 0 0) (.slice none 0 0) (.slice none 0 0)).toArray, 33), ((w.heap.size + 1), #[.int .i64 1, .int .i64 fn, .slice AL l.length cL, .int .i64 pk, .int .i64 pv], 39), (w.heap.size, (tC (regN l 0) (.slice (some ⟨g, 0, none⟩) (fs.length - 1) cF) (.slice AR row.length cR) (.slice AS st.length cS)).toArray, 33)]) := ⟨by have K := BY.out.setPre 2 (ws 12 (fun _ => 0)) (ws 12 r) [(.slice (some ⟨g, 0, none⟩) (fs.length - 1) cF), (.slice AR row.length cR), (.slice AS st.length cS)] rfl (by rw [ws_len, ws_len]) rfl; rw [regN_zero l 12] at K ⊢; exact K⟩
  clear BY HB HR y12 y13 y14 q0 q1 q2 f12 f13 f14 hi
  go_upto_region 14 with ((with_reducible refine gate_store (t := 28) (p := 64) rfl ?_); refine wpList_store_mid rfl 28 _ _ rfl w.heap.size 0 (ws 12 (fun _ => 0)).toArray rfl rfl (fun j hj => THR.out j (Nat.lt_trans (by rw [List.size_toArray, ws_len] at hj; exact hj) (by decide))) (by kernel_rfl) one_ws ?_; generalize X1.setCells w.heap.size 0 (List.toArray (ws 12 (fun _ => 0))).toList = X2 at BX ⊢)
  go_wp2
  go_loopg [10] 12 (fun kx s10 wr => ∃ i : Nat, s10 = .int .i64 i ∧ i + kx = 12 ∧ i ≤ l.length ∧ Aside0 (Bxs w wr [((w.heap.size + 1 + 1), (tC (fun _ => 0) (.slice none 0 0) (.slice none 0 0) (.slice none 0 0)).toArray, 33), ((w.heap.size + 1), #[.int .i64 1, .int .i64 fn, .slice AL l.length cL, .int .i64 pk, .int .i64 pv], 39), (w.heap.size, (tC (regN l i) (.slice (some ⟨g, 0, none⟩) (fs.length - 1) cF) (.slice AR row.length cR) (.slice AS st.length cS)).toArray, 33)]))
  case atStart => exact ⟨0, rfl, rfl, Nat.zero_le _, BX⟩
  case round =>
    clear BX
    obtain ⟨i, rfl, hi, hil, BX⟩ := hrel
    have q2 : wr.cell? ⟨(w.heap.size + 1), 2, none⟩ = some (.slice AL l.length cL) := (BX.out.cell 1 2 rfl).trans rfl
    by_cases h1 : i < l.length
    · have d1 : (i : Int) < (l.length : Int) := by omega
      by_cases h2 : i < 12
      · have d2 : (i : Int) < 12 := by omega
        have lr : wr.cell? ⟨w.heap.size, i, none⟩ = some (.int .u64 (regN l i i)) := (BX.out.cell 2 i rfl).trans (by rw [List.getElem?_toArray]; unfold tC; rw [List.getElem?_append_left (by rw [ws_len]; exact h2), List.getElem?_eq_getElem (by rw [ws_len]; exact h2), ws_get _ _ _ h2])
        have lf := BX.out.frz 2 i rfl
        have BN : Aside0 (Bxs w (wr.setCell ⟨w.heap.size, i, none⟩ (.int .u64 l[i])) [((w.heap.size + 1 + 1), (tC (fun _ => 0) (.slice none 0 0) (.slice none 0 0) (.slice none 0 0)).toArray, 33), ((w.heap.size + 1), #[.int .i64 1, .int .i64 fn, .slice AL l.length cL, .int .i64 pk, .int .i64 pv], 39), (w.heap.size, (tC (regN l (i + 1)) (.slice (some ⟨g, 0, none⟩) (fs.length - 1) cF) (.slice AR row.length cR) (.slice AS st.length cS)).toArray, 33)]) := ⟨by have K := BX.out.set 2 i (.int .u64 l[i]) rfl rfl; rw [tC_set _ _ _ _ _ h2, regN_upd l i h1] at K; exact K⟩
        obtain ⟨ad, rfl, hcw⟩ := words_cells HL.out (by omega : 0 < l.length)
        have lc : wr.cell? (ad.add i) = some (.int .u64 l[i]) := by
          obtain ⟨ad2, e2, hc2⟩ := words_cells (Kd.C_below HL.out BX.out.old) (by omega : 0 < l.length)
          injection e2 with e2
          subst e2
          exact hc2 i _ (by rw [List.getElem?_map, List.getElem?_eq_getElem h1]; rfl)
        clear hcw HL HR0
        go_wp2
        go_roundg (12 - (i + 1))
        rotate_left
        · exact (show 12 - (i + 1) < _ by omega)
        · exact ⟨i + 1, by go_num, by omega, by omega, BN⟩
      · have d2 : ¬ (i : Int) < 12 := by omega
        go_wp2
        have R5 := (HR0.out.start (b4 := (w.heap.size + 1 + 1)) (by omega) BX.out.old)
        refine HKK.out _ _ ?_
        refine rdo_tail (r := regs l) (fs := fs.take (fs.length - 1)) ⟨?_⟩ ⟨⟨by rw [List.map_take]; exact OV.cut R5.fo (fs.length - 1) (Nat.sub_le _ _), R5.so, R5.sk, R5.ro⟩⟩
        have K := BX.out.sub (List.Sublist.cons_cons _ (List.Sublist.cons _ (List.Sublist.refl _)))
        unfold tC at K ⊢
        rw [regN_all (n := 12) (l := l) (i := i) (by omega)] at K
        exact K
    · have d1 : ¬ (i : Int) < (l.length : Int) := by omega
      go_wp2
      have R5 := (HR0.out.start (b4 := (w.heap.size + 1 + 1)) (by omega) BX.out.old)
      refine HKK.out _ _ ?_
      refine rdo_tail (r := regs l) (fs := fs.take (fs.length - 1)) ⟨?_⟩ ⟨⟨by rw [List.map_take]; exact OV.cut R5.fo (fs.length - 1) (Nat.sub_le _ _), R5.so, R5.sk, R5.ro⟩⟩
      have K := BX.out.sub (List.Sublist.cons_cons _ (List.Sublist.cons _ (List.Sublist.refl _)))
      unfold tC at K ⊢
      rw [regN_all (n := 12) (l := l) (i := i) (by omega)] at K
      exact K
set_option maxHeartbeats 4000000 in
set_option maxRecDepth 100000 in
theorem rdo_3 (h : RT w ok vF vR vS fs row st) (hok : ∀ k, w.heap.size ≤ k → ok k) {AL : Option Addr} {cL : Nat} {l : List Int} (fn pk pv : Int) (hm1 : fs.length ≤ 1000000) (hm2 : st.length ≤ 1000000)  :
    Calls Try.prog 14 #[.agg (tC r vF vR vS).toArray, .agg #[.int .i64 3, .int .i64 fn, .slice AL l.length cL, .int .i64 pk, .int .i64 pv]] w (RDone w ok r fs row (st ++ [IntKind.u64.wrap fn]) 0 false) := by
  have hu := Try.underlying33
  have huO := Try.underlying39
  obtain ⟨AF, cF, rfl, hcF⟩ := h.sF
  obtain ⟨AS, cS, rfl, hcS⟩ := h.sS
  obtain ⟨AR, cR, rfl⟩ := Kd.V_slice h.ro
  have HR0 := Aside0.mk h
  have HOK := Aside0.mk hok
  clear h hok
  go_enter Try.func14, Try.ntmps14
  go_upto_region 1 with (fail)
  refine gen2 (Φ := fun Y => Bxs w Y [((w.heap.size + 1 + 1), (tC (fun _ => 0) (.slice none 0 0) (.slice none 0 0) (.slice none 0 0)).toArray, 33), ((w.heap.size + 1), #[.int .i64 3, .int .i64 fn, .slice AL l.length cL, .int .i64 pk, .int .i64 pv], 39), (w.heap.size, (tC r (.slice AF fs.length cF) (.slice AR row.length cR) (.slice AS st.length cS)).toArray, 33)]) ((((Bxs.nil w).box _ _ rfl).box _ _ (n := w.heap.size + 1) (by simp)).box _ _ (n := w.heap.size + 1 + 1) (by simp)) ?_
  intro Y hB
  have HB := Aside0.mk hB
  have HR := Aside0.mk (HR0.out.start (b4 := (w.heap.size + 1 + 1)) (by omega) HB.out.old)
  have q0 : Y.cell? ⟨(w.heap.size + 1), 0, none⟩ = some (.int .i64 3) := (hB.cell 1 0 rfl).trans rfl
  have q1 : Y.cell? ⟨(w.heap.size + 1), 1, none⟩ = some (.int .i64 fn) := (hB.cell 1 1 rfl).trans rfl
  have q2 : Y.cell? ⟨(w.heap.size + 1), 2, none⟩ = some (.slice AL l.length cL) := (hB.cell 1 2 rfl).trans rfl
  have y12 : Y.cell? ⟨w.heap.size, 12, none⟩ = some (.slice AF fs.length cF) := (hB.cell 2 12 rfl).trans rfl
  have y13 : Y.cell? ⟨w.heap.size, 13, none⟩ = some (.slice AR row.length cR) := (hB.cell 2 13 rfl).trans rfl
  have y14 : Y.cell? ⟨w.heap.size, 14, none⟩ = some (.slice AS st.length cS) := (hB.cell 2 14 rfl).trans rfl
  have f12 := hB.frz 2 12 rfl
  have f13 := hB.frz 2 13 rfl
  have f14 := hB.frz 2 14 rfl
  clear hB
  go_upto_region 2 with (fail)
  rename_i KK hKK K2 hK2
  have HKK := Aside0.mk hKK
  clear hKK
  have HBD := Aside0.mk (Bxs.drew HB.out)
  have SO := Aside0.mk (HR0.out.so.below (HB.out.old))
  obtain ⟨iG, iG1, iZ, iG4a, iG5a⟩ := info_u64
  have SO : Aside0 (OV 27 1 Y.drew 0 (.slice AS st.length cS) (st.map fun x => [.int .u64 x])) := ⟨SO.out.move (fun _ _ _ _ => rfl)⟩
  have SZ : Aside0 (Y.drew.heap.size = Y.heap.size) := ⟨rfl⟩
  go_upto_region 23 with (fail)
  refine start_ (n := 11) (S := fun W' => W'.cell? ⟨w.heap.size, 14, none⟩ = some (.slice AS st.length cS) ∧ W'.cell? ⟨(w.heap.size + 1), 1, none⟩ = some (.int .i64 fn)) (ds := [8, 10]) #[false, false, false, false, false, false, false, false, false, false, false] (by kernel_rfl) rfl rfl ⟨y14, q1⟩ (fun hHeld => ?_); refine with_tabW rd23_tab rd23_bits (fun HT_ HW_ => ?_)
  generalize Y.drew = wd_ at y14 q1 HBD SO SZ hHeld ⊢
  have hH0_ := hHeld; obtain ⟨c0_, c1_⟩ := hH0_
  refine pure_ (i := 1) (N := some 101) (v := ?_) (a' := ?_) #[false, true, false, false, false, false, false, false, false, false, false] rfl rfl (any_of HT_.out (by kernel_rfl)) (fun _ _ _ h => h) (Or.inl ⟨by rfl, ?_⟩) ?_ ?_
  rotate_left
  · intro w'
    go_simp
    with_reducible rfl
  rotate_left
  · simp only [Act.put, List.setIfInBounds_toArray, List.set_cons_zero, List.set_cons_succ, i64_w, i32_w]
    rfl
  refine pure_ (i := 4) (N := some 104) (v := ?_) (a' := ?_) #[false, true, false, false, true, false, false, false, false, false, false] rfl rfl (any_of HT_.out (by kernel_rfl)) (fun _ _ _ h => h) (Or.inl ⟨by rfl, ?_⟩) ?_ ?_
  rotate_left
  · intro w'
    go_simp
    with_reducible rfl
  rotate_left
  · simp only [Act.put, List.setIfInBounds_toArray, List.set_cons_zero, List.set_cons_succ, i64_w, i32_w]
    rfl
  refine take_ (i := 2) (N := some 102) (v := ?_) (a' := ?_) #[false, true, true, false, true, false, false, false, false, false, false] rfl rfl (take_ofW HT_.out HW_.out (by kernel_rfl)) (fun _ _ _ h => h) (Or.inl ⟨by rfl, ?_⟩) hHeld ?_ ?_
  rotate_left
  · rintro w' ⟨s0, s1⟩
    go_simp
    with_reducible rfl
  rotate_left
  · simp only [Act.put, List.setIfInBounds_toArray, List.set_cons_zero, List.set_cons_succ, i64_w, i32_w]
    rfl
  refine take_ (i := 5) (N := some 105) (v := ?_) (a' := ?_) #[false, true, true, false, true, true, false, false, false, false, false] rfl rfl (take_ofW HT_.out HW_.out (by kernel_rfl)) (fun _ _ _ h => h) (Or.inl ⟨by rfl, ?_⟩) hHeld ?_ ?_
  rotate_left
  · rintro w' ⟨s0, s1⟩
    go_simp
    with_reducible rfl
  rotate_left
  · simp only [Act.put, List.setIfInBounds_toArray, List.set_cons_zero, List.set_cons_succ, i64_w, i32_w]
    rfl
  refine pure_ (i := 6) (N := some 106) (v := ?_) (a' := ?_) #[false, true, true, false, true, true, true, false, false, false, false] rfl rfl (any_of HT_.out (by kernel_rfl)) (fun _ _ _ h => h) (Or.inl ⟨by rfl, ?_⟩) ?_ ?_
  rotate_left
  · intro w'
    go_simp
    with_reducible rfl
  rotate_left
  · simp only [Act.put, List.setIfInBounds_toArray, List.set_cons_zero, List.set_cons_succ, i64_w, i32_w]
    rfl
  have FR0 := Aside0.mk (AFr.start 27 1 wd_ ([.int .u64 (IntKind.u64.wrap fn)]))
  refine join_ (σ := Nat × Value × Nat) 3 #[true, true, true, true, true, true, true, true, false, false, false] (fun s_ => [(100, .slice (some ⟨s_.1, 0, none⟩) 0 0), (103, s_.2.1), (107, .slice (some ⟨s_.2.2, 0, none⟩) 1 1)]) (fun s_ w' => (w'.cell? ⟨w.heap.size, 14, none⟩ = some (.slice AS st.length cS) ∧ w'.cell? ⟨(w.heap.size + 1), 1, none⟩ = some (.int .i64 fn)) ∧ Aside0 (AFr 27 1 wd_ ([.int .u64 (IntKind.u64.wrap fn)]) (some (s_.2.1, [] ++ st.map (fun x => [.int .u64 x]))) (some s_.2.2) w')) ?_ ?_
  rotate_left
  · intro hCont
    refine two_ (i := 0) (j := 7) (Ni := some 100) (Nj := some 107) #[true, true, true, false, true, true, true, false, false, false, false] #[false, true, true, false, true, true, true, true, false, false, false] rfl rfl rfl rfl (two_of HT_.out (by kernel_rfl)) (by decide) (by decide) (fun K hK => ?_) (fun K hK => ?_)
    · skip
      refine slice_step (by rfl) (N := 100) rfl (cs := #[]) (t := 27) (n := 0) ?hr ?_; (case hr => first | (go_simp; done) | (go_simp; rfl))
      intro g100 hg wq hbox hb
      have FR1 := Aside0.mk (AFr.made FR0.out hg hbox hb)
      clear hg hbox hb
      refine hK.out _ _ ⟨(pw_cell_below FR1.out.b c0_), (pw_cell_below FR1.out.b c1_)⟩ (fun hHeld => ?_)
      clear hK K
      refine norm_ (a' := ?_) ?_ ?_
      rotate_left
      · show Act.put _ (some 100) _ = _
        simp only [Act.put, List.setIfInBounds_toArray, List.set_cons_zero, List.set_cons_succ, i64_w, i32_w]
        rfl
      refine two_ (i := 3) (j := 7) (Ni := some 103) (Nj := some 107) #[true, true, true, true, true, true, true, false, false, false, false] #[true, true, true, false, true, true, true, true, false, false, false] rfl rfl rfl rfl (two_of HT_.out (by kernel_rfl)) (by decide) (by decide) (fun K hK => ?_) (fun K hK => ?_)
      · skip
        obtain ⟨v103, wq, r1_, r2_, r3_, r4_⟩ := append_rows (t := 31) (ty := 31) Try.underlying31 iG1 iZ iG4a iG5a rfl (by decide) (FR1.out.A _ _ rfl) SO.out FR1.out.b (fun r hr x hx => by obtain ⟨y, _, rfl⟩ := List.mem_map.1 hr; rw [List.mem_singleton.1 hx]; rfl) (by rw [List.length_map, List.length_nil]; omega) (by rw [List.length_map, List.length_nil]; unfold maxLen; omega) FR1.out.b.size
        refine step_append_at rfl _ _ 31 rfl _ _ rfl rfl r1_ ?_
        have FR2 := Aside0.mk (AFr.app FR1.out r2_ r3_ r4_)
        clear r1_ r2_ r3_ r4_
        refine hK.out _ _ ⟨(pw_cell_below FR2.out.b c0_), (pw_cell_below FR2.out.b c1_)⟩ (fun hHeld => ?_)
        clear hK K
        refine norm_ (a' := ?_) ?_ ?_
        rotate_left
        · show Act.put _ (some 103) _ = _
          simp only [Act.put, List.setIfInBounds_toArray, List.set_cons_zero, List.set_cons_succ, i64_w, i32_w]
          rfl
        refine one_ (i := 7) (N := some 107) #[true, true, true, true, true, true, true, true, false, false, false] rfl rfl (one_of HT_.out (by kernel_rfl)) (by decide) (fun K hK => ?_)
        skip
        refine slice_step (by rfl) (N := 107) rfl (cs := ([.int .u64 (IntKind.u64.wrap fn)]).toArray) (t := 27) (n := 1) ?hr ?_; (case hr => first | (go_simp; done) | (go_simp; rfl))
        intro g107 hg wq hbox hb
        have FR3 := Aside0.mk (AFr.box FR2.out hg hbox hb)
        clear hg hbox hb
        refine hK.out _ _ ⟨(pw_cell_below FR3.out.b c0_), (pw_cell_below FR3.out.b c1_)⟩ (fun hHeld => ?_)
        clear hK K
        refine norm_ (a' := ?_) ?_ ?_
        rotate_left
        · show Act.put _ (some 107) _ = _
          simp only [Act.put, List.setIfInBounds_toArray, List.set_cons_zero, List.set_cons_succ, i64_w, i32_w]
          rfl
        exact norm_ (by simp only [putAll, Act.put, List.setIfInBounds_toArray, List.set_cons_zero, List.set_cons_succ]) (hCont (g100, v103, g107) _ ⟨hHeld, FR3⟩)
      · skip
        refine slice_step (by rfl) (N := 107) rfl (cs := ([.int .u64 (IntKind.u64.wrap fn)]).toArray) (t := 27) (n := 1) ?hr ?_; (case hr => first | (go_simp; done) | (go_simp; rfl))
        intro g107 hg wq hbox hb
        have FR4 := Aside0.mk (AFr.box FR1.out hg hbox hb)
        clear hg hbox hb
        refine hK.out _ _ ⟨(pw_cell_below FR4.out.b c0_), (pw_cell_below FR4.out.b c1_)⟩ (fun hHeld => ?_)
        clear hK K
        refine norm_ (a' := ?_) ?_ ?_
        rotate_left
        · show Act.put _ (some 107) _ = _
          simp only [Act.put, List.setIfInBounds_toArray, List.set_cons_zero, List.set_cons_succ, i64_w, i32_w]
          rfl
        refine one_ (i := 3) (N := some 103) #[true, true, true, true, true, true, true, true, false, false, false] rfl rfl (one_of HT_.out (by kernel_rfl)) (by decide) (fun K hK => ?_)
        skip
        obtain ⟨v103, wq, r1_, r2_, r3_, r4_⟩ := append_rows (t := 31) (ty := 31) Try.underlying31 iG1 iZ iG4a iG5a rfl (by decide) (FR4.out.A _ _ rfl) SO.out FR4.out.b (fun r hr x hx => by obtain ⟨y, _, rfl⟩ := List.mem_map.1 hr; rw [List.mem_singleton.1 hx]; rfl) (by rw [List.length_map, List.length_nil]; omega) (by rw [List.length_map, List.length_nil]; unfold maxLen; omega) FR4.out.b.size
        refine step_append_at rfl _ _ 31 rfl _ _ rfl rfl r1_ ?_
        have FR5 := Aside0.mk (AFr.app FR4.out r2_ r3_ r4_)
        clear r1_ r2_ r3_ r4_
        refine hK.out _ _ ⟨(pw_cell_below FR5.out.b c0_), (pw_cell_below FR5.out.b c1_)⟩ (fun hHeld => ?_)
        clear hK K
        refine norm_ (a' := ?_) ?_ ?_
        rotate_left
        · show Act.put _ (some 103) _ = _
          simp only [Act.put, List.setIfInBounds_toArray, List.set_cons_zero, List.set_cons_succ, i64_w, i32_w]
          rfl
        exact norm_ (by simp only [putAll, Act.put, List.setIfInBounds_toArray, List.set_cons_zero, List.set_cons_succ]) (hCont (g100, v103, g107) _ ⟨hHeld, FR5⟩)
    · skip
      refine slice_step (by rfl) (N := 107) rfl (cs := ([.int .u64 (IntKind.u64.wrap fn)]).toArray) (t := 27) (n := 1) ?hr ?_; (case hr => first | (go_simp; done) | (go_simp; rfl))
      intro g107 hg wq hbox hb
      have FR6 := Aside0.mk (AFr.box FR0.out hg hbox hb)
      clear hg hbox hb
      refine hK.out _ _ ⟨(pw_cell_below FR6.out.b c0_), (pw_cell_below FR6.out.b c1_)⟩ (fun hHeld => ?_)
      clear hK K
      refine norm_ (a' := ?_) ?_ ?_
      rotate_left
      · show Act.put _ (some 107) _ = _
        simp only [Act.put, List.setIfInBounds_toArray, List.set_cons_zero, List.set_cons_succ, i64_w, i32_w]
        rfl
      refine one_ (i := 0) (N := some 100) #[true, true, true, false, true, true, true, true, false, false, false] rfl rfl (one_of HT_.out (by kernel_rfl)) (by decide) (fun K hK => ?_)
      skip
      refine slice_step (by rfl) (N := 100) rfl (cs := #[]) (t := 27) (n := 0) ?hr ?_; (case hr => first | (go_simp; done) | (go_simp; rfl))
      intro g100 hg wq hbox hb
      have FR7 := Aside0.mk (AFr.made FR6.out hg hbox hb)
      clear hg hbox hb
      refine hK.out _ _ ⟨(pw_cell_below FR7.out.b c0_), (pw_cell_below FR7.out.b c1_)⟩ (fun hHeld => ?_)
      clear hK K
      refine norm_ (a' := ?_) ?_ ?_
      rotate_left
      · show Act.put _ (some 100) _ = _
        simp only [Act.put, List.setIfInBounds_toArray, List.set_cons_zero, List.set_cons_succ, i64_w, i32_w]
        rfl
      refine one_ (i := 3) (N := some 103) #[true, true, true, true, true, true, true, true, false, false, false] rfl rfl (one_of HT_.out (by kernel_rfl)) (by decide) (fun K hK => ?_)
      skip
      obtain ⟨v103, wq, r1_, r2_, r3_, r4_⟩ := append_rows (t := 31) (ty := 31) Try.underlying31 iG1 iZ iG4a iG5a rfl (by decide) (FR7.out.A _ _ rfl) SO.out FR7.out.b (fun r hr x hx => by obtain ⟨y, _, rfl⟩ := List.mem_map.1 hr; rw [List.mem_singleton.1 hx]; rfl) (by rw [List.length_map, List.length_nil]; omega) (by rw [List.length_map, List.length_nil]; unfold maxLen; omega) FR7.out.b.size
      refine step_append_at rfl _ _ 31 rfl _ _ rfl rfl r1_ ?_
      have FR8 := Aside0.mk (AFr.app FR7.out r2_ r3_ r4_)
      clear r1_ r2_ r3_ r4_
      refine hK.out _ _ ⟨(pw_cell_below FR8.out.b c0_), (pw_cell_below FR8.out.b c1_)⟩ (fun hHeld => ?_)
      clear hK K
      refine norm_ (a' := ?_) ?_ ?_
      rotate_left
      · show Act.put _ (some 103) _ = _
        simp only [Act.put, List.setIfInBounds_toArray, List.set_cons_zero, List.set_cons_succ, i64_w, i32_w]
        rfl
      exact norm_ (by simp only [putAll, Act.put, List.setIfInBounds_toArray, List.set_cons_zero, List.set_cons_succ]) (hCont (g100, v103, g107) _ ⟨hHeld, FR8⟩)
  rintro ⟨g100, v103, g107⟩ wj ⟨hHeld, FJ⟩
  refine norm_ (a' := ?_) ?_ ?_
  rotate_left
  · simp only [putAll, Act.put, List.setIfInBounds_toArray, List.set_cons_zero, List.set_cons_succ]
    rfl
  refine last_ (i := 8) (N := some 108) #[true, true, true, true, true, true, true, true, true, false, false] rfl rfl (one_of HT_.out (by kernel_rfl)) (by decide) (fun K hK => ?_)
  obtain ⟨v108, w6, r1_, r2_, r3_, r4_⟩ := append_rows (t := 31) (ty := 31) Try.underlying31 iG1 iZ iG4a iG5a rfl (by decide) (FJ.out.A _ _ rfl) (one_row (FJ.out.B _ rfl).1 (by rfl)) (Below.refl _ _) (fun r hr x hx => by rw [List.mem_singleton.1 hr] at hx; rw [List.mem_singleton.1 hx]; rfl) (by rw [List.nil_append, List.length_map, List.length_singleton]; omega) (by rw [List.nil_append, List.length_map, List.length_singleton]; unfold maxLen; omega) FJ.out.b.size
  have B6 := Aside0.mk (FJ.out.b.grown r3_ FJ.out.b.size (fun k hk => (OV.base (FJ.out.A _ _ rfl) hk).1))
  have O6 := Aside0.mk r2_
  have HB6 := Aside0.mk (HBD.out.below B6.out)
  obtain ⟨A108, c108, e_, _⟩ := OV.slice r2_
  simp only [List.nil_append, List.length_append, List.length_map, List.length_singleton] at e_
  subst e_
  have f14b := HB6.out.frz 2 14 rfl
  have y14b : w6.cell? ⟨w.heap.size, 14, none⟩ = some (.slice AS st.length cS) := (HB6.out.cell 2 14 rfl).trans rfl
  refine step_append_at rfl _ _ 31 rfl _ _ rfl rfl r1_ ?_
  clear r1_ r2_ r3_ r4_
  refine hK.out _ _ ?_
  clear hK K
  refine norm_ (a' := ?_) ?_ ?_
  rotate_left
  · show Act.put _ (some 108) _ = _
    simp only [Act.put, List.setIfInBounds_toArray, List.set_cons_zero, List.set_cons_succ, i64_w, i32_w]
    rfl
  refine pure_ (i := 9) (N := some 109) (v := ?_) (a' := ?_) #[true, true, true, true, true, true, true, true, true, true, false] rfl rfl (any_of HT_.out (by kernel_rfl)) (fun _ _ _ h => h) (Or.inl ⟨by rfl, ?_⟩) ?_ ?_
  rotate_left
  · intro w'
    go_simp
    with_reducible rfl
  rotate_left
  · simp only [Act.put, List.setIfInBounds_toArray, List.set_cons_zero, List.set_cons_succ, i64_w, i32_w]
    rfl
  refine last_ (i := 10) (N := none) #[true, true, true, true, true, true, true, true, true, true, true] rfl rfl (one_of HT_.out (by kernel_rfl)) (by decide) (fun K hK => ?_)
  refine skip_ (w1 := ?_) (by rfl) rfl ?_ ?_
  rotate_left
  · go_simp
    with_reducible rfl
  refine hK.out _ _ ?_
  clear hK K
  refine done_ (done_of HT_.out (by kernel_rfl)) ?_
  go_wp2
  have BX : Aside0 (Bxs w (w6.setCell ⟨w.heap.size, 14, none⟩ (.slice A108 (st.length + 1) c108)) [((w.heap.size + 1 + 1), (tC (fun _ => 0) (.slice none 0 0) (.slice none 0 0) (.slice none 0 0)).toArray, 33), ((w.heap.size + 1), #[.int .i64 3, .int .i64 fn, .slice AL l.length cL, .int .i64 pk, .int .i64 pv], 39), (w.heap.size, (tC r (.slice AF fs.length cF) (.slice AR row.length cR) (.slice A108 (st.length + 1) c108)).toArray, 33)]) := ⟨HB6.out.set 2 14 _ rfl rfl⟩
  have R5 := (HR0.out.start (b4 := (w.heap.size + 1 + 1)) (by omega) BX.out.old)
  have hz := SZ.out
  have h4 := HB.out.lt 0 rfl
  refine HKK.out _ _ ?_
  refine rdo_tail (vS := .slice A108 (st.length + 1) c108) ⟨BX.out.sub (List.Sublist.cons_cons _ (List.Sublist.cons _ (List.Sublist.refl _)))⟩ ⟨⟨R5.fo, ?_, fun k hk => ?_, R5.ro⟩⟩
  · rw [List.map_append]
    refine (OV.lower O6.out (Nat.zero_le _)).move (fun k _ _ hk => Below.heap_setCell w6 ⟨w.heap.size, 14, none⟩ _ k (fun e => ?_))
    have := (OV.base O6.out hk).1
    have := HB.out.lt 2 rfl
    have e2 : k = w.heap.size := e
    omega
  · have h5 := (OV.base O6.out hk).1
    exact ⟨HOK.out k (by have := HB.out.old.size; omega), by omega⟩
set_option maxHeartbeats 4000000 in
set_option maxRecDepth 100000 in
theorem rdo_0 (h : RT w ok vF vR vS fs row st) (hok : ∀ k, w.heap.size ≤ k → ok k) {AL : Option Addr} {cL : Nat} {l : List Int} (fn pk pv : Int) (hm1 : fs.length ≤ 1000000) (hm2 : st.length ≤ 1000000) (hL : Kd.C (Kd.int .u64) w AL l.length l) (hcL : l.length ≤ cL) (hl : l.length ≤ 1000000) :
    Calls Try.prog 14 #[.agg (tC r vF vR vS).toArray, .agg #[.int .i64 0, .int .i64 fn, .slice AL l.length cL, .int .i64 pk, .int .i64 pv]] w (RDone w ok r (fs ++ [(fn, 0, regs l)]) row st 0 false) := by
  have hu := Try.underlying33
  have huO := Try.underlying39
  obtain ⟨AF, cF, rfl, hcF⟩ := h.sF
  obtain ⟨AS, cS, rfl, hcS⟩ := h.sS
  obtain ⟨AR, cR, rfl⟩ := Kd.V_slice h.ro
  have HR0 := Aside0.mk h
  have HOK := Aside0.mk hok
  clear h hok
  go_enter Try.func14, Try.ntmps14
  go_upto_region 1 with (fail)
  refine gen2 (Φ := fun Y => Bxs w Y [((w.heap.size + 1 + 1), (tC (fun _ => 0) (.slice none 0 0) (.slice none 0 0) (.slice none 0 0)).toArray, 33), ((w.heap.size + 1), #[.int .i64 0, .int .i64 fn, .slice AL l.length cL, .int .i64 pk, .int .i64 pv], 39), (w.heap.size, (tC r (.slice AF fs.length cF) (.slice AR row.length cR) (.slice AS st.length cS)).toArray, 33)]) ((((Bxs.nil w).box _ _ rfl).box _ _ (n := w.heap.size + 1) (by simp)).box _ _ (n := w.heap.size + 1 + 1) (by simp)) ?_
  intro Y hB
  have HB := Aside0.mk hB
  have HR := Aside0.mk (HR0.out.start (b4 := (w.heap.size + 1 + 1)) (by omega) HB.out.old)
  have q0 : Y.cell? ⟨(w.heap.size + 1), 0, none⟩ = some (.int .i64 0) := (hB.cell 1 0 rfl).trans rfl
  have q1 : Y.cell? ⟨(w.heap.size + 1), 1, none⟩ = some (.int .i64 fn) := (hB.cell 1 1 rfl).trans rfl
  have q2 : Y.cell? ⟨(w.heap.size + 1), 2, none⟩ = some (.slice AL l.length cL) := (hB.cell 1 2 rfl).trans rfl
  have y12 : Y.cell? ⟨w.heap.size, 12, none⟩ = some (.slice AF fs.length cF) := (hB.cell 2 12 rfl).trans rfl
  have y13 : Y.cell? ⟨w.heap.size, 13, none⟩ = some (.slice AR row.length cR) := (hB.cell 2 13 rfl).trans rfl
  have y14 : Y.cell? ⟨w.heap.size, 14, none⟩ = some (.slice AS st.length cS) := (hB.cell 2 14 rfl).trans rfl
  have f12 := hB.frz 2 12 rfl
  have f13 := hB.frz 2 13 rfl
  have f14 := hB.frz 2 14 rfl
  clear hB
  go_upto_region 2 with (fail)
  rename_i KK hKK K2 hK2
  have HKK := Aside0.mk hKK
  clear hKK
  have HL := Aside0.mk hL
  clear hL
  have huG := Try.underlying113
  have hu48 := Try.underlying48
  have THR := Aside0.mk (thr_g Y (fn, 0, fun _ => 0))
  have ONE := Aside0.mk (all_oneCell_toArray (one_gC (fn, 0, fun _ => 0)))
  have BX : Aside0 (Bxs w ((Y.alloc (.cells (gC (0, 0, fun _ => 0)).toArray 113 (0, 0))).setCells Y.heap.size 0 (gC (fn, 0, fun _ => 0))) ((Y.heap.size, (gC (fn, 0, regN l 0)).toArray, 113) :: [((w.heap.size + 1 + 1), (tC (fun _ => 0) (.slice none 0 0) (.slice none 0 0) (.slice none 0 0)).toArray, 33), ((w.heap.size + 1), #[.int .i64 0, .int .i64 fn, .slice AL l.length cL, .int .i64 pk, .int .i64 pv], 39), (w.heap.size, (tC r (.slice AF fs.length cF) (.slice AR row.length cR) (.slice AS st.length cS)).toArray, 33)])) := ⟨by have K := (HB.out.box (gC (0, 0, fun _ => 0)).toArray 113 rfl).setAll 0 (gC (fn, 0, fun _ => 0)) rfl (by rw [List.size_toArray, gC_len, gC_len]) rfl; unfold gC at K ⊢; rw [regN_zero l 24] at K ⊢; exact K⟩
  go_upto_region 5 with ((with_reducible refine gate_store (t := 113) (p := 8) rfl ?_); refine wpList_store_mid rfl 113 _ _ rfl Y.heap.size 0 (gC (fn, 0, fun _ => 0)).toArray rfl rfl THR.out (by kernel_rfl) ONE.out ?_)
  refine gen2 (Φ := fun X => Bxs w X ((Y.heap.size, (gC (fn, 0, regN l 0)).toArray, 113) :: [((w.heap.size + 1 + 1), (tC (fun _ => 0) (.slice none 0 0) (.slice none 0 0) (.slice none 0 0)).toArray, 33), ((w.heap.size + 1), #[.int .i64 0, .int .i64 fn, .slice AL l.length cL, .int .i64 pk, .int .i64 pv], 39), (w.heap.size, (tC r (.slice AF fs.length cF) (.slice AR row.length cR) (.slice AS st.length cS)).toArray, 33)])) BX.out ?_
  clear BX
  intro X2 BX
  have BX := Aside0.mk BX
  clear THR ONE y12 y13 y14 f12 f13 f14 q0 q1 q2 HR
  have LB : Aside0 (w.heap.size + 2 < Y.heap.size) := ⟨HB.out.lt 0 rfl⟩
  clear HB
  generalize Y.heap.size = b8 at BX LB ⊢
  go_upto_block 1 with fail
  go_cut [9] (fun s9 wc => Aside0 (Bxs w wc ((b8, (gC (fn, 0, regs l)).toArray, 113) :: [((w.heap.size + 1 + 1), (tC (fun _ => 0) (.slice none 0 0) (.slice none 0 0) (.slice none 0 0)).toArray, 33), ((w.heap.size + 1), #[.int .i64 0, .int .i64 fn, .slice AL l.length cL, .int .i64 pk, .int .i64 pv], 39), (w.heap.size, (tC r (.slice AF fs.length cF) (.slice AR row.length cR) (.slice AS st.length cS)).toArray, 33)])))
  case first =>
    go_wp2
    go_loopg [9] 24 (fun kx s9 wr => ∃ i : Nat, s9 = .int .i64 i ∧ i + kx = 24 ∧ i ≤ l.length ∧ Aside0 (Bxs w wr ((b8, (gC (fn, 0, regN l i)).toArray, 113) :: [((w.heap.size + 1 + 1), (tC (fun _ => 0) (.slice none 0 0) (.slice none 0 0) (.slice none 0 0)).toArray, 33), ((w.heap.size + 1), #[.int .i64 0, .int .i64 fn, .slice AL l.length cL, .int .i64 pk, .int .i64 pv], 39), (w.heap.size, (tC r (.slice AF fs.length cF) (.slice AR row.length cR) (.slice AS st.length cS)).toArray, 33)])))
    case atStart => exact ⟨0, rfl, rfl, Nat.zero_le _, BX⟩
    case round =>
      clear BX
      obtain ⟨i, rfl, hi, hil, BX⟩ := hrel
      have q2 : wr.cell? ⟨(w.heap.size + 1), 2, none⟩ = some (.slice AL l.length cL) := (BX.out.cell 2 2 rfl).trans rfl
      by_cases h1 : i < l.length
      · have d1 : (i : Int) < (l.length : Int) := by omega
        by_cases h2 : i < 24
        · have d2 : (i : Int) < 24 := by omega
          have lr : wr.cell? ⟨b8, 2 + i, none⟩ = some (.int .u64 (regN l i i)) := (BX.out.cell 0 (2 + i) rfl).trans (by rw [List.getElem?_toArray]; unfold gC; rw [Nat.add_comm, List.getElem?_cons_succ, List.getElem?_cons_succ, List.getElem?_eq_getElem (by rw [ws_len]; exact h2), ws_get _ _ _ h2])
          have lf := BX.out.frz 0 (2 + i) rfl
          have BN : Aside0 (Bxs w (wr.setCell ⟨b8, 2 + i, none⟩ (.int .u64 l[i])) ((b8, (gC (fn, 0, regN l (i + 1))).toArray, 113) :: [((w.heap.size + 1 + 1), (tC (fun _ => 0) (.slice none 0 0) (.slice none 0 0) (.slice none 0 0)).toArray, 33), ((w.heap.size + 1), #[.int .i64 0, .int .i64 fn, .slice AL l.length cL, .int .i64 pk, .int .i64 pv], 39), (w.heap.size, (tC r (.slice AF fs.length cF) (.slice AR row.length cR) (.slice AS st.length cS)).toArray, 33)])) := ⟨by have K := BX.out.set 0 (2 + i) (.int .u64 l[i]) rfl rfl; rw [gC_set _ _ _ _ h2, regN_upd l i h1] at K; exact K⟩
          obtain ⟨ad, rfl, hcw⟩ := words_cells HL.out (by omega : 0 < l.length)
          have lc : wr.cell? (ad.add i) = some (.int .u64 l[i]) := by
            obtain ⟨ad2, e2, hc2⟩ := words_cells (Kd.C_below HL.out BX.out.old) (by omega : 0 < l.length)
            injection e2 with e2
            subst e2
            exact hc2 i _ (by rw [List.getElem?_map, List.getElem?_eq_getElem h1]; rfl)
          clear hcw HL HR0
          go_wp2
          go_roundg (24 - (i + 1))
          rotate_left
          · exact (show 24 - (i + 1) < _ by omega)
          · exact ⟨i + 1, by go_num, by omega, by omega, BN⟩
        · have d2 : ¬ (i : Int) < 24 := by omega
          go_wp2
          go_meet
          refine ⟨?_⟩
          have K := BX.out
          unfold gC at K ⊢
          rw [regN_all (n := 24) (l := l) (i := i) (by omega)] at K
          exact K
      · have d1 : ¬ (i : Int) < (l.length : Int) := by omega
        go_wp2
        go_meet
        refine ⟨?_⟩
        have K := BX.out
        unfold gC at K ⊢
        rw [regN_all (n := 24) (l := l) (i := i) (by omega)] at K
        exact K
  case rest =>
    have BC := hcut
    clear BX
    have y12c : wc.cell? ⟨w.heap.size, 12, none⟩ = some (.slice AF fs.length cF) := (BC.out.cell 3 12 rfl).trans rfl
    have RG : wc.rangeAt b8 0 (gC (fn, 0, regs l)) := BC.out.rng 0 rfl
    have HBD := Aside0.mk (Bxs.drew BC.out)
    have SO : Aside0 (OV 113 26 wc.drew 0 (.slice AF fs.length cF) (fs.map gC)) := ⟨(HR0.out.fo.below BC.out.old).move (fun _ _ _ _ => rfl)⟩
    have SZ : Aside0 (wc.drew.heap.size = wc.heap.size) := ⟨rfl⟩
    clear HL
    go_upto_region 9 with (fail)
    refine start_ (n := 9) (S := fun W' => W'.cell? ⟨w.heap.size, 12, none⟩ = some (.slice AF fs.length cF) ∧ W'.rangeAt b8 0 (gC (fn, 0, regs l))) (ds := [6, 8]) #[false, false, false, false, false, false, false, false, false] (by kernel_rfl) rfl rfl ⟨y12c, RG⟩ (fun hHeld => ?_); refine with_tabW rd9_tab rd9_bits (fun HT_ HW_ => ?_)
    generalize wc.drew = wd_ at y12c RG HBD SO SZ hHeld ⊢
    have hH0_ := hHeld; obtain ⟨c0_, c1_⟩ := hH0_
    refine pure_ (i := 1) (N := some 46) (v := ?_) (a' := ?_) #[false, true, false, false, false, false, false, false, false] rfl rfl (any_of HT_.out (by kernel_rfl)) (fun _ _ _ h => h) (Or.inl ⟨by rfl, ?_⟩) ?_ ?_
    rotate_left
    · intro w'
      go_simp
      with_reducible rfl
    rotate_left
    · simp only [Act.put, List.setIfInBounds_toArray, List.set_cons_zero, List.set_cons_succ, i64_w, i32_w]
      rfl
    refine take_ (i := 2) (N := some 47) (v := ?_) (a' := ?_) #[false, true, true, false, false, false, false, false, false] rfl rfl (take_ofW HT_.out HW_.out (by kernel_rfl)) (fun _ _ _ h => h) (Or.inl ⟨by rfl, ?_⟩) hHeld ?_ ?_
    rotate_left
    · rintro w' ⟨s0, s1⟩
      go_simp
      with_reducible rfl
    rotate_left
    · simp only [Act.put, List.setIfInBounds_toArray, List.set_cons_zero, List.set_cons_succ, i64_w, i32_w]
      rfl
    refine take_ (i := 4) (N := some 49) (v := .agg (gC (fn, 0, regs l)).toArray) (a' := ?_) #[false, true, true, false, true, false, false, false, false] rfl rfl (take_ofW HT_.out HW_.out (by kernel_rfl)) (fun _ _ _ h => h) ?hy hHeld ?_ ?_
    (case hy => exact yieldsIf_load_mid (by rfl) 113 _ rfl b8 0 rfl (gC (fn, 0, regs l)) _ (fun _ h => h.2) Try.underlying113 rfl (by kernel_rfl))
    rotate_left
    · simp only [Act.put, List.setIfInBounds_toArray, List.set_cons_zero, List.set_cons_succ, i64_w, i32_w]
      rfl
    have FR0 := Aside0.mk (AFr.start 113 26 wd_ (gC (fn, 0, regs l)))
    refine join_ (σ := Nat × Value × Nat) 3 #[true, true, true, true, true, true, false, false, false] (fun s_ => [(45, .slice (some ⟨s_.1, 0, none⟩) 0 0), (48, s_.2.1), (50, .slice (some ⟨s_.2.2, 0, none⟩) 1 1)]) (fun s_ w' => (w'.cell? ⟨w.heap.size, 12, none⟩ = some (.slice AF fs.length cF) ∧ w'.rangeAt b8 0 (gC (fn, 0, regs l))) ∧ Aside0 (AFr 113 26 wd_ (gC (fn, 0, regs l)) (some (s_.2.1, [] ++ fs.map gC)) (some s_.2.2) w')) ?_ ?_
    rotate_left
    · intro hCont
      refine two_ (i := 0) (j := 5) (Ni := some 45) (Nj := some 50) #[true, true, true, false, true, false, false, false, false] #[false, true, true, false, true, true, false, false, false] rfl rfl rfl rfl (two_of HT_.out (by kernel_rfl)) (by decide) (by decide) (fun K hK => ?_) (fun K hK => ?_)
      · skip
        refine slice_step (by rfl) (N := 45) rfl (cs := #[]) (t := 113) (n := 0) ?hr ?_; (case hr => first | (go_simp; done) | (go_simp; rfl))
        intro g45 hg wq hbox hb
        have FR1 := Aside0.mk (AFr.made FR0.out hg hbox hb)
        clear hg hbox hb
        refine hK.out _ _ ⟨(pw_cell_below FR1.out.b c0_), (rng_below FR1.out.b c1_)⟩ (fun hHeld => ?_)
        clear hK K
        refine norm_ (a' := ?_) ?_ ?_
        rotate_left
        · show Act.put _ (some 45) _ = _
          simp only [Act.put, List.setIfInBounds_toArray, List.set_cons_zero, List.set_cons_succ, i64_w, i32_w]
          rfl
        refine two_ (i := 3) (j := 5) (Ni := some 48) (Nj := some 50) #[true, true, true, true, true, false, false, false, false] #[true, true, true, false, true, true, false, false, false] rfl rfl rfl rfl (two_of HT_.out (by kernel_rfl)) (by decide) (by decide) (fun K hK => ?_) (fun K hK => ?_)
        · skip
          obtain ⟨iG, iz, iG1, iG2, iG3, iG4, iG5⟩ := info_g
          obtain ⟨v48, wq, r1_, r2_, r3_, r4_⟩ := append_rows (t := 29) (ty := 29) Try.underlying29 iG1 iG2 iG3 iG4 iG5 (by decide) (FR1.out.A _ _ rfl) SO.out FR1.out.b (fun r hr x hx => by obtain ⟨y, _, rfl⟩ := List.mem_map.1 hr; exact one_gC y x hx) (by rw [List.length_map, List.length_nil]; omega) (by rw [List.length_map, List.length_nil]; unfold maxLen; omega) FR1.out.b.size
          refine step_append_at rfl _ _ 29 rfl _ _ rfl rfl r1_ ?_
          have FR2 := Aside0.mk (AFr.app FR1.out r2_ r3_ r4_)
          clear r1_ r2_ r3_ r4_
          refine hK.out _ _ ⟨(pw_cell_below FR2.out.b c0_), (rng_below FR2.out.b c1_)⟩ (fun hHeld => ?_)
          clear hK K
          refine norm_ (a' := ?_) ?_ ?_
          rotate_left
          · show Act.put _ (some 48) _ = _
            simp only [Act.put, List.setIfInBounds_toArray, List.set_cons_zero, List.set_cons_succ, i64_w, i32_w]
            rfl
          refine one_ (i := 5) (N := some 50) #[true, true, true, true, true, true, false, false, false] rfl rfl (one_of HT_.out (by kernel_rfl)) (by decide) (fun K hK => ?_)
          skip
          refine slice_step (by rfl) (N := 50) rfl (cs := (gC (fn, 0, regs l)).toArray) (t := 113) (n := 1) (build_one _ _ rfl _ rfl _) ?_
          intro g50 hg wq hbox hb
          have FR3 := Aside0.mk (AFr.box FR2.out hg hbox hb)
          clear hg hbox hb
          refine hK.out _ _ ⟨(pw_cell_below FR3.out.b c0_), (rng_below FR3.out.b c1_)⟩ (fun hHeld => ?_)
          clear hK K
          refine norm_ (a' := ?_) ?_ ?_
          rotate_left
          · show Act.put _ (some 50) _ = _
            simp only [Act.put, List.setIfInBounds_toArray, List.set_cons_zero, List.set_cons_succ, i64_w, i32_w]
            rfl
          exact norm_ (by simp only [putAll, Act.put, List.setIfInBounds_toArray, List.set_cons_zero, List.set_cons_succ]) (hCont (g45, v48, g50) _ ⟨hHeld, FR3⟩)
        · skip
          refine slice_step (by rfl) (N := 50) rfl (cs := (gC (fn, 0, regs l)).toArray) (t := 113) (n := 1) (build_one _ _ rfl _ rfl _) ?_
          intro g50 hg wq hbox hb
          have FR4 := Aside0.mk (AFr.box FR1.out hg hbox hb)
          clear hg hbox hb
          refine hK.out _ _ ⟨(pw_cell_below FR4.out.b c0_), (rng_below FR4.out.b c1_)⟩ (fun hHeld => ?_)
          clear hK K
          refine norm_ (a' := ?_) ?_ ?_
          rotate_left
          · show Act.put _ (some 50) _ = _
            simp only [Act.put, List.setIfInBounds_toArray, List.set_cons_zero, List.set_cons_succ, i64_w, i32_w]
            rfl
          refine one_ (i := 3) (N := some 48) #[true, true, true, true, true, true, false, false, false] rfl rfl (one_of HT_.out (by kernel_rfl)) (by decide) (fun K hK => ?_)
          skip
          obtain ⟨iG, iz, iG1, iG2, iG3, iG4, iG5⟩ := info_g
          obtain ⟨v48, wq, r1_, r2_, r3_, r4_⟩ := append_rows (t := 29) (ty := 29) Try.underlying29 iG1 iG2 iG3 iG4 iG5 (by decide) (FR4.out.A _ _ rfl) SO.out FR4.out.b (fun r hr x hx => by obtain ⟨y, _, rfl⟩ := List.mem_map.1 hr; exact one_gC y x hx) (by rw [List.length_map, List.length_nil]; omega) (by rw [List.length_map, List.length_nil]; unfold maxLen; omega) FR4.out.b.size
          refine step_append_at rfl _ _ 29 rfl _ _ rfl rfl r1_ ?_
          have FR5 := Aside0.mk (AFr.app FR4.out r2_ r3_ r4_)
          clear r1_ r2_ r3_ r4_
          refine hK.out _ _ ⟨(pw_cell_below FR5.out.b c0_), (rng_below FR5.out.b c1_)⟩ (fun hHeld => ?_)
          clear hK K
          refine norm_ (a' := ?_) ?_ ?_
          rotate_left
          · show Act.put _ (some 48) _ = _
            simp only [Act.put, List.setIfInBounds_toArray, List.set_cons_zero, List.set_cons_succ, i64_w, i32_w]
            rfl
          exact norm_ (by simp only [putAll, Act.put, List.setIfInBounds_toArray, List.set_cons_zero, List.set_cons_succ]) (hCont (g45, v48, g50) _ ⟨hHeld, FR5⟩)
      · skip
        refine slice_step (by rfl) (N := 50) rfl (cs := (gC (fn, 0, regs l)).toArray) (t := 113) (n := 1) (build_one _ _ rfl _ rfl _) ?_
        intro g50 hg wq hbox hb
        have FR6 := Aside0.mk (AFr.box FR0.out hg hbox hb)
        clear hg hbox hb
        refine hK.out _ _ ⟨(pw_cell_below FR6.out.b c0_), (rng_below FR6.out.b c1_)⟩ (fun hHeld => ?_)
        clear hK K
        refine norm_ (a' := ?_) ?_ ?_
        rotate_left
        · show Act.put _ (some 50) _ = _
          simp only [Act.put, List.setIfInBounds_toArray, List.set_cons_zero, List.set_cons_succ, i64_w, i32_w]
          rfl
        refine one_ (i := 0) (N := some 45) #[true, true, true, false, true, true, false, false, false] rfl rfl (one_of HT_.out (by kernel_rfl)) (by decide) (fun K hK => ?_)
        skip
        refine slice_step (by rfl) (N := 45) rfl (cs := #[]) (t := 113) (n := 0) ?hr ?_; (case hr => first | (go_simp; done) | (go_simp; rfl))
        intro g45 hg wq hbox hb
        have FR7 := Aside0.mk (AFr.made FR6.out hg hbox hb)
        clear hg hbox hb
        refine hK.out _ _ ⟨(pw_cell_below FR7.out.b c0_), (rng_below FR7.out.b c1_)⟩ (fun hHeld => ?_)
        clear hK K
        refine norm_ (a' := ?_) ?_ ?_
        rotate_left
        · show Act.put _ (some 45) _ = _
          simp only [Act.put, List.setIfInBounds_toArray, List.set_cons_zero, List.set_cons_succ, i64_w, i32_w]
          rfl
        refine one_ (i := 3) (N := some 48) #[true, true, true, true, true, true, false, false, false] rfl rfl (one_of HT_.out (by kernel_rfl)) (by decide) (fun K hK => ?_)
        skip
        obtain ⟨iG, iz, iG1, iG2, iG3, iG4, iG5⟩ := info_g
        obtain ⟨v48, wq, r1_, r2_, r3_, r4_⟩ := append_rows (t := 29) (ty := 29) Try.underlying29 iG1 iG2 iG3 iG4 iG5 (by decide) (FR7.out.A _ _ rfl) SO.out FR7.out.b (fun r hr x hx => by obtain ⟨y, _, rfl⟩ := List.mem_map.1 hr; exact one_gC y x hx) (by rw [List.length_map, List.length_nil]; omega) (by rw [List.length_map, List.length_nil]; unfold maxLen; omega) FR7.out.b.size
        refine step_append_at rfl _ _ 29 rfl _ _ rfl rfl r1_ ?_
        have FR8 := Aside0.mk (AFr.app FR7.out r2_ r3_ r4_)
        clear r1_ r2_ r3_ r4_
        refine hK.out _ _ ⟨(pw_cell_below FR8.out.b c0_), (rng_below FR8.out.b c1_)⟩ (fun hHeld => ?_)
        clear hK K
        refine norm_ (a' := ?_) ?_ ?_
        rotate_left
        · show Act.put _ (some 48) _ = _
          simp only [Act.put, List.setIfInBounds_toArray, List.set_cons_zero, List.set_cons_succ, i64_w, i32_w]
          rfl
        exact norm_ (by simp only [putAll, Act.put, List.setIfInBounds_toArray, List.set_cons_zero, List.set_cons_succ]) (hCont (g45, v48, g50) _ ⟨hHeld, FR8⟩)
    rintro ⟨g45, v48, g50⟩ wj ⟨hHeld, FJ⟩
    refine norm_ (a' := ?_) ?_ ?_
    rotate_left
    · simp only [putAll, Act.put, List.setIfInBounds_toArray, List.set_cons_zero, List.set_cons_succ]
      rfl
    refine last_ (i := 6) (N := some 51) #[true, true, true, true, true, true, true, false, false] rfl rfl (one_of HT_.out (by kernel_rfl)) (by decide) (fun K hK => ?_)
    obtain ⟨iG, iz, iG1, iG2, iG3, iG4, iG5⟩ := info_g
    obtain ⟨v51, w6, r1_, r2_, r3_, r4_⟩ := append_rows (t := 29) (ty := 29) Try.underlying29 iG1 iG2 iG3 iG4 iG5 (by decide) (FJ.out.A _ _ rfl) (one_row (FJ.out.B _ rfl).1 (by exact gC_len _)) (Below.refl _ _) (fun r hr x hx => by rw [List.mem_singleton.1 hr] at hx; exact one_gC _ x hx) (by rw [List.nil_append, List.length_map, List.length_singleton]; omega) (by rw [List.nil_append, List.length_map, List.length_singleton]; unfold maxLen; omega) FJ.out.b.size
    have B6 := Aside0.mk (FJ.out.b.grown r3_ FJ.out.b.size (fun k hk => (OV.base (FJ.out.A _ _ rfl) hk).1))
    have O6 := Aside0.mk r2_
    have HB6 := Aside0.mk (HBD.out.below B6.out)
    obtain ⟨A51, c51, e_, _⟩ := OV.slice r2_
    simp only [List.nil_append, List.length_append, List.length_map, List.length_singleton] at e_
    subst e_
    have f12b := HB6.out.frz 3 12 rfl
    have y12b : w6.cell? ⟨w.heap.size, 12, none⟩ = some (.slice AF fs.length cF) := (HB6.out.cell 3 12 rfl).trans rfl
    refine step_append_at rfl _ _ 29 rfl _ _ rfl rfl r1_ ?_
    clear r1_ r2_ r3_ r4_
    refine hK.out _ _ ?_
    clear hK K
    refine norm_ (a' := ?_) ?_ ?_
    rotate_left
    · show Act.put _ (some 51) _ = _
      simp only [Act.put, List.setIfInBounds_toArray, List.set_cons_zero, List.set_cons_succ, i64_w, i32_w]
      rfl
    refine pure_ (i := 7) (N := some 52) (v := ?_) (a' := ?_) #[true, true, true, true, true, true, true, true, false] rfl rfl (any_of HT_.out (by kernel_rfl)) (fun _ _ _ h => h) (Or.inl ⟨by rfl, ?_⟩) ?_ ?_
    rotate_left
    · intro w'
      go_simp
      with_reducible rfl
    rotate_left
    · simp only [Act.put, List.setIfInBounds_toArray, List.set_cons_zero, List.set_cons_succ, i64_w, i32_w]
      rfl
    refine last_ (i := 8) (N := none) #[true, true, true, true, true, true, true, true, true] rfl rfl (one_of HT_.out (by kernel_rfl)) (by decide) (fun K hK => ?_)
    refine skip_ (w1 := ?_) (by rfl) rfl ?_ ?_
    rotate_left
    · go_simp
      with_reducible rfl
    refine hK.out _ _ ?_
    clear hK K
    refine done_ (done_of HT_.out (by kernel_rfl)) ?_
    go_wp2
    have BX : Aside0 (Bxs w (w6.setCell ⟨w.heap.size, 12, none⟩ (.slice A51 (fs.length + 1) c51)) ((b8, (gC (fn, 0, regs l)).toArray, 113) :: [((w.heap.size + 1 + 1), (tC (fun _ => 0) (.slice none 0 0) (.slice none 0 0) (.slice none 0 0)).toArray, 33), ((w.heap.size + 1), #[.int .i64 0, .int .i64 fn, .slice AL l.length cL, .int .i64 pk, .int .i64 pv], 39), (w.heap.size, (tC r (.slice A51 (fs.length + 1) c51) (.slice AR row.length cR) (.slice AS st.length cS)).toArray, 33)])) := ⟨HB6.out.set 3 12 _ rfl rfl⟩
    have R5 := (HR0.out.start (b4 := (w.heap.size + 1 + 1)) (by omega) BX.out.old)
    have hz := SZ.out
    have h4 := BC.out.lt 3 rfl
    refine HKK.out _ _ ?_
    refine rdo_tail (vF := (.slice A51 (fs.length + 1) c51)) ⟨BX.out.sub (List.Sublist.cons _ (List.Sublist.cons_cons _ (List.Sublist.cons _ (List.Sublist.refl _))))⟩ ⟨⟨?_, R5.so, R5.sk, R5.ro⟩⟩
    rw [List.map_append]
    refine (OV.lower O6.out (Nat.zero_le _)).move (fun k _ _ hk => Below.heap_setCell w6 ⟨w.heap.size, 12, none⟩ _ k (fun e => ?_))
    have := (OV.base O6.out hk).1
    have e2 : k = w.heap.size := e
    omega
set_option maxHeartbeats 4000000 in
set_option maxRecDepth 100000 in
theorem rdo_6n (h : RT w ok vF vR vS fs row st) (hok : ∀ k, w.heap.size ≤ k → ok k) {AL : Option Addr} {cL : Nat} {l : List Int} (fn pk pv : Int) (hm1 : fs.length ≤ 1000000) (hm2 : st.length ≤ 1000000) (h0 : Aside0 (fs.length = 0)) :
    Calls Try.prog 14 #[.agg (tC r vF vR vS).toArray, .agg #[.int .i64 6, .int .i64 fn, .slice AL l.length cL, .int .i64 pk, .int .i64 pv]] w (RDone w ok r fs row st 0 false) := by
  have hu := Try.underlying33
  have huO := Try.underlying39
  obtain ⟨AF, cF, rfl, hcF⟩ := h.sF
  obtain ⟨AS, cS, rfl, hcS⟩ := h.sS
  obtain ⟨AR, cR, rfl⟩ := Kd.V_slice h.ro
  have HR0 := Aside0.mk h
  have HOK := Aside0.mk hok
  clear h hok
  go_enter Try.func14, Try.ntmps14
  go_upto_region 1 with (fail)
  refine gen2 (Φ := fun Y => Bxs w Y [((w.heap.size + 1 + 1), (tC (fun _ => 0) (.slice none 0 0) (.slice none 0 0) (.slice none 0 0)).toArray, 33), ((w.heap.size + 1), #[.int .i64 6, .int .i64 fn, .slice AL l.length cL, .int .i64 pk, .int .i64 pv], 39), (w.heap.size, (tC r (.slice AF fs.length cF) (.slice AR row.length cR) (.slice AS st.length cS)).toArray, 33)]) ((((Bxs.nil w).box _ _ rfl).box _ _ (n := w.heap.size + 1) (by simp)).box _ _ (n := w.heap.size + 1 + 1) (by simp)) ?_
  intro Y hB
  have HB := Aside0.mk hB
  have HR := Aside0.mk (HR0.out.start (b4 := (w.heap.size + 1 + 1)) (by omega) HB.out.old)
  have q0 : Y.cell? ⟨(w.heap.size + 1), 0, none⟩ = some (.int .i64 6) := (hB.cell 1 0 rfl).trans rfl
  have q1 : Y.cell? ⟨(w.heap.size + 1), 1, none⟩ = some (.int .i64 fn) := (hB.cell 1 1 rfl).trans rfl
  have q2 : Y.cell? ⟨(w.heap.size + 1), 2, none⟩ = some (.slice AL l.length cL) := (hB.cell 1 2 rfl).trans rfl
  have y12 : Y.cell? ⟨w.heap.size, 12, none⟩ = some (.slice AF fs.length cF) := (hB.cell 2 12 rfl).trans rfl
  have y13 : Y.cell? ⟨w.heap.size, 13, none⟩ = some (.slice AR row.length cR) := (hB.cell 2 13 rfl).trans rfl
  have y14 : Y.cell? ⟨w.heap.size, 14, none⟩ = some (.slice AS st.length cS) := (hB.cell 2 14 rfl).trans rfl
  have f12 := hB.frz 2 12 rfl
  have f13 := hB.frz 2 13 rfl
  have f14 := hB.frz 2 14 rfl
  clear hB
  go_upto_region 2 with (fail)
  rename_i KK hKK K2 hK2
  have HKK := Aside0.mk hKK
  clear hKK
  have z1 : ((fs.length : Int) == 0) = true := by rw [h0.out]; rfl
  have BX := HB
  have RNG := Aside0.mk (BX.out.rng 2 rfl)
  have THR := Aside0.mk (BX.out.thr (n := (tC r (.slice AF fs.length cF) (.slice AR row.length cR) (.slice AS st.length cS)).toArray.size) 0 rfl (by rw [List.size_toArray, List.size_toArray, tC_len, tC_len]))
  have BE := Aside0.mk (BX.out.setAll 0 (tC r (.slice AF fs.length cF) (.slice AR row.length cR) (.slice AS st.length cS)) rfl (by rw [List.size_toArray, tC_len, tC_len]) rfl)
  have RE := Aside0.mk (RT.box (vF := (.slice AF fs.length cF)) (vR := (.slice AR row.length cR)) (vS := (.slice AS st.length cS)) ((HR0.out.start (b4 := (w.heap.size + 1 + 1)) (by omega) BX.out.old)) (BX.out.get 0 rfl) (tC r (.slice AF fs.length cF) (.slice AR row.length cR) (.slice AS st.length cS)))
  have ON := Aside0.mk (one_tC (r := r) (A1 := AF) (n1 := _) (c1 := _) : (tC r (.slice AF fs.length cF) (.slice AR row.length cR) (.slice AS st.length cS)).toArray.all (·.oneCell') = true)
  go_wp2_with (first | ((with_reducible refine gate_dst (N := 140) rfl ?_); refine wpList_load_mid rfl 33 _ rfl w.heap.size 0 rfl (tC r (.slice AF fs.length cF) (.slice AR row.length cR) (.slice AS st.length cS)) _ RNG.out Try.underlying33 rfl (by kernel_rfl) ?_) | ((with_reducible refine gate_store (t := 33) (p := 4) rfl ?_); refine wpList_store_mid rfl 33 _ _ rfl (w.heap.size + 1 + 1) 0 (tC r (.slice AF fs.length cF) (.slice AR row.length cR) (.slice AS st.length cS)).toArray rfl rfl THR.out (by kernel_rfl) ON.out ?_; generalize Y.setCells (w.heap.size + 1 + 1) 0 (List.toArray (tC r (.slice AF fs.length cF) (.slice AR row.length cR) (.slice AS st.length cS))).toList = E9 at BE RE ⊢))
  exact rdo_ret rfl rfl rfl rfl (BE.out.get 0 rfl) RE.out BE.out.old
set_option maxHeartbeats 4000000 in
set_option maxRecDepth 100000 in
theorem rdo_6 (h : RT w ok vF vR vS fs row st) (hok : ∀ k, w.heap.size ≤ k → ok k) {AL : Option Addr} {cL : Nat} {l : List Int} (fn pk pv : Int) (hm1 : fs.length ≤ 1000000) (hm2 : st.length ≤ 1000000) (h0 : 0 < fs.length) :
    Calls Try.prog 14 #[.agg (tC r vF vR vS).toArray, .agg #[.int .i64 6, .int .i64 fn, .slice AL l.length cL, .int .i64 pk, .int .i64 pv]] w (RDone w ok r (fs.set (fs.length - 1) (touch fn (fs[fs.length - 1]'(by omega)))) row st 0 false) := by
  have hu := Try.underlying33
  have huO := Try.underlying39
  obtain ⟨AF, cF, rfl, hcF⟩ := h.sF
  obtain ⟨AS, cS, rfl, hcS⟩ := h.sS
  obtain ⟨AR, cR, rfl⟩ := Kd.V_slice h.ro
  have HR0 := Aside0.mk h
  have HOK := Aside0.mk hok
  clear h hok
  go_enter Try.func14, Try.ntmps14
  go_upto_region 1 with (fail)
  refine gen2 (Φ := fun Y => Bxs w Y [((w.heap.size + 1 + 1), (tC (fun _ => 0) (.slice none 0 0) (.slice none 0 0) (.slice none 0 0)).toArray, 33), ((w.heap.size + 1), #[.int .i64 6, .int .i64 fn, .slice AL l.length cL, .int .i64 pk, .int .i64 pv], 39), (w.heap.size, (tC r (.slice AF fs.length cF) (.slice AR row.length cR) (.slice AS st.length cS)).toArray, 33)]) ((((Bxs.nil w).box _ _ rfl).box _ _ (n := w.heap.size + 1) (by simp)).box _ _ (n := w.heap.size + 1 + 1) (by simp)) ?_
  intro Y hB
  have HB := Aside0.mk hB
  have HR := Aside0.mk (HR0.out.start (b4 := (w.heap.size + 1 + 1)) (by omega) HB.out.old)
  have q0 : Y.cell? ⟨(w.heap.size + 1), 0, none⟩ = some (.int .i64 6) := (hB.cell 1 0 rfl).trans rfl
  have q1 : Y.cell? ⟨(w.heap.size + 1), 1, none⟩ = some (.int .i64 fn) := (hB.cell 1 1 rfl).trans rfl
  have q2 : Y.cell? ⟨(w.heap.size + 1), 2, none⟩ = some (.slice AL l.length cL) := (hB.cell 1 2 rfl).trans rfl
  have y12 : Y.cell? ⟨w.heap.size, 12, none⟩ = some (.slice AF fs.length cF) := (hB.cell 2 12 rfl).trans rfl
  have y13 : Y.cell? ⟨w.heap.size, 13, none⟩ = some (.slice AR row.length cR) := (hB.cell 2 13 rfl).trans rfl
  have y14 : Y.cell? ⟨w.heap.size, 14, none⟩ = some (.slice AS st.length cS) := (hB.cell 2 14 rfl).trans rfl
  have f12 := hB.frz 2 12 rfl
  have f13 := hB.frz 2 13 rfl
  have f14 := hB.frz 2 14 rfl
  clear hB
  go_upto_region 2 with (fail)
  rename_i KK hKK K2 hK2
  have HKK := Aside0.mk hKK
  clear hKK
  have z1 : ((fs.length : Int) == 0) = false := by rw [beq_eq_false_iff_ne]; omega
  have hi : ((fs.length : Int) - 1) = ((fs.length - 1 : Nat) : Int) := by omega
  have huG := Try.underlying113
  have hu48 := Try.underlying48
  obtain ⟨w5, g5, c5, h5, B5, O5, G5⟩ := copy_rows (Y := Y) (HR0.out.fo.below HB.out.old) h0 hm1
  have X5 := Aside0.mk h5
  have B5 := Aside0.mk B5
  have O5 := Aside0.mk O5
  have G5 := Aside0.mk G5
  clear h5
  have y12a : (Y.alloc (.cells #[] 113 (0, 0))).cell? ⟨w.heap.size, 12, none⟩ = some (.slice AF fs.length cF) := ((HB.out.alloc (.cells #[] 113 (0, 0))).cell 2 12 rfl).trans rfl
  go_upto_region 38 with (at_builtin; go_must (refine wpList_append_at _ rfl _ _ _ _ rfl _ _ rfl rfl X5.out ?_))
  have HB5 := Aside0.mk (HB.out.below B5.out)
  have HZ := Aside0.mk (show w.heap.size + 2 < g5 from Nat.lt_of_lt_of_le (HB.out.lt 0 rfl) G5.out)
  clear X5 B5 G5 y12 y13 y14 q0 q1 q2 f12 f13 f14 y12a HR HB
  have hlt : fs.length - 1 < fs.length := by omega
  obtain ⟨f, hf⟩ : ∃ f, f = fs[fs.length - 1]'(by omega) := ⟨_, rfl⟩
  have HF := Aside0.mk hf
  clear hf
  have q1 : w5.cell? ⟨(w.heap.size + 1), 1, none⟩ = some (.int .i64 fn) := (HB5.out.cell 1 1 rfl).trans rfl
  have c1 := (O5.out.at_g (fs.length - 1) hlt 1 (by decide)).1
  have z3 := (O5.out.at_g (fs.length - 1) hlt 1 (by decide)).2
  have NE := Aside0.mk (show ∀ x ∈ ([((w.heap.size + 1 + 1), (tC (fun _ => 0) (.slice none 0 0) (.slice none 0 0) (.slice none 0 0)).toArray, 33), ((w.heap.size + 1), #[.int .i64 6, .int .i64 fn, .slice AL l.length cL, .int .i64 pk, .int .i64 pv], 39), (w.heap.size, (tC r (.slice AF fs.length cF) (.slice AR row.length cR) (.slice AS st.length cS)).toArray, 33)] : List Box), x.1 ≠ g5 from fun x hx => by have := HZ.out; simp only [List.mem_cons, List.not_mem_nil, or_false] at hx; rcases hx with rfl | rfl | rfl <;> (show _ ≠ g5; omega))
  go_upto_region 39 with (fail)
  refine gen2 (Φ := fun X => Bxs w X [((w.heap.size + 1 + 1), (tC (fun _ => 0) (.slice none 0 0) (.slice none 0 0) (.slice none 0 0)).toArray, 33), ((w.heap.size + 1), #[.int .i64 6, .int .i64 fn, .slice AL l.length cL, .int .i64 pk, .int .i64 pv], 39), (w.heap.size, (tC r (.slice AF fs.length cF) (.slice AR row.length cR) (.slice AS st.length cS)).toArray, 33)] ∧ GRow 113 26 X g5 c5 ((fs.set (fs.length - 1) (f.1, fn, f.2.2)).map gC)) ⟨HB5.out.far _ NE.out (show w.heap.size ≤ g5 by have := HZ.out; omega), by have K := O5.out.pc (fs.length - 1) hlt fn; rw [← HF.out] at K; exact K⟩ ?_
  clear c1 z3 q1 HB5 O5
  intro X HX
  have HBX := Aside0.mk HX.1
  have OX := Aside0.mk HX.2
  clear HX
  have q1 : X.cell? ⟨(w.heap.size + 1), 1, none⟩ = some (.int .i64 fn) := (HBX.out.cell 1 1 rfl).trans rfl
  generalize hfs2 : fs.set (fs.length - 1) (f.1, fn, f.2.2) = fs2 at OX
  have HFS2 := Aside0.mk hfs2
  clear hfs2
  have hl2 : fs2.length = fs.length := by rw [← HFS2.out, List.length_set]
  have HL2 := Aside0.mk hl2
  clear hl2
  by_cases hq : 0 ≤ fn
  · have dq : decide (fn ≥ 0) = true := decide_eq_true hq
    obtain ⟨k, hk⟩ : ∃ k : Nat, (fn % 24).toNat = k := ⟨_, rfl⟩
    have hk24 : k < 24 := by omega
    have hkr : Int.tmod fn 24 = (k : Int) := by rw [Int.tmod_eq_emod_of_nonneg hq]; omega
    have HK := Aside0.mk hk
    clear hk
    have c2 : X.cell? ⟨g5, (fs.length - 1) * 26 + 2 + k, none⟩ = some (.int .u64 (f.2.2 k)) := by
      rw [Nat.add_assoc]
      refine (OX.out.at_g (fs.length - 1) (by rw [HL2.out]; exact hlt) (2 + k) (by omega)).1.trans ?_
      have e : fs2[fs.length - 1]'(by rw [HL2.out]; exact hlt) = (f.1, fn, f.2.2) := by simp only [← HFS2.out, List.getElem_set_self]
      rw [e]
      unfold gC
      rw [Nat.add_comm, List.getElem?_cons_succ, List.getElem?_cons_succ, List.getElem?_eq_getElem (by rw [ws_len]; exact hk24), ws_get _ _ _ hk24]
    have z2 : X.frozen? ⟨g5, (fs.length - 1) * 26 + 2 + k, none⟩ = false := by rw [Nat.add_assoc]; exact (OX.out.at_g (fs.length - 1) (by rw [HL2.out]; exact hlt) (2 + k) (by omega)).2
    go_upto_region 40 with (fail)
    go_region
    go_upto_region 41 with (fail)
    refine gen2 (Φ := fun Z => Bxs w Z [((w.heap.size + 1 + 1), (tC (fun _ => 0) (.slice none 0 0) (.slice none 0 0) (.slice none 0 0)).toArray, 33), ((w.heap.size + 1), #[.int .i64 6, .int .i64 fn, .slice AL l.length cL, .int .i64 pk, .int .i64 pv], 39), (w.heap.size, (tC r (.slice AF fs.length cF) (.slice AR row.length cR) (.slice AS st.length cS)).toArray, 33)] ∧ GRow 113 26 Z g5 c5 ((fs.set (fs.length - 1) (touch fn f)).map gC)) ⟨(HBX.out.far _ NE.out (show w.heap.size ≤ g5 by have := HZ.out; omega)).drew, by have K := OX.out.reg (fs.length - 1) (by rw [HL2.out]; exact hlt) k hk24 (IntKind.u64.wrap (f.2.2 k + 1)); rw [touch_set HFS2.out hq HK.out hlt] at K; rw [Nat.add_assoc]; exact K.move rfl⟩ ?_
    intro Z HZ2
    have HBZ := Aside0.mk HZ2.1
    have OZ := Aside0.mk HZ2.2
    clear HZ2
    have f12z := HBZ.out.frz 2 12 rfl
    have y12z : Z.cell? ⟨w.heap.size, 12, none⟩ = some (.slice AF fs.length cF) := (HBZ.out.cell 2 12 rfl).trans rfl
    clear HFS2 HL2 OX HBX q1
    go_wp2
    have BX : Aside0 (Bxs w (Z.setCell ⟨w.heap.size, 12, none⟩ (.slice (some ⟨g5, 0, none⟩) fs.length c5)) [((w.heap.size + 1 + 1), (tC (fun _ => 0) (.slice none 0 0) (.slice none 0 0) (.slice none 0 0)).toArray, 33), ((w.heap.size + 1), #[.int .i64 6, .int .i64 fn, .slice AL l.length cL, .int .i64 pk, .int .i64 pv], 39), (w.heap.size, (tC r (.slice (some ⟨g5, 0, none⟩) fs.length c5) (.slice AR row.length cR) (.slice AS st.length cS)).toArray, 33)]) := ⟨HBZ.out.set 2 12 _ rfl rfl⟩
    have R5 := (HR0.out.start (b4 := (w.heap.size + 1 + 1)) (by omega) BX.out.old)
    have h4 := HZ.out
    refine HKK.out _ _ ?_
    refine rdo_tail (fs := fs.set (fs.length - 1) (touch fn (fs[fs.length - 1]'(by omega)))) (vF := .slice (some ⟨g5, 0, none⟩) fs.length c5) ⟨BX.out.sub (List.Sublist.cons_cons _ (List.Sublist.cons _ (List.Sublist.refl _)))⟩ ⟨⟨?_, R5.so, R5.sk, R5.ro⟩⟩
    rw [← HF.out]
    exact .inr ⟨g5, c5, by rw [List.length_map, List.length_set], Nat.zero_le _, OZ.out.far (p := ⟨w.heap.size, 12, none⟩) (show g5 ≠ w.heap.size by omega) _⟩
  · have dq : decide (fn ≥ 0) = false := decide_eq_false (by omega)
    go_upto_region 41 with (fail)
    refine gen2 (Φ := fun Z => Bxs w Z [((w.heap.size + 1 + 1), (tC (fun _ => 0) (.slice none 0 0) (.slice none 0 0) (.slice none 0 0)).toArray, 33), ((w.heap.size + 1), #[.int .i64 6, .int .i64 fn, .slice AL l.length cL, .int .i64 pk, .int .i64 pv], 39), (w.heap.size, (tC r (.slice AF fs.length cF) (.slice AR row.length cR) (.slice AS st.length cS)).toArray, 33)] ∧ GRow 113 26 Z g5 c5 ((fs.set (fs.length - 1) (touch fn f)).map gC)) ⟨HBX.out, by have K := OX.out; rw [← HFS2.out] at K; unfold touch; rw [if_neg hq]; exact K⟩ ?_
    intro Z HZ2
    have HBZ := Aside0.mk HZ2.1
    have OZ := Aside0.mk HZ2.2
    clear HZ2
    have f12z := HBZ.out.frz 2 12 rfl
    have y12z : Z.cell? ⟨w.heap.size, 12, none⟩ = some (.slice AF fs.length cF) := (HBZ.out.cell 2 12 rfl).trans rfl
    clear HFS2 HL2 OX HBX q1
    go_wp2
    have BX : Aside0 (Bxs w (Z.setCell ⟨w.heap.size, 12, none⟩ (.slice (some ⟨g5, 0, none⟩) fs.length c5)) [((w.heap.size + 1 + 1), (tC (fun _ => 0) (.slice none 0 0) (.slice none 0 0) (.slice none 0 0)).toArray, 33), ((w.heap.size + 1), #[.int .i64 6, .int .i64 fn, .slice AL l.length cL, .int .i64 pk, .int .i64 pv], 39), (w.heap.size, (tC r (.slice (some ⟨g5, 0, none⟩) fs.length c5) (.slice AR row.length cR) (.slice AS st.length cS)).toArray, 33)]) := ⟨HBZ.out.set 2 12 _ rfl rfl⟩
    have R5 := (HR0.out.start (b4 := (w.heap.size + 1 + 1)) (by omega) BX.out.old)
    have h4 := HZ.out
    refine HKK.out _ _ ?_
    refine rdo_tail (fs := fs.set (fs.length - 1) (touch fn (fs[fs.length - 1]'(by omega)))) (vF := .slice (some ⟨g5, 0, none⟩) fs.length c5) ⟨BX.out.sub (List.Sublist.cons_cons _ (List.Sublist.cons _ (List.Sublist.refl _)))⟩ ⟨⟨?_, R5.so, R5.sk, R5.ro⟩⟩
    rw [← HF.out]
    exact .inr ⟨g5, c5, by rw [List.length_map, List.length_set], Nat.zero_le _, OZ.out.far (p := ⟨w.heap.size, 12, none⟩) (show g5 ≠ w.heap.size by omega) _⟩
end
end Go.Proofs.Ytocmdcjbjhpooaa.FrW
