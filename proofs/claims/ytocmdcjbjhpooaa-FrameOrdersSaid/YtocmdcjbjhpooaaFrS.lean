/- What the laws of a thread share. -/
import Derived.Test.YtocmdcjbjhpooaaFrR
set_option linter.unusedVariables false
set_option linter.unusedSimpArgs false
namespace Go.Proofs.Ytocmdcjbjhpooaa.FrW
open Go Go.RowKit Go.Proofs.YtocmdcjbjhpooaaW.PrintWords Go.Proofs.YtocmdcjbjhpooaaW.PrintLast Go.Proofs.YtocmdcjbjhpooaaW.PrintMore Go.Proofs.Ytocmdcjbjhpooaa.PFrameOrders Go.Proofs.Ytocmdcjbjhpooaa.GRow Go.Proofs.Ytocmdcjbjhpooaa.Num Go.Proofs.Ytocmdcjbjhpooaa.Bxs Go.Proofs.Ytocmdcjbjhpooaa.InsW Go.Proofs.Ytocmdcjbjhpooaa.Pure
theorem k37_heap : Kd.Heap k37 := Kd.heap_iso _ (Kd.heap_pair (Kd.heap_int _) (Kd.heap_int _))
theorem k39_heap : Kd.Heap k39 := Kd.heap_iso _ (Kd.heap_pair (Kd.heap_int _) (Kd.heap_pair (Kd.heap_int _) (Kd.heap_pair (Kd.heap_slice _ (Kd.heap_int _)) k37_heap)))
theorem rdo39 (l : List S39) (i : Nat) (hi : i < l.length) : rd_T39 l (i : Int) = l[i] := by
  unfold rd_T39
  simp [List.getD, hi]
theorem great_loop (l : List S39) (d : Nat) : ∀ (i : Nat), i + d = 101 → ∃ b, deadwoodlaw15_great.l0 (2 * d + 2) l (i : Int) = some b ∧ (b = false → l.length ≤ 80 ∧ ∀ j (h : j < l.length), i ≤ j → (l[j]).f2.length ≤ 100) := by
  have fin : ∀ (m : Nat) (x : Int), deadwoodlaw15_great.j1 (m + 1) l x false = some (decide ((l.length : Int) > 80)) := fun m x => by rw [deadwoodlaw15_great.j1, if_neg (by decide)]
  induction d with
  | zero =>
    intro i hi
    refine ⟨decide ((l.length : Int) > 80), ?_, fun h => ⟨by have := of_decide_eq_false h; omega, fun j hj hij => by have := of_decide_eq_false h; omega⟩⟩
    show deadwoodlaw15_great.l0 2 l i = _
    rw [deadwoodlaw15_great.l0]
    split
    · rw [decide_eq_false (by omega), fin]
    · rw [fin]
  | succ d ih =>
    intro i hi
    show ∃ b, deadwoodlaw15_great.l0 (2 * d + 2 + 1 + 1) l i = some b ∧ _
    rw [deadwoodlaw15_great.l0]
    by_cases h : (i : Int) < (l.length : Int)
    · rw [if_pos h]
      have hl : i < l.length := by omega
      by_cases h2 : (i : Int) < 100
      · rw [decide_eq_true h2, deadwoodlaw15_great.j1, if_pos rfl, if_pos (by omega), if_pos h, rdo39 l i hl]
        by_cases h3 : ((l[i].f2.length : Nat) : Int) > 100
        · rw [if_pos h3]; exact ⟨true, rfl, fun h => by cases h⟩
        · rw [if_neg h3, wrap64_of (by omega) (by omega), show (i : Int) + 1 = ((i + 1 : Nat) : Int) by omega]
          obtain ⟨b, hb, hq⟩ := ih (i + 1) (by omega)
          refine ⟨b, hb, fun hf => ⟨(hq hf).1, fun j hj hij => ?_⟩⟩
          by_cases e : i = j
          · subst e; omega
          · exact (hq hf).2 j hj (by omega)
      · rw [decide_eq_false h2, fin]
        exact ⟨_, rfl, fun h => ⟨by have := of_decide_eq_false h; omega, fun j hj hij => by have := of_decide_eq_false h; omega⟩⟩
    · rw [if_neg h, fin]
      exact ⟨_, rfl, fun h => ⟨by have := of_decide_eq_false h; omega, fun j hj hij => by omega⟩⟩
theorem great_some (l : List S39) : ∃ k b, deadwoodlaw15_great.f k l = some b ∧ (b = false → l.length ≤ 80 ∧ ∀ o ∈ l, o.f2.length ≤ 100) := by
  obtain ⟨b, h1, h2⟩ := great_loop l 101 0 rfl
  refine ⟨_, b, h1, fun hb => ⟨(h2 hb).1, fun o ho => ?_⟩⟩
  obtain ⟨j, hj, rfl⟩ := List.getElem_of_mem ho
  exact (h2 hb).2 j hj (Nat.zero_le _)
/-- An op's cells. -/
structure C5 (w : World) (ad : Addr) (o : S39) (A : Option Addr) (c : Nat) : Prop where
  c0 : w.cell? ad = some (.int .i64 o.f0)
  c1 : w.cell? ⟨ad.block, ad.off + 1, none⟩ = some (.int .i64 o.f1)
  c2 : w.cell? ⟨ad.block, ad.off + 2, none⟩ = some (.slice A o.f2.length c)
  c3 : w.cell? ⟨ad.block, ad.off + 3, none⟩ = some (.int .i64 o.f3.f0)
  c4 : w.cell? ⟨ad.block, ad.off + 4, none⟩ = some (.int .i64 o.f3.f1)
theorem C5.below {w w' : World} {ad : Addr} {o : S39} {A : Option Addr} {c : Nat} (h : C5 w ad o A c) (hb : Below w.heap.size w w') : C5 w' ad o A c :=
  ⟨pw_cell_below hb h.c0, pw_cell_below hb h.c1, pw_cell_below hb h.c2, pw_cell_below hb h.c3, pw_cell_below hb h.c4⟩
theorem op_at {w : World} {ok : Nat → Prop} {A : Option Addr} {l : List S39} (h : Kd.F k39 w ok A l.length l) (i : Nat) (hi : i < l.length) : ∃ ad A2 c2, A = some ad ∧ C5 w (ad.add (i * 5)) l[i] A2 c2 ∧ l[i].f2.length ≤ c2 ∧ Kd.F (Kd.int .u64) w ok A2 l[i].f2.length l[i].f2 := by
  obtain ⟨hl, hm, hr⟩ := Kd.F_rows h
  obtain ⟨ad, hA, hr2⟩ := hr (by omega)
  obtain ⟨c, hc, hK, hcell⟩ := hr2 i l[i] (List.getElem?_eq_getElem hi)
  obtain ⟨A2, c2, rfl, l2, g2⟩ := k39_openF hK
  have hc2 : ∀ j u, _ → w.cell? (ad.add (i * 5 + j)) = some u := hcell
  exact ⟨ad, A2, c2, hA, ⟨hc2 0 _ rfl, by rw [← add_field _ _ 1 (by omega)]; exact hc2 1 _ rfl, by rw [← add_field _ _ 2 (by omega)]; exact hc2 2 _ rfl, by rw [← add_field _ _ 3 (by omega)]; exact hc2 3 _ rfl, by rw [← add_field _ _ 4 (by omega)]; exact hc2 4 _ rfl⟩, l2, g2⟩
section
variable {W W' : World} {base : Nat} {P ok ok' : Nat → Prop} {b : Nat} {r : Nat → Int} {s : Ses} {vF vR vS v1 v2 v3 : Value} {fs : List Fr} {row row' : List S37} {st st' : List Int} {cs : List Co}
/-- A thread's own blocks have other types than the document's. -/
theorem Th.own_ne (h : Th W base P b r s vF vR vS fs row st) {k : Nat} {c : Array Value} {T : Nat} (hk : W.heap[k]? = some (.cells c T (0, 0))) (h1 : T ≠ 57) (h2 : T ≠ 46) (h3 : T ≠ 50) (h4 : T ≠ 27) : ¬ own b vF vS fs k := by
  intro ho
  rcases ho with rfl | ⟨f, hf, rfl⟩ | ho | ho
  · exact typ_ne hk h.blk h1 rfl
  · exact typ_ne hk (h.fb f hf) h3 rfl
  · obtain ⟨cur, hc⟩ := OV.typed h.fo ho
    exact typ_ne hk hc h2 rfl
  · obtain ⟨cur, hc⟩ := OV.typed h.so ho
    exact typ_ne hk hc h4 rfl
/-- A box beside a thread is written. -/
theorem Th.beside (h : Th W base P b r s vF vR vS fs row st) {xb : Nat} {c : Array Value} (hx : W.heap[xb]? = some (.cells c 33 (0, 0))) (hp : P xb) (vs : List Value) : Th (W.setCells xb 0 vs) base P b r s vF vR vS fs row st := by
  have hn := h.own_ne hx (by decide) (by decide) (by decide) (by decide)
  have hk : ∀ k, k ≠ xb → (W.setCells xb 0 vs).heap[k]? = W.heap[k]? := fun k hk => heap_setCells xb vs 0 W k hk
  exact ⟨(hk b (fun e => hn (.inl e.symm))).trans h.blk, h.fo.move (fun k _ _ h1 => hk k (fun e => hn (.inr (.inr (.inl (e ▸ h1)))))), fun f hf => (hk f.bk (fun e => hn (.inr (.inl ⟨f, hf, e⟩)))).trans (h.fb f hf), h.nd, h.so.move (fun k _ _ h1 => hk k (fun e => hn (.inr (.inr (.inr (e ▸ h1)))))), Kd.V_step h.ro (fun k h1 _ => hk k (fun e => h1.2 (e ▸ hp))), h.ge⟩
theorem RT.bound (h : RT W ok v1 v2 v3 cs row st) : RT W (fun k => ok k ∧ k < W.heap.size) v1 v2 v3 cs row st := ⟨h.fo, h.so, fun k hk => ⟨h.sk k hk, (OV.base h.so hk).2⟩, Kd.V_bound h.ro⟩
theorem RT.mono (h : RT W ok v1 v2 v3 cs row st) (hk : ∀ k, ok k → ok' k) : RT W ok' v1 v2 v3 cs row st := ⟨h.fo, h.so, fun k h1 => hk k (h.sk k h1), Kd.V_mono h.ro hk⟩
end
/-- A thread and the document's, side by side. -/
structure LS (w wr : World) (base b xb n : Nat) (s : Ses) (t : TS) : Prop where
  ex : ∃ P vF vR vS fs v1 v2 v3, Th wr base P b t.r s vF vR vS fs t.row t.st ∧ fs.map Fr.core = t.fs ∧ (∀ k, P k → k < wr.heap.size) ∧ P xb ∧ wr.heap[xb]? = some (.cells (tC t.r v1 v2 v3).toArray 33 (0, 0)) ∧ RT wr (fun k => ¬ P k) v1 v2 v3 t.fs t.row t.st
  iv : Inv n t
  bl : Below w.heap.size w wr
  bs : (w.heap.size ≤ base ∧ w.heap.size ≤ xb) ∧ base ≤ wr.heap.size
/-- The thread has moved; the document's one not yet. -/
structure LM (w wr : World) (base b xb n : Nat) (s : Ses) (t t' : TS) : Prop where
  ex : ∃ P vF vR vS fs v1 v2 v3, Th wr base P b t'.r s vF vR vS fs t'.row t'.st ∧ fs.map Fr.core = t'.fs ∧ (∀ k, P k → k < wr.heap.size) ∧ P xb ∧ wr.heap[xb]? = some (.cells (tC t.r v1 v2 v3).toArray 33 (0, 0)) ∧ RT wr (fun k => ¬ P k) v1 v2 v3 t.fs t.row t.st
  iv : Inv n t
  iv' : Inv (n + 1) t'
  bl : Below w.heap.size w wr
  bs : (w.heap.size ≤ base ∧ w.heap.size ≤ xb) ∧ base ≤ wr.heap.size
theorem Inv.le {n m : Nat} {t : TS} (h : Inv n t) (hn : n ≤ m) : Inv m t := ⟨Nat.le_trans h.l1 hn, Nat.le_trans h.l2 hn, Nat.le_trans h.l3 hn, h.ri⟩
section
variable {w wr wd W' : World} {base b xb n : Nat} {s : Ses} {t t' : TS}
theorem LS.below (h : LS w wr base b xb n s t) (hb : Below wr.heap.size wr W') : LS w W' base b xb n s t := by
  obtain ⟨⟨P, vF, vR, vS, fs, v1, v2, v3, h1, h2, h3, h4, h5, h6⟩, iv, bl, bs⟩ := h
  have hs := hb.size
  exact ⟨⟨P, vF, vR, vS, fs, v1, v2, v3, h1.below hb, h2, fun k hk => by have := h3 k hk; omega, h4, blk_below h5 hb, h6.below hb⟩, iv, below_then bl bl.size hb, bs.1, by omega⟩
theorem LM.below (h : LM w wr base b xb n s t t') (hb : Below wr.heap.size wr W') : LM w W' base b xb n s t t' := by
  obtain ⟨⟨P, vF, vR, vS, fs, v1, v2, v3, h1, h2, h3, h4, h5, h6⟩, iv, iv', bl, bs⟩ := h
  have hs := hb.size
  exact ⟨⟨P, vF, vR, vS, fs, v1, v2, v3, h1.below hb, h2, fun k hk => by have := h3 k hk; omega, h4, blk_below h5 hb, h6.below hb⟩, iv, iv', below_then bl bl.size hb, bs.1, by omega⟩
/-- The law's call: the thread moves. -/
theorem LS.moves (h : LS w wr base b xb n s t) (hn : n ≤ 1000) {AL : Option Addr} {cL : Nat} (o : S39) (hF : Kd.F (Kd.int .u64) w (fun k => k < w.heap.size) AL o.f2.length o.f2) :
    Calls Try.prog 13 #[.pointer (some ⟨b, 0, none⟩), .agg #[.int .i64 o.f0, .int .i64 o.f1, .slice AL o.f2.length cL, .int .i64 o.f3.f0, .int .i64 o.f3.f1]] wr fun e W' => e = .returned (.tuple #[.int .u64 (stepT t o).2.1, .bool (stepT t o).2.2]) ∧ LM w W' base b xb n s t (stepT t o).1 := by
  obtain ⟨⟨P, vF, vR, vS, fs, v1, v2, v3, h1, h2, h3, h4, h5, h6⟩, iv, bl, bs⟩ := h
  refine (do_step h1 h2 h3 bs.2 (iv.le (by omega)) o (fun X hX => Kd.F_now (Kd.F_step hF (fun k hk hl => (hX k (by omega)).trans (bl.block k hk))))).mono ?_
  rintro e W2 ⟨rfl, ⟨P2, vF2, vR2, vS2, gs, T2, c2, p1, p2, p3⟩, M2⟩
  have hs := M2.b.size
  have hn := h1.own_ne h5 (by decide) (by decide) (by decide) (by decide)
  refine ⟨rfl, ⟨P2, vF2, vR2, vS2, gs, v1, v2, v3, T2, c2, p3, p1 xb h4, (M2.k xb (h3 xb h4) hn).trans h5, ?_⟩, iv, step_inv iv o, ⟨M2.b.os.trans bl.os, M2.b.tape.trans bl.tape, M2.b.output.trans bl.output, Nat.le_trans bl.size hs, fun k hk => (M2.b.block k (by omega)).trans (bl.block k hk)⟩, bs.1, by omega⟩
  refine RT.mono (RT.mv h1 (fun k hk => hk.1) h6.bound M2) (fun k hk hp => ?_)
  rcases p2 k hp with q | q
  · exact hk.1 q
  · have := hk.2; omega
/-- The document's call beside a box, in any order. -/
structure RC (wd : World) (okp : Nat → Prop) (t' : TS) (oC : Option (Value × Value × Value)) (oB : Option Nat) (w' : World) : Prop where
  b : Below wd.heap.size wd w'
  C : ∀ v, oC = some v → RT w' (fun k => okp k ∧ some k ≠ oB) v.1 v.2.1 v.2.2 t'.fs t'.row t'.st
  B : ∀ g, oB = some g → w'.heap[g]? = some (.cells (tC (fun _ => 0) (.slice none 0 0) (.slice none 0 0) (.slice none 0 0)).toArray 33 (0, 0)) ∧ wd.heap.size ≤ g
section
variable {okp : Nat → Prop} {oC : Option (Value × Value × Value)} {oB : Option Nat} {w' w1 : World} {g : Nat} {v1 v2 v3 : Value}
theorem RC.start (wd : World) (okp : Nat → Prop) (t' : TS) : RC wd okp t' none none wd := ⟨Below.refl _ _, (by intro _ h; cases h), (by intro _ h; cases h)⟩
theorem RC.box (h : RC wd okp t' oC none w') (hg : g = w'.heap.size) (hbox : w1.heap[g]? = some (.cells (tC (fun _ => 0) (.slice none 0 0) (.slice none 0 0) (.slice none 0 0)).toArray 33 (0, 0))) (hb : Below w'.heap.size w' w1) : RC wd okp t' oC (some g) w1 := by
  have hs := h.b.size
  subst hg
  refine ⟨below_then h.b hs hb, fun v hv => RT.mono ((h.C v hv).bound.below hb) (fun k hk => ⟨hk.1.1, fun e => ?_⟩), fun g e => ?_⟩
  · have := Option.some.inj e; have := hk.2; omega
  · injection e with e; subst e; exact ⟨hbox, hs⟩
theorem RC.call (h : RC wd okp t' none oB w') (hb : Below w'.heap.size w' w1) (hR : RT w1 (fun k => okp k ∧ some k ≠ oB) v1 v2 v3 t'.fs t'.row t'.st) : RC wd okp t' (some (v1, v2, v3)) oB w1 := by
  have hs := h.b.size
  refine ⟨below_then h.b hs hb, fun v hv => ?_, fun g e => ⟨blk_below (h.B g e).1 hb, (h.B g e).2⟩⟩
  injection hv with hv
  subst hv
  exact hR
/-- What the document's call asks for: its rows lie apart. -/
theorem RC.ok (h : RC wd okp t' none oB w') (hk : ∀ k, wd.heap.size ≤ k → okp k) : ∀ k, w'.heap.size ≤ k → okp k ∧ some k ≠ oB := fun k h2 => by
  have hs := h.b.size
  refine ⟨hk k (by omega), fun e => ?_⟩
  have := (Array.getElem?_eq_some_iff.1 (h.B k e.symm).1).1
  omega
theorem RC.src (h : RC wd okp t' none oB w') {cs : List Co} {row : List S37} {st : List Int} (hR : RT wd okp v1 v2 v3 cs row st) : RT w' (fun k => okp k ∧ some k ≠ oB) v1 v2 v3 cs row st := by
  have hs := h.b.size
  refine RT.mono (hR.bound.below h.b) (fun k hk => ⟨hk.1, fun e => ?_⟩)
  have := (h.B k e.symm).2
  have := hk.2
  omega
end
/-- A store of a whole struct, as a step of a region that draws. -/
theorem store_step {P : Program} {ops : Array Oper} {o : Oper} {a : Act} {w : World} {K : Act → World → Prop} {Q : Exit → Act → World → Prop} {E : Prop} (hw : Region.wanted o (yielded ops a.tmps) = true) (ty : TypeId) (x y : Operand) (ho : o.op = .store ty x y) (hd : o.dst = none)
    (b o_ : Nat) (cells : Array Value) (hx : a.eval x = .pointer (some ⟨b, o_, none⟩)) (hy : a.eval y = .agg cells) (ht : w.there b o_ cells.size) (hi : (P.info? ty).map (·.size) = some cells.size) (h1 : cells.all (·.oneCell') = true) (h : K a (w.setCells b o_ cells.toList)) :
    if Region.wanted o (yielded ops a.tmps) = true then Oper.wp P o a w K Q else E := by
  rw [if_pos hw]
  refine wp_store_mid ty x y ho b o_ cells hx hy ht hi h1 ?_
  rw [hd]
  exact h
/-- A struct loaded under a guard that holds, at a plain region's list. -/
theorem wpList_load_g {P : Program} {ops : Array Oper} {rest : List Oper} {op : Oper} {a : Act} {w : World} {Q : Exit → Act → World → Prop} (hw : Region.wanted op (yielded ops a.tmps) = true) (ty : TypeId) (x : Operand) (ho : op.op = .load ty x)
    (b o : Nat) (hx : a.eval x = .pointer (some ⟨b, o, none⟩)) (cs : List Value) (d : TypeDesc) (hc : w.rangeAt b o cs) (hu : P.underlying ty = some d) (hd : d.isRow = true) (hi : (P.info? ty).map (·.size) = some cs.length)
    (h : wpList P ops Q rest (a.put op.dst (.agg cs.toArray)) w) : wpList P ops Q (op :: rest) a w :=
  wpList_step fun K hK => by rw [if_pos hw]; exact wp_load_mid ty x ho b o hx cs d hc hu hd hi (hK _ _ h)
theorem RT.one {W : World} {ok : Nat → Prop} {r : Nat → Int} {v1 v2 v3 : Value} {cs : List Co} {row : List S37} {st : List Int} (h : RT W ok v1 v2 v3 cs row st) : (tC r v1 v2 v3).toArray.all (·.oneCell') = true := by
  obtain ⟨A1, c1, e1, _⟩ := h.sF
  obtain ⟨A3, c3, e3, _⟩ := h.sS
  obtain ⟨A2, c2, e2⟩ := Kd.V_slice h.ro
  rw [e1, e2, e3]
  exact one_tC
theorem there_of {W : World} {g : Nat} {c : Array Value} {T n : Nat} (h : W.heap[g]? = some (.cells c T (0, 0))) (hn : n = c.size) : W.there g 0 n := fun i hi => by
  rw [Nat.zero_add]
  refine ⟨?_, blk_frozen h i⟩
  rw [blk_cell h i, Array.getElem?_eq_getElem (by omega)]
  rfl
theorem rng_of {W : World} {g T : Nat} {cs : List Value} (h : W.heap[g]? = some (.cells cs.toArray T (0, 0))) : W.rangeAt g 0 cs := fun i v hv => by
  rw [Nat.zero_add, blk_cell h i, List.getElem?_toArray]
  exact hv
theorem set_of_ {W : World} {g T : Nat} {cs vs : List Value} (h : W.heap[g]? = some (.cells cs.toArray T (0, 0))) (hl : cs.length = vs.length) : (W.setCells g 0 vs).heap[g]? = some (.cells vs.toArray T (0, 0)) := by
  have K := blk_setCells vs W [] cs [] hl (b := g) (T := T) (by simpa using h)
  simpa using K
/-- Both behind a call. -/
structure LO (w X : World) (base b xb n : Nat) (s : Ses) (t : TS) (P : Nat → Prop) (vF vR vS : Value) (fs : List Fr) (v1 v2 v3 : Value) : Prop where
  th : Th X base P b t.r s vF vR vS fs t.row t.st
  cs : fs.map Fr.core = t.fs
  pl : ∀ k, P k → k < X.heap.size
  px : P xb
  hx : X.heap[xb]? = some (.cells (tC t.r v1 v2 v3).toArray 33 (0, 0))
  rt : RT X (fun k => ¬ P k) v1 v2 v3 t.fs t.row t.st
  iv : Inv n t
  bl : Below w.heap.size w X
  bs : (w.heap.size ≤ base ∧ w.heap.size ≤ xb) ∧ base ≤ X.heap.size
section
variable {w w2 X W' : World} {base b xb n : Nat} {s : Ses} {t t' : TS} {P : Nat → Prop} {vF vR vS v1 v2 v3 u1 u2 u3 : Value} {fs : List Fr}
theorem LO.ls (h : LO w X base b xb n s t P vF vR vS fs v1 v2 v3) : LS w X base b xb n s t := ⟨⟨P, vF, vR, vS, fs, v1, v2, v3, h.th, h.cs, h.pl, h.px, h.hx, h.rt⟩, h.iv, h.bl, h.bs⟩
theorem LS.lo (h : LS w X base b xb n s t) : ∃ P vF vR vS fs v1 v2 v3, LO w X base b xb n s t P vF vR vS fs v1 v2 v3 := by
  obtain ⟨⟨P, vF, vR, vS, fs, v1, v2, v3, h1, h2, h3, h4, h5, h6⟩, iv, bl, bs⟩ := h
  exact ⟨P, vF, vR, vS, fs, v1, v2, v3, h1, h2, h3, h4, h5, h6, iv, bl, bs⟩
theorem LO.below (h : LO w X base b xb n s t P vF vR vS fs v1 v2 v3) (hb : Below X.heap.size X W') : LO w W' base b xb n s t P vF vR vS fs v1 v2 v3 := by
  have hs := hb.size
  exact ⟨h.th.below hb, h.cs, fun k hk => by have := h.pl k hk; omega, h.px, blk_below h.hx hb, h.rt.below hb, h.iv, below_then h.bl h.bl.size hb, h.bs.1, by have := h.bs.2; omega⟩
theorem lo_next (hT : Th w2 base P b t'.r s vF vR vS fs t'.row t'.st) (hc : fs.map Fr.core = t'.fs) (hP : ∀ k, P k → k < w2.heap.size) (hPx : P xb) (hx : w2.heap[xb]? = some (.cells (tC t.r v1 v2 v3).toArray 33 (0, 0))) (hB : Below w2.heap.size w2 X) (hR : RT X (fun k => ¬ P k) u1 u2 u3 t'.fs t'.row t'.st) (iv : Inv n t') (bl : Below w.heap.size w w2) (bs : (w.heap.size ≤ base ∧ w.heap.size ≤ xb) ∧ base ≤ w2.heap.size) :
    LO w (X.setCells xb 0 (tC t'.r u1 u2 u3)) base b xb n s t' P vF vR vS fs u1 u2 u3 := by
  have hs := hB.size
  have hsz := size_setCells xb (tC t'.r u1 u2 u3) 0 X
  have hx2 := blk_below hx hB
  have hb1 := (hT.ge b (.inl rfl)).1
  have hxw := bs.1.2
  exact ⟨(hT.below hB).beside hx2 hPx _, hc, fun k hk => by have := hP k hk; omega, hPx, set_of_ hx2 (by rw [tC_len, tC_len]), RT.box (hR.mono (fun k hk => ⟨hk, fun e => hk (e ▸ hPx)⟩)) hx2 _, iv, below_setCells (below_then bl bl.size hB) hxw _ 0, bs.1, by omega⟩
theorem LO.asks (h : LO w X base b xb n s t P vF vR vS fs v1 v2 v3) (hn : n ≤ 1000) : Calls Try.prog 15 #[.pointer (some ⟨b, 0, none⟩), .agg (tC t.r v1 v2 v3).toArray] X fun e W' => e = .returned (.bool true) ∧ Below X.heap.size X W' := by
  have hl : fs.length = t.fs.length := by rw [← h.cs, List.length_map]
  have h1 := h.iv.l1
  have h2 := h.iv.l2
  exact same_calls h.th (by rw [h.cs]; exact h.rt) (by omega) (by omega) ((rsame_eq t.row t.row (by omega) (Nat.lt_succ_self _)).trans (congrArg some ((sameP_iff t.row t.row).2 rfl)))
end
theorem thr_z (w : World) : (w.alloc (.cells (tC (fun _ => 0) (.slice none 0 0) (.slice none 0 0) (.slice none 0 0)).toArray 33 (0, 0))).there w.heap.size 0 ((tC (fun _ => 0) (.slice none 0 0) (.slice none 0 0) (.slice none 0 0)).toArray : Array Value).size := there_of (heap_alloc_new w _) rfl
/-- Both at first. -/
theorem ls_start {w w1 w2 : World} (hT : Th w2 w1.heap.size (fun k => k = w1.heap.size) w1.heap.size (fun _ => 0) Ses.zero (.slice none 0 0) (.slice none 0 0) (.slice none 0 0) [] [] []) (hB : Below w.heap.size w w2) (h1 : w.heap.size ≤ w1.heap.size) :
    LS w ((w2.alloc (.cells (tC (fun _ => 0) (.slice none 0 0) (.slice none 0 0) (.slice none 0 0)).toArray 33 (0, 0))).setCells w2.heap.size 0 (tC (fun _ => 0) (.slice none 0 0) (.slice none 0 0) (.slice none 0 0))) w1.heap.size w1.heap.size w2.heap.size 0 Ses.zero ⟨fun _ => 0, [], [], []⟩ := by
  have hlt := hT.lt
  have hB1 := below_alloc (Below.refl w2.heap.size w2) (.cells (tC (fun _ => 0) (.slice none 0 0) (.slice none 0 0) (.slice none 0 0)).toArray 33 (0, 0))
  have hn := heap_alloc_new w2 (.cells (tC (fun _ => 0) (.slice none 0 0) (.slice none 0 0) (.slice none 0 0)).toArray 33 (0, 0))
  have T3 := (hT.weak (P' := fun k => k = w1.heap.size ∨ k = w2.heap.size) (fun k hk => .inl hk) (fun k hk => hk.imp id (fun q => by omega))).below hB1
  have hs : ((w2.alloc (.cells (tC (fun _ => 0) (.slice none 0 0) (.slice none 0 0) (.slice none 0 0)).toArray 33 (0, 0))).setCells w2.heap.size 0 (tC (fun _ => 0) (.slice none 0 0) (.slice none 0 0) (.slice none 0 0))).heap.size = w2.heap.size + 1 := by rw [size_setCells, size_alloc]
  refine ⟨⟨_, _, _, _, [], _, _, _, T3.beside hn (.inr rfl) _, rfl, fun k hk => by rw [hs]; rcases hk with rfl | rfl <;> omega, .inr rfl, set_of_ hn (by rw [tC_len]), ⟨OV.nil _ _ _ _, OV.nil _ _ _ _, (fun k hk => by cases hk), ⟨none, 0, rfl, Nat.le_refl 0, Kd.F_nil _ _ _⟩⟩⟩, ⟨Nat.le_refl 0, Nat.le_refl 0, Nat.le_refl 0, rfl⟩, below_setCells (below_then hB hB.size hB1) hB.size _ 0, ⟨h1, hB.size⟩, by rw [hs]; omega⟩
end
end Go.Proofs.Ytocmdcjbjhpooaa.FrW
