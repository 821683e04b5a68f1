/- How many opers aren't answered: a range over the opers of each thread. -/
import Derived.Test.YtacajonkkfmibaaHistEachA
import Derived.RangeFuncNested
import Derived.RangeFuncBound
import Derived.RangeFuncCalls
import Derived.RangeFuncLeaves
import Derived.Shelf.Abstract
import Derived.Shelf.RegionOpen
import Derived.OwnWalkIn
import Derived.TacticsInMore
import Derived.LoopNIn
import Derived.LoopIn
set_option linter.unusedVariables false
set_option linter.unusedSimpArgs false
namespace Go.Proofs.Ytacajonkkfmibaa.HistOpen
open Go Go.RowKit Go.Shelf Go.Proofs.YtacajonkkfmibaaW.PrintWords Go.Proofs.YtacajonkkfmibaaW.PrintLast Go.Proofs.YtacajonkkfmibaaW.PrintMore Go.Proofs.Ytacajonkkfmibaa.PHistOpers Go.Proofs.Ytacajonkkfmibaa.PHistOpers.HistW Go.Proofs.Ytacajonkkfmibaa.Num Go.Proofs.Ytacajonkkfmibaa.HistEachA Go.Proofs.Ytacajonkkfmibaa.GRow
attribute [local go_sem] Oper.semAt_some
section
variable {F : Fence} {n : Nat} {P : Program} {Q : Exit → Act → World → Prop} {a : Act} {w : World} {b : Frame} {k : List Item} {cs : List Frame}
theorem stepR_scope {c : Code} : step P (lone (b.atR a (.code (.scope c) :: k)) cs w) = .next (lone (b.atR a (.code c :: .inScope c :: k)) cs w) :=
  step_lone_go (by simp [stepG, stepG.exec, Frame.atR])
theorem stepR_inScope {c : Code} : step P (lone (b.atR a (.inScope c :: k)) cs w) = .next (lone (b.atR a k) cs w) :=
  step_lone_go (by simp [stepG, stepG.exec, Frame.atR])
/-- A scope that is left by no goto, inside a fence. -/
theorem wpIn_scope {c : Code} (h : c.wpIn F n P (Exit.noGoto Q) a w) : (Code.scope c).wpIn F n P Q a w := by
  intro b k cs hro hb hr
  have h0 : (lone (b.atR a (.code (.scope c) :: k)) cs w).fenced P F := fenced_calm hb hr rfl
  obtain ⟨e, a₁, w₁, hq, harr⟩ := h b (.inScope c :: k) cs hro hb hr
  cases e with
  | normal => exact ⟨.normal, a₁, w₁, hq, .head h0 stepR_scope (StepsIn.trans harr (.one (fenced_calm hb hr rfl) stepR_inScope))⟩
  | exit id =>
    have hx : exitTo id (.inScope c :: k) = exitTo id k := by simp [exitTo]
    exact ⟨.exit id, a₁, w₁, hq, fun k' hk => .head h0 stepR_scope (harr.1 k' (by rw [hx]; exact hk)),
      fun hr' hk => let ⟨k₁, h1, h2⟩ := harr.2 hr' (by rw [hx]; exact hk); ⟨k₁, h1, .head h0 stepR_scope h2⟩⟩
  | goto l => exact hq.elim
  | ret => exact ⟨_, a₁, w₁, hq, .of_steps (.one h0 stepR_scope) harr⟩
  | panic ch => exact ⟨_, a₁, w₁, hq, .of_steps (.one h0 stepR_scope) harr⟩
  | outgrown => exact ⟨_, a₁, w₁, hq, .of_steps (.one h0 stepR_scope) harr⟩
end
abbrev OC := Opr × Option Addr × Nat
def encO (x : OC) : Array Value := #[.agg (oc x.1 x.2.1 x.2.2)]
def KpO (n0 nb : Nat) (W W' : World) : Prop := W.heap.size ≤ W'.heap.size ∧ (∀ k, k < n0 → W'.heap[k]? = W.heap[k]?) ∧ ∀ k cs t fr, k ≠ nb → W.heap[k]? = some (.cells cs t fr) → W'.heap[k]? = some (.cells cs t fr)
theorem KpO.trans {n0 nb : Nat} {A B C : World} (h : KpO n0 nb A B) (k : KpO n0 nb B C) : KpO n0 nb A C :=
  ⟨Nat.le_trans h.1 k.1, fun i hi => (k.2.1 i hi).trans (h.2.1 i hi), fun i cs t fr hn hc => k.2.2 i cs t fr hn (h.2.2 i cs t fr hn hc)⟩
theorem KpO.put {n0 nb M : Nat} (hM : n0 ≤ M) (W : World) (l : Nat) (o o' : Obj) (hl : M ≤ l) (ho : W.heap[l]? = some o) (hc : o.isCells = false) (_ : o.isWalk = false) : KpO n0 nb W (W.putObj l o') := by
  refine ⟨by simp, fun k hk => World.putObj_heap_other (by omega), fun k cs t fr hn hk => ?_⟩
  by_cases e : k = l
  · subst e
    rw [ho] at hk
    obtain rfl := Option.some.inj hk
    cases hc
  · exact (World.putObj_heap_other e).trans hk
theorem KpO.of_below {n0 nb : Nat} {W W' : World} (h : Below W.heap.size W W') (hn : n0 ≤ W.heap.size) : KpO n0 nb W W' :=
  ⟨h.size, fun k hk => h.block k (by omega), fun k cs t fr _ hk => (h.block k (Array.getElem?_eq_some_iff.1 hk).1).trans hk⟩
theorem grown_of {W W' : World} (h : Below W.heap.size W W') : W.grownBy W' none := ⟨h.os, h.tape, h.output, h.size, fun k hk _ => h.block k hk⟩
theorem ov_keep {n0 nb base : Nat} {W W' : World} {v : Value} {recs : List (List Value)} (h : OV 35 13 W base v recs) (hk : KpO n0 nb W W') (hb : nb < base) : OV 35 13 W' base v recs := by
  rcases h with h | ⟨g, c, rfl, hg, G⟩
  · exact .inl h
  · refine .inr ⟨g, c, rfl, hg, ?_⟩
    obtain ⟨cur, hc, hr⟩ := G
    exact ⟨cur, hk.2.2 g _ _ _ (by omega) hc, hr⟩
theorem opers_le (l : List Ev) : (opersF l).length ≤ l.length := by
  unfold opersF
  split
  · rename_i hm
    have e := opers_refs hm
    unfold opersF at e
    rw [if_pos hm] at e
    rw [e]
    have key : ∀ (l : List Ev) i, (refs i l).length ≤ l.length := by
      intro l
      induction l with
      | nil => intro i; exact Nat.le_refl _
      | cons e l ih =>
        intro i
        rw [refs]
        split
        · have := ih (i + 1); rw [List.length_cons]; omega
        · have := ih (i + 1); rw [List.length_cons, List.length_cons]; omega
    exact key l 0
  · exact Nat.zero_le _
theorem mine_take1 (t : Int) (xs : List Opr) (j : Nat) (hj : j < xs.length) : mine t (xs.take (j + 1)) = if xs[j].f0 = t then mine t (xs.take j) ++ [xs[j]] else mine t (xs.take j) := by
  rw [List.take_succ_eq_append_getElem hj]
  unfold mine
  rw [List.filter_append, List.filter_cons]
  by_cases h : xs[j].f0 = t
  · rw [if_pos h, if_pos (beq_iff_eq.2 h)]; rfl
  · rw [if_neg h, if_neg (by rw [beq_iff_eq]; exact h), List.filter_nil, List.append_nil]
set_option maxHeartbeats 4000000 in
set_option maxRecDepth 100000 in
theorem each1_stops (n nb n0 lb hb : Nat) (l : List Ev) (A : Option Addr) (c : Nat) (thread : Int) (w0 : World) (hn : 1 ≤ n) (hf : Kd.F k33 w0 (fun k => k < n0) A l.length l) (hc : l.length ≤ c) (hl : l.length ≤ 1000000)
    (hlb : w0.heap[lb]? = some (.cells #[.slice A l.length c] 22 (0, 0))) (hhb : w0.heap[hb]? = some (.cells #[.int .i64 thread] 3 (0, 0))) (hne : hb ≠ nb ∧ nb < w0.heap.size ∧ n0 ≤ w0.heap.size) :
    SeqStopsK Fence.wide n Try.prog 54 #[.pointer (some ⟨lb, 0, none⟩), .pointer (some ⟨hb, 0, none⟩)] encO (KpO n0 nb) (fun ys => ys.map (·.1) = mine thread (opersF l)) (fun _ => True) 2000000 w0 := by
  intro lY J Jx W hW hJ hJx hY h0
  have hu5 := Try.underlying35
  have XL := opers_le l
  have O := Aside0.mk (opers_own l A c W (fun k => k < n0) (Kd.F_below hf hW) hc hl)
  have lbc : W.cell? ⟨lb, 0, none⟩ = some (.slice A l.length c) := (blk_cell (blk_below hlb hW) 0).trans rfl
  have HB0 := Aside0.mk (blk_below hhb hW)
  have SW := Aside0.mk hW.size
  have HY := Aside0.mk hY
  have HJ := Aside0.mk hJ
  have J0 := Aside0.mk h0
  have NE := Aside0.mk hne
  clear hf hlb hhb hY hJ hJx h0 hW hne
  refine callsIn_of_wp Try.func54 rfl trivial ?_ rfl
  simp only [Try.ntmps54, List.size_toArray, List.length_cons, List.length_nil, Nat.reduceAdd, Nat.reduceSub, Array.replicate_succ, Array.replicate_zero, List.push_toArray, List.append_toArray, List.nil_append, List.cons_append]
  gi_wp2
  refine wpIn_scope ?_
  gi_wp2
  refine wpIn_label ?_
  gi_wp2_with ((refine ⟨trivial, ?_⟩; gi_at_call 16; refine (callsIn_wide.2 O.out).mono ?_; rintro e w2 ⟨v0, recs, rfl, hOV, hRC, hb2⟩; obtain ⟨Av, cv, hsv, hcv⟩ := hOV.slice; subst hsv; have OV2 := Aside0.mk hOV; have RC2 := Aside0.mk hRC; have B2 := Aside0.mk hb2; clear hOV hRC hb2))
  obtain ⟨xs, hxs⟩ : ∃ xs, opersF l = xs := ⟨_, rfl⟩
  rw [hxs] at RC2 XL
  have HX := Aside0.mk hxs
  have RL := RC2.out.1
  have HB2 := Aside0.mk (blk_below HB0.out B2.out)
  have AG2 := Aside0.mk (show ∀ k, k < n0 → w2.heap[k]? = W.heap[k]? from fun k hk => B2.out.block k (by have := NE.out; have := SW.out; omega))
  have J2 := Aside0.mk (HJ.out [] W w2 none J0.out (grown_of B2.out) (fun r e => by cases e))
  have S2 := Aside0.mk B2.out.size
  clear hxs O lbc J0 B2 hcv
  gi_loopw [9] (fun p wr => ∃ (j : Nat) (ys : List OC), p = .int .i64 j ∧ j ≤ xs.length ∧ Aside0 (ys.map (·.1) = mine thread (xs.take j)) ∧ Aside0 (OV 35 13 wr W.heap.size (.slice Av recs.length cv) recs) ∧ Aside0 (wr.heap[hb]? = some (.cells #[.int .i64 thread] 3 (0, 0))) ∧ Aside0 (∀ k, k < n0 → wr.heap[k]? = W.heap[k]?) ∧ Aside0 (J ys wr) ∧ Aside0 (W.heap.size ≤ wr.heap.size)) (fun p _ => xs.length - (intOf p).toNat)
  case atStart => exact ⟨0, [], rfl, Nat.zero_le _, ⟨rfl⟩, OV2, HB2, AG2, J2, S2⟩
  case round =>
    clear OV2 HB2 AG2 J2 S2
    obtain ⟨j, ys, rfl, hj, YS, OVV, HBB, AG, JJ, SS⟩ := hrel
    by_cases hlt : j < xs.length
    · obtain ⟨A', c', hv, _, hC⟩ := OVV.out.reads (d := kO) rfl RC2.out.1 (fun i h1 h3 => RC2.out.2 i h1 h3 wr (fun k hk _ => AG.out k hk))
      obtain rfl : Av = A' := by injection hv
      obtain ⟨ad, A10, c10, hA, hC13, hl10, hr10⟩ := op_at hC j hlt
      subst hA
      have q1 : (j : Int) < (recs.length : Int) := by omega
      have hM := mine_take1 thread xs j hlt
      obtain ⟨o, ho⟩ : ∃ o, xs[j] = o := ⟨_, rfl⟩
      rw [ho] at hC13 hM
      obtain ⟨p0, p1, p2, p3, p4, p5, p6, p7, p8, p9, p10, p11, p12⟩ := hC13
      have hb0 : wr.cell? ⟨hb, 0, none⟩ = some (.int .i64 thread) := (blk_cell HBB.out 0).trans rfl
      have hb1 : (wr.alloc (.cells #[.int .i64 o.f0, .int .i64 o.f1.f0, .int .i64 o.f1.f1, .int .i64 o.f1.f2, .int .i64 o.f1.f3, .int .i64 o.f1.f4, .int .i64 o.f2.f0, .int .i64 o.f2.f1, .int .i64 o.f2.f2, .int .i64 o.f2.f3, .slice A10 o.f2.f4.length c10, .int .i64 o.f3, .int .i64 o.f4] 35 (0, 0))).cell? ⟨hb, 0, none⟩ = some (.int .i64 thread) := (blk_cell (blk_alloc HBB.out _) 0).trans rfl
      have BA := Aside0.mk (below_alloc (Below.refl wr.heap.size wr) (.cells #[.int .i64 o.f0, .int .i64 o.f1.f0, .int .i64 o.f1.f1, .int .i64 o.f1.f2, .int .i64 o.f1.f3, .int .i64 o.f1.f4, .int .i64 o.f2.f0, .int .i64 o.f2.f1, .int .i64 o.f2.f2, .int .i64 o.f2.f3, .slice A10 o.f2.f4.length c10, .int .i64 o.f3, .int .i64 o.f4] 35 (0, 0)))
      have JA := Aside0.mk (HJ.out ys wr (wr.alloc (.cells #[.int .i64 o.f0, .int .i64 o.f1.f0, .int .i64 o.f1.f1, .int .i64 o.f1.f2, .int .i64 o.f1.f3, .int .i64 o.f1.f4, .int .i64 o.f2.f0, .int .i64 o.f2.f1, .int .i64 o.f2.f2, .int .i64 o.f2.f3, .slice A10 o.f2.f4.length c10, .int .i64 o.f3, .int .i64 o.f4] 35 (0, 0))) none JJ.out (grown_of BA.out) (fun r e => by cases e))
      have OVA := Aside0.mk (OVV.out.alloc (.cells #[.int .i64 o.f0, .int .i64 o.f1.f0, .int .i64 o.f1.f1, .int .i64 o.f1.f2, .int .i64 o.f1.f3, .int .i64 o.f1.f4, .int .i64 o.f2.f0, .int .i64 o.f2.f1, .int .i64 o.f2.f2, .int .i64 o.f2.f3, .slice A10 o.f2.f4.length c10, .int .i64 o.f3, .int .i64 o.f4] 35 (0, 0)))
      have HBA := Aside0.mk (blk_alloc HBB.out (.cells #[.int .i64 o.f0, .int .i64 o.f1.f0, .int .i64 o.f1.f1, .int .i64 o.f1.f2, .int .i64 o.f1.f3, .int .i64 o.f1.f4, .int .i64 o.f2.f0, .int .i64 o.f2.f1, .int .i64 o.f2.f2, .int .i64 o.f2.f3, .slice A10 o.f2.f4.length c10, .int .i64 o.f3, .int .i64 o.f4] 35 (0, 0)))
      have AGA := Aside0.mk (show ∀ k, k < n0 → (wr.alloc (.cells #[.int .i64 o.f0, .int .i64 o.f1.f0, .int .i64 o.f1.f1, .int .i64 o.f1.f2, .int .i64 o.f1.f3, .int .i64 o.f1.f4, .int .i64 o.f2.f0, .int .i64 o.f2.f1, .int .i64 o.f2.f2, .int .i64 o.f2.f3, .slice A10 o.f2.f4.length c10, .int .i64 o.f3, .int .i64 o.f4] 35 (0, 0))).heap[k]? = W.heap[k]? from fun k hk => (BA.out.block k (by have := NE.out; have := SW.out; have := SS.out; omega)).trans (AG.out k hk))
      have SSA := Aside0.mk (Nat.le_trans SS.out BA.out.size)
      clear ho hl10 hr10 hC hv
      by_cases hth : o.f0 = thread
      · rw [if_pos hth] at hM
        have HM := Aside0.mk hM
        have dth : (o.f0 != thread) = false := by rw [hth]; simp
        have hylen : ys.length < 2000000 := by
          have e1 : (ys.map (·.1)).length = ys.length := List.length_map _
          rw [← e1, YS.out]
          have := List.length_filter_le (fun o : Opr => o.f0 == thread) (xs.take j)
          have e2 : (mine thread (xs.take j)).length = ((xs.take j).filter (fun o : Opr => o.f0 == thread)).length := rfl
          have e3 : (xs.take j).length ≤ j := List.length_take_le _ _
          omega
        obtain ⟨fn, tm, asg, bod, hy, hR⟩ := HY.out ys (o, A10, c10) (wr.alloc (.cells #[.int .i64 o.f0, .int .i64 o.f1.f0, .int .i64 o.f1.f1, .int .i64 o.f1.f2, .int .i64 o.f1.f3, .int .i64 o.f1.f4, .int .i64 o.f2.f0, .int .i64 o.f2.f1, .int .i64 o.f2.f2, .int .i64 o.f2.f3, .slice A10 o.f2.f4.length c10, .int .i64 o.f3, .int .i64 o.f4] 35 (0, 0))) JA.out hylen
        have HRR := Aside0.mk hR
        dsimp only [encO, oc] at hy
        clear hM hth hylen hR
        gi_wp2
        refine HRR.out.mono ?_
        rintro e W3 (⟨rfl, hJ3, hk3⟩ | ⟨rfl, hJx3⟩)
        · have J3 := Aside0.mk hJ3
          have OV3 := Aside0.mk (ov_keep OVA.out hk3 (by have := NE.out; have := SW.out; omega))
          have HB3 := Aside0.mk (hk3.2.2 hb _ _ _ NE.out.1 HBA.out)
          have AG3 := Aside0.mk (show ∀ k, k < n0 → W3.heap[k]? = W.heap[k]? from fun k hk => (hk3.2.1 k hk).trans (AGA.out k hk))
          have S3 := Aside0.mk (Nat.le_trans SSA.out hk3.1)
          clear hJ3 hk3 hb0 hb1 p0 p1 p2 p3 p4 p5 p6 p7 p8 p9 p10 p11 p12 hy
          gi_wp2
          go_roundw
          case rel => exact ⟨j + 1, ys ++ [(o, A10, c10)], by go_num, by omega, ⟨by rw [HM.out, List.map_append, YS.out]; rfl⟩, OV3, HB3, AG3, J3, S3⟩
          case measure => simp [intOf]; omega
        · have JX3 := Aside0.mk hJx3
          clear hJx3 hb0 hb1 p0 p1 p2 p3 p4 p5 p6 p7 p8 p9 p10 p11 p12 hy
          gi_wp2
          first | rw [Exit.noGoto_normal] | skip
          go_end0
          exact ⟨⟨_, rfl⟩, .inr ⟨_, trivial, JX3.out⟩⟩
      · rw [if_neg hth] at hM
        have HM := Aside0.mk hM
        have dth : (o.f0 != thread) = true := by rw [bne_iff_ne]; exact hth
        clear hM hth
        gi_wp2
        go_roundw
        case rel => exact ⟨j + 1, ys, by go_num, by omega, ⟨by rw [HM.out]; exact YS.out⟩, OVA, HBA, AGA, JA, SSA⟩
        case measure => simp [intOf]; omega
    · have q1 : ¬ (j : Int) < (recs.length : Int) := by omega
      obtain rfl : j = xs.length := by omega
      gi_wp2
      first | rw [Exit.noGoto_normal] | skip
      go_end0
      exact ⟨⟨_, rfl⟩, .inl ⟨ys, by rw [YS.out, HX.out, List.take_length], JJ.out⟩⟩
def negs (xs : List Opr) : Nat := (xs.filter (fun o => decide (o.f4 < 0))).length
def openU (l : List Ev) : Nat → Nat
  | 0 => 0
  | k + 1 => openU l k + negs (mine (k : Int) (opersF l))
theorem negs_le (xs : List Opr) : negs xs ≤ xs.length := List.length_filter_le _ _
theorem negs_snoc (xs : List Opr) (o : Opr) : negs (xs ++ [o]) = if o.f4 < 0 then negs xs + 1 else negs xs := by
  unfold negs
  rw [List.filter_append, List.length_append]
  by_cases h : o.f4 < 0
  · rw [if_pos h, List.filter_cons, if_pos (decide_eq_true h)]; rfl
  · rw [if_neg h, List.filter_cons, if_neg (by simpa using h)]; rfl
theorem openU_le (l : List Ev) (hl : l.length ≤ 1000000) : ∀ k, openU l k ≤ k * 1000000
  | 0 => Nat.le_refl _
  | k + 1 => by
    have h1 := openU_le l hl k
    have h2 := negs_le (mine (k : Int) (opersF l))
    have h3 : (mine (k : Int) (opersF l)).length ≤ (opersF l).length := List.length_filter_le _ _
    have h4 := opers_le l
    rw [openU]
    omega
def mk1 (D : Nat) : Deferred := { target := .collected D, args := #[] }
def MarksB (B : Nat) (Ds : List Nat) (W : World) : Prop := Ds.Nodup ∧ ∀ D, D ∈ Ds → D < B ∧ W.heap[D]? = some (.deferred (some []))
theorem marks_own {β : Type} (B : Nat) (Ds : List Nat) : OwnFrom B (fun (_ : β) W => MarksB B Ds W) := fun _ X Y row hs hg hr =>
  ⟨hs.1, fun D hD => ⟨(hs.2 D hD).1, (hg.block D (Array.getElem?_eq_some_iff.1 (hs.2 D hD).2).1 (fun e => by have := (hr D e.symm).1; have := (hs.2 D hD).1; omega)).trans (hs.2 D hD).2⟩⟩
theorem MarksB.below {B N : Nat} {Ds : List Nat} {W W' : World} (h : MarksB B Ds W) (hb : Below N W W') (hN : B ≤ N) : MarksB B Ds W' :=
  ⟨h.1, fun D hD => ⟨(h.2 D hD).1, (hb.block D (by have := (h.2 D hD).1; omega)).trans (h.2 D hD).2⟩⟩
theorem MarksB.mono {B B' : Nat} {Ds : List Nat} {W : World} (h : MarksB B Ds W) (hB : B ≤ B') : MarksB B' Ds W := ⟨h.1, fun D hD => ⟨Nat.lt_of_lt_of_le (h.2 D hD).1 hB, (h.2 D hD).2⟩⟩
theorem MarksB.setc {B nb : Nat} {Ds : List Nat} {W : World} (h : MarksB B Ds W) (hn : ∀ D, D ∈ Ds → D ≠ nb) (u : Value) : MarksB B Ds (W.setCell ⟨nb, 0, none⟩ u) :=
  ⟨h.1, fun D hD => ⟨(h.2 D hD).1, (Below.heap_setCell W ⟨nb, 0, none⟩ u D (hn D hD)).trans (h.2 D hD).2⟩⟩
end Go.Proofs.Ytacajonkkfmibaa.HistOpen
