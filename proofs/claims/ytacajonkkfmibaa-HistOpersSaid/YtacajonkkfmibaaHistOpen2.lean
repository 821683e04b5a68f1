import Derived.Test.YtacajonkkfmibaaHistOpen
set_option linter.unusedVariables false
set_option linter.unusedSimpArgs false
namespace Go.Proofs.Ytacajonkkfmibaa.HistOpen
open Go Go.RowKit Go.Shelf Go.Proofs.YtacajonkkfmibaaW.PrintWords Go.Proofs.YtacajonkkfmibaaW.PrintLast Go.Proofs.YtacajonkkfmibaaW.PrintMore Go.Proofs.Ytacajonkkfmibaa.PHistOpers Go.Proofs.Ytacajonkkfmibaa.PHistOpers.HistW Go.Proofs.Ytacajonkkfmibaa.Num Go.Proofs.Ytacajonkkfmibaa.HistEachA Go.Proofs.Ytacajonkkfmibaa.GRow
attribute [local go_sem] Oper.semAt_some
def OpenI (n0 nb : Nat) (l : List Ev) (v0 : Value) (T : Nat) (w : World) (a : Act) (W : World) : Prop :=
  ∃ (k : Nat) (Ds : List Nat) (u4 u5 u9 u10 u11 u12 u13 u14 u15 u16 u17 u18 u19 u20 u21 : Value), k ≤ T ∧
    a = { tmps := #[v0, undef, .int .i64 0, .pointer (some ⟨nb, 0, none⟩), u4, u5, v0, .int .i64 (T : Int), .int .i64 (k : Int), u9, u10, u11, u12, u13, u14, u15, u16, u17, u18, u19, u20, u21], defers := Ds.map mk1 } ∧
    W.heap[nb]? = some (.cells #[.int .i64 ((openU l k : Nat) : Int)] 3 (0, 0)) ∧ Below n0 w W ∧ MarksB W.heap.size Ds W ∧ nb < W.heap.size ∧ ∀ D, D ∈ Ds → n0 ≤ D
theorem leavesM_marks {n : Nat} {fn : Func} {tmps : Array Value} {R : Ending → World → Prop} {w : World} (hR : ∀ W, Below w.heap.size w W → LeavesIn Fence.wide n Try.prog fn tmps R [] .returning W) :
    ∀ (Ds : List Nat) (W : World), Below w.heap.size w W → MarksB W.heap.size Ds W → (∀ D, D ∈ Ds → w.heap.size ≤ D) → LeavesInM Fence.wide n Try.prog fn tmps R (Ds.map mk1) .returning W := by
  intro Ds
  induction Ds with
  | nil => intro W hb _ _; exact hR W hb
  | cons D Ds ih =>
    intro W hb hM hD
    rw [List.map_cons, LeavesInM]
    refine ⟨by simp, .inl ⟨D, _, rfl, run_takeDeferred (hM.2 D (List.mem_cons_self)).2, ?_⟩⟩
    have hnd := List.nodup_cons.1 hM.1
    refine ih _ (hb.trans (belowK_b (w := w) (Nat.le_refl _) W D _ _ (hD D List.mem_cons_self) (hM.2 D List.mem_cons_self).2 rfl rfl)) ⟨hnd.2, fun E hE => ?_⟩ (fun E hE => hD E (List.mem_cons_of_mem _ hE))
    have h1 := hM.2 E (List.mem_cons_of_mem _ hE)
    exact ⟨by simpa using h1.1, (World.putObj_heap_other (by rintro rfl; exact hnd.1 hE)).trans h1.2⟩
set_option maxHeartbeats 4000000 in
set_option maxRecDepth 100000 in
theorem open_calls (l : List Ev) (A : Option Addr) (c : Nat) (T : Nat) (w : World) (hr : Kd.C k33 w A l.length l) (hc : l.length ≤ c) (hl : l.length ≤ 1000000) (hT6 : T ≤ 6)
    (hT : ∀ W, Below w.heap.size w W → Calls Try.prog 36 #[.slice A l.length c] W fun e w' => e = .returned (.int .i64 (T : Int)) ∧ Below W.heap.size W w') :
    Calls Try.prog 38 #[.slice A l.length c] w fun e w' => e = .returned (.int .i64 ((openU l T : Nat) : Int)) ∧ Below w.heap.size w w' := by
  refine (callsIn_wide (n := 10)).1 ?_
  have hu5 := Try.underlying35
  have HT := Aside0.mk hT
  have HF := Aside0.mk (Kd.C_F k33_heap hr)
  clear hT hr
  refine callsIn_of_wp_marks Try.func38 rfl trivial ?_ rfl
  simp only [Try.ntmps38, List.size_toArray, List.length_cons, List.length_nil, Nat.reduceAdd, Nat.reduceSub, Array.replicate_succ, Array.replicate_zero, List.push_toArray, List.append_toArray, List.nil_append, List.cons_append]
  gi_wp2_with ((refine ⟨trivial, ?_⟩; gi_at_call 36; refine (callsIn_wide.2 (HT.out _ (below_alloc (Below.refl _ w) _))).mono ?_; rintro e w2 ⟨rfl, hb2⟩))
  have SZ2 := hb2.size
  rw [World.size_alloc] at SZ2
  have B2 := Aside0.mk ((below_alloc (Below.refl w.heap.size w) (.cells #[.int .i64 0] 3 (0, 0))).trans (hb2.mono (by simp)))
  have N2 := Aside0.mk ((hb2.block w.heap.size (by simp)).trans (World.alloc_heap_new w _))
  clear hb2
  refine wpIn_loop (OpenI w.heap.size w.heap.size l (.slice A l.length c) T w) (fun a _ => T - (intOf a.tmps[8]!).toNat) ⟨0, [], _, _, _, _, _, _, _, _, _, _, _, _, _, _, _, Nat.zero_le _, rfl, N2.out, B2.out, ⟨List.nodup_nil, fun D hD => absurd hD (by simp)⟩, by omega, fun D hD => absurd hD (by simp)⟩ ?_
  clear N2 B2 SZ2 w2
  rintro a W ⟨k, Ds, u4, u5, u9, u10, u11, u12, u13, u14, u15, u16, u17, u18, u19, u20, u21, hk, rfl, hN, hB, hM, hlt, hDs⟩
  have N := Aside0.mk hN
  have B := Aside0.mk hB
  have M := Aside0.mk hM
  have DS := Aside0.mk hDs
  have NC : W.cell? ⟨w.heap.size, 0, none⟩ = some (.int .i64 ((openU l k : Nat) : Int)) := (blk_cell hN 0).trans rfl
  clear hN hB hM hDs
  by_cases hkT : k < T
  · have q1 : (k : Int) < (T : Int) := by omega
    gi_wp2_with ((refine ⟨trivial, ?_⟩; gi_at_call 19; refine (callsIn_wide.2 (each_calls _ _ _ _ _)).mono ?_; rintro e w3 ⟨rfl, rfl⟩))
    have NW := Aside0.mk (blk_alloc (blk_alloc N.out (.cells #[.slice A l.length c] 22 (0, 0))) (.cells #[.int .i64 k] 3 (0, 0)))
    have BW := Aside0.mk (below_alloc (below_alloc B.out (.cells #[.slice A l.length c] 22 (0, 0))) (.cells #[.int .i64 k] 3 (0, 0)))
    have MW := Aside0.mk (((M.out.below (below_alloc (below_alloc (Below.refl W.heap.size W) (.cells #[.slice A l.length c] 22 (0, 0))) (.cells #[.int .i64 k] 3 (0, 0))) (Nat.le_refl _))).mono (show W.heap.size ≤ ((W.alloc (.cells #[.slice A l.length c] 22 (0, 0))).alloc (.cells #[.int .i64 k] 3 (0, 0))).heap.size by simp; omega))
    have LB := Aside0.mk (blk_alloc (World.alloc_heap_new W (.cells #[.slice A l.length c] 22 (0, 0))) (.cells #[.int .i64 k] 3 (0, 0)))
    have HBx := Aside0.mk (World.alloc_heap_new (W.alloc (.cells #[.slice A l.length c] 22 (0, 0))) (.cells #[.int .i64 k] 3 (0, 0)))
    have SW := Aside0.mk (show ((W.alloc (.cells #[.slice A l.length c] 22 (0, 0))).alloc (.cells #[.int .i64 k] 3 (0, 0))).heap.size = W.heap.size + 2 by simp)
    rw [World.size_alloc] at HBx
    obtain ⟨W0, hW0⟩ : ∃ W0, (W.alloc (.cells #[.slice A l.length c] 22 (0, 0))).alloc (.cells #[.int .i64 k] 3 (0, 0)) = W0 := ⟨_, rfl⟩
    rw [hW0] at NW BW MW LB HBx SW ⊢
    clear hW0 N B M NC
    have NE1 : w.heap.size < W0.heap.size := by have := SW.out; omega
    have HF2 := Kd.F_below HF.out BW.out
    refine wpIn_rangeFunc_ownH rfl (by omega) (gf := 54) (lb := #[.pointer (some ⟨W.heap.size, 0, none⟩), .pointer (some ⟨W.heap.size + 1, 0, none⟩)]) rfl trivial (enters_of Try.func54 (by kernel_rfl) rfl)
      (each1_stops (10 - 1) w.heap.size w.heap.size W.heap.size (W.heap.size + 1) l A c (k : Int) W0 (by omega) HF2 hc hl LB.out HBx.out ⟨by omega, NE1, by omega⟩) KpO.trans (fun W l o o' h1 h2 h3 h4 => KpO.put (M := W0.heap.size) (by omega) W l o o' h1 h2 h3 h4) (Below.refl _ _) (fun _ => rfl)
      (fun pre W => Boxed W w.heap.size 3 (.int .i64 ((openU l k + negs (pre.map (·.1)) : Nat) : Int)) ∧ (Below w.heap.size w W ∧ MarksB W0.heap.size Ds W))
      (fun _ _ _ => False)
      (OwnFrom.and (Own.from (boxed_own _ _ _) _) (OwnFrom.and (ownFrom_below (Nat.le_refl _) (by omega)) (marks_own _ _)))
      (fun _ _ _ _ _ hs _ _ => hs)
      ⟨NW.out, BW.out, MW.out⟩
      (fun x a' W2 => ∃ Bx, W2.heap[Bx]? = some (.cells (oc x.1 x.2.1 x.2.2) 35 (0, 0)) ∧ a' = { tmps := #[.slice A l.length c, undef, .int .i64 0, .pointer (some ⟨w.heap.size, 0, none⟩), .int .i64 k, .pointer (some ⟨Bx, 0, none⟩), .slice A l.length c, .int .i64 T, .int .i64 k, .bool true, .int .i64 k, .slice A l.length c, .int .i64 k, .func (.func 54) #[] #[.pointer (some ⟨W.heap.size, 0, none⟩), .pointer (some ⟨W.heap.size + 1, 0, none⟩)], .agg (oc x.1 x.2.1 x.2.2), u15, u16, u17, u18, u19, u20, u21], defers := [] })
      (fun x a' _ X Y row hs hg hr => by
        obtain ⟨Bx, h2, h3⟩ := hs
        exact ⟨Bx, (hg.block Bx (Array.getElem?_eq_some_iff.1 h2).1 (fun e => by obtain ⟨o, ho, hcl⟩ := (hr Bx e.symm).2; rw [h2] at ho; obtain rfl := Option.some.inj ho; cases hcl)).trans h2, h3⟩)
      ?assign ?body ?done ?stop
    case assign =>
      rintro lo pre ⟨o, A10, c10⟩ W2 K ⟨hn2, hb2, hm2⟩ hK
      dsimp only [encO, oc]
      have HK := Aside0.mk hK
      clear hK HF2 LB HBx HT
      gi_wp2
      exact HK.out _ _ ((KeepsOthers.alloc _ _).from _) (KpO.of_below (below_alloc (Below.refl _ _) _) hb2.size) ⟨hn2.alloc _, below_alloc hb2 _, ⟨hm2.1, fun D hD => ⟨(hm2.2 D hD).1, blk_alloc (hm2.2 D hD).2 _⟩⟩⟩ ⟨W2.heap.size, World.alloc_heap_new _ _, rfl⟩
    case body =>
      rintro lo pre ⟨o, A10, c10⟩ a' W2 hlo _ ⟨hn2, hb2, hm2⟩ ⟨Bx, hcx, rfl⟩ hlen
      have cN := hn2.cell
      have fN := hn2.frozen
      have c12 : W2.cell? ⟨Bx, 12, none⟩ = some (.int .i64 o.f4) := (blk_cell hcx 12).trans rfl
      have HH := Aside0.mk hn2
      have BB := Aside0.mk hb2
      have MM := Aside0.mk hm2
      have E1 : negs ((pre ++ [(o, A10, c10)]).map (·.1)) = if o.f4 < 0 then negs (pre.map (·.1)) + 1 else negs (pre.map (·.1)) := by rw [List.map_append]; exact negs_snoc _ _
      have B1 : negs (pre.map (·.1)) < 2000000 := by have := negs_le (pre.map (·.1)); rw [List.length_map] at this; omega
      have B2 := openU_le l hl k
      clear hn2 hb2 hm2 HF2 LB HBx HT hcx
      by_cases hneg : o.f4 < 0
      · rw [if_pos hneg] at E1
        have EE := Aside0.mk E1
        clear E1
        gi_wp2
        exact ⟨(KeepsOthers.setCell _ _ _).from _, ⟨by simp, fun k hk => Below.heap_setCell W2 ⟨w.heap.size, 0, none⟩ _ k (by show k ≠ w.heap.size; omega), fun k cs t fr hn hk => (Below.heap_setCell W2 ⟨w.heap.size, 0, none⟩ _ k hn).trans hk⟩,
          ⟨by rw [EE.out, show ((openU l k : Nat) : Int) + (((negs (pre.map (·.1)) + 1 : Nat)) : Int) = ((openU l k : Nat) : Int) + ((negs (pre.map (·.1)) : Nat) : Int) + 1 by omega]; exact HH.out.set _, BB.out.setCell (p := ⟨w.heap.size, 0, none⟩) (Nat.le_refl _) _, MM.out.setc (fun D hD => by rintro rfl; exact absurd (MM.out.2 _ hD).2 (by rw [show W2.heap[w.heap.size]? = _ from HH.out]; simp)) _⟩⟩
      · rw [if_neg hneg] at E1
        have EE := Aside0.mk E1
        clear E1
        gi_wp2
        exact ⟨KeepsFrom.refl _ _, KpO.of_below (Below.refl _ _) BB.out.size, by rw [EE.out]; exact HH.out, BB.out, MM.out⟩
    case done =>
      rintro D zs W2 hD hS ⟨hn2, hb2, hm2⟩ hK
      have HH := Aside0.mk hn2
      have BB := Aside0.mk hb2
      have MM := Aside0.mk hm2
      have HKK := Aside0.mk hK
      have HS := Aside0.mk hS
      clear hn2 hb2 hm2 HF2 LB HBx HT hK hS
      gi_wp2
      have hDl : D < W2.heap.size := (Array.getElem?_eq_some_iff.1 HKK.out).1
      refine ⟨⟨k + 1, D :: Ds, _, _, _, _, _, _, _, _, _, _, _, _, _, _, _, by omega, rfl, ?_, BB.out, ⟨List.nodup_cons.2 ⟨fun hm => ?_, MM.out.1⟩, ?_⟩, ?_, ?_⟩, ?_⟩
      · have e := HH.out
        rw [HS.out] at e
        exact e
      · have := (MM.out.2 D hm).1
        omega
      · intro E hE
        rcases List.mem_cons.1 hE with rfl | hE
        · exact ⟨hDl, HKK.out⟩
        · exact ⟨by have := (MM.out.2 E hE).1; omega, (MM.out.2 E hE).2⟩
      · exact HH.out.lt
      · intro E hE
        rcases List.mem_cons.1 hE with rfl | hE
        · omega
        · exact DS.out E hE
      · simp [intOf]; omega
    case stop =>
      rintro D cd pre W2 _ _ h _
      exact h.elim
  · have q1 : ¬ (k : Int) < (T : Int) := by omega
    obtain rfl : k = T := by omega
    gi_wp2
    refine leavesM_marks (w := w) ?_ Ds W B.out M.out DS.out
    intro W2 hB2
    exact ⟨_, results_tmp rfl _ _ _, rfl, hB2⟩
end Go.Proofs.Ytacajonkkfmibaa.HistOpen
