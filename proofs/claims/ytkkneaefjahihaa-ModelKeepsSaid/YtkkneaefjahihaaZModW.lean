/- A map's state: what makes it, and changes a session. -/
import Derived.Test.YtkkneaefjahihaaZModRec
import Derived.Test.YtkkneaefjahihaaZGSet
set_option linter.unusedVariables false
set_option linter.unusedSimpArgs false
namespace Go.Proofs.Ytkkneaefjahihaa.ModW
open Go Go.RowKit Go.Proofs.YtkkneaefjahihaaW.PrintWords Go.Proofs.YtkkneaefjahihaaW.PrintLast Go.Proofs.YtkkneaefjahihaaW.PrintMore Go.Proofs.Ytkkneaefjahihaa.PModelTold Go.Proofs.Ytkkneaefjahihaa.GRow Go.Proofs.Ytkkneaefjahihaa.ModRec Go.Proofs.Ytkkneaefjahihaa.Num
attribute [local go_sem] max2_int min2_int max_two min_two max_three min_three max_four min_four
theorem blkcell_alloc {W : World} {a : Addr} {v : Value} (o : Obj) (h : W.cell? a = some v) : (W.alloc o).cell? a = some v := by
  have hlt := block_lt_of_cell h
  rw [← h]
  simp only [World.cell?, World.alloc, Array.getElem?_push, Nat.ne_of_lt hlt, if_false]
theorem own_V {α : Type} {d : Kd α} {T base n : Nat} {v : Value} {W : World} {ok : Nat → Prop} {xs : List α} {recs : List (List Value)} (h : W.ownsRow base T d.sz v n recs.flatten) (hr : Recs d W ok xs recs) (hn : n = xs.length) : Kd.V d T W base (fun k => ok k ∨ base ≤ k) v xs := by
  subst hn
  rcases Nat.eq_zero_or_pos xs.length with h0 | h0
  · obtain rfl := List.eq_nil_of_length_eq_zero h0
    rcases h.2 with ⟨rfl, _⟩ | ⟨g, cap, cur, rfl, _, _, _, hcm, _⟩
    · exact Kd.V_nil _ _ _ _ _
    · exact ⟨_, cap, rfl, Nat.zero_le _, fun W' _ => ⟨rfl, Nat.zero_le _, fun h => absurd h (by simp)⟩⟩
  · exact recs_V (OV.of_own h hr.1 hr.wide (by rw [← hr.1]; exact h0)) hr
theorem Recs.step {α : Type} {d : Kd α} {w w' : World} {ok : Nat → Prop} {xs : List α} {recs : List (List Value)} (h : Recs d w ok xs recs) (hm : ∀ k, ok k → k < w.heap.size → w'.heap[k]? = w.heap[k]?) : Recs d w' ok xs recs :=
  ⟨h.1, fun j h1 h2 => ⟨(h.2 j h1 h2).1, Kd.FK_step (h.2 j h1 h2).2 hm⟩⟩
theorem near {m k : Nat} (h : False ∨ m + 1 ≤ k) : k ≠ m := by rcases h with h | h; exact h.elim; omega
def zr : List Value := [.bool false, .bool false, .slice none 0 0, .int .i64 0]
theorem made_flat (N : Nat) (h : N ≤ 6) : (madeCells (Value.agg #[.bool false, .bool false, .slice none 0 0, .int .i64 0]).cells (N * 4)).toList = (List.replicate N zr).flatten := by
  obtain rfl | rfl | rfl | rfl | rfl | rfl | rfl : N = 0 ∨ N = 1 ∨ N = 2 ∨ N = 3 ∨ N = 4 ∨ N = 5 ∨ N = 6 := by omega
  all_goals kernel_rfl
theorem recs_zero62 (N : Nat) (W : World) : Recs k62 W (fun _ => False) (List.replicate N z62) (List.replicate N zr) := by
  refine ⟨by simp, fun j h1 h2 => ?_⟩
  rw [List.getElem_replicate, List.getElem_replicate]
  exact ⟨rfl, k62_mkF W _ z62 (A2 := none) (c2 := 0) (Nat.le_refl _) (Kd.F_nil _ _ _)⟩
def sizeN (n : Int) : Nat := (max 0 (min 6 n)).toNat
set_option maxHeartbeats 1000000 in
set_option maxRecDepth 100000 in
theorem clone_sess (A : Option Addr) (c : Nat) (w : World) (ok : Nat → Prop) (xs : List S62) (hf : Kd.F k62 w ok A xs.length xs) (hl : xs.length ≤ 1000000) :
    Calls Try.prog 57 #[.slice A xs.length c] w fun e w' => ∃ v' recs, e = .returned v' ∧ w'.ownsRow w.heap.size 62 4 v' xs.length recs.flatten ∧ Recs k62 w ok xs recs ∧ Below w.heap.size w w' := by
  obtain ⟨i0, hi0, hz1, hz2, hz0⟩ := info_sess
  obtain ⟨recs, hR, hcells, hnil⟩ := recs_of hf
  have mixed : Try.prog.follows Departure.mixedOrders = true := by kernel_rfl
  have q39 : ∀ (w : World) (a : Option Addr) (n c n' c' : Nat), (binOp .eql 25 (.slice a n c) (.slice none n' c')).run Try.prog w = .ok (.bool a.isNone) w := fun w a n c n' c' => Lib.run_eql_slice_nil w 25 62 a n c n' c' Try.underlying25
  have RR := Aside0.mk hR
  have hcl : recs.flatten.length = xs.length * 4 := by rw [flat_len recs hR.wide, ← hR.1]; rfl
  have H1 := Aside0.mk (one_of hR one_sess)
  clear hf hR
  cases A with
  | none =>
    obtain rfl := hnil rfl
    clear hcells hnil
    go_enter Try.func57, Try.ntmps57
    go_wp2
    go_ret
    have e := RR.out.1
    obtain rfl : recs = [] := List.eq_nil_of_length_eq_zero e.symm
    exact ⟨_, [], rfl, World.ownsRow_nil _ _ _ _, RR.out, Below.refl _ _⟩
  | some ad =>
    have HC := Aside0.mk (hcells ad rfl)
    clear hcells hnil
    go_enter Try.func57, Try.ntmps57
    go_wp2_with (at_builtin; go_loud (refine wpList_append_own _ rfl _ _ 25 rfl w.heap.size 62 i0 (.agg #[.bool false, .bool false, .slice none 0 0, .int .i64 0]) 4 40 Try.underlying25 hi0 hz0 hz1 hz2 rfl (by decide) _ _ _ rfl (World.ownsRow_made w #[] 0 (Nat.le_refl _) (Nat.zero_le _) rfl) ad xs.length c recs.flatten rfl hcl (fun j u hj => blkcell_alloc _ (HC.out j u hj)) H1.out (by unfold maxLen; omega) (by omega) (by simp) ?_; intro v' w3 hown' hgrow3 hnil3; have X := Aside0.mk hown'; have Y := Aside0.mk hgrow3; clear hown' hgrow3 hnil3))
    go_ret
    refine ⟨_, recs, rfl, by have := X.out; simpa using this, RR.out, ?_⟩
    exact ((Below.refl _ w).alloc (Nat.le_refl _) _).grown Y.out (by simp) (fun k hk => Nat.le_of_eq (Option.some.inj (show some w.heap.size = some k from hk)))
set_option maxHeartbeats 1000000 in
set_option maxRecDepth 100000 in
theorem new_calls (n : Int) (w : World) :
    Calls Try.prog 8 #[.int .i64 n] w fun e w' => ∃ v0_ v1_ : Value, e = .returned (.agg #[v0_, v1_]) ∧ Kd.V k49 49 w' w.heap.size (fun k_ => (w.heap.size ≤ k_)) v0_ [] ∧ Kd.V k62 62 w' w.heap.size (fun k_ => (w.heap.size ≤ k_)) v1_ (List.replicate (sizeN n) z62) ∧ Below w.heap.size w w' := by
  have hu27 := Try.underlying27
  obtain ⟨i0, hi0, hz1, hz2, hz0⟩ := info_sess
  obtain ⟨N, hN⟩ : ∃ N, sizeN n = N := ⟨_, rfl⟩
  have hN2 : max 0 (min 6 n) = (N : Int) := by unfold sizeN at hN; omega
  have hN6 : N ≤ 6 := by omega
  rw [hN]
  clear hN
  go_enter Try.func8, Try.ntmps8
  go_wp2_with (first | (at_make; refine wpList_make_full _ rfl _ _ 25 rfl (w.heap.size + 1) 62 i0 (.agg #[.bool false, .bool false, .slice none 0 0, .int .i64 0]) 4 Try.underlying25 hi0 hz0 hz1 .i64 .i64 _ _ N rfl rfl (by omega) (by omega) (by rw [hz2]; omega) (by unfold maxLen; omega) (by simp) ?_; intro w1 hown hgrow; have OW := Aside0.mk hown; have GR := Aside0.mk hgrow; have ZB := Aside0.mk ((hgrow.block w.heap.size (by simp) (by simp)).trans (heap_alloc_new w _)); clear hown hgrow; have z0 := (blk_cell ZB.out 0).trans rfl; have z1 := (blk_cell ZB.out 1).trans rfl; have f0 := blk_frozen ZB.out 0; have f1 := blk_frozen ZB.out 1))
  all_goals refine bodyPost_ret (results_cell_row rfl _ _ w.heap.size 27 #[.slice none 0 0, .slice (some ⟨w.heap.size + 1, 0, none⟩) N N] (0, 0) _ rfl (blk_put (blk_put ZB.out 0 _ rfl) 1 _ rfl) Try.underlying27 rfl (by kernel_rfl)) rfl ?_
  all_goals
    have V := own_V (d := k62) (by have := OW.out; rw [made_flat N hN6, World.size_alloc] at this; exact this) (recs_zero62 N w1) (by simp)
    exact ⟨_, _, rfl, Kd.V_nil _ _ _ _ _, Kd.V_mono (Kd.V_far (p := ⟨w.heap.size, 1, none⟩) (Kd.V_far (p := ⟨w.heap.size, 0, none⟩) V (fun k h => near h) _) (fun k h => near h) _) (fun k h => by rcases h with h | h; exact h.elim; omega),
      (((below_alloc (Below.refl w.heap.size w) _).grown GR.out (by simp) (fun k hk => by cases hk)).setCell (p := ⟨w.heap.size, 0, none⟩) (Nat.le_refl _) _).setCell (p := ⟨w.heap.size, 1, none⟩) (Nat.le_refl _) _⟩
set_option maxHeartbeats 1000000 in
set_option maxRecDepth 100000 in
theorem with_calls (P0 P1 P2 : Nat → Prop) (A0 A1 A2 : Option Addr) (c0 c1 c2 : Nat) (l0 l2 : List S49) (l1 : List S62) (i : Nat) (b0 b1 : Bool) (n3 : Int) (w : World)
    (h0 : Kd.V k49 49 w w.heap.size P0 (.slice A0 l0.length c0) l0) (h1 : Kd.V k62 62 w w.heap.size P1 (.slice A1 l1.length c1) l1) (h2 : Kd.V k49 49 w w.heap.size P2 (.slice A2 l2.length c2) l2) (hi : i < l1.length) (hl : l1.length ≤ 1000000) :
    Calls Try.prog 43 #[.agg #[.slice A0 l0.length c0, .slice A1 l1.length c1], .int .i64 i, .agg #[.bool b0, .bool b1, .slice A2 l2.length c2, .int .i64 n3]] w fun e w' => ∃ v0_ v1_ : Value, e = .returned (.agg #[v0_, v1_]) ∧ Kd.V k49 49 w' w.heap.size (fun k_ => ((P0 k_ ∨ P1 k_ ∨ P2 k_) ∨ w.heap.size ≤ k_)) v0_ l0 ∧ Kd.V k62 62 w' w.heap.size (fun k_ => ((P0 k_ ∨ P1 k_ ∨ P2 k_) ∨ w.heap.size ≤ k_)) v1_ (l1.set i ⟨b0, b1, l2, n3⟩) ∧ Below w.heap.size w w' := by
  have hu27 := Try.underlying27
  have hu62 := Try.underlying62
  have H0 := Aside0.mk h0
  have H1 := Aside0.mk h1
  have H2 := Aside0.mk h2
  clear h0 h1 h2
  go_enter Try.func43, Try.ntmps43
  go_wp2_with fail
  refine (clone_sess A1 c1 _ (fun k => P1 k ∧ k < w.heap.size) l1 (Kd.F_below (Kd.F_bound (Kd.V_F H1.out)) (below_alloc (below_alloc (below_alloc (Below.refl _ _) _) _) _)) hl).mono ?_
  rintro e w4 ⟨v', recs, rfl, hO, hR, hB⟩
  obtain ⟨g, c, rfl, hg, hG⟩ := GRow.of_own hO hR.1 hR.wide (by rw [← hR.1]; omega)
  have OO := Aside0.mk hG
  have RR := Aside0.mk hR
  have BB := Aside0.mk hB
  have GG := Aside0.mk hg
  clear hO hR hB hG hg
  have Z0 := Aside0.mk (blk_below (blk_alloc (blk_alloc (heap_alloc_new w (.cells #[.slice A0 l0.length c0, .slice A1 l1.length c1] 27 (0, 0))) (.cells #[.bool b0, .bool b1, .slice A2 l2.length c2, .int .i64 n3] 62 (0, 0))) (.cells #[.slice none 0 0, .slice none 0 0] 27 (0, 0))) BB.out)
  have Z1 := Aside0.mk (blk_below (blk_alloc (heap_alloc_new (w.alloc (.cells #[.slice A0 l0.length c0, .slice A1 l1.length c1] 27 (0, 0))) (.cells #[.bool b0, .bool b1, .slice A2 l2.length c2, .int .i64 n3] 62 (0, 0))) (.cells #[.slice none 0 0, .slice none 0 0] 27 (0, 0))) BB.out)
  have Z2 := Aside0.mk (blk_below (heap_alloc_new ((w.alloc (.cells #[.slice A0 l0.length c0, .slice A1 l1.length c1] 27 (0, 0))).alloc (.cells #[.bool b0, .bool b1, .slice A2 l2.length c2, .int .i64 n3] 62 (0, 0))) (.cells #[.slice none 0 0, .slice none 0 0] 27 (0, 0))) BB.out)
  simp only [World.size_alloc] at Z0 Z1 Z2 GG
  have z00 := (blk_cell Z0.out 0).trans rfl
  have z01 := (blk_cell Z0.out 1).trans rfl
  have y01 := blk_frozen Z0.out 1
  have z10 := (blk_cell Z1.out 0).trans rfl
  have z11 := (blk_cell Z1.out 1).trans rfl
  have z12 := (blk_cell Z1.out 2).trans rfl
  have z13 := (blk_cell Z1.out 3).trans rfl
  have z20 := (blk_cell Z2.out 0).trans rfl
  have z21 := (blk_cell Z2.out 1).trans rfl
  have y20 := blk_frozen Z2.out 0
  have y21 := blk_frozen Z2.out 1
  have EL := RR.out.1
  have q1 : (i : Int) < (recs.length : Int) := by omega
  have hir : i < recs.length := by omega
  have ng : g ≠ w.heap.size := by have := GG.out; omega
  have ng2 : ¬ w.heap.size = g := by have := GG.out; omega
  have THR := Aside0.mk (GRow.there (GRow.far OO.out (p := ⟨w.heap.size, 1, none⟩) ng (.slice (some ⟨g, 0, none⟩) recs.length c)) i hir)
  have EL2 := Aside0.mk EL
  clear EL
  have K0 := Aside0.mk ((heap_setCells g (Array.toList #[.bool b0, .bool b1, .slice A2 l2.length c2, .int .i64 n3]) (i * 4) (w4.setCell ⟨w.heap.size, 1, none⟩ (.slice (some ⟨g, 0, none⟩) recs.length c)) w.heap.size ng2).trans (blk_put Z0.out 1 (.slice (some ⟨g, 0, none⟩) recs.length c) rfl))
  have K2 := Aside0.mk (((heap_setCells g (Array.toList #[.bool b0, .bool b1, .slice A2 l2.length c2, .int .i64 n3]) (i * 4) (w4.setCell ⟨w.heap.size, 1, none⟩ (.slice (some ⟨g, 0, none⟩) recs.length c)) (w.heap.size + 1 + 1) (by have := GG.out; omega)).trans (Below.heap_setCell w4 ⟨w.heap.size, 1, none⟩ _ _ (by show w.heap.size + 1 + 1 ≠ w.heap.size; omega))).trans Z2.out)
  have KG := Aside0.mk (GRow.setAll (GRow.far OO.out (p := ⟨w.heap.size, 1, none⟩) ng (.slice (some ⟨g, 0, none⟩) recs.length c)) i hir (r := Array.toList #[.bool b0, .bool b1, .slice A2 l2.length c2, .int .i64 n3]) rfl)
  have KB := Aside0.mk (show Below w.heap.size w ((w4.setCell ⟨w.heap.size, 1, none⟩ (.slice (some ⟨g, 0, none⟩) recs.length c)).setCells g (i * 4) (Array.toList #[.bool b0, .bool b1, .slice A2 l2.length c2, .int .i64 n3])) from below_setCells (((below_alloc (below_alloc (below_alloc (Below.refl w.heap.size w) _) _) _).trans (BB.out.mono (by simp; omega))).setCell (p := ⟨w.heap.size, 1, none⟩) (Nat.le_refl _) _) (by have := GG.out; omega) _ _)
  go_wp2_with ((with_reducible refine gate_store (t := 62) (p := 15) rfl ?_); refine wpList_store_mid rfl 62 _ _ rfl g (i * 4) #[.bool b0, .bool b1, .slice A2 l2.length c2, .int .i64 n3] (by first | rfl | go_simp) (by first | rfl | go_simp) THR.out (by kernel_rfl) (by simp [Value.oneCell']) ?_; generalize ((w4.setCell ⟨w.heap.size, 1, none⟩ (.slice (some ⟨g, 0, none⟩) recs.length c)).setCells g (i * 4) (Array.toList #[.bool b0, .bool b1, .slice A2 l2.length c2, .int .i64 n3])) = w5 at K0 K2 KG KB ⊢; clear z00 z01 y01 z10 z11 z12 z13 z20 z21 y20 y21; have x00 := (blk_cell K0.out 0).trans rfl; have x01 := (blk_cell K0.out 1).trans rfl; have x20 := (blk_cell K2.out 0).trans rfl; have x21 := (blk_cell K2.out 1).trans rfl; have v20 := blk_frozen K2.out 0; have v21 := blk_frozen K2.out 1)
  have KF := (KB.out.setCell (p := ⟨w.heap.size + 1 + 1, 0, none⟩) (by show w.heap.size ≤ w.heap.size + 1 + 1; omega) (.slice A0 l0.length c0)).setCell (p := ⟨w.heap.size + 1 + 1, 1, none⟩) (by show w.heap.size ≤ w.heap.size + 1 + 1; omega) (.slice (some ⟨g, 0, none⟩) recs.length c)
  refine bodyPost_ret (results_cell_row rfl _ _ (w.heap.size + 1 + 1) 27 #[.slice A0 l0.length c0, .slice (some ⟨g, 0, none⟩) recs.length c] (0, 0) _ rfl (blk_put (blk_put K2.out 0 _ rfl) 1 _ rfl) Try.underlying27 rfl (by kernel_rfl)) rfl ?_
  have R1 := Recs.step (w' := ((w5.setCell ⟨w.heap.size + 1 + 1, 0, none⟩ (.slice A0 l0.length c0)).setCell ⟨w.heap.size + 1 + 1, 1, none⟩ (.slice (some ⟨g, 0, none⟩) recs.length c))) RR.out (fun k hk _ => (KF.block k hk.2).trans ((below_alloc (below_alloc (below_alloc (Below.refl w.heap.size w) _) _) _).block k hk.2).symm)
  have R2 := Recs.set (R1.mono (ok' := fun k => P0 k ∨ P1 k ∨ P2 k) (fun k hk => .inr (.inl hk.1))) i (x := ⟨b0, b1, l2, n3⟩) (r := Array.toList #[.bool b0, .bool b1, .slice A2 l2.length c2, .int .i64 n3]) rfl (k62_mkF ((w5.setCell ⟨w.heap.size + 1 + 1, 0, none⟩ (.slice A0 l0.length c0)).setCell ⟨w.heap.size + 1 + 1, 1, none⟩ (.slice (some ⟨g, 0, none⟩) recs.length c)) _ ⟨b0, b1, l2, n3⟩ (Kd.V_at H2.out).2.1 (Kd.F_mono (Kd.F_below (Kd.V_F H2.out) KF) (fun k hk => .inr (.inr hk))))
  have OV2 : OV 62 4 ((w5.setCell ⟨w.heap.size + 1 + 1, 0, none⟩ (.slice A0 l0.length c0)).setCell ⟨w.heap.size + 1 + 1, 1, none⟩ (.slice (some ⟨g, 0, none⟩) recs.length c)) w.heap.size (.slice (some ⟨g, 0, none⟩) recs.length c) (recs.set i (Array.toList #[.bool b0, .bool b1, .slice A2 l2.length c2, .int .i64 n3])) := .inr ⟨g, c, by rw [List.length_set], by have := GG.out; omega, (KG.out.far (p := ⟨w.heap.size + 1 + 1, 0, none⟩) (by show g ≠ w.heap.size + 1 + 1; have := GG.out; omega) _).far (p := ⟨w.heap.size + 1 + 1, 1, none⟩) (by show g ≠ w.heap.size + 1 + 1; have := GG.out; omega) _⟩
  exact ⟨_, _, rfl, Kd.V_mono (Kd.V_below H0.out KF) (fun k hk => .inl (.inl hk)), recs_V OV2 R2, KF⟩
end Go.Proofs.Ytkkneaefjahihaa.ModW
