/- A thread: its row; made anew. -/
import Derived.Test.YtocmdcjbjhpooaaFrB
set_option linter.unusedVariables false
set_option linter.unusedSimpArgs false
namespace Go.Proofs.Ytocmdcjbjhpooaa.FrW
open Go Go.RowKit Go.Proofs.YtocmdcjbjhpooaaW.PrintWords Go.Proofs.YtocmdcjbjhpooaaW.PrintLast Go.Proofs.YtocmdcjbjhpooaaW.PrintMore Go.Proofs.Ytocmdcjbjhpooaa.PFrameOrders Go.Proofs.Ytocmdcjbjhpooaa.GRow Go.Proofs.Ytocmdcjbjhpooaa.Num Go.Proofs.Ytocmdcjbjhpooaa.Bxs Go.Proofs.Ytocmdcjbjhpooaa.InsW
theorem PN_set0 (P : Nat → Prop) (W W' : World) (p : Addr) (u : Value) : PN P (W.setCell p u) W' = PN P W W' := by
  funext k
  unfold PN
  rw [World.size_setCell]
theorem rb {α : Type} {d : Kd α} {e base base' : Nat} {w : World} {ok : Nat → Prop} {v : Value} {xs : List α} (h : Kd.V d e w base ok v xs) : Kd.V d e w base' ok v xs := h
theorem gather_ok {base n m k : Nat} {P : Nat → Prop} (hbw : base ≤ n) (hP : ∀ k, P k → k < n) (hm : n ≤ m) (hk : (base ≤ k ∧ ¬ P k) ∨ m ≤ k) : base ≤ k ∧ ¬ P k := by
  rcases hk with hk | hk
  · exact hk
  · exact ⟨by omega, fun q => by have := hP k q; omega⟩
section
variable {W : World} {base : Nat} {P : Nat → Prop} {b : Nat} {r : Nat → Int} {s : Ses} {vF vR vS : Value} {fs : List Fr} {row : List S37} {st : List Int}
theorem Th.setR (h : Th W base P b r s vF vR vS fs row st) {w3 : World} {v' : Value} {row' : List S37} (hg : ∀ k, k < W.heap.size → w3.heap[k]? = W.heap[k]?) (hv : Kd.V k37 37 w3 0 (fun k => base ≤ k ∧ ¬ P k) v' row') :
    Th (w3.setCell ⟨b, 25, none⟩ v') base P b r s vF v' vS fs row' st := by
  have hb3 := (hg b h.lt).trans h.blk
  have m1 : ∀ {k : Nat} {a : Array Value} {T : Nat}, W.heap[k]? = some (.cells a T (0, 0)) → T ≠ 57 → (w3.setCell ⟨b, 25, none⟩ v').heap[k]? = W.heap[k]? := fun hk hT => (Below.heap_setCell w3 ⟨b, 25, none⟩ v' _ (typ_ne hk h.blk hT)).trans (hg _ (Array.getElem?_eq_some_iff.1 hk).1)
  refine ⟨(blk_set hb3 25 v').trans rfl, h.fo.move (fun k _ _ hk => ?_), fun f hf => (m1 (h.fb f hf) (by decide)).trans (h.fb f hf), h.nd, h.so.move (fun k _ _ hk => ?_), Kd.V_far hv (fun k hk e => hk.2 (e ▸ (h.ge b (.inl rfl)).2)) _, h.ge⟩
  · obtain ⟨cur, hc⟩ := OV.typed h.fo hk
    exact m1 hc (by decide)
  · obtain ⟨cur, hc⟩ := OV.typed h.so hk
    exact m1 hc (by decide)
theorem Th.weak {P' : Nat → Prop} (h : Th W base P b r s vF vR vS fs row st) (h1 : ∀ k, P k → P' k) (h2 : ∀ k, P' k → P k ∨ W.heap.size ≤ k) : Th W base P' b r s vF vR vS fs row st :=
  ⟨h.blk, h.fo, h.fb, h.nd, h.so, Kd.V_mono (Kd.V_bound h.ro) (fun k hk => ⟨hk.1.1, fun q => (h2 k q).elim hk.1.2 (fun q2 => by have := hk.2; omega)⟩), fun k hk => ⟨(h.ge k hk).1, h1 k (h.ge k hk).2⟩⟩
set_option maxHeartbeats 4000000 in
set_option maxRecDepth 100000 in
theorem pop_none (h : Th W base P b r s vF vR vS fs row []) :
    Calls Try.prog 20 #[.pointer (some ⟨b, 0, none⟩)] W fun e W' => e = .returned (.tuple #[.int .u64 0, .bool false]) ∧ W' = W := by
  have hu := Try.underlying57
  obtain ⟨A, c, rfl, hc⟩ := h.sS
  have c26 := h.cS
  go_enter Try.func20, Try.ntmps20
  go_wp2
  go_ret2
  exact ⟨rfl, rfl⟩
set_option maxHeartbeats 4000000 in
set_option maxRecDepth 100000 in
theorem pop_nil : Calls Try.prog 20 #[.pointer none] W fun e W' => e = .returned (.tuple #[.int .u64 0, .bool false]) ∧ W' = W := by
  have hu := Try.underlying57
  go_enter Try.func20, Try.ntmps20
  go_wp2
  go_ret2
  exact ⟨rfl, rfl⟩
set_option maxHeartbeats 4000000 in
set_option maxRecDepth 100000 in
theorem push_nil (x : Int) : Calls Try.prog 18 #[.pointer none, .int .u64 x] W fun e W' => e = .returned (.tuple #[]) ∧ W' = W := by
  have hu := Try.underlying57
  go_enter Try.func18, Try.ntmps18
  go_wp2
  go_end0
  exact ⟨rfl, rfl⟩
set_option maxHeartbeats 4000000 in
set_option maxRecDepth 100000 in
theorem fresh_nil : Calls Try.prog 56 #[.pointer none] W fun e W' => e = .returned (.tuple #[]) ∧ W' = W := by
  have hu := Try.underlying57
  go_enter Try.func56, Try.ntmps56
  go_wp2
  go_end0
  exact ⟨rfl, rfl⟩
set_option maxHeartbeats 4000000 in
set_option maxRecDepth 100000 in
theorem fresh_calls (h : Th W base P b r s vF vR vS fs row st) (hbw : base ≤ W.heap.size) :
    Calls Try.prog 56 #[.pointer (some ⟨b, 0, none⟩)] W fun e W' => e = .returned (.tuple #[]) ∧ Th W' base (PN P W W') b r s vF (.slice none 0 0) (.slice none 0 0) fs [] [] ∧ Mv W W' base (own b vF vS fs) := by
  have hu := Try.underlying57
  have h1 := h.setR (w3 := W) (v' := .slice none 0 0) (row' := []) (fun _ _ => rfl) ⟨none, 0, rfl, Nat.le_refl 0, Kd.F_nil _ _ _⟩
  have h2 := h1.setS (w3 := W.setCell ⟨b, 25, none⟩ (.slice none 0 0)) (v' := .slice none 0 0) (st' := []) (fun _ _ _ => rfl) (Nat.le_refl _) (OV.nil _ _ _ _) (fun k hk => by cases hk) (by rw [World.size_setCell]; exact hbw)
  have f25 := h.frz 25
  have c25 := h.cR
  have f26 := h1.frz 26
  have c26 := h1.cS
  have HT := Aside0.mk h2
  have HM : Aside0 (Mv W ((W.setCell ⟨b, 25, none⟩ (.slice none 0 0)).setCell ⟨b, 26, none⟩ (.slice none 0 0)) base (own b vF vS fs)) :=
    ⟨⟨((Below.refl base W).setCell (p := ⟨b, 25, none⟩) (h.ge b (.inl rfl)).1 _).setCell (p := ⟨b, 26, none⟩) (h.ge b (.inl rfl)).1 _, fun k hk hn => (Below.heap_setCell (W.setCell ⟨b, 25, none⟩ (.slice none 0 0)) ⟨b, 26, none⟩ _ k (fun e => hn (.inl e))).trans (Below.heap_setCell W ⟨b, 25, none⟩ _ k (fun e => hn (.inl e)))⟩⟩
  clear h1 h2
  go_enter Try.func56, Try.ntmps56
  go_wp2
  go_end0
  have K := HT.out
  rw [PN_set0] at K
  exact ⟨rfl, K, HM.out⟩
theorem below_base {base : Nat} {W W' : World} (h : base ≤ W.heap.size) (hb : Below W.heap.size W W') : Below base W W' := ⟨hb.os, hb.tape, hb.output, hb.size, fun k hk => hb.block k (Nat.lt_of_lt_of_le hk h)⟩
theorem Th.below {W' : World} (h : Th W base P b r s vF vR vS fs row st) (hb : Below W.heap.size W W') : Th W' base P b r s vF vR vS fs row st :=
  ⟨blk_below h.blk hb, h.fo.below hb, fun f hf => blk_below (h.fb f hf) hb, h.nd, h.so.below hb, Kd.V_below h.ro hb, h.ge⟩
set_option maxHeartbeats 4000000 in
set_option maxRecDepth 100000 in
theorem gather_calls (h : Th W base P b r s vF vR vS fs row st) (hP : ∀ k, P k → k < W.heap.size) (hbw : base ≤ W.heap.size) {n : Nat} {a x : Int} {r1 : List S37} {r2 : Bool} (hf : pairs_Put.f n row a x = some (r1, r2)) :
    Calls Try.prog 24 #[.pointer (some ⟨b, 0, none⟩), .agg #[.int .i64 a, .int .i64 x]] W fun e W' => e = .returned (.bool r2) ∧ ∃ vR', Th W' base P b r s vF vR' vS fs r1 st ∧ Mv W W' base (own b vF vS fs) := by
  have hu := Try.underlying57
  have hup := Try.underlying37
  obtain ⟨A, c, rfl⟩ := Kd.V_slice h.ro
  have HT := Aside0.mk h
  have HP := Aside0.mk hP
  have HF := Aside0.mk hf
  have HB := Aside0.mk (show ∀ k, own b vF vS fs k → base ≤ k from fun k hk => (h.ge k hk).1)
  have LT := h.lt
  have B0 := Aside0.mk (below_alloc (Below.refl W.heap.size W) (.cells #[.int .i64 a, .int .i64 x] 37 (0, 0)))
  have c25 := (h.below B0.out).cR
  have d0 := (blk_cell (heap_alloc_new W (.cells #[.int .i64 a, .int .i64 x] 37 (0, 0))) 0).trans rfl
  have d1 := (blk_cell (heap_alloc_new W (.cells #[.int .i64 a, .int .i64 x] 37 (0, 0))) 1).trans rfl
  have CW := Aside0.mk (fun (V : World) (hb : Below W.heap.size W V) => pairs_Put.calls n (fun k => base ≤ k ∧ ¬ P k) A c row a x r1 r2 V (rb (Kd.V_below h.ro hb)) hf)
  clear h hP hf
  go_enter Try.func24, Try.ntmps24
  go_upto_region 3 with (fail)
  go_region_law (go_simp; go_at_call 63; refine (CW.out _ (below_drew1 B0.out)).mono ?_; rintro e w5 ⟨v0, rfl, V0, hb⟩; obtain ⟨A8, c8, rfl⟩ := Kd.V_slice V0; have X5 := Aside0.mk (below_then (below_drew1 B0.out) (below_drew1 B0.out).size hb); have U0 := Aside0.mk V0; clear V0 hb)
  all_goals have T5 := Aside0.mk (HT.out.below X5.out)
  all_goals have f25 := T5.out.frz 25
  all_goals have g25 := T5.out.cR
  all_goals have K5 := Aside0.mk (HT.out.setR (w3 := w5) (v' := .slice A8 r1.length c8) (row' := r1) (fun k hk => X5.out.block k hk) (Kd.V_mono (rb U0.out) (fun k hk => gather_ok hbw HP.out (by simp) hk)))
  all_goals have M5 := Aside0.mk (Mv.mk (W := W) (W' := w5.setCell ⟨b, 25, none⟩ (.slice A8 r1.length c8)) (base := base) (F := own b vF vS fs) (((below_base hbw X5.out)).setCell (p := ⟨b, 25, none⟩) (HB.out b (.inl rfl)) _) (fun k hk hn => (Below.heap_setCell w5 ⟨b, 25, none⟩ _ k (fun e => hn (.inl e))).trans (X5.out.block k hk)))
  all_goals clear T5 X5 U0 c25 d0 d1
  all_goals go_wp2
  all_goals go_ret
  all_goals exact ⟨rfl, _, K5.out, M5.out⟩
end
end Go.Proofs.Ytocmdcjbjhpooaa.FrW
