/- A call of a thread, as the law makes it. -/
import Derived.Test.YtocmdcjbjhpooaaFrM
set_option linter.unusedVariables false
set_option linter.unusedSimpArgs false
namespace Go.Proofs.Ytocmdcjbjhpooaa.FrW
open Go Go.RowKit Go.Proofs.YtocmdcjbjhpooaaW.PrintWords Go.Proofs.YtocmdcjbjhpooaaW.PrintLast Go.Proofs.YtocmdcjbjhpooaaW.PrintMore Go.Proofs.Ytocmdcjbjhpooaa.PFrameOrders Go.Proofs.Ytocmdcjbjhpooaa.GRow Go.Proofs.Ytocmdcjbjhpooaa.Num Go.Proofs.Ytocmdcjbjhpooaa.Bxs Go.Proofs.Ytocmdcjbjhpooaa.InsW
/-- What a thread is behind a call, and what has moved. -/
structure Aft (W : World) (base : Nat) (P : Nat → Prop) (b : Nat) (vF vS : Value) (fs : List Fr) (r : Nat → Int) (s : Ses) (cs : List Co) (row : List S37) (st : List Int) (W' : World) : Prop where
  ex : ∃ P' vF' vR' vS' gs, Th W' base P' b r s vF' vR' vS' gs row st ∧ gs.map Fr.core = cs ∧ (∀ k, P k → P' k) ∧ (∀ k, P' k → P k ∨ W.heap.size ≤ k) ∧ (∀ k, P' k → k < W'.heap.size)
  mv : Mv W W' base (own b vF vS fs)
def Told (W : World) (base : Nat) (P : Nat → Prop) (b : Nat) (vF vS : Value) (fs : List Fr) (r : Nat → Int) (s : Ses) (cs : List Co) (row : List S37) (st : List Int) (x : Int) (is : Bool) (e : Ending) (W' : World) : Prop :=
  e = .returned (.tuple #[.int .u64 x, .bool is]) ∧ Aft W base P b vF vS fs r s cs row st W'
section
variable {W W1 W' : World} {base : Nat} {P : Nat → Prop} {b : Nat} {r r' : Nat → Int} {s : Ses} {vF vR vS vF' vR' vS' : Value} {fs gs : List Fr} {row row' : List S37} {st st' : List Int}
theorem Mv.after (hB : Below W.heap.size W W1) (hbw : base ≤ W.heap.size) {F : Nat → Prop} (h : Mv W1 W' base F) : Mv W W' base F :=
  ⟨(below_base hbw hB).trans h.b, fun k hk hn => (h.k k (Nat.lt_of_lt_of_le hk hB.size) hn).trans (hB.block k hk)⟩
theorem Aft.of (hB : Below W.heap.size W W1) (hbw : base ≤ W.heap.size) (hP : ∀ k, P k → k < W.heap.size) (hT : Th W' base (PN P W1 W') b r' s vF' vR' vS' gs row' st') (hM : Mv W1 W' base (own b vF vS fs)) : Aft W base P b vF vS fs r' s (gs.map Fr.core) row' st' W' := by
  have hs := hB.size
  have hs2 := hM.b.size
  refine ⟨⟨_, vF', vR', vS', gs, hT, rfl, fun k hk => .inl hk, fun k hk => hk.imp id (fun q => by omega), fun k hk => ?_⟩, hM.after hB hbw⟩
  rcases hk with hk | hk
  · have := hP k hk; omega
  · exact hk.2
theorem Aft.same (hB : Below W.heap.size W W1) (hbw : base ≤ W.heap.size) (hP : ∀ k, P k → k < W.heap.size) (hT : Th W' base P b r' s vF' vR' vS' gs row' st') (hM : Mv W1 W' base (own b vF vS fs)) : Aft W base P b vF vS fs r' s (gs.map Fr.core) row' st' W' := by
  have hs := hB.size
  have hs2 := hM.b.size
  exact ⟨⟨P, vF', vR', vS', gs, hT, rfl, fun k hk => hk, fun k hk => .inl hk, fun k hk => by have := hP k hk; omega⟩, hM.after hB hbw⟩
theorem touch_pos {f : Fr} {fn : Int} {k : Nat} (hq : 0 ≤ fn) (hk : (fn % 24).toNat = k) : touch fn f.core = Fr.core ⟨f.bk, f.fn, fn, upd f.R k (IntKind.u64.wrap (f.R k + 1))⟩ := by
  subst hk
  unfold touch
  rw [if_pos hq]
  rfl
theorem touch_neg {f : Fr} {fn : Int} (hq : ¬ 0 ≤ fn) : touch fn f.core = Fr.core ⟨f.bk, f.fn, fn, f.R⟩ := by
  unfold touch
  rw [if_neg hq]
  rfl
/-- A frame's cell is written. -/
theorem Th.setFr (h : Th W base P b r s vF vR vS fs row st) {i : Nat} (hi : i < fs.length) (j : Nat) (v : Value) {f : Fr} (hf : fs[i] = f) {f' : Fr} (hb : f'.bk = f.bk) (hc : (frC f).set j v = frC f') :
    Th (W.setCell ⟨f.bk, j, none⟩ v) base P b r s vF vR vS (fs.set i f') row st ∧ Mv W (W.setCell ⟨f.bk, j, none⟩ v) base (own b vF vS fs) := by
  subst hf
  have hfb := h.fb fs[i] (List.getElem_mem hi)
  have hown : own b vF vS fs fs[i].bk := .inr (.inl ⟨fs[i], List.getElem_mem hi, rfl⟩)
  have hk : ∀ k, k ≠ fs[i].bk → (W.setCell ⟨fs[i].bk, j, none⟩ v).heap[k]? = W.heap[k]? := fun k hk => Below.heap_setCell W ⟨fs[i].bk, j, none⟩ v k hk
  refine ⟨h.frame hi hb ?_ (by rw [hb]; exact hk), (Below.refl base W).setCell (p := ⟨fs[i].bk, j, none⟩) (h.ge _ hown).1 v, fun k _ hn => hk k (fun e => hn (e ▸ hown))⟩
  rw [hb]
  refine (blk_set hfb j v).trans ?_
  rw [List.setIfInBounds_toArray, hc]
theorem Mv.trans {W2 : World} {F F' : Nat → Prop} (h : Mv W W1 base F) (h2 : Mv W1 W2 base F') (hF : ∀ k, F' k → F k) : Mv W W2 base F :=
  ⟨h.b.trans h2.b, fun k hk hn => (h2.k k (Nat.lt_of_lt_of_le hk h.b.size) (fun q => hn (hF k q))).trans (h.k k hk hn)⟩
theorem own_set {i : Nat} {f : Fr} (h : (fs.map Fr.bk).Nodup) (hi : i < fs.length) (hf : f.bk = fs[i].bk) : ∀ k, own b vF vS (fs.set i f) k → own b vF vS fs k := by
  intro k hk
  have hbs := nodup_set h hi hf
  rcases hk with h1 | ⟨g, hg, h1⟩ | h1
  · exact .inl h1
  · have : k ∈ (fs.set i f).map Fr.bk := List.mem_map.2 ⟨g, hg, h1⟩
    rw [hbs] at this
    obtain ⟨g2, h2, h3⟩ := List.mem_map.1 this
    exact .inr (.inl ⟨g2, h2, h3⟩)
  · exact .inr (.inr h1)
theorem Mv.refl (W : World) (base : Nat) (F : Nat → Prop) : Mv W W base F := ⟨Below.refl _ _, fun _ _ _ => rfl⟩
theorem Mv.below (hbw : base ≤ W.heap.size) {F : Nat → Prop} (h : Below W.heap.size W W') : Mv W W' base F := ⟨below_base hbw h, fun k hk _ => h.block k hk⟩
set_option maxHeartbeats 4000000 in
set_option maxRecDepth 100000 in
theorem do_other (h : Th W base P b r s vF vR vS fs row st) (hP : ∀ k, P k → k < W.heap.size) (hbw : base ≤ W.heap.size) (hm1 : fs.length ≤ 1000000) (hm2 : st.length ≤ 1000000) {AL : Option Addr} {cL : Nat} {l : List Int} (fn pk pv : Int) {kind : Int} (hk : kind < 0 ∨ 6 < kind) :
    Calls Try.prog 13 #[.pointer (some ⟨b, 0, none⟩), .agg #[.int .i64 kind, .int .i64 fn, .slice AL l.length cL, .int .i64 pk, .int .i64 pv]] W (Told W base P b vF vS fs r s (fs.map Fr.core) row st 0 false) := by
  have huO := Try.underlying39
  have HP := Aside0.mk hP
  have B1 := Aside0.mk (below_alloc (Below.refl W.heap.size W) (.cells #[.int .i64 kind, .int .i64 fn, .slice AL l.length cL, .int .i64 pk, .int .i64 pv] 39 (0, 0)))
  have H1 := Aside0.mk (h.below B1.out)
  have n1 := heap_alloc_new W (.cells #[.int .i64 kind, .int .i64 fn, .slice AL l.length cL, .int .i64 pk, .int .i64 pv] 39 (0, 0))
  have q0 := (blk_cell n1 0).trans rfl
  have q1 := (blk_cell n1 1).trans rfl
  have q2 := (blk_cell n1 2).trans rfl
  have q3 := (blk_cell n1 3).trans rfl
  have q4 := (blk_cell n1 4).trans rfl
  have s1 : Aside0 (base ≤ (W.alloc (.cells #[.int .i64 kind, .int .i64 fn, .slice AL l.length cL, .int .i64 pk, .int .i64 pv] 39 (0, 0))).heap.size) := ⟨Nat.le_trans hbw B1.out.size⟩
  have HH := Aside0.mk h
  have dk0 : ((kind : Int) == 0) = false := beq_eq_false_iff_ne.2 (by omega)
  have dk1 : ((kind : Int) == 1) = false := beq_eq_false_iff_ne.2 (by omega)
  have dk2 : ((kind : Int) == 2) = false := beq_eq_false_iff_ne.2 (by omega)
  have dk3 : ((kind : Int) == 3) = false := beq_eq_false_iff_ne.2 (by omega)
  have dk4 : ((kind : Int) == 4) = false := beq_eq_false_iff_ne.2 (by omega)
  have dk5 : ((kind : Int) == 5) = false := beq_eq_false_iff_ne.2 (by omega)
  have dk6 : ((kind : Int) == 6) = false := beq_eq_false_iff_ne.2 (by omega)
  have N1 := Aside0.mk n1
  clear h hP n1
  go_enter Try.func13, Try.ntmps13
  go_upto_region 1 with (fail)
  generalize W.alloc _ = W1 at B1 H1 q0 q1 q2 q3 q4 s1 N1 ⊢
  generalize W.heap.size = b3 at q0 q1 q2 q3 q4 N1 ⊢
  go_wp2
  go_ret2
  exact ⟨rfl, Aft.same B1.out hbw HP.out H1.out (Mv.refl _ _ _)⟩
set_option maxHeartbeats 4000000 in
set_option maxRecDepth 100000 in
theorem do_0 (h : Th W base P b r s vF vR vS fs row st) (hP : ∀ k, P k → k < W.heap.size) (hbw : base ≤ W.heap.size) (hm1 : fs.length ≤ 1000000) (hm2 : st.length ≤ 1000000) {AL : Option Addr} {cL : Nat} {l : List Int} (fn pk pv : Int) (hL : ∀ X, (∀ k, k < base → X.heap[k]? = W.heap[k]?) → Kd.C (Kd.int .u64) X AL l.length l) :
    Calls Try.prog 13 #[.pointer (some ⟨b, 0, none⟩), .agg #[.int .i64 0, .int .i64 fn, .slice AL l.length cL, .int .i64 pk, .int .i64 pv]] W (Told W base P b vF vS fs r s (fs.map Fr.core ++ [(fn, 0, regs l)]) row st 0 false) := by
  have huO := Try.underlying39
  have HP := Aside0.mk hP
  have B1 := Aside0.mk (below_alloc (Below.refl W.heap.size W) (.cells #[.int .i64 0, .int .i64 fn, .slice AL l.length cL, .int .i64 pk, .int .i64 pv] 39 (0, 0)))
  have H1 := Aside0.mk (h.below B1.out)
  have n1 := heap_alloc_new W (.cells #[.int .i64 0, .int .i64 fn, .slice AL l.length cL, .int .i64 pk, .int .i64 pv] 39 (0, 0))
  have q0 := (blk_cell n1 0).trans rfl
  have q1 := (blk_cell n1 1).trans rfl
  have q2 := (blk_cell n1 2).trans rfl
  have q3 := (blk_cell n1 3).trans rfl
  have q4 := (blk_cell n1 4).trans rfl
  have s1 : Aside0 (base ≤ (W.alloc (.cells #[.int .i64 0, .int .i64 fn, .slice AL l.length cL, .int .i64 pk, .int .i64 pv] 39 (0, 0))).heap.size) := ⟨Nat.le_trans hbw B1.out.size⟩
  have HH := Aside0.mk h
  have N1 := Aside0.mk n1
  clear h hP n1
  go_enter Try.func13, Try.ntmps13
  go_upto_region 1 with (fail)
  generalize W.alloc _ = W1 at B1 H1 q0 q1 q2 q3 q4 s1 N1 ⊢
  generalize W.heap.size = b3 at q0 q1 q2 q3 q4 N1 ⊢
  have HL := Aside0.mk (hL W1 (fun k hk => B1.out.block k (Nat.lt_of_lt_of_le hk hbw)))
  clear hL
  go_wp2_with fail
  refine (call_calls H1.out hm1 s1.out fn HL.out).mono ?_
  rintro e w2 ⟨rfl, vF', T2, M2⟩
  have T2 := Aside0.mk T2
  have M2 := Aside0.mk M2
  go_wp2
  go_ret2
  have K := Aft.of B1.out hbw HP.out T2.out M2.out
  rw [List.map_append] at K
  exact ⟨rfl, K⟩
set_option maxHeartbeats 4000000 in
set_option maxRecDepth 100000 in
theorem do_1n (h : Th W base P b r s vF vR vS fs row st) (hP : ∀ k, P k → k < W.heap.size) (hbw : base ≤ W.heap.size) (hm1 : fs.length ≤ 1000000) (hm2 : st.length ≤ 1000000) {AL : Option Addr} {cL : Nat} {l : List Int} (fn pk pv : Int) (hL : ∀ X, (∀ k, k < base → X.heap[k]? = W.heap[k]?) → Kd.C (Kd.int .u64) X AL l.length l) (h0 : fs = []) :
    Calls Try.prog 13 #[.pointer (some ⟨b, 0, none⟩), .agg #[.int .i64 1, .int .i64 fn, .slice AL l.length cL, .int .i64 pk, .int .i64 pv]] W (Told W base P b vF vS fs (regs l) s ([]) row st 0 false) := by
  have huO := Try.underlying39
  have HP := Aside0.mk hP
  have B1 := Aside0.mk (below_alloc (Below.refl W.heap.size W) (.cells #[.int .i64 1, .int .i64 fn, .slice AL l.length cL, .int .i64 pk, .int .i64 pv] 39 (0, 0)))
  have H1 := Aside0.mk (h.below B1.out)
  have n1 := heap_alloc_new W (.cells #[.int .i64 1, .int .i64 fn, .slice AL l.length cL, .int .i64 pk, .int .i64 pv] 39 (0, 0))
  have q0 := (blk_cell n1 0).trans rfl
  have q1 := (blk_cell n1 1).trans rfl
  have q2 := (blk_cell n1 2).trans rfl
  have q3 := (blk_cell n1 3).trans rfl
  have q4 := (blk_cell n1 4).trans rfl
  have s1 : Aside0 (base ≤ (W.alloc (.cells #[.int .i64 1, .int .i64 fn, .slice AL l.length cL, .int .i64 pk, .int .i64 pv] 39 (0, 0))).heap.size) := ⟨Nat.le_trans hbw B1.out.size⟩
  have HH := Aside0.mk h
  have N1 := Aside0.mk n1
  clear h hP n1
  go_enter Try.func13, Try.ntmps13
  go_upto_region 1 with (fail)
  generalize W.alloc _ = W1 at B1 H1 q0 q1 q2 q3 q4 s1 N1 ⊢
  generalize W.heap.size = b3 at q0 q1 q2 q3 q4 N1 ⊢
  have HL : Aside0 (∀ X, (∀ k, k < W1.heap.size → ¬ own b vF vS fs k → X.heap[k]? = W1.heap[k]?) → Kd.C (Kd.int .u64) X AL l.length l) := ⟨fun X hX => hL X (fun k hk => (hX k (Nat.lt_of_lt_of_le hk s1.out) (fun ho => by have := (HH.out.ge k ho).1; omega)).trans (B1.out.block k (Nat.lt_of_lt_of_le hk hbw)))⟩
  clear hL
  subst h0
  go_wp2_with fail
  refine (back_none H1.out s1.out HL.out).mono ?_
  rintro e w2 ⟨rfl, vF', T2, M2⟩
  have T2 := Aside0.mk T2
  have M2 := Aside0.mk M2
  go_wp2
  go_ret2
  exact ⟨rfl, Aft.of B1.out hbw HP.out T2.out M2.out⟩
set_option maxHeartbeats 4000000 in
set_option maxRecDepth 100000 in
theorem do_1 (h : Th W base P b r s vF vR vS fs row st) (hP : ∀ k, P k → k < W.heap.size) (hbw : base ≤ W.heap.size) (hm1 : fs.length ≤ 1000000) (hm2 : st.length ≤ 1000000) {AL : Option Addr} {cL : Nat} {l : List Int} (fn pk pv : Int) (hL : ∀ X, (∀ k, k < base → X.heap[k]? = W.heap[k]?) → Kd.C (Kd.int .u64) X AL l.length l) (h0 : 0 < fs.length) :
    Calls Try.prog 13 #[.pointer (some ⟨b, 0, none⟩), .agg #[.int .i64 1, .int .i64 fn, .slice AL l.length cL, .int .i64 pk, .int .i64 pv]] W (Told W base P b vF vS fs (regs l) s ((fs.map Fr.core).take (fs.length - 1)) row st 0 false) := by
  have huO := Try.underlying39
  have HP := Aside0.mk hP
  have B1 := Aside0.mk (below_alloc (Below.refl W.heap.size W) (.cells #[.int .i64 1, .int .i64 fn, .slice AL l.length cL, .int .i64 pk, .int .i64 pv] 39 (0, 0)))
  have H1 := Aside0.mk (h.below B1.out)
  have n1 := heap_alloc_new W (.cells #[.int .i64 1, .int .i64 fn, .slice AL l.length cL, .int .i64 pk, .int .i64 pv] 39 (0, 0))
  have q0 := (blk_cell n1 0).trans rfl
  have q1 := (blk_cell n1 1).trans rfl
  have q2 := (blk_cell n1 2).trans rfl
  have q3 := (blk_cell n1 3).trans rfl
  have q4 := (blk_cell n1 4).trans rfl
  have s1 : Aside0 (base ≤ (W.alloc (.cells #[.int .i64 1, .int .i64 fn, .slice AL l.length cL, .int .i64 pk, .int .i64 pv] 39 (0, 0))).heap.size) := ⟨Nat.le_trans hbw B1.out.size⟩
  have HH := Aside0.mk h
  have N1 := Aside0.mk n1
  clear h hP n1
  go_enter Try.func13, Try.ntmps13
  go_upto_region 1 with (fail)
  generalize W.alloc _ = W1 at B1 H1 q0 q1 q2 q3 q4 s1 N1 ⊢
  generalize W.heap.size = b3 at q0 q1 q2 q3 q4 N1 ⊢
  have HL : Aside0 (∀ X, (∀ k, k < W1.heap.size → ¬ own b vF vS fs k → X.heap[k]? = W1.heap[k]?) → Kd.C (Kd.int .u64) X AL l.length l) := ⟨fun X hX => hL X (fun k hk => (hX k (Nat.lt_of_lt_of_le hk s1.out) (fun ho => by have := (HH.out.ge k ho).1; omega)).trans (B1.out.block k (Nat.lt_of_lt_of_le hk hbw)))⟩
  clear hL
  go_wp2_with fail
  refine (back_calls H1.out hm1 s1.out HL.out h0).mono ?_
  rintro e w2 ⟨rfl, vF', T2, M2⟩
  have T2 := Aside0.mk T2
  have M2 := Aside0.mk M2
  go_wp2
  go_ret2
  have K := Aft.of B1.out hbw HP.out T2.out M2.out
  rw [List.map_take] at K
  exact ⟨rfl, K⟩
set_option maxHeartbeats 4000000 in
set_option maxRecDepth 100000 in
theorem do_2 (h : Th W base P b r s vF vR vS fs row st) (hP : ∀ k, P k → k < W.heap.size) (hbw : base ≤ W.heap.size) (hm1 : fs.length ≤ 1000000) (hm2 : st.length ≤ 1000000) {AL : Option Addr} {cL : Nat} {l : List Int} (fn pk pv : Int) {n : Nat} {r1 : List S37} {r2 : Bool} (hf : pairs_Put.f n row pk pv = some (r1, r2)) :
    Calls Try.prog 13 #[.pointer (some ⟨b, 0, none⟩), .agg #[.int .i64 2, .int .i64 fn, .slice AL l.length cL, .int .i64 pk, .int .i64 pv]] W (Told W base P b vF vS fs r s (fs.map Fr.core) r1 st 0 r2) := by
  have huO := Try.underlying39
  have HP := Aside0.mk hP
  have B1 := Aside0.mk (below_alloc (Below.refl W.heap.size W) (.cells #[.int .i64 2, .int .i64 fn, .slice AL l.length cL, .int .i64 pk, .int .i64 pv] 39 (0, 0)))
  have H1 := Aside0.mk (h.below B1.out)
  have n1 := heap_alloc_new W (.cells #[.int .i64 2, .int .i64 fn, .slice AL l.length cL, .int .i64 pk, .int .i64 pv] 39 (0, 0))
  have q0 := (blk_cell n1 0).trans rfl
  have q1 := (blk_cell n1 1).trans rfl
  have q2 := (blk_cell n1 2).trans rfl
  have q3 := (blk_cell n1 3).trans rfl
  have q4 := (blk_cell n1 4).trans rfl
  have s1 : Aside0 (base ≤ (W.alloc (.cells #[.int .i64 2, .int .i64 fn, .slice AL l.length cL, .int .i64 pk, .int .i64 pv] 39 (0, 0))).heap.size) := ⟨Nat.le_trans hbw B1.out.size⟩
  have HH := Aside0.mk h
  have N1 := Aside0.mk n1
  clear h hP n1
  go_enter Try.func13, Try.ntmps13
  go_upto_region 1 with (fail)
  generalize W.alloc _ = W1 at B1 H1 q0 q1 q2 q3 q4 s1 N1 ⊢
  generalize W.heap.size = b3 at q0 q1 q2 q3 q4 N1 ⊢
  have HF := Aside0.mk hf
  clear hf
  have hup := Try.underlying37
  go_wp2_with fail
  refine (gather_calls H1.out (fun k hk => Nat.lt_of_lt_of_le (HP.out k hk) B1.out.size) s1.out HF.out).mono ?_
  rintro e w2 ⟨rfl, vR', T2, M2⟩
  have T2 := Aside0.mk T2
  have M2 := Aside0.mk M2
  go_wp2
  go_ret2
  exact ⟨rfl, Aft.same B1.out hbw HP.out T2.out M2.out⟩
set_option maxHeartbeats 4000000 in
set_option maxRecDepth 100000 in
theorem do_3 (h : Th W base P b r s vF vR vS fs row st) (hP : ∀ k, P k → k < W.heap.size) (hbw : base ≤ W.heap.size) (hm1 : fs.length ≤ 1000000) (hm2 : st.length ≤ 1000000) {AL : Option Addr} {cL : Nat} {l : List Int} (fn pk pv : Int)  :
    Calls Try.prog 13 #[.pointer (some ⟨b, 0, none⟩), .agg #[.int .i64 3, .int .i64 fn, .slice AL l.length cL, .int .i64 pk, .int .i64 pv]] W (Told W base P b vF vS fs r s (fs.map Fr.core) row (st ++ [IntKind.u64.wrap fn]) 0 false) := by
  have huO := Try.underlying39
  have HP := Aside0.mk hP
  have B1 := Aside0.mk (below_alloc (Below.refl W.heap.size W) (.cells #[.int .i64 3, .int .i64 fn, .slice AL l.length cL, .int .i64 pk, .int .i64 pv] 39 (0, 0)))
  have H1 := Aside0.mk (h.below B1.out)
  have n1 := heap_alloc_new W (.cells #[.int .i64 3, .int .i64 fn, .slice AL l.length cL, .int .i64 pk, .int .i64 pv] 39 (0, 0))
  have q0 := (blk_cell n1 0).trans rfl
  have q1 := (blk_cell n1 1).trans rfl
  have q2 := (blk_cell n1 2).trans rfl
  have q3 := (blk_cell n1 3).trans rfl
  have q4 := (blk_cell n1 4).trans rfl
  have s1 : Aside0 (base ≤ (W.alloc (.cells #[.int .i64 3, .int .i64 fn, .slice AL l.length cL, .int .i64 pk, .int .i64 pv] 39 (0, 0))).heap.size) := ⟨Nat.le_trans hbw B1.out.size⟩
  have HH := Aside0.mk h
  have N1 := Aside0.mk n1
  clear h hP n1
  go_enter Try.func13, Try.ntmps13
  go_upto_region 1 with (fail)
  generalize W.alloc _ = W1 at B1 H1 q0 q1 q2 q3 q4 s1 N1 ⊢
  generalize W.heap.size = b3 at q0 q1 q2 q3 q4 N1 ⊢
  go_wp2_with fail
  refine (push_calls H1.out hm2 s1.out (IntKind.u64.wrap fn)).mono ?_
  rintro e w2 ⟨rfl, vS', T2, M2⟩
  have T2 := Aside0.mk T2
  have M2 := Aside0.mk M2
  go_wp2
  go_ret2
  exact ⟨rfl, Aft.of B1.out hbw HP.out T2.out M2.out⟩
set_option maxHeartbeats 4000000 in
set_option maxRecDepth 100000 in
theorem do_4n (h : Th W base P b r s vF vR vS fs row st) (hP : ∀ k, P k → k < W.heap.size) (hbw : base ≤ W.heap.size) (hm1 : fs.length ≤ 1000000) (hm2 : st.length ≤ 1000000) {AL : Option Addr} {cL : Nat} {l : List Int} (fn pk pv : Int) (h0 : st = []) :
    Calls Try.prog 13 #[.pointer (some ⟨b, 0, none⟩), .agg #[.int .i64 4, .int .i64 fn, .slice AL l.length cL, .int .i64 pk, .int .i64 pv]] W (Told W base P b vF vS fs r s (fs.map Fr.core) row [] 0 false) := by
  have huO := Try.underlying39
  have HP := Aside0.mk hP
  have B1 := Aside0.mk (below_alloc (Below.refl W.heap.size W) (.cells #[.int .i64 4, .int .i64 fn, .slice AL l.length cL, .int .i64 pk, .int .i64 pv] 39 (0, 0)))
  have H1 := Aside0.mk (h.below B1.out)
  have n1 := heap_alloc_new W (.cells #[.int .i64 4, .int .i64 fn, .slice AL l.length cL, .int .i64 pk, .int .i64 pv] 39 (0, 0))
  have q0 := (blk_cell n1 0).trans rfl
  have q1 := (blk_cell n1 1).trans rfl
  have q2 := (blk_cell n1 2).trans rfl
  have q3 := (blk_cell n1 3).trans rfl
  have q4 := (blk_cell n1 4).trans rfl
  have s1 : Aside0 (base ≤ (W.alloc (.cells #[.int .i64 4, .int .i64 fn, .slice AL l.length cL, .int .i64 pk, .int .i64 pv] 39 (0, 0))).heap.size) := ⟨Nat.le_trans hbw B1.out.size⟩
  have HH := Aside0.mk h
  have N1 := Aside0.mk n1
  clear h hP n1
  go_enter Try.func13, Try.ntmps13
  go_upto_region 1 with (fail)
  generalize W.alloc _ = W1 at B1 H1 q0 q1 q2 q3 q4 s1 N1 ⊢
  generalize W.heap.size = b3 at q0 q1 q2 q3 q4 N1 ⊢
  subst h0
  go_wp2_with fail
  refine (pop_none H1.out).mono ?_
  rintro e w2 ⟨rfl, rfl⟩
  go_wp2
  go_ret2
  exact ⟨rfl, Aft.same B1.out hbw HP.out H1.out (Mv.refl _ _ _)⟩
set_option maxHeartbeats 4000000 in
set_option maxRecDepth 100000 in
theorem do_4 (h : Th W base P b r s vF vR vS fs row st) (hP : ∀ k, P k → k < W.heap.size) (hbw : base ≤ W.heap.size) (hm1 : fs.length ≤ 1000000) (hm2 : st.length ≤ 1000000) {AL : Option Addr} {cL : Nat} {l : List Int} (fn pk pv : Int) (h0 : 0 < st.length) :
    Calls Try.prog 13 #[.pointer (some ⟨b, 0, none⟩), .agg #[.int .i64 4, .int .i64 fn, .slice AL l.length cL, .int .i64 pk, .int .i64 pv]] W (Told W base P b vF vS fs r s (fs.map Fr.core) row (st.take (st.length - 1)) (st[st.length - 1]'(by omega)) true) := by
  have huO := Try.underlying39
  have HP := Aside0.mk hP
  have B1 := Aside0.mk (below_alloc (Below.refl W.heap.size W) (.cells #[.int .i64 4, .int .i64 fn, .slice AL l.length cL, .int .i64 pk, .int .i64 pv] 39 (0, 0)))
  have H1 := Aside0.mk (h.below B1.out)
  have n1 := heap_alloc_new W (.cells #[.int .i64 4, .int .i64 fn, .slice AL l.length cL, .int .i64 pk, .int .i64 pv] 39 (0, 0))
  have q0 := (blk_cell n1 0).trans rfl
  have q1 := (blk_cell n1 1).trans rfl
  have q2 := (blk_cell n1 2).trans rfl
  have q3 := (blk_cell n1 3).trans rfl
  have q4 := (blk_cell n1 4).trans rfl
  have s1 : Aside0 (base ≤ (W.alloc (.cells #[.int .i64 4, .int .i64 fn, .slice AL l.length cL, .int .i64 pk, .int .i64 pv] 39 (0, 0))).heap.size) := ⟨Nat.le_trans hbw B1.out.size⟩
  have HH := Aside0.mk h
  have N1 := Aside0.mk n1
  clear h hP n1
  go_enter Try.func13, Try.ntmps13
  go_upto_region 1 with (fail)
  generalize W.alloc _ = W1 at B1 H1 q0 q1 q2 q3 q4 s1 N1 ⊢
  generalize W.heap.size = b3 at q0 q1 q2 q3 q4 N1 ⊢
  go_wp2_with fail
  refine (pop_calls H1.out hm2 s1.out h0).mono ?_
  rintro e w2 ⟨rfl, vS', T2, M2⟩
  have T2 := Aside0.mk T2
  have M2 := Aside0.mk M2
  go_wp2
  go_ret2
  exact ⟨rfl, Aft.of B1.out hbw HP.out T2.out M2.out⟩
set_option maxHeartbeats 4000000 in
set_option maxRecDepth 100000 in
theorem do_5 (h : Th W base P b r s vF vR vS fs row st) (hP : ∀ k, P k → k < W.heap.size) (hbw : base ≤ W.heap.size) (hm1 : fs.length ≤ 1000000) (hm2 : st.length ≤ 1000000) {AL : Option Addr} {cL : Nat} {l : List Int} (fn pk pv : Int)  :
    Calls Try.prog 13 #[.pointer (some ⟨b, 0, none⟩), .agg #[.int .i64 5, .int .i64 fn, .slice AL l.length cL, .int .i64 pk, .int .i64 pv]] W (Told W base P b vF vS fs r s (fs.map Fr.core) [] [] 0 false) := by
  have huO := Try.underlying39
  have HP := Aside0.mk hP
  have B1 := Aside0.mk (below_alloc (Below.refl W.heap.size W) (.cells #[.int .i64 5, .int .i64 fn, .slice AL l.length cL, .int .i64 pk, .int .i64 pv] 39 (0, 0)))
  have H1 := Aside0.mk (h.below B1.out)
  have n1 := heap_alloc_new W (.cells #[.int .i64 5, .int .i64 fn, .slice AL l.length cL, .int .i64 pk, .int .i64 pv] 39 (0, 0))
  have q0 := (blk_cell n1 0).trans rfl
  have q1 := (blk_cell n1 1).trans rfl
  have q2 := (blk_cell n1 2).trans rfl
  have q3 := (blk_cell n1 3).trans rfl
  have q4 := (blk_cell n1 4).trans rfl
  have s1 : Aside0 (base ≤ (W.alloc (.cells #[.int .i64 5, .int .i64 fn, .slice AL l.length cL, .int .i64 pk, .int .i64 pv] 39 (0, 0))).heap.size) := ⟨Nat.le_trans hbw B1.out.size⟩
  have HH := Aside0.mk h
  have N1 := Aside0.mk n1
  clear h hP n1
  go_enter Try.func13, Try.ntmps13
  go_upto_region 1 with (fail)
  generalize W.alloc _ = W1 at B1 H1 q0 q1 q2 q3 q4 s1 N1 ⊢
  generalize W.heap.size = b3 at q0 q1 q2 q3 q4 N1 ⊢
  go_wp2_with fail
  refine (fresh_calls H1.out s1.out).mono ?_
  rintro e w2 ⟨rfl, T2, M2⟩
  have T2 := Aside0.mk T2
  have M2 := Aside0.mk M2
  go_wp2
  go_ret2
  exact ⟨rfl, Aft.of B1.out hbw HP.out T2.out M2.out⟩
set_option maxHeartbeats 4000000 in
set_option maxRecDepth 100000 in
theorem do_6n (h : Th W base P b r s vF vR vS fs row st) (hP : ∀ k, P k → k < W.heap.size) (hbw : base ≤ W.heap.size) (hm1 : fs.length ≤ 1000000) (hm2 : st.length ≤ 1000000) {AL : Option Addr} {cL : Nat} {l : List Int} (fn pk pv : Int) (h0 : fs = []) :
    Calls Try.prog 13 #[.pointer (some ⟨b, 0, none⟩), .agg #[.int .i64 6, .int .i64 fn, .slice AL l.length cL, .int .i64 pk, .int .i64 pv]] W (Told W base P b vF vS fs r s [] row st 0 false) := by
  have huO := Try.underlying39
  have HP := Aside0.mk hP
  have B1 := Aside0.mk (below_alloc (Below.refl W.heap.size W) (.cells #[.int .i64 6, .int .i64 fn, .slice AL l.length cL, .int .i64 pk, .int .i64 pv] 39 (0, 0)))
  have H1 := Aside0.mk (h.below B1.out)
  have n1 := heap_alloc_new W (.cells #[.int .i64 6, .int .i64 fn, .slice AL l.length cL, .int .i64 pk, .int .i64 pv] 39 (0, 0))
  have q0 := (blk_cell n1 0).trans rfl
  have q1 := (blk_cell n1 1).trans rfl
  have q2 := (blk_cell n1 2).trans rfl
  have q3 := (blk_cell n1 3).trans rfl
  have q4 := (blk_cell n1 4).trans rfl
  have s1 : Aside0 (base ≤ (W.alloc (.cells #[.int .i64 6, .int .i64 fn, .slice AL l.length cL, .int .i64 pk, .int .i64 pv] 39 (0, 0))).heap.size) := ⟨Nat.le_trans hbw B1.out.size⟩
  have HH := Aside0.mk h
  have N1 := Aside0.mk n1
  clear h hP n1
  go_enter Try.func13, Try.ntmps13
  go_upto_region 1 with (fail)
  generalize W.alloc _ = W1 at B1 H1 q0 q1 q2 q3 q4 s1 N1 ⊢
  generalize W.heap.size = b3 at q0 q1 q2 q3 q4 N1 ⊢
  subst h0
  go_wp2_with fail
  refine (top_none H1.out).mono ?_
  rintro e w2 ⟨rfl, rfl⟩
  go_wp2
  go_ret2
  exact ⟨rfl, Aft.same (gs := []) B1.out hbw HP.out H1.out (Mv.refl _ _ _)⟩
set_option maxHeartbeats 4000000 in
set_option maxRecDepth 100000 in
theorem do_6 (h : Th W base P b r s vF vR vS fs row st) (hP : ∀ k, P k → k < W.heap.size) (hbw : base ≤ W.heap.size) (hm1 : fs.length ≤ 1000000) (hm2 : st.length ≤ 1000000) {AL : Option Addr} {cL : Nat} {l : List Int} (fn pk pv : Int) (h0 : 0 < fs.length) :
    Calls Try.prog 13 #[.pointer (some ⟨b, 0, none⟩), .agg #[.int .i64 6, .int .i64 fn, .slice AL l.length cL, .int .i64 pk, .int .i64 pv]] W (Told W base P b vF vS fs r s ((fs.map Fr.core).set (fs.length - 1) (touch fn (fs[fs.length - 1]'(by omega)).core)) row st 0 false) := by
  have huO := Try.underlying39
  have HP := Aside0.mk hP
  have B1 := Aside0.mk (below_alloc (Below.refl W.heap.size W) (.cells #[.int .i64 6, .int .i64 fn, .slice AL l.length cL, .int .i64 pk, .int .i64 pv] 39 (0, 0)))
  have H1 := Aside0.mk (h.below B1.out)
  have n1 := heap_alloc_new W (.cells #[.int .i64 6, .int .i64 fn, .slice AL l.length cL, .int .i64 pk, .int .i64 pv] 39 (0, 0))
  have q0 := (blk_cell n1 0).trans rfl
  have q1 := (blk_cell n1 1).trans rfl
  have q2 := (blk_cell n1 2).trans rfl
  have q3 := (blk_cell n1 3).trans rfl
  have q4 := (blk_cell n1 4).trans rfl
  have s1 : Aside0 (base ≤ (W.alloc (.cells #[.int .i64 6, .int .i64 fn, .slice AL l.length cL, .int .i64 pk, .int .i64 pv] 39 (0, 0))).heap.size) := ⟨Nat.le_trans hbw B1.out.size⟩
  have HH := Aside0.mk h
  have N1 := Aside0.mk n1
  clear h hP n1
  go_enter Try.func13, Try.ntmps13
  go_upto_region 1 with (fail)
  generalize W.alloc _ = W1 at B1 H1 q0 q1 q2 q3 q4 s1 N1 ⊢
  generalize W.heap.size = b3 at q0 q1 q2 q3 q4 N1 ⊢
  go_wp2_with fail
  refine (top_calls H1.out h0 hm1).mono ?_
  rintro e w2 ⟨rfl, hb⟩
  have B2 := Aside0.mk (below_then B1.out B1.out.size hb)
  have B2' := Aside0.mk hb
  have H2 := Aside0.mk (H1.out.below hb)
  have q1b := pw_cell_below hb q1
  have n3 := Aside0.mk hb.size
  clear hb q0 q1 q2 q3 q4
  have hlt : fs.length - 1 < fs.length := by omega
  obtain ⟨f, hf⟩ : ∃ f, f = fs[fs.length - 1]'(by omega) := ⟨_, rfl⟩
  have HF := Aside0.mk hf
  clear hf
  rw [← HF.out]
  have FB := Aside0.mk (show w2.heap[f.bk]? = _ from H2.out.fb f (by rw [HF.out]; exact List.getElem_mem hlt))
  have c1 : w2.cell? ⟨f.bk, 1, none⟩ = some (.int .i64 f.pc) := (blk_cell FB.out 1).trans rfl
  have z1 := blk_frozen FB.out 1
  have M2 := Aside0.mk (Mv.below s1.out B2'.out : Mv W1 w2 base (own b vF vS fs))
  have N2 := Aside0.mk (blk_below N1.out B2'.out)
  clear N1 B2' n3
  go_upto_region 19 with (fail)
  refine gen2 (Φ := fun X => X.heap[b3]? = some (.cells #[.int .i64 6, .int .i64 fn, .slice AL l.length cL, .int .i64 pk, .int .i64 pv] 39 (0, 0)) ∧ Th X base P b r s vF vR vS (fs.set (fs.length - 1) ⟨f.bk, f.fn, fn, f.R⟩) row st ∧ Mv W1 X base (own b vF vS fs)) ⟨(Below.heap_setCell w2 ⟨f.bk, 1, none⟩ _ b3 (typ_ne N2.out FB.out (by decide))).trans N2.out, (H2.out.setFr (f' := ⟨f.bk, f.fn, fn, f.R⟩) hlt 1 _ HF.out.symm rfl rfl).1, M2.out.trans (H2.out.setFr (f' := ⟨f.bk, f.fn, fn, f.R⟩) hlt 1 _ HF.out.symm rfl rfl).2 (fun k hk => hk)⟩ ?_
  have ND := Aside0.mk H2.out.nd
  clear c1 z1 q1b FB N2 M2 H2 B2
  intro X HX
  have NX := Aside0.mk HX.1
  have HX1 := Aside0.mk HX.2.1
  have MX := Aside0.mk HX.2.2
  clear HX
  have q1 : X.cell? ⟨b3, 1, none⟩ = some (.int .i64 fn) := (blk_cell NX.out 1).trans rfl
  have HL2 : Aside0 (fs.length - 1 < (fs.set (fs.length - 1) (⟨f.bk, f.fn, fn, f.R⟩ : Fr)).length) := ⟨by rw [List.length_set]; exact hlt⟩
  have HG2 : Aside0 ((fs.set (fs.length - 1) (⟨f.bk, f.fn, fn, f.R⟩ : Fr))[fs.length - 1]'HL2.out = ⟨f.bk, f.fn, fn, f.R⟩) := ⟨List.getElem_set_self _⟩
  by_cases hq : 0 ≤ fn
  · have dq : decide (fn ≥ 0) = true := decide_eq_true hq
    obtain ⟨k, hk⟩ : ∃ k : Nat, (fn % 24).toNat = k := ⟨_, rfl⟩
    have hk24 : k < 24 := by omega
    have hkr : Int.tmod fn 24 = (k : Int) := by rw [Int.tmod_eq_emod_of_nonneg hq]; omega
    have HK := Aside0.mk hk
    clear hk
    have FX := Aside0.mk (show X.heap[f.bk]? = _ from HX1.out.fb ⟨f.bk, f.fn, fn, f.R⟩ (by have := List.getElem_mem HL2.out; rw [HG2.out] at this; exact this))
    have c2 : X.cell? ⟨f.bk, 2 + k, none⟩ = some (.int .u64 (f.R k)) := (blk_cell FX.out (2 + k)).trans (by rw [List.getElem?_toArray]; unfold frC; rw [Nat.add_comm, List.getElem?_cons_succ, List.getElem?_cons_succ, List.getElem?_eq_getElem (by rw [ws_len]; exact hk24), ws_get _ _ _ hk24])
    have z2 := blk_frozen FX.out (2 + k)
    have SF := Aside0.mk (HX1.out.setFr HL2.out (2 + k) (.int .u64 (IntKind.u64.wrap (f.R k + 1))) HG2.out (f' := ⟨f.bk, f.fn, fn, upd f.R k (IntKind.u64.wrap (f.R k + 1))⟩) rfl (by unfold frC; rw [Nat.add_comm, List.set_cons_succ, List.set_cons_succ, ws_set]))
    clear FX
    go_upto_region 20 with (fail)
    go_region
    go_upto_region 21 with (fail)
    have SX := Aside0.mk (And.intro SF.out.1.drew (MX.out.trans SF.out.2 (own_set ND.out hlt (by rw [HF.out]))).drew)
    clear SF c2 z2
    go_wp2
    go_ret2
    refine ⟨rfl, ?_⟩
    have K := Aft.same B1.out hbw HP.out SX.out.1 SX.out.2
    rw [List.set_set, List.map_set] at K
    rw [← HF.out, touch_pos hq HK.out]
    exact K
  · have dq : decide (fn ≥ 0) = false := decide_eq_false (by omega)
    go_wp2
    go_ret2
    refine ⟨rfl, ?_⟩
    have K := Aft.same B1.out hbw HP.out HX1.out MX.out
    rw [List.map_set] at K
    rw [← HF.out, touch_neg (by omega : ¬ 0 ≤ fn)]
    exact K
end
end Go.Proofs.Ytocmdcjbjhpooaa.FrW
