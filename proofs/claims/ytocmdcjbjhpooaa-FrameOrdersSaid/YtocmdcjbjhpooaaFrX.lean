/- A thread by itself: its methods. -/
import Derived.Test.YtocmdcjbjhpooaaFrS
set_option linter.unusedVariables false
set_option linter.unusedSimpArgs false
namespace Go.Proofs.Ytocmdcjbjhpooaa.FrW
open Go Go.RowKit Go.Proofs.YtocmdcjbjhpooaaW.PrintWords Go.Proofs.YtocmdcjbjhpooaaW.PrintLast Go.Proofs.YtocmdcjbjhpooaaW.PrintMore Go.Proofs.Ytocmdcjbjhpooaa.PFrameOrders Go.Proofs.Ytocmdcjbjhpooaa.GRow Go.Proofs.Ytocmdcjbjhpooaa.Num Go.Proofs.Ytocmdcjbjhpooaa.Bxs Go.Proofs.Ytocmdcjbjhpooaa.InsW Go.Proofs.Ytocmdcjbjhpooaa.Pure
/-- A thread, by itself. -/
structure LT (w X : World) (b : Nat) (r : Nat → Int) (F : List Co) (row : List S37) (st : List Int) : Prop where
  ex : ∃ P vF vR vS fs, Th X b P b r Ses.zero vF vR vS fs row st ∧ fs.map Fr.core = F ∧ ∀ k, P k → k < X.heap.size
  bl : Below w.heap.size w X
  bs : w.heap.size ≤ b ∧ b ≤ X.heap.size
section
variable {w X W' : World} {b : Nat} {r r' : Nat → Int} {F F' : List Co} {row row' : List S37} {st st' : List Int}
theorem LT.below (h : LT w X b r F row st) (hb : Below X.heap.size X W') : LT w W' b r F row st := by
  obtain ⟨⟨P, vF, vR, vS, fs, h1, h2, h3⟩, bl, bs⟩ := h
  have hs := hb.size
  exact ⟨⟨P, vF, vR, vS, fs, h1.below hb, h2, fun k hk => by have := h3 k hk; omega⟩, below_then bl bl.size hb, bs.1, by omega⟩
theorem lt_mk {P : Nat → Prop} {vF vR vS : Value} {fs : List Fr} {Fo : Nat → Prop} (bl : Below w.heap.size w X) (bs : w.heap.size ≤ b ∧ b ≤ X.heap.size) (hP : ∀ k, P k → k < X.heap.size) (hT : Th W' b (PN P X W') b r' Ses.zero vF vR vS fs row' st') (hc : fs.map Fr.core = F') (hM : Mv X W' b Fo) : LT w W' b r' F' row' st' := by
  have hs := hM.b.size
  refine ⟨⟨_, vF, vR, vS, fs, hT, hc, fun k hk => ?_⟩, ⟨hM.b.os.trans bl.os, hM.b.tape.trans bl.tape, hM.b.output.trans bl.output, Nat.le_trans bl.size hs, fun k hk => (hM.b.block k (by omega)).trans (bl.block k hk)⟩, bs.1, by omega⟩
  rcases hk with hk | hk
  · have := hP k hk; omega
  · exact hk.2
theorem LT.new (hb : Below w.heap.size w X) : Calls Try.prog 12 #[] X fun e W' => e = .returned (.pointer (some ⟨X.heap.size, 0, none⟩)) ∧ LT w W' X.heap.size (fun _ => 0) [] [] [] := by
  refine (new_calls (W := X)).mono ?_
  rintro e W2 ⟨rfl, hT, hB⟩
  have hlt := hT.lt
  exact ⟨rfl, ⟨_, _, _, _, _, hT, rfl, fun k hk => by have e : k = X.heap.size := hk; omega⟩, below_then hb hb.size hB, hb.size, hB.size⟩
theorem LT.depth (h : LT w X b r F row st) : Calls Try.prog 16 #[.pointer (some ⟨b, 0, none⟩)] X fun e W' => e = .returned (.int .i64 F.length) ∧ W' = X := by
  obtain ⟨⟨P, vF, vR, vS, fs, h1, h2, h3⟩, bl, bs⟩ := h
  have hl : fs.length = F.length := by rw [← h2, List.length_map]
  rw [← hl]
  exact depth_calls h1
theorem LT.call (h : LT w X b r F row st) (hm : F.length ≤ 1000) (fn : Int) {A : Option Addr} {c : Nat} {l : List Int} (hC : Kd.C (Kd.int .u64) X A l.length l) : Calls Try.prog 17 #[.pointer (some ⟨b, 0, none⟩), .int .i64 fn, .slice A l.length c] X fun e W' => e = .returned (.tuple #[]) ∧ LT w W' b r (F ++ [(fn, 0, regs l)]) row st := by
  obtain ⟨⟨P, vF, vR, vS, fs, h1, h2, h3⟩, bl, bs⟩ := h
  have hl : fs.length = F.length := by rw [← h2, List.length_map]
  refine (call_calls h1 (by omega) bs.2 fn hC).mono ?_
  rintro e W2 ⟨rfl, vF', T2, M2⟩
  exact ⟨rfl, lt_mk bl bs h3 T2 (by rw [List.map_append, h2]; rfl) M2⟩
theorem LT.push (h : LT w X b r F row st) (hm : st.length ≤ 1000) (x : Int) : Calls Try.prog 18 #[.pointer (some ⟨b, 0, none⟩), .int .u64 x] X fun e W' => e = .returned (.tuple #[]) ∧ LT w W' b r F row (st ++ [x]) := by
  obtain ⟨⟨P, vF, vR, vS, fs, h1, h2, h3⟩, bl, bs⟩ := h
  refine (push_calls h1 (by omega) bs.2 x).mono ?_
  rintro e W2 ⟨rfl, vS', T2, M2⟩
  exact ⟨rfl, lt_mk bl bs h3 T2 h2 M2⟩
theorem LT.pop (h : LT w X b r F row st) (hm : st.length ≤ 1000) (h0 : 0 < st.length) : Calls Try.prog 20 #[.pointer (some ⟨b, 0, none⟩)] X fun e W' => e = .returned (.tuple #[.int .u64 (st[st.length - 1]'(by omega)), .bool true]) ∧ LT w W' b r F row (st.take (st.length - 1)) := by
  obtain ⟨⟨P, vF, vR, vS, fs, h1, h2, h3⟩, bl, bs⟩ := h
  refine (pop_calls h1 (by omega) bs.2 h0).mono ?_
  rintro e W2 ⟨rfl, vS', T2, M2⟩
  exact ⟨rfl, lt_mk bl bs h3 T2 h2 M2⟩
theorem LT.back (h : LT w X b r F row st) (hm : F.length ≤ 1000) (h0 : 0 < F.length) (x : Int) :
    Calls Try.prog 21 #[.pointer (some ⟨b, 0, none⟩), .slice (some ⟨X.heap.size, 0, none⟩) 1 1] (X.alloc (.cells #[.int .u64 x] 27 (0, 0))) fun e W' => e = .returned (.tuple #[]) ∧ LT w W' b (regs [x]) (F.take (F.length - 1)) row st := by
  have hB := below_alloc (Below.refl X.heap.size X) (.cells #[.int .u64 x] 27 (0, 0))
  have hn := heap_alloc_new X (.cells #[.int .u64 x] 27 (0, 0))
  have hL := h.below hB
  obtain ⟨⟨P, vF, vR, vS, fs, h1, h2, h3⟩, bl, bs⟩ := h
  have hl : fs.length = F.length := by rw [← h2, List.length_map]
  have hs := hB.size
  refine (back_calls (h1.below hB) (by omega) (by omega) (cl := 1) (l := [x]) (fun Y hY => lit_C [x] (Nat.le_of_ble_eq_true rfl) ((hY X.heap.size (by rw [size_alloc]; omega) (fun ho => Nat.lt_irrefl _ (h1.own_lt ho))).trans hn)) (by omega)).mono ?_
  rintro e W2 ⟨rfl, vF', T2, M2⟩
  exact ⟨rfl, lt_mk hL.bl hL.bs (fun k hk => by have := h3 k hk; omega) T2 (by rw [List.map_take, h2, hl]) M2⟩
theorem LT.gather (h : LT w X b r F row st) {n : Nat} {a x : Int} {r1 : List S37} {r2 : Bool} (hf : pairs_Put.f n row a x = some (r1, r2)) : Calls Try.prog 24 #[.pointer (some ⟨b, 0, none⟩), .agg #[.int .i64 a, .int .i64 x]] X fun e W' => e = .returned (.bool r2) ∧ LT w W' b r F r1 st := by
  obtain ⟨⟨P, vF, vR, vS, fs, h1, h2, h3⟩, bl, bs⟩ := h
  refine (gather_calls h1 h3 bs.2 hf).mono ?_
  rintro e W2 ⟨rfl, vR', T2, M2⟩
  have hs := M2.b.size
  exact ⟨rfl, ⟨P, vF, vR', vS, fs, T2, h2, fun k hk => by have := h3 k hk; omega⟩, ⟨M2.b.os.trans bl.os, M2.b.tape.trans bl.tape, M2.b.output.trans bl.output, Nat.le_trans bl.size hs, fun k hk => (M2.b.block k (by omega)).trans (bl.block k hk)⟩, bs.1, by omega⟩
theorem LT.ret0 (h : LT w X b r F row st) : X.cell? ⟨b, 0, none⟩ = some (.int .u64 (r 0)) := by
  obtain ⟨⟨P, vF, vR, vS, fs, h1, h2, h3⟩, bl, bs⟩ := h
  exact (h1.cell 0).trans rfl
theorem LT.rowC (h : LT w X b r F row st) (hm : row.length ≤ 1000) : Calls Try.prog 23 #[.pointer (some ⟨b, 0, none⟩)] X fun e W' => ∃ v', e = .returned v' ∧ Kd.V k37 37 W' 0 (fun k => X.heap.size ≤ k) v' row ∧ Below X.heap.size X W' := by
  obtain ⟨⟨P, vF, vR, vS, fs, h1, h2, h3⟩, bl, bs⟩ := h
  exact row_calls h1 (by omega)
/-- The top frame's block, and that its place may be changed. -/
structure LTop (w X : World) (b : Nat) (r : Nat → Int) (F : List Co) (row : List S37) (st : List Int) (f : Co) (fb : Nat) : Prop where
  lt : LT w X b r F row st
  hb : X.heap[fb]? = some (.cells (gC f).toArray 50 (0, 0))
  rep : ∃ P vF vR vS fs, Th X b P b r Ses.zero vF vR vS fs row st ∧ fs.map Fr.core = F ∧ (∀ k, P k → k < X.heap.size) ∧ ∃ g ∈ fs, g.bk = fb ∧ g.core = f
  pc : ∀ x, LT w (X.setCell ⟨fb, 1, none⟩ (.int .i64 x)) b r (F.set (F.length - 1) (f.1, x, f.2.2)) row st
theorem LTop.pop {f : Co} {fb : Nat} (h : LTop w X b r F row st f fb) (hm : st.length ≤ 1000) (h0 : 0 < st.length) : Calls Try.prog 20 #[.pointer (some ⟨b, 0, none⟩)] X fun e W' => e = .returned (.tuple #[.int .u64 (st[st.length - 1]'(by omega)), .bool true]) ∧ LT w W' b r F row (st.take (st.length - 1)) ∧ W'.heap[fb]? = some (.cells (gC f).toArray 50 (0, 0)) := by
  obtain ⟨P, vF, vR, vS, fs, h1, h2, h3, g, hg, rfl, hgf⟩ := h.rep
  refine (pop_calls h1 (by omega) h.lt.bs.2 h0).mono ?_
  rintro e W2 ⟨rfl, vS', T2, M2⟩
  refine ⟨rfl, lt_mk h.lt.bl h.lt.bs h3 T2 h2 M2, ?_⟩
  rw [← hgf]
  exact T2.fb g hg
theorem LTop.below {f : Co} (h : LT w X b r F row st) (hm : F.length ≤ 1000) (h0 : 0 < F.length) (hf : F[F.length - 1]'(by omega) = f) :
    Calls Try.prog 19 #[.pointer (some ⟨b, 0, none⟩)] X fun e W' => ∃ fb, e = .returned (.pointer (some ⟨fb, 0, none⟩)) ∧ LTop w W' b r F row st f fb ∧ Below X.heap.size X W' := by
  obtain ⟨⟨P, vF, vR, vS, fs, h1, h2, h3⟩, bl, bs⟩ := h
  have hl : fs.length = F.length := by rw [← h2, List.length_map]
  refine (top_calls h1 (by omega) (by omega)).mono ?_
  rintro e W2 ⟨rfl, hB⟩
  have hlt : fs.length - 1 < fs.length := by omega
  obtain ⟨g, hg⟩ : ∃ g, fs[fs.length - 1]'hlt = g := ⟨_, rfl⟩
  have hgf : g.core = f := by
    rw [← hf, ← hg]
    subst h2
    simp only [List.getElem_map, List.length_map]
  have hs := hB.size
  have T2 := h1.below hB
  have L2 : LT w W2 b r F row st := ⟨⟨P, vF, vR, vS, fs, T2, h2, fun k hk => by have := h3 k hk; omega⟩, below_then bl bl.size hB, bs.1, by omega⟩
  rw [hg]
  refine ⟨g.bk, rfl, ⟨L2, ?_, ⟨P, vF, vR, vS, fs, T2, h2, fun k hk => by have := h3 k hk; omega, g, by rw [← hg]; exact List.getElem_mem hlt, rfl, hgf⟩, fun x => ?_⟩, hB⟩
  · rw [← hgf]
    exact T2.fb g (by rw [← hg]; exact List.getElem_mem hlt)
  · have K := T2.setFr hlt 1 (.int .i64 x) hg (f' := ⟨g.bk, g.fn, x, g.R⟩) rfl rfl
    have hz : (W2.setCell ⟨g.bk, 1, none⟩ (.int .i64 x)).heap.size = W2.heap.size := World.size_setCell ..
    refine ⟨⟨P, vF, vR, vS, _, K.1, ?_, fun k hk => by rw [hz]; have := h3 k hk; omega⟩, ⟨K.2.b.os.trans L2.bl.os, K.2.b.tape.trans L2.bl.tape, K.2.b.output.trans L2.bl.output, by rw [hz]; exact L2.bl.size, fun k hk => (K.2.b.block k (by have := bs.1; omega)).trans (L2.bl.block k hk)⟩, bs.1, by rw [hz]; exact L2.bs.2⟩
    rw [List.map_set, h2, hl, ← hgf]
    rfl
end
end Go.Proofs.Ytocmdcjbjhpooaa.FrW
