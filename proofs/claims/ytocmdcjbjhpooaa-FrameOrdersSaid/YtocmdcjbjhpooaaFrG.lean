/- The top frame taken away. -/
import Derived.Test.YtocmdcjbjhpooaaFrH
set_option linter.unusedVariables false
set_option linter.unusedSimpArgs false
namespace Go.Proofs.Ytocmdcjbjhpooaa.FrW
open Go Go.RowKit Go.Proofs.YtocmdcjbjhpooaaW.PrintWords Go.Proofs.YtocmdcjbjhpooaaW.PrintLast Go.Proofs.YtocmdcjbjhpooaaW.PrintMore Go.Proofs.Ytocmdcjbjhpooaa.PFrameOrders Go.Proofs.Ytocmdcjbjhpooaa.GRow Go.Proofs.Ytocmdcjbjhpooaa.Num Go.Proofs.Ytocmdcjbjhpooaa.Bxs Go.Proofs.Ytocmdcjbjhpooaa.InsW
section
variable {W : World} {base : Nat} {P : Nat → Prop} {b : Nat} {r : Nat → Int} {s : Ses} {vF vR vS : Value} {fs : List Fr} {row : List S37} {st : List Int}
/-- Words and session of a thread, written anew. -/
theorem Th.rep (h : Th W base P b r s vF vR vS fs row st) {W' : World} {r' : Nat → Int} {s' : Ses} (hb : W'.heap[b]? = some (.cells (thC r' s' vF vR vS).toArray 57 (0, 0))) (hk : ∀ k, k ≠ b → W'.heap[k]? = W.heap[k]?) : Th W' base P b r' s' vF vR vS fs row st := by
  have m1 : ∀ {k : Nat} {a : Array Value} {T : Nat}, W.heap[k]? = some (.cells a T (0, 0)) → T ≠ 57 → W'.heap[k]? = W.heap[k]? := fun h1 hT => hk _ (typ_ne h1 h.blk hT)
  refine ⟨hb, h.fo.move (fun k _ _ h1 => ?_), fun f hf => (m1 (h.fb f hf) (by decide)).trans (h.fb f hf), h.nd, h.so.move (fun k _ _ h1 => ?_), Kd.V_step h.ro (fun k h1 _ => hk k (fun e => h1.2 (e ▸ (h.ge b (.inl rfl)).2))), h.ge⟩
  · obtain ⟨cur, hc⟩ := OV.typed h.fo h1
    exact m1 hc (by decide)
  · obtain ⟨cur, hc⟩ := OV.typed h.so h1
    exact m1 hc (by decide)
theorem gen2 {P : Program} {cd : Code} {Q : Exit → Act → World → Prop} {ac : Act} {W : World} {Φ : World → Prop} (h : Φ W) (k : ∀ wr, Φ wr → cd.wp P Q ac wr) : cd.wp P Q ac W := k W h
set_option maxHeartbeats 4000000 in
set_option maxRecDepth 100000 in
theorem back_calls (h : Th W base P b r s vF vR vS fs row st) (hm : fs.length ≤ 1000000) (hbw : base ≤ W.heap.size) {A : Option Addr} {cl : Nat} {l : List Int} (hC : ∀ X, (∀ k, k < W.heap.size → ¬ own b vF vS fs k → X.heap[k]? = W.heap[k]?) → Kd.C (Kd.int .u64) X A l.length l) (hn : 0 < fs.length) :
    Calls Try.prog 21 #[.pointer (some ⟨b, 0, none⟩), .slice A l.length cl] W fun e W' => e = .returned (.tuple #[]) ∧ ∃ vF', Th W' base (PN P W W') b (regs l) s vF' vR vS (fs.take (fs.length - 1)) row st ∧ Mv W W' base (own b vF vS fs) := by
  have hu := Try.underlying57
  have huA := Try.underlying28
  obtain ⟨g, c, rfl, hc, hg⟩ := h.at_ (fs.length - 1) (by omega)
  have c24 := h.cF
  have f24 := h.frz 24
  have z1 : decide ((fs.length : Int) > 0) = true := decide_eq_true (by omega)
  have hi : ((fs.length : Int) - 1) = ((fs.length - 1 : Nat) : Int) := by omega
  go_enter Try.func21, Try.ntmps21
  go_upto_region 2 with (fail)
  go_region
  go_upto_region 3 with (fail)
  refine gen2 (Φ := fun X => Th X base (PN P W X) b r s (.slice (some ⟨g, 0, none⟩) (fs.length - 1) c) vR vS (fs.take (fs.length - 1)) row st ∧ Mv W X base (own b (.slice (some ⟨g, 0, none⟩) fs.length c) vS fs)) ?_ ?_
  · refine ⟨Th.drew (h.setF (v' := .slice (some ⟨g, 0, none⟩) (fs.length - 1) c) (fs' := fs.take (fs.length - 1)) (fun _ _ _ => rfl) (Nat.le_refl _) (by rw [List.map_take]; exact OV.cut h.fo _ (by omega)) (fun f hf => h.fb f (List.mem_of_mem_take hf)) (by rw [List.map_take]; exact h.nd.sublist (List.take_sublist _ _)) (fun f hf => .inl ⟨f, List.mem_of_mem_take hf, rfl⟩) (fun k hk => .inl hk) hbw), Mv.drew ⟨(Below.refl base W).setCell (p := ⟨b, 24, none⟩) (h.ge b (.inl rfl)).1 _, fun k hk hn => Below.heap_setCell W ⟨b, 24, none⟩ _ k (fun e => hn (.inl e))⟩⟩
  intro x1 HX
  have a0 : x1.cell? ⟨b, 0, none⟩ = some (.int .u64 (r 0)) := (HX.1.cell 0).trans rfl
  have g0 := HX.1.frz 0
  have a1 : x1.cell? ⟨b, 1, none⟩ = some (.int .u64 (r 1)) := (HX.1.cell 1).trans rfl
  have g1 := HX.1.frz 1
  have a2 : x1.cell? ⟨b, 2, none⟩ = some (.int .u64 (r 2)) := (HX.1.cell 2).trans rfl
  have g2 := HX.1.frz 2
  have a3 : x1.cell? ⟨b, 3, none⟩ = some (.int .u64 (r 3)) := (HX.1.cell 3).trans rfl
  have g3 := HX.1.frz 3
  have a4 : x1.cell? ⟨b, 4, none⟩ = some (.int .u64 (r 4)) := (HX.1.cell 4).trans rfl
  have g4 := HX.1.frz 4
  have a5 : x1.cell? ⟨b, 5, none⟩ = some (.int .u64 (r 5)) := (HX.1.cell 5).trans rfl
  have g5 := HX.1.frz 5
  have a6 : x1.cell? ⟨b, 6, none⟩ = some (.int .u64 (r 6)) := (HX.1.cell 6).trans rfl
  have g6 := HX.1.frz 6
  have a7 : x1.cell? ⟨b, 7, none⟩ = some (.int .u64 (r 7)) := (HX.1.cell 7).trans rfl
  have g7 := HX.1.frz 7
  have a8 : x1.cell? ⟨b, 8, none⟩ = some (.int .u64 (r 8)) := (HX.1.cell 8).trans rfl
  have g8 := HX.1.frz 8
  have a9 : x1.cell? ⟨b, 9, none⟩ = some (.int .u64 (r 9)) := (HX.1.cell 9).trans rfl
  have g9 := HX.1.frz 9
  have a10 : x1.cell? ⟨b, 10, none⟩ = some (.int .u64 (r 10)) := (HX.1.cell 10).trans rfl
  have g10 := HX.1.frz 10
  have a11 : x1.cell? ⟨b, 11, none⟩ = some (.int .u64 (r 11)) := (HX.1.cell 11).trans rfl
  have g11 := HX.1.frz 11
  clear c24 f24
  go_upto_region 4 with (fail)
  have hge := (h.ge b (.inl rfl)).1
  have e12 : ((((((((((((x1.setCell ⟨b, 0, none⟩ (.int .u64 0)).setCell ⟨b, 1, none⟩ (.int .u64 0)).setCell ⟨b, 2, none⟩ (.int .u64 0)).setCell ⟨b, 3, none⟩ (.int .u64 0)).setCell ⟨b, 4, none⟩ (.int .u64 0)).setCell ⟨b, 5, none⟩ (.int .u64 0)).setCell ⟨b, 6, none⟩ (.int .u64 0)).setCell ⟨b, 7, none⟩ (.int .u64 0)).setCell ⟨b, 8, none⟩ (.int .u64 0)).setCell ⟨b, 9, none⟩ (.int .u64 0)).setCell ⟨b, 10, none⟩ (.int .u64 0)).setCell ⟨b, 11, none⟩ (.int .u64 0)) = x1.setCells b 0 (List.replicate 12 (.int .u64 0)) := rfl
  rw [e12]
  have hbk : ∀ k, k ≠ b → (x1.setCells b 0 (List.replicate 12 (.int .u64 0))).heap[k]? = x1.heap[k]? := fun k hk => heap_setCells b _ 0 x1 k hk
  have TY := HX.1.rep (r' := fun _ => 0) (s' := s) (W' := x1.setCells b 0 (List.replicate 12 (.int .u64 0))) (blk_setCells (List.replicate 12 (.int .u64 0)) x1 [] (ws 12 r) _ (ws_len 12 r) HX.1.blk) hbk
  have BY : Below base W (x1.setCells b 0 (List.replicate 12 (.int .u64 0))) := below_setCells HX.2.b hge _ 0
  have KY : ∀ k, k < W.heap.size → ¬ own b (.slice (some ⟨g, 0, none⟩) fs.length c) vS fs k → (x1.setCells b 0 (List.replicate 12 (.int .u64 0))).heap[k]? = W.heap[k]? := fun k hk hn => (hbk k (fun e => hn (.inl e))).trans (HX.2.k k hk hn)
  have PY : PN P W (x1.setCells b 0 (List.replicate 12 (.int .u64 0))) = PN P W x1 := by
    funext k
    unfold PN
    rw [size_setCells]
  rw [← PY] at TY
  refine gen2 (Φ := fun X => Th X base (PN P W X) b (fun _ => 0) s (.slice (some ⟨g, 0, none⟩) (fs.length - 1) c) vR vS (fs.take (fs.length - 1)) row st ∧ Mv W X base (own b (.slice (some ⟨g, 0, none⟩) fs.length c) vS fs)) ⟨TY, BY, KY⟩ ?_
  intro x2 HY
  obtain ⟨w4, e1, e2, e3, e4, e5⟩ := copy_words (dT := 31) (sT := 31) (ty := 3) (o := 0) (n := 12) (c := cl) Try.underlying31 HY.1.blk (by show 12 ≤ (thC _ _ _ _ _).length; unfold thC; rw [List.length_append, ws_len]; omega) (hC x2 HY.2.k)
  have hblk : w4.heap[b]? = some (.cells (thC (regs l) s (.slice (some ⟨g, 0, none⟩) (fs.length - 1) c) vR vS).toArray 57 (0, 0)) := by
    rw [e2]
    congr 3
    show ((l.take 12).map fun x => Value.int .u64 x) ++ (ws 12 (fun _ => 0) ++ (sesC s ++ [.slice (some ⟨g, 0, none⟩) (fs.length - 1) c, vR, vS])).drop (0 + (l.take 12).length) = ws 12 (regs l) ++ (sesC s ++ [.slice (some ⟨g, 0, none⟩) (fs.length - 1) c, vR, vS])
    rw [Nat.zero_add, List.drop_append_of_le_length (by rw [ws_len, List.length_take]; omega), ← List.append_assoc, ws_regs]
  have TZ := HY.1.rep (s' := s) hblk e4
  have PZ : PN P W x2 = PN P W w4 := by funext k; unfold PN; rw [e3]
  rw [PZ] at TZ
  have HT := Aside0.mk TZ
  have HM : Aside0 (Mv W w4 base (own b (.slice (some ⟨g, 0, none⟩) fs.length c) vS fs)) := ⟨HY.2.b.trans (e5 base hge), fun k hk hn => (e4 k (fun e => hn (.inl e))).trans (HY.2.k k hk hn)⟩
  clear e2 e3 e4 e5 hblk TZ PZ TY BY KY PY hbk e12 HX HY
  go_wp2
  go_end0
  exact ⟨rfl, _, HT.out, HM.out⟩
end
end Go.Proofs.Ytocmdcjbjhpooaa.FrW
