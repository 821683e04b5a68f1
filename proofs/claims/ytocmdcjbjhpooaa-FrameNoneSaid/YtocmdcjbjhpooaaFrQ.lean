/- The chapter's example. -/
import Derived.Test.YtocmdcjbjhpooaaFrO
set_option linter.unusedVariables false
set_option linter.unusedSimpArgs false
namespace Go.Proofs.Ytocmdcjbjhpooaa.FrW
open Go Go.RowKit Go.Proofs.YtocmdcjbjhpooaaW.PrintWords Go.Proofs.YtocmdcjbjhpooaaW.PrintLast Go.Proofs.YtocmdcjbjhpooaaW.PrintMore Go.Proofs.Ytocmdcjbjhpooaa.PFrameOrders Go.Proofs.Ytocmdcjbjhpooaa.GRow Go.Proofs.Ytocmdcjbjhpooaa.Num Go.Proofs.Ytocmdcjbjhpooaa.Bxs Go.Proofs.Ytocmdcjbjhpooaa.InsW
theorem lit_C {w : World} {g : Nat} (l : List Int) (hl : l.length ≤ 1000) (h : w.heap[g]? = some (.cells (l.map fun x => Value.int .u64 x).toArray 27 (0, 0))) : Kd.C (Kd.int .u64) w (some ⟨g, 0, none⟩) l.length l := by
  have hO : OV 27 1 w 0 (.slice (some ⟨g, 0, none⟩) l.length l.length) (l.map fun x => [.int .u64 x]) := by
    refine .inr ⟨g, l.length, by rw [List.length_map], Nat.zero_le _, _, h, by simp, by simp, by unfold maxLen; omega, fun j hj => ⟨by simp, fun k hk => ?_⟩⟩
    have : k = 0 := by omega
    subst this
    rw [List.length_map] at hj
    simp
  exact words_C hO
set_option maxHeartbeats 4000000 in
set_option maxRecDepth 100000 in
theorem lives_calls (W : World) : Calls Try.prog 11 #[] W fun e W' => e = .returned (.bool true) ∧ Below W.heap.size W W' := by
  have hu := Try.underlying57
  have huF := Try.underlying50
  go_enter Try.func11, Try.ntmps11
  go_wp2_with fail
  refine (new_calls (W := W)).mono ?_
  rintro e w1 ⟨rfl, T1, B1⟩
  have T1 := Aside0.mk T1
  have B1 := Aside0.mk B1
  have P1 : Aside0 (∀ k, (fun k => k = W.heap.size) k → k < w1.heap.size) := ⟨fun k hk => by have := T1.out.lt; have e : k = W.heap.size := hk; omega⟩
  have n2 := heap_alloc_new w1 (.cells #[.int .u64 1, .int .u64 2] 27 (0, 0))
  have B2 := Aside0.mk (below_alloc (Below.refl w1.heap.size w1) (.cells #[.int .u64 1, .int .u64 2] 27 (0, 0)))
  have C2 := Aside0.mk (lit_C [1, 2] (by decide) n2)
  have s2 := Aside0.mk (show W.heap.size ≤ (w1.alloc (.cells #[.int .u64 1, .int .u64 2] 27 (0, 0))).heap.size from Nat.le_trans B1.out.size B2.out.size)
  clear n2
  go_upto_region 4 with (fail)
  go_wp2_with fail
  refine (call_calls (T1.out.below B2.out) (by decide) s2.out 7 (c := 2) C2.out).mono ?_
  rintro e w3 ⟨rfl, vF3, T3, M3⟩
  rw [List.nil_append] at T3
  have B3 := Aside0.mk (show Below W.heap.size W w3 from (B1.out.trans (below_base B1.out.size B2.out)).trans M3.b)
  have T3 := Aside0.mk T3
  generalize (w1.alloc (.cells #[.int .u64 1, .int .u64 2] 27 (0, 0))).heap.size = fb at T3
  have HT3 := Aside0.mk (top_calls T3.out Nat.one_pos (Nat.le_of_ble_eq_true rfl))
  have fbk := Aside0.mk (T3.out.fb ⟨fb, 7, 0, regs [1, 2]⟩ List.mem_cons_self)
  clear M3 C2 s2 P1 T1 B2 B1
  go_wp2_with fail
  refine HT3.out.mono ?_
  rintro e w4 ⟨rfl, hb4⟩
  have T4 := Aside0.mk (T3.out.below hb4)
  have B4 := Aside0.mk (below_then B3.out B3.out.size hb4)
  have fbk4 := Aside0.mk (blk_below fbk.out hb4)
  have HT4 := Aside0.mk (top_calls T4.out Nat.one_pos (Nat.le_of_ble_eq_true rfl))
  clear hb4 T3 B3 fbk HT3
  go_wp2_with fail
  refine HT4.out.mono ?_
  rintro e w5 ⟨rfl, hb5⟩
  have T5 := Aside0.mk (T4.out.below hb5)
  have B5 := Aside0.mk (below_then B4.out B4.out.size hb5)
  have r1 : w5.cell? ⟨fb, 3, none⟩ = some (.int .u64 2) := (blk_cell (blk_below fbk4.out hb5) 3).trans rfl
  clear hb5 T4 B4 fbk4 HT4
  go_upto_region 7 with (fail)
  have n6 := heap_alloc_new w5 (.cells #[.int .u64 5] 27 (0, 0))
  have B6 := Aside0.mk (below_alloc (Below.refl w5.heap.size w5) (.cells #[.int .u64 5] 27 (0, 0)))
  have T6 := Aside0.mk (T5.out.below B6.out)
  have s6 := Aside0.mk (show W.heap.size ≤ (w5.alloc (.cells #[.int .u64 5] 27 (0, 0))).heap.size from Nat.le_trans B5.out.size B6.out.size)
  have C6 := Aside0.mk (fun (X : World) (hX : ∀ k, k < (w5.alloc (.cells #[.int .u64 5] 27 (0, 0))).heap.size → ¬ own W.heap.size vF3 (.slice none 0 0) [⟨fb, 7, 0, regs [1, 2]⟩] k → X.heap[k]? = (w5.alloc (.cells #[.int .u64 5] 27 (0, 0))).heap[k]?) => lit_C (w := X) [5] (by decide) ((hX w5.heap.size (by simp) (fun ho => Nat.lt_irrefl _ (T5.out.own_lt ho))).trans n6))
  clear n6 r1
  go_wp2_with fail
  refine (back_calls T6.out (Nat.le_of_ble_eq_true rfl) s6.out (cl := 1) C6.out Nat.one_pos).mono ?_
  rintro e w7 ⟨rfl, vF7, T7, M7⟩
  have B7 := Aside0.mk (show Below W.heap.size W w7 from (B5.out.trans (below_base B5.out.size B6.out)).trans M7.b)
  have T7 := Aside0.mk T7
  clear M7 C6 s6 T6 T5 B6 B5
  go_wp2_with fail
  refine (depth_calls T7.out).mono ?_
  rintro e w8 ⟨rfl, rfl⟩
  have r0 : w8.cell? ⟨W.heap.size, 0, none⟩ = some (.int .u64 5) := (T7.out.cell 0).trans rfl
  clear T7
  go_wp2
  go_ret
  exact ⟨rfl, B7.out⟩
end Go.Proofs.Ytocmdcjbjhpooaa.FrW
