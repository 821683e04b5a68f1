/- A thread: its row, as a copy; a new thread. -/
import Derived.Test.YtocmdcjbjhpooaaFrC
set_option linter.unusedVariables false
set_option linter.unusedSimpArgs false
namespace Go.Proofs.Ytocmdcjbjhpooaa.FrW
open Go Go.RowKit Go.Proofs.YtocmdcjbjhpooaaW.PrintWords Go.Proofs.YtocmdcjbjhpooaaW.PrintLast Go.Proofs.YtocmdcjbjhpooaaW.PrintMore Go.Proofs.Ytocmdcjbjhpooaa.PFrameOrders Go.Proofs.Ytocmdcjbjhpooaa.GRow Go.Proofs.Ytocmdcjbjhpooaa.Num Go.Proofs.Ytocmdcjbjhpooaa.Bxs Go.Proofs.Ytocmdcjbjhpooaa.InsW
section
variable {W : World} {base : Nat} {P : Nat → Prop} {b : Nat} {r : Nat → Int} {s : Ses} {vF vR vS : Value} {fs : List Fr} {row : List S37} {st : List Int}
theorem clone_pairs {A : Option Addr} {c : Nat} {l : List S37} (hC : Kd.C k37 W A l.length l) (hn : l.length ≤ 1000000) :
    Calls Try.prog 62 #[.slice A l.length c] W fun e W' => ∃ v', e = .returned v' ∧ Kd.V k37 37 W' 0 (fun k => W.heap.size ≤ k) v' l ∧ Below W.heap.size W W' := by
  refine (InsW.clone_calls W l.length (PutWalk.encs l) A c hn (PutWalk.encs_length l) (PutWalk.encs_one l) ?_ ?_).mono ?_
  · intro hA
    rcases Nat.eq_zero_or_pos l.length with h0 | h0
    · exact h0
    · obtain ⟨ad', hA', _⟩ := PutWalk.C_cells hC h0
      rw [hA] at hA'
      cases hA'
  · intro ad hA j u hj
    have hp : 0 < l.length := by
      have := (List.getElem?_eq_some_iff.1 hj).1
      rw [PutWalk.encs_length] at this
      omega
    obtain ⟨ad', hA', hc⟩ := PutWalk.C_cells hC hp
    rw [hA] at hA'
    injection hA' with hA'
    subst hA'
    exact hc j u hj
  · rintro e W' ⟨v', rfl, ho, hb⟩
    have hR : Kd.R k37 37 W' W.heap.size (fun k => W.heap.size ≤ k) v' l := PutWalk.R_shut (fun g hg => own_base ho g hg) ho
    exact ⟨v', rfl, Kd.R_V hR, hb⟩
set_option maxHeartbeats 4000000 in
set_option maxRecDepth 100000 in
theorem row_nil : Calls Try.prog 23 #[.pointer none] W fun e W' => e = .returned (.slice none 0 0) ∧ W' = W := by
  have hu := Try.underlying57
  go_enter Try.func23, Try.ntmps23
  go_wp2
  go_ret
  exact ⟨rfl, rfl⟩
set_option maxHeartbeats 4000000 in
set_option maxRecDepth 100000 in
theorem row_calls (h : Th W base P b r s vF vR vS fs row st) (hn : row.length ≤ 1000000) :
    Calls Try.prog 23 #[.pointer (some ⟨b, 0, none⟩)] W fun e W' => ∃ v', e = .returned v' ∧ Kd.V k37 37 W' 0 (fun k => W.heap.size ≤ k) v' row ∧ Below W.heap.size W W' := by
  have hu := Try.underlying57
  obtain ⟨A, c, rfl⟩ := Kd.V_slice h.ro
  have c25 := h.cR
  have HC := Aside0.mk (Kd.V_reads' h.ro).2.2
  clear h
  go_enter Try.func23, Try.ntmps23
  go_wp2_with fail
  refine (clone_pairs HC.out hn).mono ?_
  rintro e W5 ⟨v', rfl, V5, hb⟩
  obtain ⟨A5, c5, rfl⟩ := Kd.V_slice V5
  have U5 := Aside0.mk V5
  have B5 := Aside0.mk hb
  clear V5 hb
  go_wp2
  go_ret
  exact ⟨_, rfl, U5.out, B5.out⟩
set_option maxHeartbeats 4000000 in
set_option maxRecDepth 100000 in
theorem new_calls : Calls Try.prog 12 #[] W fun e W' => e = .returned (.pointer (some ⟨W.heap.size, 0, none⟩)) ∧ Th W' W.heap.size (fun k => k = W.heap.size) W.heap.size (fun _ => 0) Ses.zero (.slice none 0 0) (.slice none 0 0) (.slice none 0 0) [] [] [] ∧ Below W.heap.size W W' := by
  have hu := Try.underlying57
  go_enter Try.func12, Try.ntmps12
  go_wp2
  go_ret
  refine ⟨rfl, ⟨heap_alloc_new W _, OV.nil _ _ _ _, (fun f hf => nomatch hf), List.nodup_nil, OV.nil _ _ _ _, ⟨none, 0, rfl, Nat.le_refl 0, Kd.F_nil _ _ _⟩, fun k hk => ?_⟩, below_alloc (Below.refl _ _) _⟩
  rcases hk with rfl | ⟨f, hf, _⟩ | hk | hk
  · exact ⟨Nat.le_refl _, rfl⟩
  · exact (nomatch hf)
  · cases hk
  · cases hk
end
end Go.Proofs.Ytocmdcjbjhpooaa.FrW
