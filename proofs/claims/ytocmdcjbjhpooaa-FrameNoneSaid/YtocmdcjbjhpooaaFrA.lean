/- A thread: what only reads it. -/
import Derived.Test.YtocmdcjbjhpooaaFrW
set_option linter.unusedVariables false
set_option linter.unusedSimpArgs false
namespace Go.Proofs.Ytocmdcjbjhpooaa.FrW
open Go Go.RowKit Go.Proofs.YtocmdcjbjhpooaaW.PrintWords Go.Proofs.YtocmdcjbjhpooaaW.PrintLast Go.Proofs.YtocmdcjbjhpooaaW.PrintMore Go.Proofs.Ytocmdcjbjhpooaa.PFrameOrders Go.Proofs.Ytocmdcjbjhpooaa.GRow Go.Proofs.Ytocmdcjbjhpooaa.Num Go.Proofs.Ytocmdcjbjhpooaa.Bxs
section
variable {W : World} {base : Nat} {P : Nat → Prop} {b : Nat} {r : Nat → Int} {s : Ses} {vF vR vS : Value} {fs : List Fr} {row : List S37} {st : List Int}
theorem Th.cell (h : Th W base P b r s vF vR vS fs row st) (i : Nat) : W.cell? ⟨b, i, none⟩ = (thC r s vF vR vS)[i]? := (blk_cell h.blk i).trans (by rw [List.getElem?_toArray])
theorem Th.cF (h : Th W base P b r s vF vR vS fs row st) : W.cell? ⟨b, 24, none⟩ = some vF := (h.cell 24).trans rfl
theorem Th.cR (h : Th W base P b r s vF vR vS fs row st) : W.cell? ⟨b, 25, none⟩ = some vR := (h.cell 25).trans rfl
theorem Th.cS (h : Th W base P b r s vF vR vS fs row st) : W.cell? ⟨b, 26, none⟩ = some vS := (h.cell 26).trans rfl
theorem Th.frz (h : Th W base P b r s vF vR vS fs row st) (i : Nat) : W.frozen? ⟨b, i, none⟩ = false := blk_frozen h.blk i
theorem Th.lt (h : Th W base P b r s vF vR vS fs row st) : b < W.heap.size := (Array.getElem?_eq_some_iff.1 h.blk).1
theorem Th.sF (h : Th W base P b r s vF vR vS fs row st) : ∃ A c, vF = .slice A fs.length c ∧ fs.length ≤ c := by
  obtain ⟨A, c, h1, h2⟩ := h.fo.slice
  rw [List.length_map] at h1 h2
  exact ⟨A, c, h1, h2⟩
theorem Th.sS (h : Th W base P b r s vF vR vS fs row st) : ∃ A c, vS = .slice A st.length c ∧ st.length ≤ c := by
  obtain ⟨A, c, h1, h2⟩ := h.so.slice
  rw [List.length_map] at h1 h2
  exact ⟨A, c, h1, h2⟩
set_option maxHeartbeats 4000000 in
set_option maxRecDepth 100000 in
theorem depth_calls (h : Th W base P b r s vF vR vS fs row st) :
    Calls Try.prog 16 #[.pointer (some ⟨b, 0, none⟩)] W fun e W' => e = .returned (.int .i64 fs.length) ∧ W' = W := by
  have hu := Try.underlying57
  obtain ⟨A, c, rfl, hc⟩ := h.sF
  have c24 := h.cF
  go_enter Try.func16, Try.ntmps16
  go_wp2
  go_ret
  exact ⟨rfl, rfl⟩
set_option maxHeartbeats 4000000 in
set_option maxRecDepth 100000 in
theorem depth_nil : Calls Try.prog 16 #[.pointer none] W fun e W' => e = .returned (.int .i64 0) ∧ W' = W := by
  have hu := Try.underlying57
  go_enter Try.func16, Try.ntmps16
  go_wp2
  go_ret
  exact ⟨rfl, rfl⟩
set_option maxHeartbeats 4000000 in
set_option maxRecDepth 100000 in
/-- The top frame. -/
theorem top_none (h : Th W base P b r s vF vR vS [] row st) :
    Calls Try.prog 19 #[.pointer (some ⟨b, 0, none⟩)] W fun e W' => e = .returned (.pointer none) ∧ W' = W := by
  have hu := Try.underlying57
  obtain ⟨A, c, rfl, hc⟩ := h.sF
  have c24 := h.cF
  go_enter Try.func19, Try.ntmps19
  go_wp2
  go_ret
  exact ⟨rfl, rfl⟩
set_option maxHeartbeats 4000000 in
set_option maxRecDepth 100000 in
theorem top_nil : Calls Try.prog 19 #[.pointer none] W fun e W' => e = .returned (.pointer none) ∧ W' = W := by
  have hu := Try.underlying57
  go_enter Try.func19, Try.ntmps19
  go_wp2
  go_ret
  exact ⟨rfl, rfl⟩
/-- A cell of a frame's row. -/
theorem Th.at_ (h : Th W base P b r s vF vR vS fs row st) (i : Nat) (hi : i < fs.length) : ∃ g c, vF = .slice (some ⟨g, 0, none⟩) fs.length c ∧ fs.length ≤ c ∧ W.cell? ⟨g, i, none⟩ = some (.pointer (some ⟨fs[i].bk, 0, none⟩)) := by
  rcases h.fo with ⟨_, h2⟩ | ⟨g, c, h1, h2, h3⟩
  · rw [List.map_eq_nil_iff] at h2
    subst h2
    exact absurd hi (Nat.not_lt_zero _)
  · have hl := h3.len.1
    rw [List.length_map] at h1 hl
    have hc := (h3.cell i 0 (by rw [List.length_map]; exact hi) (by decide)).1
    rw [Nat.mul_one, Nat.add_zero] at hc
    exact ⟨g, c, h1, hl, hc.trans (by rw [List.getElem_map]; rfl)⟩
set_option maxHeartbeats 4000000 in
set_option maxRecDepth 100000 in
theorem top_calls (h : Th W base P b r s vF vR vS fs row st) (hn : 0 < fs.length) (hm : fs.length ≤ 1000000) :
    Calls Try.prog 19 #[.pointer (some ⟨b, 0, none⟩)] W fun e W' => e = .returned (.pointer (some ⟨(fs[fs.length - 1]'(by omega)).bk, 0, none⟩)) ∧ Below W.heap.size W W' := by
  have hu := Try.underlying57
  obtain ⟨g, c, rfl, hc, hg⟩ := h.at_ (fs.length - 1) (by omega)
  have c24 := h.cF
  have z1 : ((fs.length : Int) == 0) = false := by rw [beq_eq_false_iff_ne]; omega
  have hg2 : W.cell? ⟨g, ((fs.length : Int) - 1).toNat, none⟩ = some (.pointer (some ⟨(fs[fs.length - 1]'(by omega)).bk, 0, none⟩)) := by rw [show ((fs.length : Int) - 1).toNat = fs.length - 1 by omega]; exact hg
  go_enter Try.func19, Try.ntmps19
  go_upto_region 3 with (fail)
  go_region
  go_wp2
  go_ret
  exact ⟨rfl, below_drew1 (Below.refl _ _)⟩
end
end Go.Proofs.Ytocmdcjbjhpooaa.FrW
