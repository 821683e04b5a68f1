/- Words copied into a block; a frame put upon the others. -/
import Derived.Test.YtocmdcjbjhpooaaFrD
import Derived.Laws.CopyRow
import Derived.Laws.CopyOwn
set_option linter.unusedVariables false
set_option linter.unusedSimpArgs false
namespace Go.Proofs.Ytocmdcjbjhpooaa.FrW
open Go Go.RowKit Go.Proofs.YtocmdcjbjhpooaaW.PrintWords Go.Proofs.YtocmdcjbjhpooaaW.PrintLast Go.Proofs.YtocmdcjbjhpooaaW.PrintMore Go.Proofs.Ytocmdcjbjhpooaa.PFrameOrders Go.Proofs.Ytocmdcjbjhpooaa.GRow Go.Proofs.Ytocmdcjbjhpooaa.Num Go.Proofs.Ytocmdcjbjhpooaa.Bxs Go.Proofs.Ytocmdcjbjhpooaa.InsW
/-- The words of a list, and behind it 0. -/
def regs (l : List Int) (i : Nat) : Int := l.getD i 0
theorem ws_len (n : Nat) (r : Nat → Int) : (ws n r).length = n := by simp [ws]
theorem ws_get (n : Nat) (r : Nat → Int) (i : Nat) (hi : i < n) : (ws n r)[i]'(by rw [ws_len]; exact hi) = .int .u64 (r i) := by simp [ws]
theorem ws_regs (n : Nat) (l : List Int) : ((l.take n).map fun x => Value.int .u64 x) ++ (ws n fun _ => 0).drop (l.take n).length = ws n (regs l) := by
  apply List.ext_getElem
  · simp only [List.length_append, List.length_map, List.length_drop, ws_len, List.length_take]; omega
  · intro i h1 h2
    rw [ws_len] at h2
    rw [ws_get _ _ _ h2, List.getElem_append]
    split
    · rename_i h3
      rw [List.length_map, List.length_take] at h3
      simp only [List.getElem_map, List.getElem_take, regs, List.getD_eq_getElem?_getD]
      rw [List.getElem?_eq_getElem (by omega)]
      rfl
    · rename_i h3
      rw [List.length_map, List.length_take] at h3
      rw [List.getElem_drop, ws_get _ _ _ (by simp only [List.length_map, List.length_take] at *; omega)]
      simp only [regs, List.getD_eq_getElem?_getD]
      rw [List.getElem?_eq_none (by omega)]
      rfl
theorem words_cells {W : World} {A : Option Addr} {l : List Int} (hC : Kd.C (Kd.int .u64) W A l.length l) (hp : 0 < l.length) : ∃ ad, A = some ad ∧ ∀ j u, (l.map fun x => Value.int .u64 x)[j]? = some u → W.cell? (ad.add j) = some u := by
  obtain ⟨ad, hA, _⟩ := hC.2.2 hp
  refine ⟨ad, hA, fun j u hj => ?_⟩
  rw [List.getElem?_map] at hj
  obtain ⟨x, hx, rfl⟩ := Option.map_eq_some_iff.1 hj
  have hlt := (List.getElem?_eq_some_iff.1 hx).1
  obtain ⟨ad', c, hA', hl, hK, hc⟩ := Kd.C_get hC 0 (j : Int) (by omega) (by omega)
  rw [hA] at hA'
  injection hA' with hA'
  subst hA'
  have hK' : c = [.int .u64 (l.getD (j : Int).toNat 0)] := hK
  subst hK'
  have h0 := hc 0 _ rfl
  rw [Int.toNat_natCast, Nat.add_zero, show (Kd.int .u64).sz = 1 from rfl, Nat.mul_one, List.getD_eq_getElem?_getD, hx] at h0
  exact h0
theorem size_u64 : (Try.prog.info? 27).map (·.size) = some 1 := by kernel_rfl
/-- Words copied into a block, from place o on. -/
theorem copy_words {W : World} {dT sT ty T g o n : Nat} {cur : Array Value} (hu : Try.prog.underlying dT = some (.slice 27)) (hg : W.heap[g]? = some (.cells cur T (0, 0))) (hn : o + n ≤ cur.size) {A : Option Addr} {c : Nat} {l : List Int} (hC : Kd.C (Kd.int .u64) W A l.length l) :
    ∃ w', (Builtin.copy_ #[dT, sT] ty #[.slice (some ⟨g, o, none⟩) n n, .slice A l.length c]).run Try.prog W = .ok (goInt (l.take n).length) w' ∧
      w'.heap[g]? = some (.cells (cur.toList.take o ++ ((l.take n).map fun x => Value.int .u64 x) ++ cur.toList.drop (o + (l.take n).length)).toArray T (0, 0)) ∧ w'.heap.size = W.heap.size ∧ (∀ k, k ≠ g → w'.heap[k]? = W.heap[k]?) ∧ (∀ base, base ≤ g → Below base W w') := by
  by_cases h0 : (l.take n).length = 0
  · have h1 : Nat.min l.length n = 0 := by rw [List.length_take] at h0; rw [Nat.min_comm] at h0; exact h0
    rw [h0, List.length_eq_zero_iff.1 h0]
    refine ⟨W, run_copy_none W dT sT ty 27 _ _ _ _ _ _ hu size_u64 h1, ?_, rfl, fun _ _ => rfl, fun base _ => Below.refl base W⟩
    rw [hg, List.map_nil, List.append_nil, Nat.add_zero, List.take_append_drop]
  · have hp : 0 < l.length := by rw [List.length_take] at h0; omega
    obtain ⟨ad, rfl, hc⟩ := words_cells hC hp
    have hl : ((l.take n).map fun x => Value.int .u64 x).length = (l.take n).length := List.length_map ..
    have hr := run_copy_row (P := Try.prog) W dT sT ty 27 g o n n ad l.length c cur T ((l.take n).map fun x => Value.int .u64 x) hu size_u64 hg (by rw [hl, List.length_take, Nat.min_comm]) (fun j v hj => hc j v (by
      rw [List.getElem?_map, List.getElem?_take] at hj
      rw [List.getElem?_map]
      split at hj
      · exact hj
      · cases hj)) (by rw [hl, List.length_take]; omega) (fun v hv => by obtain ⟨x, _, rfl⟩ := List.mem_map.1 hv; rfl)
    rw [hl] at hr
    exact ⟨_, hr, setRow_heap W g cur _ T (0, 0) hg, size_setRow W g _, fun k hk => setRow_other W g k _ hk, fun base hb => below_setRow (Below.refl base W) hb _⟩
end Go.Proofs.Ytocmdcjbjhpooaa.FrW
