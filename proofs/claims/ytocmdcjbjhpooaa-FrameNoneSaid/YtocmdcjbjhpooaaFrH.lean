/- Cells of a block, written one behind the other. -/
import Derived.Test.YtocmdcjbjhpooaaFrF
set_option linter.unusedVariables false
namespace Go.Proofs.Ytocmdcjbjhpooaa.FrW
open Go Go.RowKit Go.Proofs.YtocmdcjbjhpooaaW.PrintWords Go.Proofs.Ytocmdcjbjhpooaa.GRow
theorem blk_setCells {b T : Nat} : ∀ (vs : List Value) (W : World) (pre old suf : List Value), old.length = vs.length → W.heap[b]? = some (.cells (pre ++ (old ++ suf)).toArray T (0, 0)) →
    (W.setCells b pre.length vs).heap[b]? = some (.cells (pre ++ (vs ++ suf)).toArray T (0, 0))
  | [], W, pre, old, suf, hl, h => by
    obtain rfl := List.eq_nil_of_length_eq_zero hl
    exact h
  | v :: vs, W, pre, [], suf, hl, h => by simp at hl
  | v :: vs, W, pre, o :: old, suf, hl, h => by
    have h1 := blk_set h pre.length v
    have e : (pre ++ (o :: old ++ suf)).toArray.setIfInBounds pre.length v = ((pre ++ [v]) ++ (old ++ suf)).toArray := by
      rw [List.setIfInBounds_toArray, List.set_append_right _ _ (Nat.le_refl _), Nat.sub_self]
      simp
    rw [e] at h1
    have K := blk_setCells vs _ (pre ++ [v]) old suf (by simpa using hl) h1
    rw [List.length_append, List.length_singleton] at K
    rw [show pre ++ (v :: vs ++ suf) = pre ++ [v] ++ (vs ++ suf) by simp]
    exact K
end Go.Proofs.Ytocmdcjbjhpooaa.FrW
