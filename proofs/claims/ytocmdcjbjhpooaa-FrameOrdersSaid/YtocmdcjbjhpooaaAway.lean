/- A row that is only read, and a block that it does not lead to. -/
import Derived.Test.YtocmdcjbjhpooaaWMore
set_option linter.unusedVariables false
namespace Go.Proofs.YtocmdcjbjhpooaaW.PrintWords
open Go Go.RowKit
namespace Kd
theorem V_away {α : Type} {d : Kd α} {e base n c g : Nat} {W : World} {ok : Nat → Prop} {ad : Addr} {xs : List α} (h : V d e W base ok (.slice (some ad) n c) xs) (hp : 0 < n) (hs : 0 < d.sz) (hok : ∀ k, ok k → k ≠ g) : some g ≠ (Value.slice (some ad) n c).ownBlock := by
  intro he
  have hg : g = ad.block := by simpa [Value.ownBlock] using he
  obtain ⟨hn, _, hf⟩ := V_at h
  have hC := hf { W with heap := W.heap.setIfInBounds g (.cells #[] 0 (0, 0)) } (fun k hk _ => by
    show (W.heap.setIfInBounds g _)[k]? = _
    rw [Array.getElem?_setIfInBounds_ne (fun e => hok k hk e.symm)])
  obtain ⟨inner, hr, hc⟩ := ReadsRow.inner_ hC
  have hl : 0 < inner.length := by rw [hr.1, ← hn]; exact Nat.mul_pos hp hs
  have h0 := hc 0 _ (List.getElem?_eq_getElem hl)
  obtain ⟨e', m, h1, h2, _⟩ := World.shape?_of_cell? h0
  rw [add_block] at h1
  unfold World.shape? at h1
  have h3 : (W.heap.setIfInBounds g (Obj.cells #[] 0 (0, 0)))[ad.block]? = none ∨ (W.heap.setIfInBounds g (Obj.cells #[] 0 (0, 0)))[ad.block]? = some (.cells #[] 0 (0, 0)) := by
    rw [← hg]
    by_cases hlt : g < W.heap.size
    · right; simp [hlt]
    · left; simp [hlt]
  rcases h3 with h3 | h3
  · rw [h3] at h1; cases h1
  · rw [h3] at h1
    injection h1 with h1
    injection h1 with _ h1
    simp at h1
    omega
end Kd
end Go.Proofs.YtocmdcjbjhpooaaW.PrintWords
