/- A row of words, cloned; a frame's cells, changed. -/
import Derived.Test.YtocmdcjbjhpooaaFrI
set_option linter.unusedVariables false
set_option linter.unusedSimpArgs false
namespace Go.Proofs.Ytocmdcjbjhpooaa.FrW
open Go Go.RowKit Go.Proofs.YtocmdcjbjhpooaaW.PrintWords Go.Proofs.YtocmdcjbjhpooaaW.PrintLast Go.Proofs.YtocmdcjbjhpooaaW.PrintMore Go.Proofs.Ytocmdcjbjhpooaa.PFrameOrders Go.Proofs.Ytocmdcjbjhpooaa.GRow Go.Proofs.Ytocmdcjbjhpooaa.Num Go.Proofs.Ytocmdcjbjhpooaa.Bxs Go.Proofs.Ytocmdcjbjhpooaa.InsW
theorem OV.of_row {T sz base n : Nat} {w : World} {v : Value} {recs : List (List Value)} (h : w.ownsRow base T sz v n recs.flatten) (hn : n = recs.length) (hw : ∀ r ∈ recs, r.length = sz) (hs : 0 < sz) : OV T sz w base v recs := by
  by_cases h1 : 1 ≤ recs.length
  · exact OV.of_own h hn hw h1
  · have e : recs = [] := List.eq_nil_of_length_eq_zero (by omega)
    subst e
    rcases h.2 with ⟨h2, _⟩ | ⟨g, cap, cur, rfl, hbg, hh, hnc, hcm, hcs, ht⟩
    · exact .inl ⟨h2, rfl⟩
    · exact .inr ⟨g, cap, by rw [hn], hbg, cur, hh, hcs, by simp, hcm, fun j hj => by simp at hj⟩
theorem flat_words (l : List Int) : (l.map fun x => [Value.int .u64 x]).flatten = l.map fun x => Value.int .u64 x := by
  induction l with
  | nil => rfl
  | cons x l ih => rw [List.map_cons, List.flatten_cons, ih, List.map_cons]; rfl
section
variable {W : World}
set_option maxHeartbeats 4000000 in
set_option maxRecDepth 100000 in
theorem clone_words {A : Option Addr} {c : Nat} {l : List Int} (hC : Kd.C (Kd.int .u64) W A l.length l) (hn : l.length ≤ 1000000) :
    Calls Try.prog 64 #[.slice A l.length c] W fun e W' => ∃ v', e = .returned v' ∧ OV 27 1 W' W.heap.size v' (l.map fun x => [.int .u64 x]) ∧ Below W.heap.size W W' := by
  obtain ⟨i0, hi0, hz0, hz1, hz2⟩ := info_u64
  have mixed : Try.prog.follows Departure.mixedOrders = true := by kernel_rfl
  have q39 : ∀ (w : World) (a : Option Addr) (n c n' c' : Nat), (binOp .eql 31 (.slice a n c) (.slice none n' c')).run Try.prog w = .ok (.bool a.isNone) w := fun w a n c n' c' => Lib.run_eql_slice_nil w 31 27 a n c n' c' Try.underlying31
  cases A with
  | none =>
    have h0 : l = [] := by
      rcases Nat.eq_zero_or_pos l.length with h | h
      · exact List.eq_nil_of_length_eq_zero h
      · obtain ⟨ad, hA, _⟩ := words_cells hC h
        cases hA
    subst h0
    clear hC
    go_enter Try.func64, Try.ntmps64
    go_wp2
    go_ret
    exact ⟨_, rfl, OV.nil _ _ _ _, Below.refl _ _⟩
  | some ad =>
    have HC : Aside0 (∀ j u, (l.map fun x => Value.int .u64 x)[j]? = some u → W.cell? (ad.add j) = some u) := ⟨fun j u hj => by
      rcases Nat.eq_zero_or_pos l.length with h | h
      · rw [List.eq_nil_of_length_eq_zero h] at hj; simp at hj
      · obtain ⟨ad', hA, hc⟩ := words_cells hC h
        injection hA with hA
        subst hA
        exact hc j u hj⟩
    have H1 : Aside0 (∀ u ∈ (l.map fun x => Value.int .u64 x), u.oneCell' = true) := ⟨fun u hu => by obtain ⟨x, _, rfl⟩ := List.mem_map.1 hu; rfl⟩
    clear hC
    go_enter Try.func64, Try.ntmps64
    go_wp2_with (at_builtin; refine wpList_append_own _ rfl _ _ 31 rfl W.heap.size 27 i0 (.int .u64 0) 1 8 Try.underlying31 hi0 hz0 hz1 hz2 rfl (by decide) _ _ _ rfl (World.ownsRow_made W #[] 0 (Nat.le_refl _) (Nat.zero_le _) rfl) ad l.length c (l.map fun x => Value.int .u64 x) rfl (by simp) (fun j u hj => blkcell_alloc _ (HC.out j u hj)) H1.out (by unfold maxLen; omega) (by omega) (by simp) ?_; intro v' w3 hown' hgrow3 hnil3; have X := Aside0.mk hown'; have Y := Aside0.mk hgrow3; clear hown' hgrow3 hnil3)
    go_ret
    refine ⟨_, rfl, OV.of_row (n := l.length) (by have := X.out; rw [flat_words]; simpa using this) (by simp) (fun r hr => by obtain ⟨x, _, rfl⟩ := List.mem_map.1 hr; rfl) (by decide), ?_⟩
    exact ((Below.refl _ W).alloc (Nat.le_refl _) _).grown Y.out (by simp) (fun k hk => Nat.le_of_eq (Option.some.inj (show some W.heap.size = some k from hk)))
end
theorem nodup_set {fs : List Fr} {i : Nat} {f : Fr} (h : (fs.map Fr.bk).Nodup) (hi : i < fs.length) (hf : f.bk = fs[i].bk) : ((fs.set i f).map Fr.bk) = fs.map Fr.bk := by
  apply List.ext_getElem
  · simp
  · intro j h1 h2
    simp only [List.getElem_map, List.getElem_set]
    split
    · rename_i e; subst e; exact hf
    · rfl
section
variable {W : World} {base : Nat} {P : Nat → Prop} {b : Nat} {r : Nat → Int} {s : Ses} {vF vR vS : Value} {fs : List Fr} {row : List S37} {st : List Int}
/-- A frame, changed in place. -/
theorem Th.frame (h : Th W base P b r s vF vR vS fs row st) {W' : World} {i : Nat} {f : Fr} (hi : i < fs.length) (hf : f.bk = fs[i].bk) (hb : W'.heap[f.bk]? = some (.cells (frC f).toArray 50 (0, 0))) (hk : ∀ k, k ≠ f.bk → W'.heap[k]? = W.heap[k]?) : Th W' base P b r s vF vR vS (fs.set i f) row st := by
  have hfb := h.fb fs[i] (List.getElem_mem hi)
  rw [← hf] at hfb
  have m1 : ∀ {k : Nat} {a : Array Value} {T : Nat}, W.heap[k]? = some (.cells a T (0, 0)) → T ≠ 50 → W'.heap[k]? = W.heap[k]? := fun h1 hT => hk _ (typ_ne h1 hfb hT)
  have hown : own b vF vS fs f.bk := .inr (.inl ⟨fs[i], List.getElem_mem hi, hf.symm⟩)
  have hbs := nodup_set h.nd hi hf
  have hptr : (fs.set i f).map ptr = fs.map ptr := by
    have e : ptr = (fun k => [Value.pointer (some ⟨k, 0, none⟩)]) ∘ Fr.bk := rfl
    rw [e, ← List.map_map, ← List.map_map, hbs]
  have fo2 : OV 46 1 W' base vF ((fs.set i f).map ptr) := by
    rw [hptr]
    refine h.fo.move (fun k _ _ h1 => ?_)
    obtain ⟨cur, hc⟩ := OV.typed h.fo h1
    exact m1 hc (by decide)
  refine ⟨(m1 h.blk (by decide)).trans h.blk, fo2, fun g hg => ?_, by rw [hbs]; exact h.nd, h.so.move (fun k _ _ h1 => ?_), Kd.V_step h.ro (fun k h1 _ => hk k (fun e => h1.2 (e ▸ (h.ge f.bk hown).2))), fun k hk2 => h.ge k ?_⟩
  · rcases List.mem_iff_getElem.1 hg with ⟨j, hj, rfl⟩
    rw [List.length_set] at hj
    rw [List.getElem_set]
    split
    · exact hb
    · rename_i hn
      have hne : fs[j].bk ≠ f.bk := fun e => by
        have h1 := List.pairwise_iff_getElem.1 h.nd
        rw [hf] at e
        rcases Nat.lt_or_gt_of_ne hn with h2 | h2
        · exact h1 i j (by simpa using hi) (by simpa using hj) h2 (by simp only [List.getElem_map]; exact e.symm)
        · exact h1 j i (by simpa using hj) (by simpa using hi) h2 (by simp only [List.getElem_map]; exact e)
      exact (hk _ hne).trans (h.fb _ (List.getElem_mem hj))
  · obtain ⟨cur, hc⟩ := OV.typed h.so h1
    exact m1 hc (by decide)
  · rcases hk2 with h1 | ⟨g, hg, h1⟩ | h1
    · exact .inl h1
    · have : k ∈ (fs.set i f).map Fr.bk := List.mem_map.2 ⟨g, hg, h1⟩
      rw [hbs] at this
      obtain ⟨g2, h2, h3⟩ := List.mem_map.1 this
      exact .inr (.inl ⟨g2, h2, h3⟩)
    · exact .inr (.inr h1)
end
end Go.Proofs.Ytocmdcjbjhpooaa.FrW
