/- A law's argument, read as data, as the printed texts' kinds tell it: numbers, Booleans, strings, structs and arrays of them, slices of any of these. -/
import Derived.Test.YtocmdcjbjhpooaaWWords
import Derived.ProofKit
import Derived.SizedLaws
import Derived.Deep.Slices
import Derived.OpenShut
import Derived.WideShapes
set_option linter.unusedVariables false
set_option linter.unusedSimpArgs false
namespace Go.Proofs.Ytocmdcjbjhpooaa.Read
open Go Go.RowKit Go.ChangeShapes Go.WideShapes Go.Proofs.YtocmdcjbjhpooaaW.PrintWords

/-- What reads as data of this type is told by this kind, and fits. -/
structure Rd {α : Type} (P : Program) (t : TypeId) (d : Kd α) (ok : α → Prop) : Prop where
  sz : P.cellsOf t = d.sz
  rd : ∀ {H : Type} {enc : TypeId × Value → H} {w : World} {fuel : Nat} {cs : List Value} {x : DataW H × List MemPlace},
    DataW.trod enc P w 0 (fun _ => true) true fuel t cs = some x → (∀ n ∈ x.1.weights P t, n ≤ reachBytes) → ∃ a, d.K w a cs ∧ ok a

section
variable {P : Program} {t : TypeId}
theorem Rd.int {k : IntKind} (ht : P.underlying t = some (.int k)) (hc : P.cellsOf t = 1) : Rd P t (Kd.int k) (fun a => (Lit.int k a).wf = true) :=
  ⟨hc, fun h _ => by
    obtain ⟨n, rfl, _, hw⟩ := DataW.trod_int ht h
    exact ⟨n, rfl, hw⟩⟩
theorem Rd.bool (ht : P.underlying t = some .bool) (hc : P.cellsOf t = 1) : Rd P t Kd.bool (fun _ => True) :=
  ⟨hc, fun h _ => by
    obtain ⟨n, rfl, _⟩ := DataW.trod_bool ht h
    exact ⟨n, rfl, trivial⟩⟩
theorem Rd.string (ht : P.underlying t = some .string) (hc : P.cellsOf t = 1) : Rd P t Kd.string (fun s => s.size ≤ 140737488351232) :=
  ⟨hc, fun {H enc w fuel cs x} h hw => by
    obtain ⟨s, rfl, hx, _⟩ := DataW.trod_string ht h
    refine ⟨s, rfl, ?_⟩
    have := hw s.data.toList.length (by rw [hx]; simp [DataW.weights])
    rw [Array.length_toList] at this
    exact this⟩
theorem Rd.iso {α β : Type} {d : Kd α} {ok : α → Prop} (h : Rd P t d ok) (f : β → α) (g : α → β) (hfg : ∀ a, f (g a) = a) : Rd P t (Kd.iso d f) (fun b => ok (f b)) :=
  ⟨h.sz, fun hx hw => by
    obtain ⟨a, hK, ho⟩ := h.rd hx hw
    refine ⟨g a, ?_, ?_⟩
    · show d.K _ (f (g a)) _
      rw [hfg]; exact hK
    · rw [hfg]; exact ho⟩
theorem Rd.mono {α : Type} {d : Kd α} {ok ok' : α → Prop} (h : Rd P t d ok) (hi : ∀ a, ok a → ok' a) : Rd P t d ok' :=
  ⟨h.sz, fun hx hw => by
    obtain ⟨a, hK, ho⟩ := h.rd hx hw
    exact ⟨a, hK, hi _ ho⟩⟩

/-- Fields one behind the other: their places and types. -/
structure RdF {α : Type} (P : Program) (off : Nat) (fs : List (Nat × TypeId)) (d : Kd α) (ok : α → Prop) : Prop where
  rd : ∀ {H : Type} {enc : TypeId × Value → H} {w : World} {fuel : Nat} {cs : List Value} {xs : List (DataW H × List MemPlace)}, cs.length = off + d.sz → xs.length = fs.length →
    (∀ (i : Nat) f, fs[i]? = some f → DataW.trod enc P w 0 (fun _ => true) true fuel f.2 ((cs.drop f.1).take (P.cellsOf f.2)) = xs[i]?) →
    (∀ n ∈ DataW.weightsEach P (fs.map (·.2)) (xs.map (·.1)), n ≤ reachBytes) → ∃ a, d.K w a (cs.drop off) ∧ ok a
theorem RdF.one {α : Type} {d : Kd α} {ok : α → Prop} {off : Nat} {t : TypeId} (h : Rd P t d ok) : RdF P off [(off, t)] d ok :=
  ⟨fun {H enc w fuel cs xs} hl hx hf hw => by
    match xs, hx with
    | [x], _ =>
      have h0 := hf 0 (off, t) rfl
      dsimp only at h0
      rw [List.take_of_length_le (by rw [List.length_drop, h.sz]; omega)] at h0
      exact h.rd h0 (fun n hn => hw n (by simp only [List.map_cons, List.map_nil, DataW.weightsEach]; exact List.mem_append_left _ hn))⟩
theorem RdF.cons {α β : Type} {d : Kd α} {d' : Kd β} {ok : α → Prop} {ok' : β → Prop} {off off' : Nat} {t : TypeId} {fs : List (Nat × TypeId)} (h : Rd P t d ok) (ho : off' = off + P.cellsOf t) (h' : RdF P off' fs d' ok') :
    RdF P off ((off, t) :: fs) (Kd.pair d d') (fun p => ok p.1 ∧ ok' p.2) :=
  ⟨fun {H enc w fuel cs xs} hl hx hf hw => by
    subst ho
    match xs, hx with
    | x :: xs, hx =>
      have hl' : cs.length = off + (d.sz + d'.sz) := hl
      have h0 := hf 0 (off, t) rfl
      dsimp only at h0
      obtain ⟨a, hK, hok⟩ := h.rd h0 (fun n hn => hw n (by simp only [List.map_cons, DataW.weightsEach]; exact List.mem_append_left _ hn))
      obtain ⟨b, hK', hok'⟩ := h'.rd (enc := enc) (w := w) (fuel := fuel) (cs := cs) (xs := xs) (by rw [h.sz]; omega) (by simpa using hx) (fun i f hi => hf (i + 1) f (by simpa using hi))
        (fun n hn => hw n (by simp only [List.map_cons, DataW.weightsEach]; exact List.mem_append_right _ hn))
      refine ⟨(a, b), ⟨_, _, ?_, hK, hK'⟩, hok, hok'⟩
      rw [← List.drop_drop]
      exact (List.take_append_drop _ _).symm⟩
theorem Rd.struct {α : Type} {d : Kd α} {ok : α → Prop} {fs : Array Field} {ps : List (Nat × TypeId)} (ht : P.underlying t = some (.struct fs)) (hp : fs.toList.map (fun f => (f.offset, f.type)) = ps) (hc : P.cellsOf t = d.sz) (h : RdF P 0 ps d ok) : Rd P t d ok :=
  ⟨hc, fun {H enc w fuel cs x} hx hw => by
    obtain ⟨xs, n, rfl, rfl, hl, hlen, hf⟩ := DataW.trod_struct ht hx
    subst hp
    obtain ⟨a, hK, ho⟩ := h.rd (enc := enc) (w := w) (fuel := n) (cs := cs) (xs := xs) (by rw [hl, hc]; omega) (by simp [hlen]) (fun i f hi => by
        rw [List.getElem?_map] at hi
        obtain ⟨g, hg, rfl⟩ := Option.map_eq_some_iff.1 hi
        exact hf i g (by simpa using hg))
      (fun m hm => hw m (by
        simp only [DataW.weights, ht]
        rw [List.map_map] at hm
        exact hm))
    exact ⟨a, by simpa using hK, ho⟩⟩
theorem weightsAll_each {H : Type} (P : Program) (e : TypeId) (ds : List (DataW H)) : DataW.weightsEach P (List.replicate ds.length e) ds = DataW.weightsAll P e ds := by
  induction ds with
  | nil => simp [DataW.weightsEach, DataW.weightsAll]
  | cons d ds ih => simp only [List.length_cons, List.replicate_succ, DataW.weightsEach, DataW.weightsAll, ih]
theorem Rd.array {α : Type} {d : Kd α} {ok : α → Prop} {n : Nat} {e : TypeId} {ps : List (Nat × TypeId)} (ht : P.underlying t = some (.array n e)) (hp : (List.range n).map (fun i => (i * P.cellsOf e, e)) = ps) (hc : P.cellsOf t = d.sz) (h : RdF P 0 ps d ok) : Rd P t d ok :=
  ⟨hc, fun {H enc w fuel cs x} hx hw => by
    obtain ⟨xs, m, rfl, rfl, hl, hlen, hf⟩ := DataW.trod_array ht hx
    subst hp
    obtain ⟨a, hK, ho⟩ := h.rd (enc := enc) (w := w) (fuel := m) (cs := cs) (xs := xs) (by rw [hl, hc]; omega) (by simp [hlen]) (fun i f hi => by
        rw [List.getElem?_map] at hi
        obtain ⟨g, hg, rfl⟩ := Option.map_eq_some_iff.1 hi
        have hin : i < n := by
          have := (List.getElem?_eq_some_iff.1 hg).1
          simpa using this
        have hgi : g = i := by
          have := (List.getElem?_eq_some_iff.1 hg).2
          simpa using this.symm
        subst hgi
        exact hf g hin)
      (fun q hq => hw q (by
        simp only [DataW.weights, ht]
        rw [List.map_map] at hq
        have e2 : (List.range n).map ((fun x => x.2) ∘ fun i => (i * P.cellsOf e, e)) = List.replicate (xs.map (·.1)).length e := by
          rw [List.length_map, hlen]
          apply List.ext_getElem <;> simp
        rw [e2, weightsAll_each] at hq
        exact hq))
    exact ⟨a, by simpa using hK, ho⟩⟩
theorem rows_built {α : Type} {R : α → List Value → Prop} {ok : α → Prop} {size : Nat} {w : World} {ad : Addr} (len : Nat)
    (h : ∀ i, i < len → ∃ a c, c.length = size ∧ R a c ∧ ok a ∧ ∀ j u, c[j]? = some u → w.cell? (ad.add (i * size + j)) = some u) :
    ∃ l : List α, l.length = len ∧ (∀ i p, l[i]? = some p → ∃ c, c.length = size ∧ R p c ∧ ∀ j u, c[j]? = some u → w.cell? (ad.add (i * size + j)) = some u) ∧ ∀ a ∈ l, ok a := by
  induction len with
  | zero => exact ⟨[], rfl, fun i p hp => by simp at hp, fun a ha => by simp at ha⟩
  | succ n ih =>
    obtain ⟨l, hl, h1, h2⟩ := ih (fun i hi => h i (by omega))
    obtain ⟨a, c, hc, hR, ho, hcell⟩ := h n (by omega)
    refine ⟨l ++ [a], by simp [hl], fun i p hp => ?_, fun b hb => ?_⟩
    · by_cases hi : i < l.length
      · rw [List.getElem?_append_left hi] at hp
        exact h1 i p hp
      · rw [List.getElem?_append_right (by omega)] at hp
        have e : i = n := by
          have := (List.getElem?_eq_some_iff.1 hp).1
          simp at this
          omega
        subst e
        rw [hl, Nat.sub_self] at hp
        simp at hp
        subst hp
        exact ⟨c, hc, hR, hcell⟩
    · rcases List.mem_append.1 hb with hb | hb
      · exact h2 b hb
      · rw [List.mem_singleton.1 hb]; exact ho
theorem Rd.slice {α : Type} {d : Kd α} {ok : α → Prop} {e : TypeId} (ht : P.underlying t = some (.slice e)) (hc : P.cellsOf t = 1) (he : Rd P e d ok) {B : Nat} (hB : P.bytesOf e = B) :
    Rd P t (Kd.slice e d) (fun l => l.length * B ≤ 140737488351232 ∧ ∀ a ∈ l, ok a) :=
  ⟨hc, fun {H enc w fuel cs x} hx hw => by
    rcases Go.Deep.open_slice ht hx with ⟨rfl, _⟩ | ⟨a, len, cap, m, n, D, Pl, rfl, hb, hl, hm, hmm, rfl, hel⟩
    · refine ⟨[], ⟨none, 0, rfl, Nat.le_refl _, ?_⟩, by simp, fun a ha => by simp at ha⟩
      exact ⟨rfl, by simp, fun h => absurd h (Nat.lt_irrefl 0)⟩
    · simp only [if_true] at hmm
      subst m
      obtain ⟨l, hll, hrow, hok⟩ := rows_built (R := d.K w) (ok := ok) (size := d.sz) (w := w) (ad := a) len (fun i hi => by
        obtain ⟨cs', h1, h2⟩ := hel i (by omega)
        obtain ⟨_, hlen, hcell⟩ := World.cells?_some h1
        have hD : D i ∈ (List.range len).map D := List.mem_map.2 ⟨i, by simpa using hi, rfl⟩
        obtain ⟨v, hK, ho⟩ := he.rd h2 (fun q hq => hw q (by
          simp only [DataW.weights, ht]
          refine List.mem_cons_of_mem _ (List.mem_append_left _ ?_)
          have gen : ∀ ds : List (DataW H), D i ∈ ds → q ∈ DataW.weightsAll P e ds := by
            intro ds
            induction ds with
            | nil => intro h; simp at h
            | cons z ds ih =>
              intro h
              simp only [DataW.weightsAll]
              rcases List.mem_cons.1 h with h | h
              · exact List.mem_append_left _ (by rw [← h]; exact hq)
              · exact List.mem_append_right _ (ih h)
          exact gen _ hD))
        refine ⟨v, cs', by rw [hlen, he.sz], hK, ho, fun j u hu => ?_⟩
        have hj : j < P.cellsOf e := by
          have := (List.getElem?_eq_some_iff.1 hu).1
          omega
        rw [← he.sz, ← Addr.add_add, hcell j hj]
        exact hu)
      have hwt := hw ((len + (cap - len)) * P.bytesOf e) (by simp [DataW.weights, ht])
      refine ⟨l, ⟨some a, cap, by rw [hll], by omega, ?_⟩, ?_, hok⟩
      · refine ⟨rfl, by unfold maxLen at hm; omega, fun _ => ⟨a, rfl, hrow⟩⟩
      · rw [hll, ← hB]
        refine Nat.le_trans (Nat.mul_le_mul_right _ (Nat.le_add_right len (cap - len))) hwt⟩
end

theorem okWide_array {P : Program} {w : World} {r : Reach} {base : Nat} {t : TypeId} {v : Value} {n : Nat} {e : TypeId} (ht : P.underlying t = some (.array n e)) (h : Value.okWide P w r base t v) : ∃ cs, v = .agg cs ∧ cs.size = P.cellsOf t := by
  simp only [Value.okWide, ht] at h
  obtain ⟨cs, h1, h2, _⟩ := h
  exact ⟨cs, h1, h2⟩
/-- An argument's reading. -/
theorem of_trod {α : Type} {P : Program} {t : TypeId} {d : Kd α} {ok : α → Prop} (h : Rd P t d ok) {H : Type} {enc : TypeId × Value → H} {w : World} {v : Value} {x : DataW H} {ps : List MemPlace} {ts : List TypeId} {ds : List (DataW H)} {j : Nat}
    (hsz : (DataW.weightsEach P ts ds).all (· ≤ reachBytes) = true) (ht : ts[j]? = some t) (hd : ds[j]? = some x) (hx : DataW.Trod enc P w 0 (fun _ => true) true t v x ps) : ∃ a, d.K w a v.cells.toList ∧ ok a := by
  obtain ⟨fuel, hf⟩ := hx
  refine h.rd hf (fun n hn => ?_)
  have := List.all_eq_true.1 hsz _ (DataW.weights_mem_each ht hd n hn)
  simpa using this
end Go.Proofs.Ytocmdcjbjhpooaa.Read
