/- A call of a thread, in plain words: both do it. -/
import Derived.Test.YtocmdcjbjhpooaaFrPure
set_option linter.unusedVariables false
set_option linter.unusedSimpArgs false
namespace Go.Proofs.Ytocmdcjbjhpooaa.FrW
open Go Go.RowKit Go.Proofs.YtocmdcjbjhpooaaW.PrintWords Go.Proofs.YtocmdcjbjhpooaaW.PrintLast Go.Proofs.YtocmdcjbjhpooaaW.PrintMore Go.Proofs.Ytocmdcjbjhpooaa.PFrameOrders Go.Proofs.Ytocmdcjbjhpooaa.GRow Go.Proofs.Ytocmdcjbjhpooaa.Num Go.Proofs.Ytocmdcjbjhpooaa.Bxs Go.Proofs.Ytocmdcjbjhpooaa.InsW Go.Proofs.Ytocmdcjbjhpooaa.Pure
/-- A thread, in plain words. -/
structure TS where
  r : Nat → Int
  fs : List Co
  row : List S37
  st : List Int
def touchL (fn : Int) (fs : List Co) : List Co := if h : 0 < fs.length then fs.set (fs.length - 1) (touch fn (fs[fs.length - 1]'(by omega))) else fs
def stepT (t : TS) (o : S39) : TS × Int × Bool :=
  if o.f0 = 0 then (⟨t.r, t.fs ++ [(o.f1, 0, regs o.f2)], t.row, t.st⟩, 0, false)
  else if o.f0 = 1 then (⟨regs o.f2, t.fs.take (t.fs.length - 1), t.row, t.st⟩, 0, false)
  else if o.f0 = 2 then (⟨t.r, t.fs, putP t.row o.f3.f0 o.f3.f1, t.st⟩, 0, !isKey t.row o.f3.f0)
  else if o.f0 = 3 then (⟨t.r, t.fs, t.row, t.st ++ [IntKind.u64.wrap o.f1]⟩, 0, false)
  else if o.f0 = 4 then (⟨t.r, t.fs, t.row, t.st.take (t.st.length - 1)⟩, t.st.getD (t.st.length - 1) 0, decide (0 < t.st.length))
  else if o.f0 = 5 then (⟨t.r, t.fs, [], []⟩, 0, false)
  else if o.f0 = 6 then (⟨t.r, touchL o.f1 t.fs, t.row, t.st⟩, 0, false)
  else (t, 0, false)
structure Inv (n : Nat) (t : TS) : Prop where
  l1 : t.fs.length ≤ n
  l2 : t.row.length ≤ n
  l3 : t.st.length ≤ n
  ri : ris t.row = true
theorem touchL_len (fn : Int) (fs : List Co) : (touchL fn fs).length = fs.length := by
  unfold touchL
  split
  · rw [List.length_set]
  · rfl
theorem step_inv {n : Nat} {t : TS} (h : Inv n t) (o : S39) : Inv (n + 1) (stepT t o).1 := by
  obtain ⟨h1, h2, h3, h4⟩ := h
  unfold stepT
  have hp := putP_len t.row o.f3.f0 o.f3.f1
  repeat' split
  · exact ⟨by simp; omega, by show t.row.length ≤ _; omega, by show t.st.length ≤ _; omega, h4⟩
  · exact ⟨by simp; omega, by show t.row.length ≤ _; omega, by show t.st.length ≤ _; omega, h4⟩
  · exact ⟨by show t.fs.length ≤ _; omega, by show (putP _ _ _).length ≤ _; omega, by show t.st.length ≤ _; omega, ris_putP h4 _ _⟩
  · exact ⟨by show t.fs.length ≤ _; omega, by show t.row.length ≤ _; omega, by simp; omega, h4⟩
  · exact ⟨by show t.fs.length ≤ _; omega, by show t.row.length ≤ _; omega, by simp; omega, h4⟩
  · exact ⟨by show t.fs.length ≤ _; omega, Nat.zero_le _, Nat.zero_le _, rfl⟩
  · exact ⟨by show (touchL _ _).length ≤ _; rw [touchL_len]; omega, by show t.row.length ≤ _; omega, by show t.st.length ≤ _; omega, h4⟩
  · exact ⟨by show t.fs.length ≤ _; omega, by show t.row.length ≤ _; omega, by show t.st.length ≤ _; omega, h4⟩
theorem tail_getD {st : List Int} (h : 0 < st.length) : st.getD (st.length - 1) 0 = st[st.length - 1]'(by omega) := by
  rw [List.getD_eq_getElem?_getD, List.getElem?_eq_getElem (by omega)]
  rfl
section
variable {W : World} {base : Nat} {P ok : Nat → Prop} {b : Nat} {s : Ses} {vF vR vS : Value} {fs : List Fr} {t : TS}
theorem do_step (h : Th W base P b t.r s vF vR vS fs t.row t.st) (hc : fs.map Fr.core = t.fs) (hP : ∀ k, P k → k < W.heap.size) (hbw : base ≤ W.heap.size) (hi : Inv 1000000 t) {AL : Option Addr} {cL : Nat} (o : S39) (hL : ∀ X, (∀ k, k < base → X.heap[k]? = W.heap[k]?) → Kd.C (Kd.int .u64) X AL o.f2.length o.f2) :
    Calls Try.prog 13 #[.pointer (some ⟨b, 0, none⟩), .agg #[.int .i64 o.f0, .int .i64 o.f1, .slice AL o.f2.length cL, .int .i64 o.f3.f0, .int .i64 o.f3.f1]] W (Told W base P b vF vS fs (stepT t o).1.r s (stepT t o).1.fs (stepT t o).1.row (stepT t o).1.st (stepT t o).2.1 (stepT t o).2.2) := by
  have hl : fs.length = t.fs.length := by rw [← hc, List.length_map]
  have m1 : fs.length ≤ 1000000 := by rw [hl]; exact hi.l1
  have m2 := hi.l3
  by_cases k0 : o.f0 = 0
  · have e : stepT t o = (⟨t.r, t.fs ++ [(o.f1, 0, regs o.f2)], t.row, t.st⟩, 0, false) := by unfold stepT; rw [if_pos k0]
    rw [e, k0, ← hc]
    exact do_0 h hP hbw m1 m2 o.f1 _ _ hL
  by_cases k1 : o.f0 = 1
  · have e : stepT t o = (⟨regs o.f2, t.fs.take (t.fs.length - 1), t.row, t.st⟩, 0, false) := by unfold stepT; rw [if_neg k0, if_pos k1]
    rw [e, k1, ← hl, ← hc]
    by_cases hz : fs = []
    · have K := do_1n h hP hbw m1 m2 o.f1 o.f3.f0 o.f3.f1 (cL := cL) hL hz
      subst hz
      exact K
    · exact do_1 h hP hbw m1 m2 o.f1 _ _ hL (List.length_pos_iff.2 hz)
  by_cases k2 : o.f0 = 2
  · have e : stepT t o = (⟨t.r, t.fs, putP t.row o.f3.f0 o.f3.f1, t.st⟩, 0, !isKey t.row o.f3.f0) := by unfold stepT; rw [if_neg k0, if_neg k1, if_pos k2]
    rw [e, k2, ← hc]
    exact do_2 h hP hbw m1 m2 o.f1 _ _ (put_eq t.row hi.l2 hi.ri _ _ 0)
  by_cases k3 : o.f0 = 3
  · have e : stepT t o = (⟨t.r, t.fs, t.row, t.st ++ [IntKind.u64.wrap o.f1]⟩, 0, false) := by unfold stepT; rw [if_neg k0, if_neg k1, if_neg k2, if_pos k3]
    rw [e, k3, ← hc]
    exact do_3 h hP hbw m1 m2 o.f1 _ _
  by_cases k4 : o.f0 = 4
  · have e : stepT t o = (⟨t.r, t.fs, t.row, t.st.take (t.st.length - 1)⟩, t.st.getD (t.st.length - 1) 0, decide (0 < t.st.length)) := by unfold stepT; rw [if_neg k0, if_neg k1, if_neg k2, if_neg k3, if_pos k4]
    rw [e, k4, ← hc]
    by_cases hz : t.st = []
    · rw [hz] at h ⊢
      exact do_4n h hP hbw m1 (Nat.zero_le _) o.f1 _ _ rfl
    · have h0 := List.length_pos_iff.2 hz
      simp only [tail_getD h0, decide_eq_true h0]
      exact do_4 h hP hbw m1 m2 o.f1 _ _ h0
  by_cases k5 : o.f0 = 5
  · have e : stepT t o = (⟨t.r, t.fs, [], []⟩, 0, false) := by unfold stepT; rw [if_neg k0, if_neg k1, if_neg k2, if_neg k3, if_neg k4, if_pos k5]
    rw [e, k5, ← hc]
    exact do_5 h hP hbw m1 m2 o.f1 _ _
  by_cases k6 : o.f0 = 6
  · have e : stepT t o = (⟨t.r, touchL o.f1 t.fs, t.row, t.st⟩, 0, false) := by unfold stepT; rw [if_neg k0, if_neg k1, if_neg k2, if_neg k3, if_neg k4, if_neg k5, if_pos k6]
    rw [e, k6, ← hc]
    by_cases hz : fs = []
    · have K := do_6n h hP hbw m1 m2 o.f1 o.f3.f0 o.f3.f1 (AL := AL) (cL := cL) (l := o.f2) hz
      subst hz
      exact K
    · have h0 := List.length_pos_iff.2 hz
      have K := do_6 h hP hbw m1 m2 o.f1 o.f3.f0 o.f3.f1 (AL := AL) (cL := cL) (l := o.f2) h0
      unfold touchL
      rw [dif_pos (by rw [List.length_map]; exact h0)]
      simp only [List.length_map, List.getElem_map]
      exact K
  · have e : stepT t o = (t, 0, false) := by unfold stepT; rw [if_neg k0, if_neg k1, if_neg k2, if_neg k3, if_neg k4, if_neg k5, if_neg k6]
    rw [e, ← hc]
    exact do_other h hP hbw m1 m2 o.f1 _ _ (by omega)
theorem rdo_step (h : RT W ok vF vR vS t.fs t.row t.st) (hok : ∀ k, W.heap.size ≤ k → ok k) (hi : Inv 1000000 t) {AL : Option Addr} {cL : Nat} (o : S39) (hL : Kd.C (Kd.int .u64) W AL o.f2.length o.f2) (hcL : o.f2.length ≤ cL) (hl : o.f2.length ≤ 1000000) :
    Calls Try.prog 14 #[.agg (tC t.r vF vR vS).toArray, .agg #[.int .i64 o.f0, .int .i64 o.f1, .slice AL o.f2.length cL, .int .i64 o.f3.f0, .int .i64 o.f3.f1]] W (RDone W ok (stepT t o).1.r (stepT t o).1.fs (stepT t o).1.row (stepT t o).1.st (stepT t o).2.1 (stepT t o).2.2) := by
  have m1 := hi.l1
  have m2 := hi.l3
  by_cases k0 : o.f0 = 0
  · have e : stepT t o = (⟨t.r, t.fs ++ [(o.f1, 0, regs o.f2)], t.row, t.st⟩, 0, false) := by unfold stepT; rw [if_pos k0]
    rw [e, k0]
    exact rdo_0 h hok o.f1 _ _ m1 m2 hL hcL hl
  by_cases k1 : o.f0 = 1
  · have e : stepT t o = (⟨regs o.f2, t.fs.take (t.fs.length - 1), t.row, t.st⟩, 0, false) := by unfold stepT; rw [if_neg k0, if_pos k1]
    rw [e, k1]
    by_cases hz : t.fs.length = 0
    · have K := rdo_1n (r := t.r) h hok o.f1 o.f3.f0 o.f3.f1 m1 m2 hL hcL hl ⟨hz⟩
      have ez : t.fs.take (t.fs.length - 1) = t.fs := List.take_of_length_le (by omega)
      rw [ez]
      exact K
    · exact rdo_1 h hok o.f1 _ _ m1 m2 hL hcL hl (by omega)
  by_cases k2 : o.f0 = 2
  · have e : stepT t o = (⟨t.r, t.fs, putP t.row o.f3.f0 o.f3.f1, t.st⟩, 0, !isKey t.row o.f3.f0) := by unfold stepT; rw [if_neg k0, if_neg k1, if_pos k2]
    rw [e, k2]
    exact rdo_2 h hok o.f1 _ _ m1 m2 (rput_eq t.row hi.l2 _ _ (Nat.lt_succ_self _))
  by_cases k3 : o.f0 = 3
  · have e : stepT t o = (⟨t.r, t.fs, t.row, t.st ++ [IntKind.u64.wrap o.f1]⟩, 0, false) := by unfold stepT; rw [if_neg k0, if_neg k1, if_neg k2, if_pos k3]
    rw [e, k3]
    exact rdo_3 h hok o.f1 _ _ m1 m2
  by_cases k4 : o.f0 = 4
  · have e : stepT t o = (⟨t.r, t.fs, t.row, t.st.take (t.st.length - 1)⟩, t.st.getD (t.st.length - 1) 0, decide (0 < t.st.length)) := by unfold stepT; rw [if_neg k0, if_neg k1, if_neg k2, if_neg k3, if_pos k4]
    rw [e, k4]
    by_cases hz : t.st.length = 0
    · have K := rdo_4n (r := t.r) h hok o.f1 o.f3.f0 o.f3.f1 (AL := AL) (cL := cL) (l := o.f2) m1 m2 ⟨hz⟩
      have ez : t.st = [] := List.eq_nil_of_length_eq_zero hz
      rw [ez] at K ⊢
      exact K
    · have h0 : 0 < t.st.length := by omega
      simp only [tail_getD h0, decide_eq_true h0]
      exact rdo_4 h hok o.f1 _ _ m1 m2 h0
  by_cases k5 : o.f0 = 5
  · have e : stepT t o = (⟨t.r, t.fs, [], []⟩, 0, false) := by unfold stepT; rw [if_neg k0, if_neg k1, if_neg k2, if_neg k3, if_neg k4, if_pos k5]
    rw [e, k5]
    exact rdo_5 h hok o.f1 _ _ m1 m2
  by_cases k6 : o.f0 = 6
  · have e : stepT t o = (⟨t.r, touchL o.f1 t.fs, t.row, t.st⟩, 0, false) := by unfold stepT; rw [if_neg k0, if_neg k1, if_neg k2, if_neg k3, if_neg k4, if_neg k5, if_pos k6]
    rw [e, k6]
    by_cases hz : t.fs.length = 0
    · have K := rdo_6n (r := t.r) h hok o.f1 o.f3.f0 o.f3.f1 (AL := AL) (cL := cL) (l := o.f2) m1 m2 ⟨hz⟩
      unfold touchL
      rw [dif_neg (by omega)]
      exact K
    · have h0 : 0 < t.fs.length := by omega
      have K := rdo_6 (r := t.r) h hok o.f1 o.f3.f0 o.f3.f1 (AL := AL) (cL := cL) (l := o.f2) m1 m2 h0
      unfold touchL
      rw [dif_pos h0]
      exact K
  · have e : stepT t o = (t, 0, false) := by unfold stepT; rw [if_neg k0, if_neg k1, if_neg k2, if_neg k3, if_neg k4, if_neg k5, if_neg k6]
    rw [e]
    exact rdo_other h hok o.f1 _ _ m1 m2 (by omega)
end
end Go.Proofs.Ytocmdcjbjhpooaa.FrW
