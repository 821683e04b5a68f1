/- Guards of slots: what each method of a guard tells and turns. -/
import Derived.Test.YtdmpfnnaefccnaaPureGuardPlays
import Derived.Maps.OwnSet
import Derived.Maps.OwnOps
import Derived.Deep.QuietTactic
import Derived.BigQuiet
import Derived.Deep.RegionLaw
import Derived.Deep.DeepCutAuto
import Derived.Deep.CutRange
set_option linter.unusedVariables false
set_option linter.unusedSimpArgs false
namespace Go.Proofs.Ytdmpfnnaefccnaa.GuardW
open Go Go.Maps Go.RowKit Go.Proofs.YtdmpfnnaefccnaaW.PrintWords Go.Proofs.YtdmpfnnaefccnaaW.PrintLast Go.Proofs.YtdmpfnnaefccnaaW.PrintMore Go.Proofs.Ytdmpfnnaefccnaa.PGuardPlays Go.Proofs.Ytdmpfnnaefccnaa.Num Go.Proofs.Ytdmpfnnaefccnaa.Pure
structure HeldD (D : DataW Unit) (L : List Sl) : Prop where
  has : ∀ i : Int, (Lit.int .i64 i).wf = true → Maps.has D (.int .i64 i) = heldAt L i
  at_ : ∀ i : Int, (Lit.int .i64 i).wf = true → D.atKey (.int .i64 i) (.lit (.int .u64 0)) = .lit (.int .u64 (if heldAt L i = true then 1 else 0))
  size : Maps.size D = heldN L
/-- A guard: its block b, its generations' block gb, its map's block mb. -/
def Gd (w : World) (b gb mb : Nat) (L : List Sl) (sl : Int) : Prop :=
  ∃ (c : Nat) (cur : Array Value) (gens : List Int) (D : DataW Unit),
    w.heap[b]? = some (.cells #[.slice (some ⟨gb, 0, none⟩) (L.length + 1) c, .map (some mb), .int .i64 sl] 80 (0, 0)) ∧
    (w.heap[gb]? = some (.cells cur 29 (0, 0)) ∧ cur.size = c ∧ L.length + 1 ≤ c ∧ c ≤ 9223372036854775807 ∧ gens.length = L.length + 1 ∧ ∀ j (h : j < gens.length), cur[j]? = some (.int .u64 gens[j])) ∧
    (∀ i (h : i < L.length) (h2 : i + 1 < gens.length), 0 ≤ gens[i + 1] ∧ gens[i + 1] < 18446744073709551616 ∧ gens[i + 1] % 1125899906842624 = L[i].f1) ∧
    w.ownsMap Try.prog 3 (plainElem Try.prog 29) mb (Maps.size D) D ∧ HeldD D L
theorem Gd.move {w w' : World} {b gb mb : Nat} {L : List Sl} {sl : Int} (h : Gd w b gb mb L sl) (hb : w'.heap[b]? = w.heap[b]?) (hg : w'.heap[gb]? = w.heap[gb]?) (hm : w'.heap[mb]? = w.heap[mb]?) : Gd w' b gb mb L sl := by
  obtain ⟨c, cur, gens, D, h1, ⟨h2, h3⟩, h4, ⟨es, clock, h5, h6⟩, h7⟩ := h
  exact ⟨c, cur, gens, D, hb.trans h1, ⟨hg.trans h2, h3⟩, h4, ⟨es, clock, hm.trans h5, h6⟩, h7⟩
theorem Gd.lt {w : World} {b gb mb : Nat} {L : List Sl} {sl : Int} (h : Gd w b gb mb L sl) : b < w.heap.size ∧ gb < w.heap.size ∧ mb < w.heap.size := by
  obtain ⟨c, cur, gens, D, h1, ⟨h2, h3⟩, h4, ⟨es, clock, h5, h6⟩, h7⟩ := h
  exact ⟨(Array.getElem?_eq_some_iff.1 h1).1, (Array.getElem?_eq_some_iff.1 h2).1, (Array.getElem?_eq_some_iff.1 h5).1⟩
theorem Gd.ne {w : World} {b gb mb : Nat} {L : List Sl} {sl : Int} (h : Gd w b gb mb L sl) : b ≠ gb ∧ b ≠ mb ∧ gb ≠ mb := by
  obtain ⟨c, cur, gens, D, h1, ⟨h2, h3⟩, h4, ⟨es, clock, h5, h6⟩, h7⟩ := h
  refine ⟨blk_ne h1 h2 (by decide), fun e => ?_, fun e => ?_⟩
  · subst e; rw [h1] at h5; cases h5
  · subst e; rw [h2] at h5; cases h5
theorem Gd.below {w w' : World} {b gb mb : Nat} {L : List Sl} {sl : Int} (h : Gd w b gb mb L sl) (hb : Below w.heap.size w w') : Gd w' b gb mb L sl := h.move (hb.block b h.lt.1) (hb.block gb h.lt.2.1) (hb.block mb h.lt.2.2)
theorem Gd.drewN {w : World} {b gb mb : Nat} {L : List Sl} {sl : Int} (h : Gd w b gb mb L sl) (n : Nat) : Gd (w.drewN n) b gb mb L sl := h.below (pw_below_drewN (Below.refl _ _) n)
theorem Gd.cells {w : World} {b gb mb : Nat} {L : List Sl} {sl : Int} (h : Gd w b gb mb L sl) : ∃ c, L.length + 1 ≤ c ∧ c ≤ 9223372036854775807 ∧ w.cell? ⟨b, 0, none⟩ = some (.slice (some ⟨gb, 0, none⟩) (L.length + 1) c) ∧ w.cell? ⟨b, 1, none⟩ = some (.map (some mb)) ∧ w.cell? ⟨b, 2, none⟩ = some (.int .i64 sl) ∧ w.frozen? ⟨b, 2, none⟩ = false := by
  obtain ⟨c, cur, gens, D, h1, ⟨h2, h3, h4, h5, h6⟩, _⟩ := h
  exact ⟨c, h4, h5, (blk_cell h1 0).trans rfl, (blk_cell h1 1).trans rfl, (blk_cell h1 2).trans rfl, blk_frozen h1 2⟩
theorem Gd.gen {w : World} {b gb mb : Nat} {L : List Sl} {sl s : Int} (h : Gd w b gb mb L sl) (hi : insideB L.length s = true) : ∃ g : Nat, g < 18446744073709551616 ∧ ((g % 1125899906842624 : Nat) : Int) = (slAt L s).f1 ∧ w.cell? ⟨gb, s.toNat, none⟩ = some (.int .u64 (g : Int)) ∧ w.frozen? ⟨gb, s.toNat, none⟩ = false := by
  obtain ⟨c, cur, gens, D, h1, ⟨h2, h3, h4, h5, h6, h7⟩, h8, _⟩ := h
  obtain ⟨i1, i2⟩ := inside_iff.1 hi
  obtain ⟨i, rfl⟩ : ∃ i : Nat, s = ((i + 1 : Nat) : Int) := ⟨(s - 1).toNat, by omega⟩
  have hl : i < L.length := by omega
  have hg : i + 1 < gens.length := by omega
  obtain ⟨b1, b2, b3⟩ := h8 i hl hg
  have e : slAt L ((i + 1 : Nat) : Int) = L[i] := by
    unfold slAt
    rw [show ((((i + 1 : Nat) : Int) - 1).toNat) = i by omega]
    simp [List.getD, hl]
  refine ⟨gens[i + 1].toNat, by omega, by rw [e, ← b3]; omega, ?_, blk_frozen h2 _⟩
  rw [Int.toNat_natCast]
  refine (blk_cell h2 (i + 1)).trans ?_
  rw [h7 (i + 1) hg]
  congr 2
  omega
theorem keyed3 : Keyed Try.prog 3 := int_keyed Try.underlying3
theorem zero29 (w : World) : (zeroValue 29).run Try.prog w = .ok (.int .u64 0) w := by kernel_rfl
theorem key3 {i : Int} (h : (Lit.int .i64 i).wf = true) : keyOf Try.prog 3 (.int .i64 i) = some (.int .i64 i) := keyOf_int_mk Try.underlying3 h
theorem Gd.look {w : World} {b gb mb : Nat} {L : List Sl} {sl : Int} (h : Gd w b gb mb L sl) {i : Int} (hw : (Lit.int .i64 i).wf = true) : (Instr.lookup 78 (.map (some mb)) (.int .i64 i) false).run Try.prog w = .ok (.int .u64 (if heldAt L i = true then 1 else 0)) w := by
  obtain ⟨c, cur, gens, D, h1, h2, h3, h4, h5⟩ := h
  obtain ⟨x, hrun, hat, _⟩ := h4.lookup_int keyed3 Try.underlying78 Try.underlying29 (zero29 w) (key3 hw)
  rw [h5.at_ i hw] at hat
  injection hat with e1
  injection e1 with _ e2
  rw [hrun, ← e2]
/-- All but a guard is as it was. -/
def Keep3 (w w' : World) (b gb mb : Nat) : Prop := w'.os = w.os ∧ w'.tape = w.tape ∧ w'.output = w.output ∧ w.heap.size ≤ w'.heap.size ∧ ∀ k, k < w.heap.size → k ≠ b → k ≠ gb → k ≠ mb → w'.heap[k]? = w.heap[k]?
theorem Keep3.refl (w : World) (b gb mb : Nat) : Keep3 w w b gb mb := ⟨rfl, rfl, rfl, Nat.le_refl _, fun _ _ _ _ _ => rfl⟩
theorem Keep3.trans {w w1 w2 : World} {b gb mb : Nat} (h : Keep3 w w1 b gb mb) (k : Keep3 w1 w2 b gb mb) : Keep3 w w2 b gb mb :=
  ⟨k.1.trans h.1, k.2.1.trans h.2.1, k.2.2.1.trans h.2.2.1, Nat.le_trans h.2.2.2.1 k.2.2.2.1, fun i hi hb hg hm => (k.2.2.2.2 i (Nat.lt_of_lt_of_le hi h.2.2.2.1) hb hg hm).trans (h.2.2.2.2 i hi hb hg hm)⟩
theorem Keep3.of_below {w w' : World} {b gb mb : Nat} (h : Below w.heap.size w w') : Keep3 w w' b gb mb := ⟨h.os, h.tape, h.output, h.size, fun k hk _ _ _ => h.block k hk⟩
theorem Keep3.drewN (w : World) (b gb mb n : Nat) : Keep3 w (w.drewN n) b gb mb := .of_below (pw_below_drewN (Below.refl _ _) n)
theorem Keep3.setb (w : World) (b gb mb i : Nat) (u : Value) : Keep3 w (w.setCell ⟨b, i, none⟩ u) b gb mb := ⟨rfl, rfl, rfl, by simp, fun k _ hb _ _ => Below.heap_setCell w ⟨b, i, none⟩ u k hb⟩
theorem Keep3.setg (w : World) (b gb mb i : Nat) (u : Value) : Keep3 w (w.setCell ⟨gb, i, none⟩ u) b gb mb := ⟨rfl, rfl, rfl, by simp, fun k _ _ hg _ => Below.heap_setCell w ⟨gb, i, none⟩ u k hg⟩
theorem Keep3.grown {w w' : World} {b gb mb : Nat} (h : w.grownBy w' (some mb)) : Keep3 w w' b gb mb := ⟨h.os, h.tape, h.output, h.size, fun k hk _ _ hm => h.block k hk (fun e => hm (Option.some.inj e))⟩
theorem Keep3.below {w w' : World} {b gb mb B : Nat} (h : Keep3 w w' b gb mb) (hb : B ≤ b) (hg : B ≤ gb) (hm : B ≤ mb) (hs : B ≤ w.heap.size) : Below B w w' := ⟨h.1, h.2.1, h.2.2.1, h.2.2.2.1, fun k hk => h.2.2.2.2 k (by omega) (by omega) (by omega) (by omega)⟩
set_option maxHeartbeats 1000000 in
set_option maxRecDepth 100000 in
theorem there_calls {w : World} {b gb mb : Nat} {L : List Sl} {sl : Int} (hG : Gd w b gb mb L sl) (hL : WfL L) (s : Int) : Calls Try.prog 52 #[.pointer (some ⟨b, 0, none⟩), .int .i64 s] w fun e w' => e = .returned (.bool (insideB L.length s)) ∧ w' = w := by
  have hu := Try.underlying80
  obtain ⟨c, hc1, hc2, b0, b1, b2, z2⟩ := hG.cells
  have hl := hL.1
  by_cases h1 : 1 ≤ s
  · by_cases h2 : s < ((L.length + 1 : Nat) : Int)
    · have e : insideB L.length s = true := inside_iff.2 ⟨h1, by omega⟩
      have d1 : decide (1 ≤ s) = true := decide_eq_true h1
      have d2 : decide (s < (L.length : Int) + 1) = true := decide_eq_true (by omega)
      rw [e]
      clear hG e hL
      go_enter Try.func52, Try.ntmps52
      go_wp2
      go_ret
      exact ⟨rfl, rfl⟩
    · have e : insideB L.length s = false := Bool.eq_false_iff.2 (by rw [ne_eq, inside_iff]; omega)
      have d1 : decide (1 ≤ s) = true := decide_eq_true h1
      have d2 : decide (s < (L.length : Int) + 1) = false := decide_eq_false (by omega)
      rw [e]
      clear hG e hL
      go_enter Try.func52, Try.ntmps52
      go_wp2
      go_ret
      exact ⟨rfl, rfl⟩
  · have e : insideB L.length s = false := Bool.eq_false_iff.2 (by rw [ne_eq, inside_iff]; omega)
    have d1 : decide (1 ≤ s) = false := decide_eq_false h1
    rw [e]
    clear hG e hL
    go_enter Try.func52, Try.ntmps52
    go_wp2
    go_ret
    exact ⟨rfl, rfl⟩
set_option maxHeartbeats 1000000 in
set_option maxRecDepth 100000 in
theorem edge_calls {w : World} {b gb mb : Nat} {L : List Sl} {sl : Int} (hG : Gd w b gb mb L sl) (hL : WfL L) (s : Int) : Calls Try.prog 31 #[.pointer (some ⟨b, 0, none⟩), .int .i64 s] w fun e w' => e = .returned (.int .u64 (edgeV L s)) ∧ ∃ n, w' = w.drewN n := by
  have hu := Try.underlying80
  have TH := Aside0.mk (there_calls hG hL s)
  obtain ⟨c, hc1, hc2, b0, b1, b2, z2⟩ := hG.cells
  have hl := hL.1
  cases hi : insideB L.length s with
  | false =>
    have e : edgeV L s = 0 := by unfold edgeV; rw [hi, if_neg (by decide)]
    rw [hi] at TH
    rw [e]
    clear hG e hL hi
    go_enter Try.func31, Try.ntmps31
    go_wp2_with (go_at_call 52; refine TH.out.mono ?_; rintro e w2 ⟨rfl, rfl⟩)
    go_ret
    exact ⟨rfl, 0, rfl⟩
  | true =>
    obtain ⟨g, hg1, hg2, hg3, _⟩ := hG.gen hi
    obtain ⟨i1, i2⟩ := inside_iff.1 hi
    have hb := slAt_bound hL hi
    have hm := make_eq (s := s) (g := g) (by omega) (by omega)
    have e : edgeV L s = ((((if 0 ≤ s ∧ s ≤ 4095 then s.toNat else 0) + 4096 * (g % 1125899906842624) : Nat)) : Int) := by
      unfold edgeV
      rw [hi, if_pos rfl, if_pos (by omega), ← hg2]
      omega
    rw [← e] at hm
    have MK := Aside0.mk (fun (W : World) => edge_Make.calls s (g : Int) _ W hm)
    rw [hi] at TH
    have q1 : s < ((L.length + 1 : Nat) : Int) := by omega
    have q0 : 0 ≤ s := by omega
    generalize edgeV L s = ev at MK ⊢
    clear hG e hL hi hm hg1 hg2 hb
    go_enter Try.func31, Try.ntmps31
    go_wp2_with (first | (go_at_call 52; refine TH.out.mono ?_; rintro e w2 ⟨rfl, rfl⟩) | (go_at_call 53; refine (MK.out _).mono ?_; rintro e w2 ⟨rfl, ⟨n, rfl⟩⟩))
    go_ret
    exact ⟨rfl, n, rfl⟩
theorem slot_some (w : Nat) (hw : w < 2 ^ 64) (W : World) : Calls Try.prog 54 #[.int .u64 (w : Int)] W fun e W' => e = .returned (.int .i64 (slotN w)) ∧ ∃ n, W' = W.drewN n := (edge_Edge_Slot.calls _ _ W (slot_eq hw)).mono fun e W' h => by obtain ⟨h1, n, h2⟩ := h; exact ⟨h1, n, h2⟩
theorem slot_wf (w : Nat) : (Lit.int .i64 (slotN w)).wf = true := WalkArith.wf_i64 (by unfold slotN; omega)
set_option maxHeartbeats 2000000 in
set_option maxRecDepth 100000 in
theorem leads_calls {w : World} {b gb mb : Nat} {L : List Sl} {sl : Int} (hG : Gd w b gb mb L sl) (hL : WfL L) (x : Nat) (hx : x < 2 ^ 64) : Calls Try.prog 32 #[.pointer (some ⟨b, 0, none⟩), .int .u64 (x : Int)] w fun e w' => e = .returned (.bool (leadsB L x)) ∧ ∃ n, w' = w.drewN n := by
  have hu := Try.underlying80
  have TH := Aside0.mk (fun n : Nat => there_calls (hG.drewN n) hL (slotN x))
  have SL := Aside0.mk (fun W : World => slot_some x hx W)
  have ED := Aside0.mk (fun n : Nat => edge_calls (hG.drewN n) hL (slotN x))
  obtain ⟨c, hc1, hc2, b0, b1, b2, z2⟩ := hG.cells
  have LK := Aside0.mk (fun n : Nat => (hG.drewN n).look (slot_wf x))
  cases hi : insideB L.length (slotN x) with
  | false =>
    have e : leadsB L x = false := by unfold leadsB heldAt; rw [hi]; rfl
    rw [hi] at TH
    rw [e]
    clear hG e hL hi LK ED
    go_enter Try.func32, Try.ntmps32
    go_wp2_with fail
    go_quiet (first | (go_at_call 54; refine Calls.quiet_of (SL.out _)) | (go_at_call 52; refine Calls.quiet_of_same (TH.out _)))
    go_wp2
    go_ret
    exact ⟨rfl, _, rfl⟩
  | true =>
    cases hh : (slAt L (slotN x)).f0 with
    | false =>
      have e : leadsB L x = false := by unfold leadsB heldAt; rw [hi, hh]; rfl
      have lk0 : heldAt L (slotN x) = false := by unfold heldAt; rw [hi, hh]; rfl
      have hlk := LK.out
      rw [lk0, if_neg (by decide)] at hlk
      rw [hi] at TH
      rw [e]
      clear hG e hL hi LK ED hh lk0
      go_enter Try.func32, Try.ntmps32
      go_wp2_with fail
      go_quiet (first | (go_at_call 54; refine Calls.quiet_of (SL.out _)) | (go_at_call 52; refine Calls.quiet_of_same (TH.out _)))
      go_wp2
      go_ret
      exact ⟨rfl, _, rfl⟩
    | true => 
      have lk0 : heldAt L (slotN x) = true := by unfold heldAt; rw [hi, hh]; rfl
      have hlk := LK.out
      rw [lk0, if_pos rfl] at hlk
      have hb := slAt_bound hL hi
      obtain ⟨i1, i2⟩ := inside_iff.1 hi
      have hl := hL.1
      obtain ⟨ev, hev⟩ : ∃ ev : Nat, edgeV L (slotN x) = ev := ⟨(edgeV L (slotN x)).toNat, by unfold edgeV; rw [hi, if_pos rfl]; omega⟩
      have hev2 : (ev : Int) = slotN x + 4096 * (slAt L (slotN x)).f1 := by rw [← hev]; unfold edgeV; rw [hi, if_pos rfl]
      have hev3 : ev < 2 ^ 64 := by omega
      obtain ⟨t, ht, it⟩ := to_some hev3 hx
      have e : leadsB L x = t := by
        unfold leadsB
        rw [lk0, Bool.true_and]
        have hs : slotN x = ((x % 4096 : Nat) : Int) := rfl
        have hgn : genN x = ((x / 4096 % 1125899906842624 : Nat) : Int) := rfl
        by_cases h : (slAt L (slotN x)).f1 = genN x
        · rw [beq_iff_eq.2 h, it.2 (by omega)]
        · rw [beq_eq_false_iff_ne.2 h]
          exact (Bool.eq_false_iff.2 (fun h2 => h (by have := it.1 h2; omega))).symm
      have TO := Aside0.mk (fun W : World => (edge_Edge_To.calls _ _ _ W ht).mono (R' := fun e W' => e = .returned (.bool t) ∧ ∃ n, W' = W.drewN n) fun e W' h => by obtain ⟨h1, n, h2⟩ := h; exact ⟨h1, n, h2⟩)
      rw [hi] at TH
      rw [hev] at ED
      rw [e]
      clear hG e hL hi LK hh lk0 hev hev2 hev3 it ht hb i1 i2
      go_enter Try.func32, Try.ntmps32
      go_wp2_with fail
      go_quiet (first | (go_at_call 54; refine Calls.quiet_of (SL.out _)) | (go_at_call 52; refine Calls.quiet_of_same (TH.out _)) | (go_at_call 31; refine Calls.quiet_of (ED.out _)) | (go_at_call 55; refine Calls.quiet_of (TO.out _)))
      go_wp2
      go_ret
      exact ⟨rfl, _, rfl⟩
theorem tight {w : World} {mb n : Nat} {D : DataW Unit} (h : w.ownsMap Try.prog 3 (plainElem Try.prog 29) mb n D) : w.ownsMap Try.prog 3 (plainElem Try.prog 29) mb (Maps.size D) D := by
  obtain ⟨es, clock, h1, h2, h3, h4⟩ := h
  refine ⟨es, clock, h1, h2, ?_, h4⟩
  rw [h4]
  simp [Maps.size, length_sorted]
theorem slAt_get {L : List Sl} {s : Int} (hj : (s - 1).toNat < L.length) : slAt L s = L[(s - 1).toNat] := by unfold slAt; rw [List.getD_eq_getElem?_getD, List.getElem?_eq_getElem hj]; rfl
theorem slAt_put_same {L : List Sl} {s : Int} (h : insideB L.length s = true) (x : Sl) : slAt (putL L s x) s = x := by
  obtain ⟨i1, i2⟩ := inside_iff.1 h
  unfold slAt putL
  rw [List.getD_eq_getElem?_getD, List.getElem?_set, if_pos rfl, if_pos (by omega)]
  rfl
theorem slAt_put_other {L : List Sl} {s i : Int} (h : insideB L.length s = true) (hi : insideB L.length i = true) (hne : i ≠ s) (x : Sl) : slAt (putL L s x) i = slAt L i := by
  obtain ⟨i1, i2⟩ := inside_iff.1 h
  obtain ⟨j1, j2⟩ := inside_iff.1 hi
  unfold slAt putL
  rw [List.getD_eq_getElem?_getD, List.getElem?_set, if_neg (by omega), ← List.getD_eq_getElem?_getD]
theorem heldAt_put {L : List Sl} {s i : Int} (h : insideB L.length s = true) (x : Sl) : heldAt (putL L s x) i = if i = s then x.f0 else heldAt L i := by
  unfold heldAt
  rw [putL_len]
  by_cases e : i = s
  · subst e
    rw [if_pos rfl, h, slAt_put_same h, Bool.true_and]
  · rw [if_neg e]
    cases hi : insideB L.length i with
    | true => rw [slAt_put_other h hi e]
    | false => rfl
theorem filter_set (p : Sl → Bool) : ∀ (L : List Sl) (j : Nat) (hj : j < L.length) (x : Sl), ((L.set j x).filter p).length + (if p L[j] = true then 1 else 0) = (L.filter p).length + (if p x = true then 1 else 0)
  | [], j, hj, x => by simp at hj
  | y :: L, 0, hj, x => by
    simp only [List.set_cons_zero, List.filter_cons, List.getElem_cons_zero]
    split <;> split <;> simp
  | y :: L, j + 1, hj, x => by
    have ih := filter_set p L j (by simpa using hj) x
    simp only [List.set_cons_succ, List.filter_cons, List.getElem_cons_succ]
    split <;> (try rw [List.length_cons]) <;> (try rw [List.length_cons]) <;> omega
theorem heldN_put {L : List Sl} {s : Int} (h : insideB L.length s = true) (x : Sl) : heldN (putL L s x) + (if (slAt L s).f0 = true then 1 else 0) = heldN L + (if x.f0 = true then 1 else 0) := by
  obtain ⟨i1, i2⟩ := inside_iff.1 h
  have hj : (s - 1).toNat < L.length := by omega
  have e := slAt_get hj
  rw [e]
  exact filter_set (fun y => y.f0) L _ hj x
theorem key_ne {i s : Int} (h : ¬ i = s) : (Lit.int .i64 i) ≠ (Lit.int .i64 s) := fun e => h (by injection e)
theorem HeldD.put {D : DataW Unit} {L : List Sl} (h : HeldD D L) (hT : Tidy D) {s : Int} (hs : (Lit.int .i64 s).wf = true) (hi : insideB L.length s = true) (hf : (slAt L s).f0 = false) (g : Int) : HeldD (D.put (.int .i64 s) (.lit (.int .u64 1))) (putL L s ⟨true, g⟩) := by
  refine ⟨fun i hw => ?_, fun i hw => ?_, ?_⟩
  · rw [heldAt_put hi]
    by_cases e : i = s
    · subst e; rw [if_pos rfl]; exact has_put_same hT.isMap (show WideAt.IsKeyLit (Lit.int .i64 i) from trivial) _
    · rw [if_neg e, has_put_other (key_ne e)]; exact h.has i hw
  · rw [heldAt_put hi]
    by_cases e : i = s
    · subst e; rw [if_pos rfl, if_pos rfl]; exact atKey_put_same hT.isMap (show WideAt.IsKeyLit (Lit.int .i64 i) from trivial) _ _
    · rw [if_neg e, atKey_put_other (key_ne e)]; exact h.at_ i hw
  · have e := heldN_put hi (⟨true, g⟩ : Sl)
    rw [hf, if_neg (show ¬ (false = true) from by decide), if_pos rfl] at e
    rw [size_put hT, h.has s hs, show heldAt L s = false from by unfold heldAt; rw [hi, hf]; rfl, if_neg (by decide), h.size]
    omega
theorem HeldD.del {D : DataW Unit} {L : List Sl} (h : HeldD D L) (hT : Tidy D) {s : Int} (hs : (Lit.int .i64 s).wf = true) (hi : insideB L.length s = true) (hf : (slAt L s).f0 = true) (g : Int) : HeldD (D.del (.int .i64 s)) (putL L s ⟨false, g⟩) := by
  refine ⟨fun i hw => ?_, fun i hw => ?_, ?_⟩
  · rw [heldAt_put hi]
    by_cases e : i = s
    · subst e; rw [if_pos rfl]; exact has_del_same
    · rw [if_neg e, has_del_other (key_ne e)]; exact h.has i hw
  · rw [heldAt_put hi]
    by_cases e : i = s
    · subst e; rw [if_pos rfl, if_neg (show ¬ (false = true) from by decide)]; exact atKey_del_same _
    · rw [if_neg e, atKey_del_other (key_ne e)]; exact h.at_ i hw
  · have e := heldN_put hi (⟨false, g⟩ : Sl)
    rw [hf, if_pos rfl, if_neg (show ¬ (false = true) from by decide)] at e
    have e2 := size_del (k := .int .i64 s) hT
    rw [h.has s hs, show heldAt L s = true from by unfold heldAt; rw [hi, hf]; rfl, if_pos rfl, h.size] at e2
    omega
theorem HeldD.same {D : DataW Unit} {L : List Sl} (h : HeldD D L) {s : Int} (hi : insideB L.length s = true) (g : Int) : HeldD D (putL L s ⟨(slAt L s).f0, g⟩) := by
  have e1 : ∀ i, heldAt (putL L s ⟨(slAt L s).f0, g⟩) i = heldAt L i := fun i => by
    rw [heldAt_put hi]
    by_cases e : i = s
    · subst e; rw [if_pos rfl]; unfold heldAt; rw [hi, Bool.true_and]
    · rw [if_neg e]
  refine ⟨fun i hw => by rw [e1]; exact h.has i hw, fun i hw => by rw [e1]; exact h.at_ i hw, ?_⟩
  have e := heldN_put hi (⟨(slAt L s).f0, g⟩ : Sl)
  dsimp only at e
  rw [h.size]
  omega
/-- The generations of a row in which one slot is held, or is not, instead. -/
theorem gens_put {L : List Sl} {gens : List Int} (h : ∀ i (h : i < L.length) (h2 : i + 1 < gens.length), 0 ≤ gens[i + 1] ∧ gens[i + 1] < 18446744073709551616 ∧ gens[i + 1] % 1125899906842624 = L[i].f1) {s : Int} (hi : insideB L.length s = true) (f : Bool) :
    ∀ i (h : i < (putL L s ⟨f, (slAt L s).f1⟩).length) (h2 : i + 1 < gens.length), 0 ≤ gens[i + 1] ∧ gens[i + 1] < 18446744073709551616 ∧ gens[i + 1] % 1125899906842624 = (putL L s ⟨f, (slAt L s).f1⟩)[i].f1 := by
  intro i h1 h2
  rw [putL_len] at h1
  obtain ⟨b1, b2, b3⟩ := h i h1 h2
  refine ⟨b1, b2, b3.trans ?_⟩
  obtain ⟨i1, i2⟩ := inside_iff.1 hi
  simp only [putL]
  rw [List.getElem_set]
  split
  · rename_i e
    have hj : (s - 1).toNat < L.length := by omega
    have e2 := slAt_get hj
    subst e
    rw [e2]
  · rfl
theorem Gd.slips {w : World} {b gb mb : Nat} {L : List Sl} {sl : Int} (h : Gd w b gb mb L sl) (x : Int) : Gd (w.setCell ⟨b, 2, none⟩ (.int .i64 x)) b gb mb L x := by
  obtain ⟨n1, n2, n3⟩ := h.ne
  obtain ⟨c, cur, gens, D, h1, ⟨h2, h3⟩, h4, h5, h6⟩ := h
  exact ⟨c, cur, gens, D, blk_set h1 2 _, ⟨blk_far h2 (p := ⟨b, 2, none⟩) n1.symm _, h3⟩, h4, h5.setCell (a := ⟨b, 2, none⟩) n2.symm _, h6⟩
theorem Gd.turned {w w' : World} {b gb mb : Nat} {L : List Sl} {sl : Int} (h : Gd w b gb mb L sl) {s : Int} (hi : insideB L.length s = true) (f : Bool) {n : Nat} {D' : DataW Unit} (ho : w'.ownsMap Try.prog 3 (plainElem Try.prog 29) mb n D') (hg : w.grownBy w' (some mb)) (hd : HeldD D' (putL L s ⟨f, (slAt L s).f1⟩)) : Gd w' b gb mb (putL L s ⟨f, (slAt L s).f1⟩) sl := by
  obtain ⟨n1, n2, n3⟩ := h.ne
  obtain ⟨c, cur, gens, D, h1, ⟨h2, h3, h3b, h3c, h3d, h3e⟩, h4, h5, h6⟩ := h
  refine ⟨c, cur, gens, D', ?_, ⟨(hg.block gb (Array.getElem?_eq_some_iff.1 h2).1 (fun e => n3 (Option.some.inj e))).trans h2, h3, ?_, h3c, ?_, h3e⟩, gens_put h4 hi f, tight ho, hd⟩
  · rw [putL_len]
    exact (hg.block b (Array.getElem?_eq_some_iff.1 h1).1 (fun e => n2 (Option.some.inj e))).trans h1
  · rw [putL_len]; exact h3b
  · rw [putL_len]; exact h3d
theorem Gd.take {w : World} {b gb mb : Nat} {L : List Sl} {sl : Int} (h : Gd w b gb mb L sl) (hL : WfL L) {s : Int} (hs : (Lit.int .i64 s).wf = true) (hi : insideB L.length s = true) (hf : (slAt L s).f0 = false) :
    ∃ w', (Instr.mapUpdate 78 (.map (some mb)) (.int .i64 s) (.int .u64 1)).run Try.prog w = .ok () w' ∧ Gd w' b gb mb (putL L s ⟨true, (slAt L s).f1⟩) sl ∧ Keep3 w w' b gb mb := by
  have h0 := h
  obtain ⟨c, cur, gens, D, h1, h2, h4, h5, h6⟩ := h
  have hsz : Maps.size D < maxLen := by rw [h6.size]; have := heldN_le L; have := hL.1; unfold maxLen; omega
  obtain ⟨w', hr, ho, hg⟩ := h5.update keyed3 Try.underlying78 hsz (key3 hs) (plainElem_int Try.underlying29 (show (Lit.int .u64 1).wf = true from by decide))
  exact ⟨w', hr, h0.turned hi true ho hg (h6.put (h5.tidy keyed3) hs hi hf _), Keep3.grown hg⟩
theorem Gd.del {w : World} {b gb mb : Nat} {L : List Sl} {sl : Int} (h : Gd w b gb mb L sl) {s : Int} (hs : (Lit.int .i64 s).wf = true) (hi : insideB L.length s = true) (hf : (slAt L s).f0 = true) :
    ∃ D : DataW Unit, w.ownsMap Try.prog 3 (plainElem Try.prog 29) mb (Maps.size D) D ∧ ∀ W w', W.heap = w.heap → w'.ownsMap Try.prog 3 (plainElem Try.prog 29) mb (Maps.size D) (D.del (.int .i64 s)) → W.mapTurned w' mb → Gd w' b gb mb (putL L s ⟨false, (slAt L s).f1⟩) sl ∧ Keep3 W w' b gb mb := by
  have h0 := h
  obtain ⟨c, cur, gens, D, h1, h2, h4, h5, h6⟩ := h
  refine ⟨D, h5, fun W w' hW ho ht => ⟨?_, Keep3.grown ht.grown⟩⟩
  exact (h0.move (w' := W) (by rw [hW]) (by rw [hW]) (by rw [hW])).turned hi false ho ht.grown (h6.del (h5.tidy keyed3) hs hi hf _)
theorem Gd.inc {w : World} {b gb mb : Nat} {L : List Sl} {sl : Int} (h : Gd w b gb mb L sl) {s : Int} (hi : insideB L.length s = true) {g : Nat} (hg : g < 18446744073709551616) (he : ((g % 1125899906842624 : Nat) : Int) = (slAt L s).f1) : Gd (w.setCell ⟨gb, s.toNat, none⟩ (.int .u64 (IntKind.u64.wrap ((g : Int) + 1)))) b gb mb (putL L s ⟨(slAt L s).f0, nextG (slAt L s).f1⟩) sl := by
  obtain ⟨n1, n2, n3⟩ := h.ne
  obtain ⟨i1, i2⟩ := inside_iff.1 hi
  obtain ⟨c, cur, gens, D, h1, ⟨h2, h3, h3b, h3c, h3d, h3e⟩, h4, h5, h6⟩ := h
  refine ⟨c, cur.setIfInBounds s.toNat (.int .u64 (IntKind.u64.wrap ((g : Int) + 1))), gens.set s.toNat (IntKind.u64.wrap ((g : Int) + 1)), D, ?_, ⟨blk_set h2 s.toNat _, by rw [Array.size_setIfInBounds]; exact h3, by rw [putL_len]; exact h3b, h3c, by rw [List.length_set, putL_len]; exact h3d, fun j hj => ?_⟩, fun i hl hl2 => ?_, ?_, h6.same hi _⟩
  · rw [putL_len]; exact blk_far h1 (p := ⟨gb, s.toNat, none⟩) n1 _
  · rw [List.length_set] at hj
    rw [Array.getElem?_setIfInBounds, List.getElem_set]
    by_cases e : s.toNat = j
    · subst e; rw [if_pos rfl, if_pos rfl, if_pos (by omega)]
    · rw [if_neg e, if_neg e]; exact h3e j hj
  · rw [putL_len] at hl
    rw [List.length_set] at hl2
    obtain ⟨c1, c2, c3⟩ := h4 i hl hl2
    simp only [putL]
    rw [List.getElem_set, List.getElem_set]
    by_cases e : s.toNat = i + 1
    · rw [if_pos e, if_pos (by omega)]
      have hw := u64_wrap_eq ((g : Int) + 1)
      rw [hw]
      refine ⟨by omega, by omega, ?_⟩
      show _ = nextG _
      unfold nextG
      rw [← he]
      omega
    · rw [if_neg e, if_neg (by omega)]
      exact ⟨c1, c2, c3⟩
  · exact h5.setCell (a := ⟨gb, s.toNat, none⟩) n3.symm _
end Go.Proofs.Ytdmpfnnaefccnaa.GuardW
