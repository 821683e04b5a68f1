/- Guards of slots: what each method that turns a guard does. -/
import Derived.Test.YtdmpfnnaefccnaaGuardW
set_option linter.unusedVariables false
set_option linter.unusedSimpArgs false
namespace Go.Proofs.Ytdmpfnnaefccnaa.GuardX
open Go Go.Maps Go.RowKit Go.Proofs.YtdmpfnnaefccnaaW.PrintWords Go.Proofs.YtdmpfnnaefccnaaW.PrintLast Go.Proofs.YtdmpfnnaefccnaaW.PrintMore Go.Proofs.Ytdmpfnnaefccnaa.PGuardPlays Go.Proofs.Ytdmpfnnaefccnaa.Num Go.Proofs.Ytdmpfnnaefccnaa.Pure Go.Proofs.Ytdmpfnnaefccnaa.GuardW
/-- 'delete(m, k)' at a step of a region that draws its order. -/
theorem step_delete {w : World} {ops : Array Oper} {o : Oper} {a : Act} {K : Act → World → Prop} {Q : Exit → Act → World → Prop} {E : Prop} {W0 : World} {mb : Nat} {D : DataW Unit}
    (hown : W0.ownsMap Try.prog 3 (plainElem Try.prog 29) mb (Maps.size D) D) (hW : w.heap = W0.heap) {s : Int} (hs : (Lit.int .i64 s).wf = true)
    (hg : o.guard = none) (m x : Operand) (hop : o.op = Op.call { callee := Callee.builtin Builtin.delete, args := #[m, x], argTypes := #[78, 3] })
    (hm : a.eval m = .map (some mb)) (hx : a.eval x = .int .i64 s)
    (hK : ∀ w', w'.ownsMap Try.prog 3 (plainElem Try.prog 29) mb (Maps.size D) (D.del (.int .i64 s)) → w.mapTurned w' mb → K (a.put o.dst (.tuple #[])) w') :
    if Region.wanted o (yielded ops a.tmps) = true then Oper.wp Try.prog o a w K Q else E := by
  have hw : Region.wanted o (yielded ops a.tmps) = true := by simp [Region.wanted, hg]
  rw [if_pos hw]
  have hown2 : w.ownsMap Try.prog 3 (plainElem Try.prog 29) mb (Maps.size D) D := by
    obtain ⟨es, clock, h1, h2⟩ := hown
    exact ⟨es, clock, by rw [hW]; exact h1, h2⟩
  obtain ⟨w', hrun, r1, r2⟩ := hown2.drop keyed3 Try.underlying78 (key3 hs) o.type
  unfold Oper.wp
  simp [execOp, hop, resolve, invoke, builtin, hm, hx, hrun, Result.andThen]
  exact hK w' r1 r2
set_option maxHeartbeats 1000000 in
set_option maxRecDepth 100000 in
theorem held_calls {w : World} {b gb mb : Nat} {L : List Sl} {sl : Int} (hG : Gd w b gb mb L sl) : Calls Try.prog 34 #[.pointer (some ⟨b, 0, none⟩)] w fun e w' => e = .returned (.int .i64 (heldN L : Int)) ∧ w' = w := by
  have hu := Try.underlying80
  obtain ⟨c, hc1, hc2, b0, b1, b2, z2⟩ := hG.cells
  obtain ⟨c, cur, gens, D, h1, h2, h4, h5, h6⟩ := hG
  have hlen := h5.len Try.underlying78
  rw [h6.size] at hlen
  clear h1 h2 h4 h5 h6
  go_enter Try.func34, Try.ntmps34
  go_wp2
  go_ret
  exact ⟨rfl, rfl⟩
set_option maxHeartbeats 1000000 in
set_option maxRecDepth 100000 in
theorem slips_calls {w : World} {b gb mb : Nat} {L : List Sl} {sl : Int} (hG : Gd w b gb mb L sl) : Calls Try.prog 35 #[.pointer (some ⟨b, 0, none⟩)] w fun e w' => e = .returned (.int .i64 sl) ∧ w' = w := by
  have hu := Try.underlying80
  obtain ⟨c, hc1, hc2, b0, b1, b2, z2⟩ := hG.cells
  clear hG
  go_enter Try.func35, Try.ntmps35
  go_wp2
  go_ret
  exact ⟨rfl, rfl⟩
set_option maxHeartbeats 1000000 in
set_option maxRecDepth 100000 in
theorem take_calls {w : World} {b gb mb : Nat} {L : List Sl} {sl : Int} (hG : Gd w b gb mb L sl) (hL : WfL L) (s : Int) (hs : (Lit.int .i64 s).wf = true) : Calls Try.prog 36 #[.pointer (some ⟨b, 0, none⟩), .int .i64 s] w fun e w' => e = .returned (.bool (takeOk L s)) ∧ Gd w' b gb mb (takeL L s) (takeS L sl s) ∧ Keep3 w w' b gb mb := by
  have hu := Try.underlying80
  have TH := Aside0.mk (there_calls hG hL s)
  obtain ⟨c, hc1, hc2, b0, b1, b2, z2⟩ := hG.cells
  have SL := Aside0.mk (hG.slips (wrap64 (sl + 1)))
  have hlk := hG.look hs
  have ew : wrap64 (sl + 1) = IntKind.i64.wrap (sl + 1) := (i64_w _).symm
  cases hi : insideB L.length s with
  | false =>
    have e : takeOk L s = false := by unfold takeOk; rw [hi]; rfl
    have e1 : takeL L s = L := by unfold takeL; rw [e, if_neg (by decide)]
    have e2 : takeS L sl s = wrap64 (sl + 1) := by unfold takeS; rw [e, if_neg (by decide)]
    rw [hi] at TH
    rw [e, e1, e2]
    clear hG e e1 e2 hL hi hlk ew
    go_enter Try.func36, Try.ntmps36
    go_wp2_with (go_at_call 52; refine TH.out.mono ?_; rintro e w2 ⟨rfl, rfl⟩)
    go_ret
    exact ⟨rfl, SL.out, Keep3.setb _ _ _ _ _ _⟩
  | true =>
    cases hh : (slAt L s).f0 with
    | true =>
      have e : takeOk L s = false := by unfold takeOk; rw [hi, hh]; rfl
      have e1 : takeL L s = L := by unfold takeL; rw [e, if_neg (by decide)]
      have e2 : takeS L sl s = wrap64 (sl + 1) := by unfold takeS; rw [e, if_neg (by decide)]
      rw [show heldAt L s = true from by unfold heldAt; rw [hi, hh]; rfl, if_pos rfl] at hlk
      rw [hi] at TH
      rw [e, e1, e2]
      clear hG e e1 e2 hL hi ew hh
      go_enter Try.func36, Try.ntmps36
      go_wp2_with (go_at_call 52; refine TH.out.mono ?_; rintro e w2 ⟨rfl, rfl⟩)
      go_ret
      exact ⟨rfl, SL.out, Keep3.setb _ _ _ _ _ _⟩
    | false =>
      have e : takeOk L s = true := by unfold takeOk; rw [hi, hh]; rfl
      have e1 : takeL L s = putL L s ⟨true, (slAt L s).f1⟩ := by unfold takeL; rw [e, if_pos rfl]
      have e2 : takeS L sl s = sl := by unfold takeS; rw [e, if_pos rfl]
      rw [show heldAt L s = false from by unfold heldAt; rw [hi, hh]; rfl, if_neg (by decide)] at hlk
      obtain ⟨w9, hrun, hg9, hk9⟩ := hG.take hL hs hi hh
      have G9 := Aside0.mk hg9
      have K9 := Aside0.mk hk9
      rw [hi] at TH
      rw [e, e1, e2]
      clear hG e e1 e2 hL hi ew hh SL hg9 hk9
      go_enter Try.func36, Try.ntmps36
      go_wp2_with (go_at_call 52; refine TH.out.mono ?_; rintro e w2 ⟨rfl, rfl⟩)
      go_ret
      exact ⟨rfl, G9.out, K9.out⟩
set_option maxHeartbeats 2000000 in
set_option maxRecDepth 100000 in
theorem drop_calls {w : World} {b gb mb : Nat} {L : List Sl} {sl : Int} (hG : Gd w b gb mb L sl) (hL : WfL L) (x : Nat) (hx : x < 2 ^ 64) : Calls Try.prog 33 #[.pointer (some ⟨b, 0, none⟩), .int .u64 (x : Int)] w fun e w' => e = .returned (.bool (leadsB L x)) ∧ Gd w' b gb mb (dropL L x) (dropS L sl x) ∧ Keep3 w w' b gb mb := by
  have hu := Try.underlying80
  have LD := Aside0.mk (leads_calls hG hL x hx)
  cases hl : leadsB L x with
  | false =>
    obtain ⟨c, hc1, hc2, b0, b1, b2, z2⟩ := hG.cells
    have SL := Aside0.mk (fun n : Nat => (hG.drewN n).slips (wrap64 (sl + 1)))
    have e1 : dropL L x = L := by unfold dropL; rw [hl, if_neg (by decide)]
    have e2 : dropS L sl x = wrap64 (sl + 1) := by unfold dropS; rw [hl, if_neg (by decide)]
    rw [hl] at LD
    rw [e1, e2]
    clear hG e1 e2 hL hl
    go_enter Try.func33, Try.ntmps33
    go_wp2_with (go_at_call 32; refine LD.out.mono ?_; rintro e w2 ⟨rfl, n, rfl⟩)
    go_ret
    exact ⟨rfl, SL.out n, (Keep3.drewN _ _ _ _ _).trans (Keep3.setb _ _ _ _ _ _)⟩
  | true =>
    have hh : (slAt L (slotN x)).f0 = true ∧ insideB L.length (slotN x) = true := by
      unfold leadsB heldAt at hl
      rw [Bool.and_eq_true, Bool.and_eq_true] at hl
      exact ⟨hl.1.2, hl.1.1⟩
    have e1 : dropL L x = putL L (slotN x) ⟨false, nextG (slAt L (slotN x)).f1⟩ := by unfold dropL; rw [hl, if_pos rfl]
    have e2 : dropS L sl x = sl := by unfold dropS; rw [hl, if_pos rfl]
    obtain ⟨D, hown, hdel⟩ := hG.del (slot_wf x) hh.2 hh.1
    have OW := Aside0.mk hown
    have DL := Aside0.mk hdel
    have HH := Aside0.mk hh
    have SL := Aside0.mk (fun W : World => slot_some x hx W)
    obtain ⟨c, hc1, hc2, b0, b1, b2, z2⟩ := hG.cells
    rw [hl] at LD
    rw [e1, e2]
    clear e1 e2 hl hown hdel hh
    go_enter Try.func33, Try.ntmps33
    go_wp2_with fail
    refine LD.out.mono ?_
    rintro e w2 ⟨rfl, n, rfl⟩
    go_upto_region 6 with (fail)
    go_cut [20] (fun _ wc => Aside0 (Gd wc b gb mb (putL L (slotN x) ⟨false, (slAt L (slotN x)).f1⟩) sl ∧ Keep3 w wc b gb mb))
    case first =>
      go_region_law (first | (go_simp; go_at_call 54; refine (SL.out _).mono ?_; rintro e w4 ⟨rfl, n4, rfl⟩) | (refine step_delete OW.out ?hW (slot_wf x) rfl _ _ rfl rfl rfl ?_; (case hW => rfl); intro w5 hown5 hturn5; have G5 := Aside0.mk (DL.out _ _ (by rfl) hown5 hturn5); clear hown5 hturn5))
      all_goals go_wp2
      all_goals go_meet
      all_goals exact ⟨G5.out.1, (Keep3.drewN _ _ _ _ _).trans G5.out.2⟩
    case rest =>
      obtain ⟨GK⟩ := hcut
      have G6 := Aside0.mk GK.1
      have K6 := Aside0.mk GK.2
      have i6 : insideB (putL L (slotN x) ⟨false, (slAt L (slotN x)).f1⟩).length (slotN x) = true := by rw [putL_len]; exact HH.out.2
      have e6 := slAt_put_same HH.out.2 (⟨false, (slAt L (slotN x)).f1⟩ : Sl)
      obtain ⟨g, g1, g2, g3, g4⟩ := GK.1.gen i6
      obtain ⟨c6, hc61, hc62, b60, b61, b62, z62⟩ := GK.1.cells
      have GI := Aside0.mk (fun n : Nat => (GK.1.drewN n).inc i6 g1 g2)
      obtain ⟨i1, i2⟩ := inside_iff.1 HH.out.2
      rw [putL_len] at b60
      have q0 : 0 ≤ slotN x := by omega
      have q1 : slotN x < ((L.length + 1 : Nat) : Int) := by omega
      have EP := Aside0.mk (show putL (putL L (slotN x) ⟨false, (slAt L (slotN x)).f1⟩) (slotN x) ⟨(slAt (putL L (slotN x) ⟨false, (slAt L (slotN x)).f1⟩) (slotN x)).f0, nextG (slAt (putL L (slotN x) ⟨false, (slAt L (slotN x)).f1⟩) (slotN x)).f1⟩ = putL L (slotN x) ⟨false, nextG (slAt L (slotN x)).f1⟩ from by rw [e6]; unfold putL; rw [List.set_set])
      clear GK G6 e6 i6 b0 b1 b2 z2 hc1 hc2
      go_upto_region 7 with (fail)
      go_region_with (go_at_call 54; refine (SL.out _).mono ?_; rintro e w7 ⟨rfl, n7, rfl⟩)
      all_goals go_wp2
      all_goals go_ret
      all_goals refine ⟨rfl, ?_, K6.out.trans ((Keep3.drewN _ _ _ _ _).trans (Keep3.setg _ _ _ _ _ _))⟩
      all_goals rw [← EP.out]
      all_goals exact GI.out _
theorem slAt_rep (n : Nat) (i : Int) : slAt (List.replicate n z91) i = z91 := by
  unfold slAt
  rw [List.getD_eq_getElem?_getD, List.getElem?_replicate]
  split <;> rfl
theorem held_rep (n : Nat) (i : Int) : heldAt (List.replicate n z91) i = false := by
  unfold heldAt
  rw [slAt_rep]
  exact Bool.and_false _
theorem heldD_new (n : Nat) : HeldD (.map []) (List.replicate n z91) := by
  refine ⟨fun i _ => ?_, fun i _ => ?_, ?_⟩
  · rw [held_rep]; rfl
  · rw [held_rep, if_neg (by decide)]; exact atKey_of_not_has rfl _
  · show 0 = heldN _
    unfold heldN
    induction n with
    | zero => rfl
    | succ n ih => rw [List.replicate_succ, List.filter_cons, if_neg (by decide)]; exact ih
theorem info29 : (Try.prog.info? 29).map (fun i => (i.zero, i.size, i.bytes)) = some (some (.int .u64 0), 1, 8) := by kernel_rfl
set_option maxRecDepth 100000 in
theorem new_none (w : World) (n : Int) (hi : insideB 250 n = false) : Calls Try.prog 26 #[.int .i64 n] w fun e w' => e = .returned (.pointer none) ∧ w' = w := by
  by_cases h1 : n < 1
  · have d1 : decide (n < 1) = true := decide_eq_true h1
    clear hi
    go_enter Try.func26, Try.ntmps26
    go_wp2
    go_ret
    exact ⟨rfl, rfl⟩
  · have h2 : 250 < n := by
      by_cases h : 250 < n
      · exact h
      · rw [inside_iff.2 ⟨by omega, by omega⟩] at hi; cases hi
    have d1 : decide (n < 1) = false := decide_eq_false h1
    have d2 : decide (250 < n) = true := decide_eq_true h2
    clear hi
    go_enter Try.func26, Try.ntmps26
    go_wp2
    go_ret
    exact ⟨rfl, rfl⟩
set_option maxHeartbeats 1000000 in
set_option maxRecDepth 100000 in
theorem new_calls (w : World) (n : Int) (hi : insideB 250 n = true) : Calls Try.prog 26 #[.int .i64 n] w fun e w' => ∃ b gb mb, e = .returned (.pointer (some ⟨b, 0, none⟩)) ∧ Gd w' b gb mb (newL n) 0 ∧ (w.heap.size ≤ b ∧ w.heap.size ≤ gb ∧ w.heap.size ≤ mb) ∧ Below w.heap.size w w' := by
  have hu := Try.underlying80
  have hmm := @run_makeMap Try.prog
  obtain ⟨i0, hi0, hz0, hz1, hz2⟩ := info_parts info29
  obtain ⟨i1, i2⟩ := inside_iff.1 hi
  obtain ⟨N, rfl⟩ : ∃ N : Nat, n = N := ⟨n.toNat, by omega⟩
  have d1 : decide ((N : Int) < 1) = false := decide_eq_false (by omega)
  have d2 : decide (250 < (N : Int)) = false := decide_eq_false (by omega)
  have q1 : IntKind.i64.wrap ((N : Int) + 1) = (N : Int) + 1 := by rw [IntKind.wrap_i64]; omega
  have e1 : newL (N : Int) = List.replicate N z91 := by unfold newL; rw [if_pos hi, Int.toNat_natCast]
  rw [e1]
  clear hi
  go_enter Try.func26, Try.ntmps26
  go_wp2_with (first | (at_make; refine wpList_make_full _ rfl _ _ 22 rfl w.heap.size 29 i0 (.int .u64 0) 1 Try.underlying22 hi0 hz0 hz1 .i64 .i64 _ _ (N + 1) rfl rfl (by omega) (by omega) (by rw [hz2]; omega) (by unfold maxLen; omega) (Nat.le_refl _) ?_; intro w1 hown hgrow; have OW := Aside0.mk hown; have GR := Aside0.mk hgrow; clear hown hgrow))
  go_ret
  have GW := GR.out
  have hz := OW.out
  rw [show (Value.int .u64 0).cells = #[Value.int .u64 0] from rfl, Nat.mul_one, toList_madeCells_one] at hz
  obtain ⟨hlen, ⟨hv, _⟩ | ⟨g, cap, cur, hv, hbs, hg, h1, h2, h3, h4⟩⟩ := hz
  · cases hv
  · injection hv with hv1 hv2 hv3
    injection hv1 with hv1
    injection hv1 with hv1
    subst hv1
    subst hv3
    rw [Nat.mul_one] at h3 h4
    have hcur : cur.toList = List.replicate (N + 1) (Value.int .u64 0) := by
      rw [← h4, List.take_of_length_le (by rw [Array.length_toList]; omega)]
    have s1 : (w1.alloc (.map #[] 0)).heap.size = w1.heap.size + 1 := by simp
    have lg := GW.size
    have lh : w.heap.size < w1.heap.size := (Array.getElem?_eq_some_iff.1 hg).1
    have BB : Below w.heap.size w w1 := ⟨GW.os, GW.tape, GW.output, lg, fun k hk => GW.block k hk (by simp)⟩
    refine ⟨w1.heap.size + 1, w.heap.size, w1.heap.size, rfl, ⟨N + 1, cur, List.replicate (N + 1) 0, .map [], ?_, ⟨blk_alloc (blk_alloc hg _) _, h3, by rw [List.length_replicate]; omega, by omega, by rw [List.length_replicate, List.length_replicate], fun j hj => ?_⟩, fun i hi hi2 => ?_, ((World.ownsMap_made w1 Try.prog 3 (plainElem Try.prog 29)).alloc _), heldD_new N⟩, ⟨by omega, by omega, by omega⟩, below_alloc (below_alloc BB _) _⟩
    · rw [List.length_replicate, ← s1]
      exact heap_alloc_new (w1.alloc (.map #[] 0)) _
    · rw [List.length_replicate] at hj
      rw [← Array.getElem?_toList, hcur, List.getElem_replicate, List.getElem?_replicate, if_pos hj]
    · rw [List.getElem_replicate, List.getElem_replicate]
      exact ⟨Int.le_refl _, by omega, rfl⟩
end Go.Proofs.Ytdmpfnnaefccnaa.GuardX
