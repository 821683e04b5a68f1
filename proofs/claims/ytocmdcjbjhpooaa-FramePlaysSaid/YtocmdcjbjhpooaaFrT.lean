/- What any calls of a thread tell is the document's: the walk of the law. -/
import Derived.Test.YtocmdcjbjhpooaaFrS
set_option linter.unusedVariables false
set_option linter.unusedSimpArgs false
namespace Go.Proofs.Ytocmdcjbjhpooaa.FrW
open Go Go.RowKit Go.Proofs.YtocmdcjbjhpooaaW.PrintWords Go.Proofs.YtocmdcjbjhpooaaW.PrintLast Go.Proofs.YtocmdcjbjhpooaaW.PrintMore Go.Proofs.Ytocmdcjbjhpooaa.PFrameOrders Go.Proofs.Ytocmdcjbjhpooaa.GRow Go.Proofs.Ytocmdcjbjhpooaa.Num Go.Proofs.Ytocmdcjbjhpooaa.Bxs Go.Proofs.Ytocmdcjbjhpooaa.InsW Go.Proofs.Ytocmdcjbjhpooaa.Pure
def fp9_T : Bool × List (List Nat × List Nat) := (true, [([], []), ([], []), ([], []), ([1, 2], [1, 2]), ([3], [3]), ([0, 4], [0, 4]), ([5], [5]), ([6], [6]), ([6], [6]), ([6], [6]), ([], []), ([10, 7, 5, 0, 1, 2, 3, 4, 5, 6, 7, 10], [7, 10]), ([8, 11, 0, 1, 2, 3, 4, 5, 6, 7, 8, 10, 11], [8]), ([9, 12, 0, 1, 2, 3, 4, 5, 6, 7, 8, 9, 10, 11, 12], [9])])
def fp9_B : List Nat := [0, 0, 0, 6, 14, 31, 63, 127, 127, 127, 0, 1279, 3583, 8191]
theorem fp9_tab : rtab .any (opsOf Try.f3 9) = fp9_T := by kernel_rfl
theorem fp9_bits : waitsOk fp9_T.2 fp9_B = true := by kernel_rfl
set_option maxHeartbeats 4000000 in
set_option maxRecDepth 100000 in
theorem plays_lives (l : List S39) (A : Option Addr) (c : Nat) (w : World) (hr : Kd.C k39 w A l.length l) (hc : l.length ≤ c) (k : Nat) (hg : deadwoodlaw15_great.f k l = some true) :
    Calls Try.prog 3 #[.slice A l.length c] w fun e w' => e = .returned (.bool true) ∧ Below w.heap.size w w' := by
  have G := Aside0.mk (deadwoodlaw15_great.calls k A c l true w hr hc hg)
  clear hg hr
  go_enter Try.func3, Try.ntmps3
  go_wp2_with fail
  refine G.out.mono ?_
  rintro e w2 ⟨rfl, ⟨nd, rfl⟩⟩
  have B1 := Aside0.mk (pw_below_drewN (Below.refl w.heap.size w) nd)
  go_wp2_with fail
  refine (lives_calls _).mono ?_
  rintro e w3 ⟨rfl, hb⟩
  have HB := Aside0.mk (below_then B1.out B1.out.size hb)
  clear hb
  go_wp2
  all_goals go_ret
  all_goals exact ⟨rfl, HB.out⟩
set_option maxHeartbeats 4000000 in
set_option maxRecDepth 100000 in
theorem plays_in (l : List S39) (A : Option Addr) (c : Nat) (w : World) (hr : Kd.C k39 w A l.length l) (hc : l.length ≤ c) (k : Nat) (hg : deadwoodlaw15_great.f k l = some false) (hl : l.length ≤ 80) (ho : ∀ o ∈ l, o.f2.length ≤ 100) :
    Calls Try.prog 3 #[.slice A l.length c] w fun e w' => e = .returned (.bool true) ∧ Below w.heap.size w w' := by
  have hu := Try.underlying33
  have huO := Try.underlying39
  have G := Aside0.mk (deadwoodlaw15_great.calls k A c l false w hr hc hg)
  have FO := Aside0.mk (Kd.C_F k39_heap hr)
  have HO := Aside0.mk ho
  clear hg hr ho
  go_enter Try.func3, Try.ntmps3
  go_wp2_with fail
  refine G.out.mono ?_
  rintro e w2 ⟨rfl, ⟨nd, rfl⟩⟩
  have B1 := Aside0.mk (pw_below_drewN (Below.refl w.heap.size w) nd)
  generalize w.drewN nd = w1 at B1 ⊢
  go_wp2_with fail
  refine (new_calls (W := w1)).mono ?_
  rintro e w2 ⟨rfl, T2, hb⟩
  have T2 := Aside0.mk T2
  have B2 := Aside0.mk (below_then B1.out B1.out.size hb)
  have N2 := Aside0.mk (And.intro B1.out.size hb.size)
  clear hb G
  have THR := Aside0.mk (thr_z w2)
  have ONE := Aside0.mk (one_tC (r := fun _ => 0) (A1 := none) (A2 := none) (A3 := none) (n1 := 0) (n2 := 0) (n3 := 0) (c1 := 0) (c2 := 0) (c3 := 0))
  have L0 := Aside0.mk (ls_start (w := w) T2.out B2.out N2.out.1)
  clear T2
  generalize hbb : w1.heap.size = b at L0 ⊢
  go_upto_region 5 with ((with_reducible refine gate_store (t := 33) (p := 4) rfl ?_); refine wpList_store_mid rfl 33 _ _ rfl w2.heap.size 0 (tC (fun _ => 0) (.slice none 0 0) (.slice none 0 0) (.slice none 0 0)).toArray rfl rfl THR.out (by kernel_rfl) ONE.out ?_)
  refine gen2 (Φ := fun X => LS w X b b w2.heap.size 0 Ses.zero ⟨fun _ => 0, [], [], []⟩) L0.out ?_
  clear L0 THR ONE
  generalize w2.heap.size = xb
  intro X LX
  have LX := Aside0.mk LX
  clear B2 N2 B1 hbb
  go_wp2
  go_loopg [5] l.length (fun kx s5 wr => ∃ (i : Nat) (t : TS), s5 = .int .i64 i ∧ i + kx = l.length ∧ Aside0 (LS w wr b b xb i Ses.zero t))
  case atStart => exact ⟨0, _, rfl, by omega, LX⟩
  case round =>
    clear LX
    obtain ⟨i, t, rfl, hi, LX⟩ := hrel
    by_cases hlt : i < l.length
    · have q1 : (i : Int) < (l.length : Int) := by omega
      obtain ⟨ad, A2, c2, hA, hC, hl2, hF2⟩ := op_at FO.out i hlt
      subst hA
      have hl3 := HO.out l[i] (List.getElem_mem hlt)
      generalize l[i] = o at hC hl2 hF2 hl3
      have HL2 := Aside0.mk hl2
      have HL3 := Aside0.mk (Nat.le_trans hl3 (by decide : 100 ≤ 1000000))
      have HF2 := Aside0.mk hF2
      have HC := Aside0.mk hC
      clear hl2 hl3 hF2 hC
      have hi1 : i ≤ 1000000 := by omega
      obtain ⟨p0, p1, p2, p3, p4⟩ := HC.out.below LX.out.bl
      go_wp2_with fail
      refine (LX.out.moves (by omega) (cL := c2) o HF2.out).mono ?_
      rintro e w2 ⟨rfl, hM⟩
      have MX := Aside0.mk hM
      clear p0 p1 p2 p3 p4 hM LX
      obtain ⟨p0, p1, p2, p3, p4⟩ := HC.out.below MX.out.bl
      have IV := Aside0.mk MX.out.iv
      obtain ⟨P, vF, vR, vS, fs, v1, v2, v3, hT, hcs, hP, hPx, hxb, hR⟩ := MX.out.ex
      have HX2 := Aside0.mk (show w2.drew.heap[xb]? = _ from hxb)
      have HR := Aside0.mk (show RT w2.drew (fun k => ¬ P k) v1 v2 v3 t.fs t.row t.st from hR.below (below_drew1 (Below.refl _ _)))
      have HOK : Aside0 (∀ k, w2.drew.heap.size ≤ k → ¬ P k) := ⟨fun k hk hp => by have h1 := hP k hp; have h2 : w2.heap.size ≤ k := hk; omega⟩
      have HCL : Aside0 (∀ (Y : World), Below w2.drew.heap.size w2.drew Y → Kd.C (Kd.int .u64) Y A2 o.f2.length o.f2) := ⟨fun Y hY => Kd.F_now (Kd.F_below (Kd.F_below HF2.out MX.out.bl) (below_drewl hY))⟩
      have b0 := rng_of hxb
      have HXX := Aside0.mk hxb
      have TT := Aside0.mk (And.intro hT (And.intro hcs (And.intro hP hPx)))
      have DW := Aside0.mk (below_drew1 (Below.refl w2.heap.size w2))
      clear hT hcs hP hPx hxb hR
      go_upto_region 9 with (fail)
      refine start_ (n := 14) (S := fun W' => W'.rangeAt xb 0 (tC t.r v1 v2 v3) ∧ W'.cell? (ad.add (i * 5)) = some (.int .i64 o.f0) ∧ W'.cell? ⟨(ad.add (i * 5)).block, (ad.add (i * 5)).off + 1, none⟩ = some (.int .i64 o.f1) ∧ W'.cell? ⟨(ad.add (i * 5)).block, (ad.add (i * 5)).off + 2, none⟩ = some (.slice A2 o.f2.length c2) ∧ W'.cell? ⟨(ad.add (i * 5)).block, (ad.add (i * 5)).off + 3, none⟩ = some (.int .i64 o.f3.f0) ∧ W'.cell? ⟨(ad.add (i * 5)).block, (ad.add (i * 5)).off + 4, none⟩ = some (.int .i64 o.f3.f1)) (ds := [11]) #[false, false, false, false, false, false, false, false, false, false, false, false, false, false] (by kernel_rfl) rfl rfl ⟨b0, p0, p1, p2, p3, p4⟩ (fun hHeld => ?_); refine with_tabW fp9_tab fp9_bits (fun HT_ HW_ => ?_)
      generalize w2.drew = wd_ at b0 p0 p1 p2 p3 p4 HR HOK HCL HX2 DW hHeld ⊢
      have hH0_ := hHeld; obtain ⟨c0_, c1_, c2_, c3_, c4_, c5_⟩ := hH0_
      refine pure_ (i := 1) (N := some 33) (v := ?_) (a' := ?_) #[false, true, false, false, false, false, false, false, false, false, false, false, false, false] rfl rfl (any_of HT_.out (by kernel_rfl)) (fun _ _ _ h => h) (Or.inl ⟨by rfl, ?_⟩) ?_ ?_
      rotate_left
      · intro w'
        go_simp
        with_reducible rfl
      rotate_left
      · simp only [Act.put, List.setIfInBounds_toArray, List.set_cons_zero, List.set_cons_succ, i64_w, i32_w]
        rfl
      refine pure_ (i := 2) (N := some 34) (v := ?_) (a' := ?_) #[false, true, true, false, false, false, false, false, false, false, false, false, false, false] rfl rfl (any_of HT_.out (by kernel_rfl)) (fun _ _ _ h => h) (Or.inl ⟨by rfl, ?_⟩) ?_ ?_
      rotate_left
      · intro w'
        go_simp
        with_reducible rfl
      rotate_left
      · simp only [Act.put, List.setIfInBounds_toArray, List.set_cons_zero, List.set_cons_succ, i64_w, i32_w]
        rfl
      refine pure_ (i := 3) (N := some 35) (v := ?_) (a' := ?_) #[false, true, true, true, false, false, false, false, false, false, false, false, false, false] rfl rfl (any_of HT_.out (by kernel_rfl)) (fun _ _ _ h => h) (Or.inl ⟨by rfl, ?_⟩) ?_ ?_
      rotate_left
      · intro w'
        go_simp
        with_reducible rfl
      rotate_left
      · simp only [Act.put, List.setIfInBounds_toArray, List.set_cons_zero, List.set_cons_succ, i64_w, i32_w]
        rfl
      refine take_ (i := 0) (N := some 32) (v := .agg (tC t.r v1 v2 v3).toArray) (a' := ?_) #[true, true, true, true, false, false, false, false, false, false, false, false, false, false] rfl rfl (take_ofW HT_.out HW_.out (by kernel_rfl)) (fun _ _ _ h => h) ?hy hHeld ?_ ?_
      (case hy => exact yieldsIf_load_mid (by rfl) 33 _ rfl xb 0 rfl (tC t.r v1 v2 v3) _ (fun _ h => h.1) Try.underlying33 rfl (by kernel_rfl))
      rotate_left
      · simp only [Act.put, List.setIfInBounds_toArray, List.set_cons_zero, List.set_cons_succ, i64_w, i32_w]
        rfl
      refine take_ (i := 4) (N := some 36) (v := ?_) (a' := ?_) #[true, true, true, true, true, false, false, false, false, false, false, false, false, false] rfl rfl (take_ofW HT_.out HW_.out (by kernel_rfl)) (fun _ _ _ h => h) (Or.inl ⟨by rfl, ?_⟩) hHeld ?_ ?_
      rotate_left
      · rintro w' ⟨s0, s1, s2, s3, s4, s5⟩
        go_simp
        with_reducible rfl
      rotate_left
      · simp only [Act.put, List.setIfInBounds_toArray, List.set_cons_zero, List.set_cons_succ, i64_w, i32_w]
        rfl
      have FR0 := Aside0.mk (RC.start wd_ (fun k => ¬ P k) (stepT t o).1)
      refine join_ (σ := Value × Value × Value × Nat) 3 #[true, true, true, true, true, true, true, true, true, true, true, false, false, false] (fun s_ => [(37, .tuple #[.agg (tC (stepT t o).1.r s_.1 s_.2.1 s_.2.2.1).toArray, .int .u64 (stepT t o).2.1, .bool (stepT t o).2.2]), (31, .tuple #[.agg (tC (stepT t o).1.r s_.1 s_.2.1 s_.2.2.1).toArray, .int .u64 (stepT t o).2.1, .bool (stepT t o).2.2]), (38, .agg (tC (stepT t o).1.r s_.1 s_.2.1 s_.2.2.1).toArray), (39, .int .u64 (stepT t o).2.1), (40, .bool (stepT t o).2.2), (8, .pointer (some ⟨s_.2.2.2, 0, none⟩))]) (fun s_ w' => (w'.rangeAt xb 0 (tC t.r v1 v2 v3) ∧ w'.cell? (ad.add (i * 5)) = some (.int .i64 o.f0) ∧ w'.cell? ⟨(ad.add (i * 5)).block, (ad.add (i * 5)).off + 1, none⟩ = some (.int .i64 o.f1) ∧ w'.cell? ⟨(ad.add (i * 5)).block, (ad.add (i * 5)).off + 2, none⟩ = some (.slice A2 o.f2.length c2) ∧ w'.cell? ⟨(ad.add (i * 5)).block, (ad.add (i * 5)).off + 3, none⟩ = some (.int .i64 o.f3.f0) ∧ w'.cell? ⟨(ad.add (i * 5)).block, (ad.add (i * 5)).off + 4, none⟩ = some (.int .i64 o.f3.f1)) ∧ Aside0 (RC wd_ (fun k => ¬ P k) (stepT t o).1 (some (s_.1, s_.2.1, s_.2.2.1)) (some s_.2.2.2) w')) ?_ ?_
      rotate_left
      · intro hCont
        refine two_ (i := 5) (j := 10) (Ni := some 37) (Nj := some 8) #[true, true, true, true, true, true, false, false, false, false, false, false, false, false] #[true, true, true, true, true, false, false, false, false, false, true, false, false, false] rfl rfl rfl rfl (two_of HT_.out (by kernel_rfl)) (by decide) (by decide) (fun K hK => ?_) (fun K hK => ?_)
        · skip
          refine goes_ Try.func14 (by kernel_rfl) rfl #[.agg (tC t.r v1 v2 v3).toArray, .agg #[.int .i64 o.f0, .int .i64 o.f1, .slice A2 o.f2.length c2, .int .i64 o.f3.f0, .int .i64 o.f3.f1]] (by rfl) rfl rfl (by (try simp only [List.map_toArray, List.map_cons, List.map_nil]); first | done | rfl) ?_
          refine (rdo_step (t := t) (FR0.out.src HR.out) (FR0.out.ok HOK.out) (IV.out.le hi1) o (HCL.out _ FR0.out.b) HL2.out HL3.out).mono ?_
          rintro e_ wq ⟨u1, u2, u3, rfl, hR, hb⟩
          have FR1 := Aside0.mk (RC.call FR0.out hb hR)
          clear hb hR
          refine ⟨_, rfl, ?_⟩
          refine hK.out _ _ ⟨(rng_below FR1.out.b c0_), (pw_cell_below FR1.out.b c1_), (pw_cell_below FR1.out.b c2_), (pw_cell_below FR1.out.b c3_), (pw_cell_below FR1.out.b c4_), (pw_cell_below FR1.out.b c5_)⟩ (fun hHeld => ?_)
          clear hK K
          refine norm_ (a' := ?_) ?_ ?_
          rotate_left
          · show Act.put _ (some 37) _ = _
            simp only [Act.put, List.setIfInBounds_toArray, List.set_cons_zero, List.set_cons_succ, i64_w, i32_w]
            rfl
          refine pure_ (i := 6) (N := some 31) (v := ?_) (a' := ?_) #[true, true, true, true, true, true, true, false, false, false, false, false, false, false] rfl rfl (any_of HT_.out (by kernel_rfl)) (fun _ _ _ h => h) (Or.inl ⟨by rfl, ?_⟩) ?_ ?_
          rotate_left
          · intro w'
            go_simp
            with_reducible rfl
          rotate_left
          · simp only [Act.put, List.setIfInBounds_toArray, List.set_cons_zero, List.set_cons_succ, i64_w, i32_w]
            rfl
          refine pure_ (i := 7) (N := some 38) (v := ?_) (a' := ?_) #[true, true, true, true, true, true, true, true, false, false, false, false, false, false] rfl rfl (any_of HT_.out (by kernel_rfl)) (fun _ _ _ h => h) (Or.inl ⟨by rfl, ?_⟩) ?_ ?_
          rotate_left
          · intro w'
            go_simp
            with_reducible rfl
          rotate_left
          · simp only [Act.put, List.setIfInBounds_toArray, List.set_cons_zero, List.set_cons_succ, i64_w, i32_w]
            rfl
          refine pure_ (i := 8) (N := some 39) (v := ?_) (a' := ?_) #[true, true, true, true, true, true, true, true, true, false, false, false, false, false] rfl rfl (any_of HT_.out (by kernel_rfl)) (fun _ _ _ h => h) (Or.inl ⟨by rfl, ?_⟩) ?_ ?_
          rotate_left
          · intro w'
            go_simp
            with_reducible rfl
          rotate_left
          · simp only [Act.put, List.setIfInBounds_toArray, List.set_cons_zero, List.set_cons_succ, i64_w, i32_w]
            rfl
          refine pure_ (i := 9) (N := some 40) (v := ?_) (a' := ?_) #[true, true, true, true, true, true, true, true, true, true, false, false, false, false] rfl rfl (any_of HT_.out (by kernel_rfl)) (fun _ _ _ h => h) (Or.inl ⟨by rfl, ?_⟩) ?_ ?_
          rotate_left
          · intro w'
            go_simp
            with_reducible rfl
          rotate_left
          · simp only [Act.put, List.setIfInBounds_toArray, List.set_cons_zero, List.set_cons_succ, i64_w, i32_w]
            rfl
          refine one_ (i := 10) (N := some 8) #[true, true, true, true, true, true, true, true, true, true, true, false, false, false] rfl rfl (one_of HT_.out (by kernel_rfl)) (by decide) (fun K hK => ?_)
          skip
          refine box_step ?hg (N := 8) ?hd (cs := (tC (fun _ => 0) (.slice none 0 0) (.slice none 0 0) (.slice none 0 0)).toArray) (t := 33) ?hr ?_; (case hd => rfl); (case hg => rfl); (case hr => first | (go_simp; done) | (go_simp; rfl))
          intro g8 hg wq hbox hb
          have FR2 := Aside0.mk (RC.box FR1.out hg hbox hb)
          clear hg hbox hb
          refine hK.out _ _ ⟨(rng_below FR2.out.b c0_), (pw_cell_below FR2.out.b c1_), (pw_cell_below FR2.out.b c2_), (pw_cell_below FR2.out.b c3_), (pw_cell_below FR2.out.b c4_), (pw_cell_below FR2.out.b c5_)⟩ (fun hHeld => ?_)
          clear hK K
          refine norm_ (a' := ?_) ?_ ?_
          rotate_left
          · show Act.put _ (some 8) _ = _
            simp only [Act.put, List.setIfInBounds_toArray, List.set_cons_zero, List.set_cons_succ, i64_w, i32_w]
            rfl
          exact norm_ (by simp only [putAll, Act.put, List.setIfInBounds_toArray, List.set_cons_zero, List.set_cons_succ]) (hCont (u1, u2, u3, g8) _ ⟨hHeld, FR2⟩)
        · skip
          refine box_step ?hg (N := 8) ?hd (cs := (tC (fun _ => 0) (.slice none 0 0) (.slice none 0 0) (.slice none 0 0)).toArray) (t := 33) ?hr ?_; (case hd => rfl); (case hg => rfl); (case hr => first | (go_simp; done) | (go_simp; rfl))
          intro g8 hg wq hbox hb
          have FR3 := Aside0.mk (RC.box FR0.out hg hbox hb)
          clear hg hbox hb
          refine hK.out _ _ ⟨(rng_below FR3.out.b c0_), (pw_cell_below FR3.out.b c1_), (pw_cell_below FR3.out.b c2_), (pw_cell_below FR3.out.b c3_), (pw_cell_below FR3.out.b c4_), (pw_cell_below FR3.out.b c5_)⟩ (fun hHeld => ?_)
          clear hK K
          refine norm_ (a' := ?_) ?_ ?_
          rotate_left
          · show Act.put _ (some 8) _ = _
            simp only [Act.put, List.setIfInBounds_toArray, List.set_cons_zero, List.set_cons_succ, i64_w, i32_w]
            rfl
          refine one_ (i := 5) (N := some 37) #[true, true, true, true, true, true, false, false, false, false, true, false, false, false] rfl rfl (one_of HT_.out (by kernel_rfl)) (by decide) (fun K hK => ?_)
          skip
          refine goes_ Try.func14 (by kernel_rfl) rfl #[.agg (tC t.r v1 v2 v3).toArray, .agg #[.int .i64 o.f0, .int .i64 o.f1, .slice A2 o.f2.length c2, .int .i64 o.f3.f0, .int .i64 o.f3.f1]] (by rfl) rfl rfl (by (try simp only [List.map_toArray, List.map_cons, List.map_nil]); first | done | rfl) ?_
          refine (rdo_step (t := t) (FR3.out.src HR.out) (FR3.out.ok HOK.out) (IV.out.le hi1) o (HCL.out _ FR3.out.b) HL2.out HL3.out).mono ?_
          rintro e_ wq ⟨u1, u2, u3, rfl, hR, hb⟩
          have FR4 := Aside0.mk (RC.call FR3.out hb hR)
          clear hb hR
          refine ⟨_, rfl, ?_⟩
          refine hK.out _ _ ⟨(rng_below FR4.out.b c0_), (pw_cell_below FR4.out.b c1_), (pw_cell_below FR4.out.b c2_), (pw_cell_below FR4.out.b c3_), (pw_cell_below FR4.out.b c4_), (pw_cell_below FR4.out.b c5_)⟩ (fun hHeld => ?_)
          clear hK K
          refine norm_ (a' := ?_) ?_ ?_
          rotate_left
          · show Act.put _ (some 37) _ = _
            simp only [Act.put, List.setIfInBounds_toArray, List.set_cons_zero, List.set_cons_succ, i64_w, i32_w]
            rfl
          refine pure_ (i := 6) (N := some 31) (v := ?_) (a' := ?_) #[true, true, true, true, true, true, true, false, false, false, true, false, false, false] rfl rfl (any_of HT_.out (by kernel_rfl)) (fun _ _ _ h => h) (Or.inl ⟨by rfl, ?_⟩) ?_ ?_
          rotate_left
          · intro w'
            go_simp
            with_reducible rfl
          rotate_left
          · simp only [Act.put, List.setIfInBounds_toArray, List.set_cons_zero, List.set_cons_succ, i64_w, i32_w]
            rfl
          refine pure_ (i := 7) (N := some 38) (v := ?_) (a' := ?_) #[true, true, true, true, true, true, true, true, false, false, true, false, false, false] rfl rfl (any_of HT_.out (by kernel_rfl)) (fun _ _ _ h => h) (Or.inl ⟨by rfl, ?_⟩) ?_ ?_
          rotate_left
          · intro w'
            go_simp
            with_reducible rfl
          rotate_left
          · simp only [Act.put, List.setIfInBounds_toArray, List.set_cons_zero, List.set_cons_succ, i64_w, i32_w]
            rfl
          refine pure_ (i := 8) (N := some 39) (v := ?_) (a' := ?_) #[true, true, true, true, true, true, true, true, true, false, true, false, false, false] rfl rfl (any_of HT_.out (by kernel_rfl)) (fun _ _ _ h => h) (Or.inl ⟨by rfl, ?_⟩) ?_ ?_
          rotate_left
          · intro w'
            go_simp
            with_reducible rfl
          rotate_left
          · simp only [Act.put, List.setIfInBounds_toArray, List.set_cons_zero, List.set_cons_succ, i64_w, i32_w]
            rfl
          refine pure_ (i := 9) (N := some 40) (v := ?_) (a' := ?_) #[true, true, true, true, true, true, true, true, true, true, true, false, false, false] rfl rfl (any_of HT_.out (by kernel_rfl)) (fun _ _ _ h => h) (Or.inl ⟨by rfl, ?_⟩) ?_ ?_
          rotate_left
          · intro w'
            go_simp
            with_reducible rfl
          rotate_left
          · simp only [Act.put, List.setIfInBounds_toArray, List.set_cons_zero, List.set_cons_succ, i64_w, i32_w]
            rfl
          exact norm_ (by simp only [putAll, Act.put, List.setIfInBounds_toArray, List.set_cons_zero, List.set_cons_succ]) (hCont (u1, u2, u3, g8) _ ⟨hHeld, FR4⟩)
      rintro ⟨u1, u2, u3, g8⟩ wj ⟨hHeld, FJ⟩
      have THR := Aside0.mk (there_of (n := (tC (stepT t o).1.r u1 u2 u3).toArray.size) (FJ.out.B _ rfl).1 (by rw [List.size_toArray, List.size_toArray, tC_len, tC_len]))
      have ONE := Aside0.mk ((FJ.out.C _ rfl).one (r := (stepT t o).1.r))
      refine norm_ (a' := ?_) ?_ ?_
      rotate_left
      · simp only [putAll, Act.put, List.setIfInBounds_toArray, List.set_cons_zero, List.set_cons_succ]
        rfl
      refine last_ (i := 11) (N := none) #[true, true, true, true, true, true, true, true, true, true, true, true, false, false] rfl rfl (one_of HT_.out (by kernel_rfl)) (by decide) (fun K hK => ?_)
      refine store_step (by rfl) 33 _ _ rfl rfl g8 0 (tC (stepT t o).1.r u1 u2 u3).toArray rfl rfl THR.out (by kernel_rfl) ONE.out ?_
      refine hK.out _ _ ?_
      clear hK K
      refine pure_ (i := 12) (N := some 9) (v := ?_) (a' := ?_) #[true, true, true, true, true, true, true, true, true, true, true, true, true, false] rfl rfl (any_of HT_.out (by kernel_rfl)) (fun _ _ _ h => h) (Or.inl ⟨by rfl, ?_⟩) ?_ ?_
      rotate_left
      · intro w'
        go_simp
        with_reducible rfl
      rotate_left
      · simp only [Act.put, List.setIfInBounds_toArray, List.set_cons_zero, List.set_cons_succ, i64_w, i32_w]
        rfl
      refine pure_ (i := 13) (N := some 10) (v := ?_) (a' := ?_) #[true, true, true, true, true, true, true, true, true, true, true, true, true, true] rfl rfl (any_of HT_.out (by kernel_rfl)) (fun _ _ _ h => h) (Or.inl ⟨by rfl, ?_⟩) ?_ ?_
      rotate_left
      · intro w'
        go_simp
        with_reducible rfl
      rotate_left
      · simp only [Act.put, List.setIfInBounds_toArray, List.set_cons_zero, List.set_cons_succ, i64_w, i32_w]
        rfl
      refine done_ (done_of HT_.out (by kernel_rfl)) ?_
      go_upto_region 10 with (fail)
      refine gen2 (Φ := fun X => Below w2.heap.size w2 X ∧ X.heap[g8]? = some (.cells (tC (stepT t o).1.r u1 u2 u3).toArray 33 (0, 0)) ∧ RT X (fun k => ¬ P k) u1 u2 u3 (stepT t o).1.fs (stepT t o).1.row (stepT t o).1.st) ?_ ?_
      · have hB8 := FJ.out.B _ rfl
        have hd := below_then DW.out DW.out.size FJ.out.b
        have hg8 : w2.heap.size ≤ g8 := Nat.le_trans DW.out.size hB8.2
        exact ⟨below_setCells hd hg8 _ 0, set_of_ hB8.1 (by rw [tC_len, tC_len]), RT.box ((FJ.out.C _ rfl).mono (fun k hk => ⟨hk.1, fun e => hk.2 (congrArg some e)⟩)) hB8.1 _⟩
      intro X HX
      have LX := Aside0.mk (lo_next TT.out.1 TT.out.2.1 TT.out.2.2.1 TT.out.2.2.2 (show w2.heap[xb]? = _ from HXX.out) HX.1 HX.2.2 MX.out.iv' MX.out.bl MX.out.bs)
      have RNG := Aside0.mk (rng_of HX.2.1)
      have THX := Aside0.mk (there_of (n := (tC (stepT t o).1.r u1 u2 u3).toArray.size) (blk_below HXX.out HX.1) (by rw [List.size_toArray, List.size_toArray, tC_len, tC_len]))
      have ONX := Aside0.mk (HX.2.2.one (r := (stepT t o).1.r))
      clear HX THR ONE FJ hHeld HT_ HW_ HR HOK HCL HX2 DW TT HXX c0_ c1_ c2_ c3_ c4_ c5_ b0 p0 p1 p2 p3 p4 FR0
      go_upto_region 11 with (first | ((with_reducible refine gate_dst (N := 41) rfl ?_); refine wpList_load_mid rfl 33 _ rfl g8 0 rfl (tC (stepT t o).1.r u1 u2 u3) _ RNG.out Try.underlying33 rfl (by kernel_rfl) ?_) | ((with_reducible refine gate_store (t := 33) (p := 4) rfl ?_); refine wpList_store_mid rfl 33 _ _ rfl xb 0 (tC (stepT t o).1.r u1 u2 u3).toArray rfl rfl THX.out (by kernel_rfl) ONX.out ?_))
      refine gen2 (Φ := fun Y => LO w Y b b xb (i + 1) Ses.zero (stepT t o).1 P vF vR vS fs u1 u2 u3) LX.out ?_
      clear LX RNG THX ONX MX IV HC HF2 HL2 HL3
      intro Y LX
      have LX := Aside0.mk LX
      have RNG := Aside0.mk (rng_of LX.out.hx)
      have n1 : ((stepT t o).2.1 == (stepT t o).2.1) = true := beq_self_eq_true _
      have n2 : ((stepT t o).2.2 == (stepT t o).2.2) = true := beq_self_eq_true _
      go_wp2_with ((with_reducible refine gate_dst (N := 52) rfl ?_); refine wpList_load_g (by rfl) 33 _ rfl xb 0 rfl (tC (stepT t o).1.r u1 u2 u3) _ RNG.out Try.underlying33 rfl (by kernel_rfl) ?_)
      refine (LX.out.asks (by omega)).mono ?_
      rintro e w5 ⟨rfl, hb⟩
      have LY := Aside0.mk (LX.out.below hb).ls
      clear hb LX RNG
      go_wp2
      go_roundg (l.length - (i + 1))
      rotate_left
      · exact (show l.length - (i + 1) < _ by omega)
      · exact ⟨i + 1, _, by go_num, by omega, LY⟩
    · have q1 : ¬ (i : Int) < (l.length : Int) := by omega
      go_wp2_with fail
      refine (lives_calls _).mono ?_
      rintro e w3 ⟨rfl, hb⟩
      have HB := Aside0.mk (below_then LX.out.bl LX.out.bl.size hb)
      clear hb
      go_wp2
      all_goals go_ret
      all_goals exact ⟨rfl, HB.out⟩
/-- The law, walked. -/
theorem plays_walk (l : List S39) (A : Option Addr) (c : Nat) (w : World) (hr : Kd.C k39 w A l.length l) (hc : l.length ≤ c) : Calls Try.prog 3 #[.slice A l.length c] w fun e w' => e = .returned (.bool true) ∧ Below w.heap.size w w' := by
  obtain ⟨k, b, h1, h2⟩ := great_some l
  cases b with
  | true => exact plays_lives l A c w hr hc k h1
  | false => exact plays_in l A c w hr hc k h1 (h2 rfl).1 (h2 rfl).2
end Go.Proofs.Ytocmdcjbjhpooaa.FrW
