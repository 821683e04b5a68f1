/- A thread that isn't there has nothing; a copy is by itself: the walk of the law. -/
import Derived.Test.YtocmdcjbjhpooaaFrU
set_option linter.unusedVariables false
set_option linter.unusedSimpArgs false
namespace Go.Proofs.Ytocmdcjbjhpooaa.FrW
open Go Go.RowKit Go.Proofs.YtocmdcjbjhpooaaW.PrintWords Go.Proofs.YtocmdcjbjhpooaaW.PrintLast Go.Proofs.YtocmdcjbjhpooaaW.PrintMore Go.Proofs.Ytocmdcjbjhpooaa.PFrameOrders Go.Proofs.Ytocmdcjbjhpooaa.GRow Go.Proofs.Ytocmdcjbjhpooaa.Num Go.Proofs.Ytocmdcjbjhpooaa.Bxs Go.Proofs.Ytocmdcjbjhpooaa.InsW Go.Proofs.Ytocmdcjbjhpooaa.Pure
def fn15_T : Bool × List (List Nat × List Nat) := (true, [([], []), ([], []), ([], []), ([1, 2], [1, 2]), ([3], [3]), ([0, 4], [0, 4]), ([5], [5]), ([6], [6]), ([6], [6]), ([6], [6]), ([7, 5, 0, 1, 2, 3, 4, 5, 6, 7], [7])])
def fn15_B : List Nat := [0, 0, 0, 6, 14, 31, 63, 127, 127, 127, 255]
theorem fn15_tab : rtab .any (opsOf Try.f5 15) = fn15_T := by kernel_rfl
theorem fn15_bits : waitsOk fn15_T.2 fn15_B = true := by kernel_rfl
def fn18_T : Bool × List (List Nat × List Nat) := (true, [([], []), ([], []), ([0, 1], [0, 1]), ([2], [2]), ([3, 2], [3]), ([4], [4]), ([5, 4], [4, 5]), ([6, 4], [4, 6]), ([7, 4], [4, 7]), ([4], [4]), ([9, 4], [4, 9]), ([10, 4], [4, 10]), ([11, 4], [4, 11]), ([8, 12, 4], [4, 8, 12]), ([4, 13], [4, 13])])
def fn18_B : List Nat := [0, 0, 3, 7, 15, 31, 63, 127, 255, 31, 543, 1567, 3615, 8191, 16383]
theorem fn18_tab : rtab .any (opsOf Try.f5 18) = fn18_T := by kernel_rfl
theorem fn18_bits : waitsOk fn18_T.2 fn18_B = true := by kernel_rfl
set_option maxHeartbeats 4000000 in
set_option maxRecDepth 100000 in
theorem none_in (l : List S39) (A : Option Addr) (c : Nat) (o : S39) (AL : Option Addr) (cL : Nat) (w : World) (hr : Kd.C k39 w A l.length l) (hc : l.length ≤ c) (hro : Kd.C (Kd.int .u64) w AL o.f2.length o.f2) (hcL : o.f2.length ≤ cL)
    (k : Nat) (hg : deadwoodlaw15_great.f k l = some false) (hl : l.length ≤ 80) (ho : ∀ o ∈ l, o.f2.length ≤ 100) (k2 : Nat) (hg2 : deadwoodlaw15_great.f k2 [o] = some false) (ho2 : o.f2.length ≤ 100) :
    Calls Try.prog 5 #[.slice A l.length c, .agg #[.int .i64 o.f0, .int .i64 o.f1, .slice AL o.f2.length cL, .int .i64 o.f3.f0, .int .i64 o.f3.f1]] w fun e w' => e = .returned (.bool true) ∧ Below w.heap.size w w' := by
  have hu := Try.underlying33
  have huO := Try.underlying39
  have huT := Try.underlying57
  have huS := Try.underlying54
  have FO := Aside0.mk (Kd.C_F k39_heap hr)
  have FL := Aside0.mk (Kd.C_F (Kd.heap_int .u64) hro)
  have HO := Aside0.mk ho
  have HO2 := Aside0.mk ho2
  have HCL2 := Aside0.mk hcL
  have G := Aside0.mk (fun (X : World) (hb : Below w.heap.size w X) => deadwoodlaw15_great.calls k A c l false X (Kd.C_below hr hb) hc hg)
  have B1 := Aside0.mk (below_alloc (Below.refl w.heap.size w) (.cells #[.int .i64 o.f0, .int .i64 o.f1, .slice AL o.f2.length cL, .int .i64 o.f3.f0, .int .i64 o.f3.f1] 39 (0, 0)))
  have N1 := Aside0.mk (heap_alloc_new w (.cells #[.int .i64 o.f0, .int .i64 o.f1, .slice AL o.f2.length cL, .int .i64 o.f3.f0, .int .i64 o.f3.f1] 39 (0, 0)))
  clear hg hr ho ho2 hro hcL
  go_enter Try.func5, Try.ntmps5
  go_upto_region 2 with (fail)
  generalize w.alloc _ = W1 at B1 N1 ⊢
  generalize hob : w.heap.size = ob at N1 ⊢
  have HOB := Aside0.mk hob
  clear hob
  have q0 : W1.cell? ⟨ob, 0, none⟩ = some (.int .i64 o.f0) := (blk_cell N1.out 0).trans rfl
  have q1 : W1.cell? ⟨ob, 1, none⟩ = some (.int .i64 o.f1) := (blk_cell N1.out 1).trans rfl
  have q2 : W1.cell? ⟨ob, 2, none⟩ = some (.slice AL o.f2.length cL) := (blk_cell N1.out 2).trans rfl
  have q3 : W1.cell? ⟨ob, 3, none⟩ = some (.int .i64 o.f3.f0) := (blk_cell N1.out 3).trans rfl
  have q4 : W1.cell? ⟨ob, 4, none⟩ = some (.int .i64 o.f3.f1) := (blk_cell N1.out 4).trans rfl
  go_wp2_with fail
  refine (do_nil o (AL := AL) (cL := cL)).mono ?_
  rintro e W2 ⟨rfl, hb⟩
  have B2 := Aside0.mk (below_then B1.out B1.out.size hb)
  have N2 := Aside0.mk (blk_below N1.out hb)
  clear hb B1 N1 q0 q1 q2 q3 q4
  go_wp2_with fail
  refine top_nil.mono ?_
  rintro e w3 ⟨rfl, rfl⟩
  go_wp2_with fail
  refine depth_nil.mono ?_
  rintro e w4 ⟨rfl, rfl⟩
  go_wp2_with fail
  refine row_nil.mono ?_
  rintro e w5 ⟨rfl, rfl⟩
  go_wp2_with fail
  refine clone_nil.mono ?_
  rintro e w6 ⟨rfl, rfl⟩
  go_wp2_with fail
  refine (G.out _ B2.out).mono ?_
  rintro e w7 ⟨rfl, ⟨nd, rfl⟩⟩
  have B3 := Aside0.mk (pw_below_drewN B2.out nd)
  have N3 := Aside0.mk (show (w6.drewN nd).heap[ob]? = _ from N2.out)
  generalize w6.drewN nd = W3 at B3 N3 ⊢
  have q0 : W3.cell? ⟨ob, 0, none⟩ = some (.int .i64 o.f0) := (blk_cell N3.out 0).trans rfl
  have q1 : W3.cell? ⟨ob, 1, none⟩ = some (.int .i64 o.f1) := (blk_cell N3.out 1).trans rfl
  have q2 : W3.cell? ⟨ob, 2, none⟩ = some (.slice AL o.f2.length cL) := (blk_cell N3.out 2).trans rfl
  have q3 : W3.cell? ⟨ob, 3, none⟩ = some (.int .i64 o.f3.f0) := (blk_cell N3.out 3).trans rfl
  have q4 : W3.cell? ⟨ob, 4, none⟩ = some (.int .i64 o.f3.f1) := (blk_cell N3.out 4).trans rfl
  clear B2 N2 G
  have B4 := Aside0.mk (below_alloc (Below.refl W3.heap.size W3) (.cells #[.int .i64 o.f0, .int .i64 o.f1, .slice AL o.f2.length cL, .int .i64 o.f3.f0, .int .i64 o.f3.f1] 39 (0, 0)))
  have C4 := Aside0.mk (one_op o (A := AL) (c := cL) (heap_alloc_new W3 (.cells #[.int .i64 o.f0, .int .i64 o.f1, .slice AL o.f2.length cL, .int .i64 o.f3.f0, .int .i64 o.f3.f1] 39 (0, 0))) HCL2.out (Kd.F_now (Kd.F_below FL.out (below_then B3.out B3.out.size B4.out))))
  go_wp2_with fail
  refine (deadwoodlaw15_great.calls k2 _ 1 [o] false _ C4.out (Nat.le_refl 1) hg2).mono ?_
  rintro e w7 ⟨rfl, ⟨nd2, rfl⟩⟩
  have B5 := Aside0.mk (pw_below_drewN (below_then B3.out B3.out.size B4.out) nd2)
  have N5 := Aside0.mk (show ((W3.alloc (.cells #[.int .i64 o.f0, .int .i64 o.f1, .slice AL o.f2.length cL, .int .i64 o.f3.f0, .int .i64 o.f3.f1] 39 (0, 0))).drewN nd2).heap[ob]? = _ from (show (W3.alloc (.cells #[.int .i64 o.f0, .int .i64 o.f1, .slice AL o.f2.length cL, .int .i64 o.f3.f0, .int .i64 o.f3.f1] 39 (0, 0))).heap[ob]? = _ from blk_below N3.out B4.out))
  clear B3 N3 B4 C4 q0 q1 q2 q3 q4
  generalize (W3.alloc (.cells #[.int .i64 o.f0, .int .i64 o.f1, .slice AL o.f2.length cL, .int .i64 o.f3.f0, .int .i64 o.f3.f1] 39 (0, 0))).drewN nd2 = W5 at B5 N5 ⊢
  go_wp2_with fail
  refine (new_calls (W := W5)).mono ?_
  rintro e w2 ⟨rfl, T2, hb⟩
  have T2 := Aside0.mk T2
  have B2 := Aside0.mk (below_then B5.out B5.out.size hb)
  have N2 := Aside0.mk (blk_below N5.out hb)
  have Z2 := Aside0.mk B5.out.size
  clear hb B5 N5
  have THR := Aside0.mk (thr_z w2)
  have ONE := Aside0.mk (one_tC (r := fun _ => 0) (A1 := none) (A2 := none) (A3 := none) (n1 := 0) (n2 := 0) (n3 := 0) (c1 := 0) (c2 := 0) (c3 := 0))
  have L0 := Aside0.mk (And.intro (ls_start (w := w) T2.out B2.out Z2.out) (show ((w2.alloc (.cells (tC (fun _ => 0) (.slice none 0 0) (.slice none 0 0) (.slice none 0 0)).toArray 33 (0, 0))).setCells w2.heap.size 0 (tC (fun _ => 0) (.slice none 0 0) (.slice none 0 0) (.slice none 0 0))).heap[ob]? = _ from blk_below N2.out (below_setCells (below_alloc (Below.refl _ _) _) (Nat.le_refl _) _ 0)))
  clear T2 B2 N2 Z2
  generalize hbb : W5.heap.size = b at L0 ⊢
  go_upto_region 11 with ((with_reducible refine gate_store (t := 33) (p := 9) rfl ?_); refine wpList_store_mid rfl 33 _ _ rfl w2.heap.size 0 (tC (fun _ => 0) (.slice none 0 0) (.slice none 0 0) (.slice none 0 0)).toArray rfl rfl THR.out (by kernel_rfl) ONE.out ?_)
  refine gen2 (Φ := fun X => LS w X b b w2.heap.size 0 Ses.zero ⟨fun _ => 0, [], [], []⟩ ∧ X.heap[ob]? = some (.cells #[.int .i64 o.f0, .int .i64 o.f1, .slice AL o.f2.length cL, .int .i64 o.f3.f0, .int .i64 o.f3.f1] 39 (0, 0))) L0.out ?_
  clear L0 THR ONE
  generalize w2.heap.size = xb
  intro X LX
  have NX := Aside0.mk LX.2
  have LX := Aside0.mk LX.1
  clear hbb
  go_wp2
  go_loopg [10] l.length (fun kx s10 wr => ∃ (i : Nat) (t : TS), s10 = .int .i64 i ∧ i + kx = l.length ∧ Aside0 (LS w wr b b xb i Ses.zero t) ∧ Aside0 (wr.heap[ob]? = some (.cells #[.int .i64 o.f0, .int .i64 o.f1, .slice AL o.f2.length cL, .int .i64 o.f3.f0, .int .i64 o.f3.f1] 39 (0, 0))))
  case atStart => exact ⟨0, _, rfl, by omega, LX, NX⟩
  case round =>
    clear LX NX
    obtain ⟨i, t, rfl, hi, LX, NX⟩ := hrel
    by_cases hlt : i < l.length
    · have q1 : (i : Int) < (l.length : Int) := by omega
      obtain ⟨ad, A2, c2, hA, hC, hl2, hF2⟩ := op_at FO.out i hlt
      subst hA
      have hl3 := HO.out l[i] (List.getElem_mem hlt)
      generalize l[i] = o1 at hC hl2 hF2 hl3
      have HL2 := Aside0.mk hl2
      have HL3 := Aside0.mk (Nat.le_trans hl3 (by decide : 100 ≤ 1000000))
      have HF2 := Aside0.mk hF2
      have HC := Aside0.mk hC
      clear hl2 hl3 hF2 hC
      have hi1 : i ≤ 1000000 := by omega
      obtain ⟨p0, p1, p2, p3, p4⟩ := HC.out.below LX.out.bl
      go_wp2_with fail
      refine (LX.out.movesK (by omega) (cL := c2) o1 HF2.out NX.out (by decide)).mono ?_
      rintro e w2 ⟨rfl, hM, hN⟩
      have MX := Aside0.mk hM
      have NX2 := Aside0.mk hN
      clear p0 p1 p2 p3 p4 hM hN LX NX
      obtain ⟨p0, p1, p2, p3, p4⟩ := HC.out.below MX.out.bl
      have IV := Aside0.mk MX.out.iv
      obtain ⟨P, vF, vR, vS, fs, v1, v2, v3, hT, hcs, hP, hPx, hxb, hR⟩ := MX.out.ex
      have HX2 := Aside0.mk (show w2.drew.heap[xb]? = _ from hxb)
      have HR := Aside0.mk (show RT w2.drew (fun k => ¬ P k) v1 v2 v3 t.fs t.row t.st from hR.below (below_drew1 (Below.refl _ _)))
      have HOK : Aside0 (∀ k, w2.drew.heap.size ≤ k → ¬ P k) := ⟨fun k hk hp => by have h1 := hP k hp; have h2 : w2.heap.size ≤ k := hk; omega⟩
      have HCL : Aside0 (∀ (Y : World), Below w2.drew.heap.size w2.drew Y → Kd.C (Kd.int .u64) Y A2 o1.f2.length o1.f2) := ⟨fun Y hY => Kd.F_now (Kd.F_below (Kd.F_below HF2.out MX.out.bl) (below_drewl hY))⟩
      have b0 := rng_of hxb
      have HXX := Aside0.mk hxb
      have TT := Aside0.mk (And.intro hT (And.intro hcs (And.intro hP hPx)))
      have DW := Aside0.mk (below_drew1 (Below.refl w2.heap.size w2))
      clear hT hcs hP hPx hxb hR
      go_upto_region 15 with (fail)
      refine start_ (n := 11) (S := fun W' => W'.rangeAt xb 0 (tC t.r v1 v2 v3) ∧ W'.cell? (ad.add (i * 5)) = some (.int .i64 o1.f0) ∧ W'.cell? ⟨(ad.add (i * 5)).block, (ad.add (i * 5)).off + 1, none⟩ = some (.int .i64 o1.f1) ∧ W'.cell? ⟨(ad.add (i * 5)).block, (ad.add (i * 5)).off + 2, none⟩ = some (.slice A2 o1.f2.length c2) ∧ W'.cell? ⟨(ad.add (i * 5)).block, (ad.add (i * 5)).off + 3, none⟩ = some (.int .i64 o1.f3.f0) ∧ W'.cell? ⟨(ad.add (i * 5)).block, (ad.add (i * 5)).off + 4, none⟩ = some (.int .i64 o1.f3.f1)) (ds := [10]) #[false, false, false, false, false, false, false, false, false, false, false] (by kernel_rfl) rfl rfl ⟨b0, p0, p1, p2, p3, p4⟩ (fun hHeld => ?_); refine with_tabW fn15_tab fn15_bits (fun HT_ HW_ => ?_)
      generalize w2.drew = wd_ at b0 p0 p1 p2 p3 p4 HR HOK HCL HX2 DW hHeld ⊢
      have hH0_ := hHeld; obtain ⟨c0_, c1_, c2_, c3_, c4_, c5_⟩ := hH0_
      refine pure_ (i := 1) (N := some 75) (v := ?_) (a' := ?_) #[false, true, false, false, false, false, false, false, false, false, false] rfl rfl (any_of HT_.out (by kernel_rfl)) (fun _ _ _ h => h) (Or.inl ⟨by rfl, ?_⟩) ?_ ?_
      rotate_left
      · intro w'
        go_simp
        with_reducible rfl
      rotate_left
      · simp only [Act.put, List.setIfInBounds_toArray, List.set_cons_zero, List.set_cons_succ, i64_w, i32_w]
        rfl
      refine pure_ (i := 2) (N := some 76) (v := ?_) (a' := ?_) #[false, true, true, false, false, false, false, false, false, false, false] rfl rfl (any_of HT_.out (by kernel_rfl)) (fun _ _ _ h => h) (Or.inl ⟨by rfl, ?_⟩) ?_ ?_
      rotate_left
      · intro w'
        go_simp
        with_reducible rfl
      rotate_left
      · simp only [Act.put, List.setIfInBounds_toArray, List.set_cons_zero, List.set_cons_succ, i64_w, i32_w]
        rfl
      refine pure_ (i := 3) (N := some 77) (v := ?_) (a' := ?_) #[false, true, true, true, false, false, false, false, false, false, false] rfl rfl (any_of HT_.out (by kernel_rfl)) (fun _ _ _ h => h) (Or.inl ⟨by rfl, ?_⟩) ?_ ?_
      rotate_left
      · intro w'
        go_simp
        with_reducible rfl
      rotate_left
      · simp only [Act.put, List.setIfInBounds_toArray, List.set_cons_zero, List.set_cons_succ, i64_w, i32_w]
        rfl
      refine take_ (i := 0) (N := some 74) (v := .agg (tC t.r v1 v2 v3).toArray) (a' := ?_) #[true, true, true, true, false, false, false, false, false, false, false] rfl rfl (take_ofW HT_.out HW_.out (by kernel_rfl)) (fun _ _ _ h => h) ?hy hHeld ?_ ?_
      (case hy => exact yieldsIf_load_mid (by rfl) 33 _ rfl xb 0 rfl (tC t.r v1 v2 v3) _ (fun _ h => h.1) Try.underlying33 rfl (by kernel_rfl))
      rotate_left
      · simp only [Act.put, List.setIfInBounds_toArray, List.set_cons_zero, List.set_cons_succ, i64_w, i32_w]
        rfl
      refine take_ (i := 4) (N := some 78) (v := ?_) (a' := ?_) #[true, true, true, true, true, false, false, false, false, false, false] rfl rfl (take_ofW HT_.out HW_.out (by kernel_rfl)) (fun _ _ _ h => h) (Or.inl ⟨by rfl, ?_⟩) hHeld ?_ ?_
      rotate_left
      · rintro w' ⟨s0, s1, s2, s3, s4, s5⟩
        go_simp
        with_reducible rfl
      rotate_left
      · simp only [Act.put, List.setIfInBounds_toArray, List.set_cons_zero, List.set_cons_succ, i64_w, i32_w]
        rfl
      refine one_ (i := 5) (N := some 79) #[true, true, true, true, true, true, false, false, false, false, false] rfl rfl (one_of HT_.out (by kernel_rfl)) (by decide) (fun K hK => ?_)
      refine goes_ Try.func14 (by kernel_rfl) rfl #[.agg (tC t.r v1 v2 v3).toArray, .agg #[.int .i64 o1.f0, .int .i64 o1.f1, .slice A2 o1.f2.length c2, .int .i64 o1.f3.f0, .int .i64 o1.f3.f1]] (by rfl) rfl rfl (by (try simp only [List.map_toArray, List.map_cons, List.map_nil]); first | done | rfl) ?_
      refine (rdo_step (t := t) HR.out HOK.out (IV.out.le hi1) o1 (HCL.out _ (Below.refl _ _)) HL2.out HL3.out).mono ?_
      rintro e_ wq ⟨u1, u2, u3, rfl, hR, hb⟩
      have FR1 := Aside0.mk (OnlyB.mk (wd := wd_) hb)
      have RX := Aside0.mk hR
      have THX := Aside0.mk (there_of (n := (tC (stepT t o1).1.r u1 u2 u3).toArray.size) (blk_below HX2.out hb) (by rw [List.size_toArray, List.size_toArray, tC_len, tC_len]))
      have ONX := Aside0.mk (hR.one (r := (stepT t o1).1.r))
      clear hR
      refine ⟨_, rfl, ?_⟩
      refine hK.out _ _ ⟨(rng_below FR1.out.b c0_), (pw_cell_below FR1.out.b c1_), (pw_cell_below FR1.out.b c2_), (pw_cell_below FR1.out.b c3_), (pw_cell_below FR1.out.b c4_), (pw_cell_below FR1.out.b c5_)⟩ (fun hHeld => ?_)
      clear hK K
      refine norm_ (a' := ?_) ?_ ?_
      rotate_left
      · show Act.put _ (some 79) _ = _
        simp only [Act.put, List.setIfInBounds_toArray, List.set_cons_zero, List.set_cons_succ, i64_w, i32_w]
        rfl
      refine pure_ (i := 6) (N := some 73) (v := ?_) (a' := ?_) #[true, true, true, true, true, true, true, false, false, false, false] rfl rfl (any_of HT_.out (by kernel_rfl)) (fun _ _ _ h => h) (Or.inl ⟨by rfl, ?_⟩) ?_ ?_
      rotate_left
      · intro w'
        go_simp
        with_reducible rfl
      rotate_left
      · simp only [Act.put, List.setIfInBounds_toArray, List.set_cons_zero, List.set_cons_succ, i64_w, i32_w]
        rfl
      refine pure_ (i := 7) (N := some 80) (v := ?_) (a' := ?_) #[true, true, true, true, true, true, true, true, false, false, false] rfl rfl (any_of HT_.out (by kernel_rfl)) (fun _ _ _ h => h) (Or.inl ⟨by rfl, ?_⟩) ?_ ?_
      rotate_left
      · intro w'
        go_simp
        with_reducible rfl
      rotate_left
      · simp only [Act.put, List.setIfInBounds_toArray, List.set_cons_zero, List.set_cons_succ, i64_w, i32_w]
        rfl
      refine pure_ (i := 8) (N := some 81) (v := ?_) (a' := ?_) #[true, true, true, true, true, true, true, true, true, false, false] rfl rfl (any_of HT_.out (by kernel_rfl)) (fun _ _ _ h => h) (Or.inl ⟨by rfl, ?_⟩) ?_ ?_
      rotate_left
      · intro w'
        go_simp
        with_reducible rfl
      rotate_left
      · simp only [Act.put, List.setIfInBounds_toArray, List.set_cons_zero, List.set_cons_succ, i64_w, i32_w]
        rfl
      refine pure_ (i := 9) (N := some 82) (v := ?_) (a' := ?_) #[true, true, true, true, true, true, true, true, true, true, false] rfl rfl (any_of HT_.out (by kernel_rfl)) (fun _ _ _ h => h) (Or.inl ⟨by rfl, ?_⟩) ?_ ?_
      rotate_left
      · intro w'
        go_simp
        with_reducible rfl
      rotate_left
      · simp only [Act.put, List.setIfInBounds_toArray, List.set_cons_zero, List.set_cons_succ, i64_w, i32_w]
        rfl
      refine last_ (i := 10) (N := none) #[true, true, true, true, true, true, true, true, true, true, true] rfl rfl (one_of HT_.out (by kernel_rfl)) (by decide) (fun K hK => ?_)
      refine store_step (by rfl) 33 _ _ rfl rfl xb 0 (tC (stepT t o1).1.r u1 u2 u3).toArray rfl rfl THX.out (by kernel_rfl) ONX.out ?_
      refine hK.out _ _ ?_
      clear hK K
      refine done_ (done_of HT_.out (by kernel_rfl)) ?_
      go_upto_region 13 with (fail)
      refine gen2 (Φ := fun X => LS w X b b xb (i + 1) Ses.zero (stepT t o1).1 ∧ X.heap[ob]? = some (.cells #[.int .i64 o.f0, .int .i64 o.f1, .slice AL o.f2.length cL, .int .i64 o.f3.f0, .int .i64 o.f3.f1] 39 (0, 0))) ?_ ?_
      · have hd := below_then DW.out DW.out.size FR1.out.b
        exact ⟨(lo_next TT.out.1 TT.out.2.1 TT.out.2.2.1 TT.out.2.2.2 HXX.out hd RX.out MX.out.iv' MX.out.bl MX.out.bs).ls, (heap_setCells xb _ 0 _ ob (typ_ne NX2.out HXX.out (by decide))).trans (blk_below NX2.out hd)⟩
      intro Y HY
      have LY := Aside0.mk HY.1
      have NY := Aside0.mk HY.2
      clear HY THX ONX RX FR1 hHeld HT_ HW_ HR HOK HCL HX2 DW TT HXX MX NX2 IV c0_ c1_ c2_ c3_ c4_ c5_ b0 p0 p1 p2 p3 p4
      go_wp2
      go_roundg (l.length - (i + 1))
      rotate_left
      · exact (show l.length - (i + 1) < _ by omega)
      · exact ⟨i + 1, _, by go_num, by omega, LY, NY⟩
    · have q1 : ¬ (i : Int) < (l.length : Int) := by omega
      have hin : i ≤ 80 := by omega
      obtain ⟨P, vF, vR, vS, fs, v1, v2, v3, hlo⟩ := LX.out.lo
      have LQ := Aside0.mk hlo
      have cAt : wr.cell? ⟨b, 22, none⟩ = some (.int .i64 0) := (hlo.th.cell 22).trans rfl
      have fAt := hlo.th.frz 22
      clear hlo LX
      go_upto_region 17 with (fail)
      refine gen2 (Φ := fun X => LO w X b b xb i s7 t P vF vR vS fs v1 v2 v3 ∧ X.heap[ob]? = some (.cells #[.int .i64 o.f0, .int .i64 o.f1, .slice AL o.f2.length cL, .int .i64 o.f3.f0, .int .i64 o.f3.f1] 39 (0, 0))) ⟨LQ.out.at7, (Below.heap_setCell wr ⟨b, 22, none⟩ _ ob (typ_ne NX.out LQ.out.th.blk (by decide))).trans NX.out⟩ ?_
      clear cAt fAt LQ NX
      intro X0 HX0
      have L0 := Aside0.mk HX0.1
      have N0 := Aside0.mk HX0.2
      clear HX0
      have hlf : fs.length = t.fs.length := by rw [← L0.out.cs, List.length_map]
      have hl1 := L0.out.iv.l1
      have hl2 := L0.out.iv.l2
      have hl3 := L0.out.iv.l3
      go_wp2_with fail
      refine (clone_calls L0.out.th (by omega) (by omega) (by omega)).mono ?_
      rintro e X2 ⟨g, Pc, vFc, vRc, vSc, gs, rfl, hTc, hPc, hcc, hb⟩
      rw [L0.out.cs] at hcc
      have TC := Aside0.mk hTc.cut
      have PC := Aside0.mk hPc
      have CC := Aside0.mk hcc
      have BC := Aside0.mk hb
      have L2 := Aside0.mk (L0.out.below hb)
      have N2 := Aside0.mk (blk_below N0.out hb)
      have hlg : gs.length = t.fs.length := by rw [← hcc, List.length_map]
      clear hTc hPc hcc hb
      have T2' := Aside0.mk (below_drew1 (Below.refl X2.heap.size X2))
      have b0 := rng_of L2.out.hx
      have b1 := TC.out.rngS
      have b2 := L2.out.th.rngS
      have XC := Aside0.mk (show Th X2.drew _ _ _ _ _ _ _ _ _ _ _ from TC.out.below T2'.out)
      have XL := Aside0.mk (L2.out.below T2'.out)
      go_upto_region 18 with (fail)
      refine start_ (n := 15) (S := fun W' => W'.rangeAt xb 0 (tC t.r v1 v2 v3) ∧ W'.rangeAt g 12 (sesC s7) ∧ W'.rangeAt b 12 (sesC s7)) (ds := []) #[false, false, false, false, false, false, false, false, false, false, false, false, false, false, false] (by kernel_rfl) rfl rfl ⟨b0, b1, b2⟩ (fun hHeld => ?_); refine with_tabW fn18_tab fn18_bits (fun HT_ HW_ => ?_)
      generalize X2.drew = wd_ at b0 b1 b2 XC XL T2' hHeld ⊢
      have hH0_ := hHeld; obtain ⟨c0_, c1_, c2_⟩ := hH0_
      refine pure_ (i := 0) (N := some 89) (v := ?_) (a' := ?_) #[true, false, false, false, false, false, false, false, false, false, false, false, false, false, false] rfl rfl (any_of HT_.out (by kernel_rfl)) (fun _ _ _ h => h) (Or.inl ⟨by rfl, ?_⟩) ?_ ?_
      rotate_left
      · intro w'
        go_simp
        with_reducible rfl
      rotate_left
      · simp only [Act.put, List.setIfInBounds_toArray, List.set_cons_zero, List.set_cons_succ, i64_w, i32_w]
        rfl
      refine take_ (i := 1) (N := some 90) (v := .agg (tC t.r v1 v2 v3).toArray) (a' := ?_) #[true, true, false, false, false, false, false, false, false, false, false, false, false, false, false] rfl rfl (take_ofW HT_.out HW_.out (by kernel_rfl)) (fun _ _ _ h => h) ?hy hHeld ?_ ?_
      (case hy => exact yieldsIf_load_mid (by rfl) 33 _ rfl xb 0 rfl (tC t.r v1 v2 v3) _ (fun _ h => h.1) Try.underlying33 rfl (by kernel_rfl))
      rotate_left
      · simp only [Act.put, List.setIfInBounds_toArray, List.set_cons_zero, List.set_cons_succ, i64_w, i32_w]
        rfl
      refine one_ (i := 2) (N := some 91) #[true, true, true, false, false, false, false, false, false, false, false, false, false, false, false] rfl rfl (one_of HT_.out (by kernel_rfl)) (by decide) (fun K hK => ?_)
      refine goes_ Try.func15 (by kernel_rfl) rfl #[.pointer (some ⟨g, 0, none⟩), .agg (tC t.r v1 v2 v3).toArray] (by rfl) rfl rfl (by (try simp only [List.map_toArray, List.map_cons, List.map_nil]); first | done | rfl) ?_
      refine (asks_of XC.out CC.out XL.out.rt XL.out.iv (by omega)).mono ?_
      rintro e_ wq ⟨rfl, hb⟩
      have FR1 := Aside0.mk (OnlyB.mk (wd := wd_) hb)
      refine ⟨_, rfl, ?_⟩
      refine hK.out _ _ ⟨(rng_below FR1.out.b c0_), (rng_below FR1.out.b c1_), (rng_below FR1.out.b c2_)⟩ (fun hHeld => ?_)
      clear hK K
      refine norm_ (a' := ?_) ?_ ?_
      rotate_left
      · show Act.put _ (some 91) _ = _
        simp only [Act.put, List.setIfInBounds_toArray, List.set_cons_zero, List.set_cons_succ, i64_w, i32_w]
        rfl
      refine pure_ (i := 3) (N := some 92) (v := ?_) (a' := ?_) #[true, true, true, true, false, false, false, false, false, false, false, false, false, false, false] rfl rfl (any_of HT_.out (by kernel_rfl)) (fun _ _ _ h => h) (Or.inl ⟨by rfl, ?_⟩) ?_ ?_
      rotate_left
      · intro w'
        go_simp
        with_reducible rfl
      rotate_left
      · simp only [Act.put, List.setIfInBounds_toArray, List.set_cons_zero, List.set_cons_succ, i64_w, i32_w]
        rfl
      refine pure_ (i := 4) (N := some 93) (v := ?_) (a' := ?_) #[true, true, true, true, true, false, false, false, false, false, false, false, false, false, false] rfl rfl (any_of HT_.out (by kernel_rfl)) (fun _ _ _ h => h) (Or.inl ⟨by rfl, ?_⟩) ?_ ?_
      rotate_left
      · intro w'
        go_simp
        with_reducible rfl
      rotate_left
      · simp only [Act.put, List.setIfInBounds_toArray, List.set_cons_zero, List.set_cons_succ, i64_w, i32_w]
        rfl
      refine pure_ (i := 5) (N := some 94) (v := ?_) (a' := ?_) #[true, true, true, true, true, true, false, false, false, false, false, false, false, false, false] rfl rfl (any_of HT_.out (by kernel_rfl)) (fun _ _ _ h => h) (Or.inl ⟨by rfl, ?_⟩) ?_ ?_
      rotate_left
      · intro w'
        go_simp
        with_reducible rfl
      rotate_left
      · simp only [Act.put, List.setIfInBounds_toArray, List.set_cons_zero, List.set_cons_succ, i64_w, i32_w]
        rfl
      refine pure_ (i := 6) (N := some 95) (v := ?_) (a' := ?_) #[true, true, true, true, true, true, true, false, false, false, false, false, false, false, false] rfl rfl (any_of HT_.out (by kernel_rfl)) (fun _ _ _ h => h) (Or.inl ⟨by rfl, ?_⟩) ?_ ?_
      rotate_left
      · intro w'
        go_simp
        with_reducible rfl
      rotate_left
      · simp only [Act.put, List.setIfInBounds_toArray, List.set_cons_zero, List.set_cons_succ, i64_w, i32_w]
        rfl
      refine pure_ (i := 7) (N := some 96) (v := ?_) (a' := ?_) #[true, true, true, true, true, true, true, true, false, false, false, false, false, false, false] rfl rfl (any_of HT_.out (by kernel_rfl)) (fun _ _ _ h => h) (Or.inl ⟨by rfl, ?_⟩) ?_ ?_
      rotate_left
      · intro w'
        go_simp
        with_reducible rfl
      rotate_left
      · simp only [Act.put, List.setIfInBounds_toArray, List.set_cons_zero, List.set_cons_succ, i64_w, i32_w]
        rfl
      refine pure_ (i := 9) (N := some 98) (v := ?_) (a' := ?_) #[true, true, true, true, true, true, true, true, false, true, false, false, false, false, false] rfl rfl (any_of HT_.out (by kernel_rfl)) (fun _ _ _ h => h) (Or.inl ⟨by rfl, ?_⟩) ?_ ?_
      rotate_left
      · intro w'
        go_simp
        with_reducible rfl
      rotate_left
      · simp only [Act.put, List.setIfInBounds_toArray, List.set_cons_zero, List.set_cons_succ, i64_w, i32_w]
        rfl
      refine pure_ (i := 10) (N := some 99) (v := ?_) (a' := ?_) #[true, true, true, true, true, true, true, true, false, true, true, false, false, false, false] rfl rfl (any_of HT_.out (by kernel_rfl)) (fun _ _ _ h => h) (Or.inl ⟨by rfl, ?_⟩) ?_ ?_
      rotate_left
      · intro w'
        go_simp
        with_reducible rfl
      rotate_left
      · simp only [Act.put, List.setIfInBounds_toArray, List.set_cons_zero, List.set_cons_succ, i64_w, i32_w]
        rfl
      refine pure_ (i := 11) (N := some 100) (v := ?_) (a' := ?_) #[true, true, true, true, true, true, true, true, false, true, true, true, false, false, false] rfl rfl (any_of HT_.out (by kernel_rfl)) (fun _ _ _ h => h) (Or.inl ⟨by rfl, ?_⟩) ?_ ?_
      rotate_left
      · intro w'
        go_simp
        with_reducible rfl
      rotate_left
      · simp only [Act.put, List.setIfInBounds_toArray, List.set_cons_zero, List.set_cons_succ, i64_w, i32_w]
        rfl
      refine take_ (i := 8) (N := some 97) (v := .agg (sesC s7).toArray) (a' := ?_) #[true, true, true, true, true, true, true, true, true, true, true, true, false, false, false] rfl rfl (take_ofW HT_.out HW_.out (by kernel_rfl)) (fun _ _ _ h => h) ?hy hHeld ?_ ?_
      (case hy => exact yieldsIf_load_mid (by rfl) 54 _ rfl g 12 rfl (sesC s7) _ (fun _ h => h.2.1) Try.underlying54 rfl (by kernel_rfl))
      rotate_left
      · simp only [Act.put, List.setIfInBounds_toArray, List.set_cons_zero, List.set_cons_succ, i64_w, i32_w]
        rfl
      refine take_ (i := 12) (N := some 101) (v := .agg (sesC s7).toArray) (a' := ?_) #[true, true, true, true, true, true, true, true, true, true, true, true, true, false, false] rfl rfl (take_ofW HT_.out HW_.out (by kernel_rfl)) (fun _ _ _ h => h) ?hy hHeld ?_ ?_
      (case hy => exact yieldsIf_load_mid (by rfl) 54 _ rfl b 12 rfl (sesC s7) _ (fun _ h => h.2.2) Try.underlying54 rfl (by kernel_rfl))
      rotate_left
      · simp only [Act.put, List.setIfInBounds_toArray, List.set_cons_zero, List.set_cons_succ, i64_w, i32_w]
        rfl
      refine pure_ (i := 13) (N := some 102) (v := .bool false) (a' := ?_) #[true, true, true, true, true, true, true, true, true, true, true, true, true, true, false] rfl rfl (any_of HT_.out (by kernel_rfl)) (fun _ _ _ h => h) (Or.inl ⟨by rfl, ?hy⟩) ?_ ?_
      (case hy => exact fun w' => exec_neq rfl rfl rfl (by kernel_rfl) (ses_eq s7 w'))
      rotate_left
      · simp only [Act.put, List.setIfInBounds_toArray, List.set_cons_zero, List.set_cons_succ, i64_w, i32_w]
        rfl
      refine pure_ (i := 14) (N := some 103) (v := ?_) (a' := ?_) #[true, true, true, true, true, true, true, true, true, true, true, true, true, true, true] rfl rfl (any_of HT_.out (by kernel_rfl)) (fun _ _ _ h => h) (Or.inl ⟨by rfl, ?_⟩) ?_ ?_
      rotate_left
      · intro w'
        go_simp
        with_reducible rfl
      rotate_left
      · simp only [Act.put, List.setIfInBounds_toArray, List.set_cons_zero, List.set_cons_succ, i64_w, i32_w]
        rfl
      refine done_ (done_of HT_.out (by kernel_rfl)) ?_
      go_upto_region 20 with (fail)
      refine gen2 (Φ := fun X => Below X2.heap.size X2 X) (below_then T2'.out T2'.out.size FR1.out.b) ?_
      clear hHeld HT_ HW_ FR1 XC XL T2' c0_ c1_ c2_ b0 b1 b2
      intro X3 hb3
      have B3 := Aside0.mk hb3
      have N3 := Aside0.mk (blk_below N2.out hb3)
      have RNG := Aside0.mk (rng_of (blk_below L2.out.hx hb3))
      have B03 := Aside0.mk (below_then BC.out BC.out.size hb3)
      have C3 := Aside0.mk (Kd.F_now (Kd.F_below FL.out (below_then L0.out.bl L0.out.bl.size B03.out)))
      have R3 : Aside0 (RT X3 (fun k => ¬ (Pc k ∧ X0.heap.size ≤ k)) v1 v2 v3 t.fs t.row t.st) := ⟨(L0.out.rt.bound.below B03.out).mono (fun k hk q => by have := hk.2; omega)⟩
      have K3 : Aside0 (∀ k, X3.heap.size ≤ k → ¬ (Pc k ∧ X0.heap.size ≤ k)) := ⟨fun k hk q => by have := PC.out k q.1; have := B3.out.size; omega⟩
      clear hb3
      have q0 : X3.cell? ⟨ob, 0, none⟩ = some (.int .i64 o.f0) := (blk_cell N3.out 0).trans rfl
      have q1 : X3.cell? ⟨ob, 1, none⟩ = some (.int .i64 o.f1) := (blk_cell N3.out 1).trans rfl
      have q2 : X3.cell? ⟨ob, 2, none⟩ = some (.slice AL o.f2.length cL) := (blk_cell N3.out 2).trans rfl
      have q3 : X3.cell? ⟨ob, 3, none⟩ = some (.int .i64 o.f3.f0) := (blk_cell N3.out 3).trans rfl
      have q4 : X3.cell? ⟨ob, 4, none⟩ = some (.int .i64 o.f3.f1) := (blk_cell N3.out 4).trans rfl
      go_wp2_with ((with_reducible refine gate_dst (N := 105) rfl ?_); refine wpList_load_mid rfl 33 _ rfl xb 0 rfl (tC t.r v1 v2 v3) _ RNG.out Try.underlying33 rfl (by kernel_rfl) ?_)
      refine (rdo_step (t := t) R3.out K3.out (L0.out.iv.le (by omega)) o C3.out HCL2.out (Nat.le_trans HO2.out (by decide))).mono ?_
      rintro e X4 ⟨u1, u2, u3, rfl, hR, hb4⟩
      have R4 := Aside0.mk hR
      have B4 := Aside0.mk hb4
      have THR := Aside0.mk (thr_z X4)
      have ONE := Aside0.mk (hR.one (r := (stepT t o).1.r))
      clear hR hb4 q0 q1 q2 q3 q4 R3 K3 C3 RNG
      go_upto_region 21 with ((with_reducible refine gate_store (t := 33) (p := 12) rfl ?_); refine wpList_store_mid rfl 33 _ _ rfl X4.heap.size 0 (tC (stepT t o).1.r u1 u2 u3).toArray rfl rfl THR.out (by kernel_rfl) ONE.out ?_)
      refine gen2 (Φ := fun X => Below X3.heap.size X3 X ∧ X.heap[X4.heap.size]? = some (.cells (tC (stepT t o).1.r u1 u2 u3).toArray 33 (0, 0)) ∧ RT X (fun k => ¬ (Pc k ∧ X0.heap.size ≤ k)) u1 u2 u3 (stepT t o).1.fs (stepT t o).1.row (stepT t o).1.st) ?_ ?_
      · have hn := heap_alloc_new X4 (.cells (tC (fun _ => 0) (.slice none 0 0) (.slice none 0 0) (.slice none 0 0)).toArray 33 (0, 0))
        have ha := below_alloc (Below.refl X4.heap.size X4) (.cells (tC (fun _ => 0) (.slice none 0 0) (.slice none 0 0) (.slice none 0 0)).toArray 33 (0, 0))
        exact ⟨below_setCells (below_then B4.out B4.out.size ha) B4.out.size _ 0, set_of_ hn (by rw [tC_len]; rfl), RT.box ((R4.out.bound.below ha).mono (fun k hk => ⟨hk.1, fun e => by have := hk.2; omega⟩)) hn _⟩
      generalize X4.heap.size = yb
      clear THR ONE R4 B4
      intro X5 HX5
      have B5 := Aside0.mk (below_then B03.out B03.out.size HX5.1)
      have N5 := Aside0.mk (blk_below N3.out HX5.1)
      have Y5 := Aside0.mk HX5.2.1
      have R5 := Aside0.mk HX5.2.2
      have T5 := Aside0.mk (TC.out.below (below_then B3.out B3.out.size HX5.1))
      have P5 : Aside0 (∀ k, (Pc k ∧ X0.heap.size ≤ k) → k < X5.heap.size) := ⟨fun k q => by have := PC.out k q.1; have := B3.out.size; have := HX5.1.size; omega⟩
      have F5 : Aside0 (∀ X, (∀ k, k < X0.heap.size → X.heap[k]? = X5.heap[k]?) → Kd.C (Kd.int .u64) X AL o.f2.length o.f2) := ⟨fun X hX => Kd.F_now (Kd.F_step FL.out (fun k hk hl => (hX k (by have := L0.out.bl.size; omega)).trans ((B5.out.block k (by have := L0.out.bl.size; omega)).trans (L0.out.bl.block k hk))))⟩
      clear HX5
      have q0 : X5.cell? ⟨ob, 0, none⟩ = some (.int .i64 o.f0) := (blk_cell N5.out 0).trans rfl
      have q1 : X5.cell? ⟨ob, 1, none⟩ = some (.int .i64 o.f1) := (blk_cell N5.out 1).trans rfl
      have q2 : X5.cell? ⟨ob, 2, none⟩ = some (.slice AL o.f2.length cL) := (blk_cell N5.out 2).trans rfl
      have q3 : X5.cell? ⟨ob, 3, none⟩ = some (.int .i64 o.f3.f0) := (blk_cell N5.out 3).trans rfl
      have q4 : X5.cell? ⟨ob, 4, none⟩ = some (.int .i64 o.f3.f1) := (blk_cell N5.out 4).trans rfl
      go_wp2_with fail
      refine (do_step T5.out CC.out P5.out B5.out.size (L0.out.iv.le (by omega)) o F5.out).mono ?_
      rintro e X6 ⟨rfl, ⟨P6, vF6, vR6, vS6, gs6, T6, c6, p1, p2, p3⟩, M6⟩
      have T6 := Aside0.mk T6
      have C6 := Aside0.mk c6
      have R6 := Aside0.mk (RT.mv T5.out (fun k hk => hk) R5.out M6)
      have Y6 := Aside0.mk ((M6.k yb (Array.getElem?_eq_some_iff.1 Y5.out).1 (T5.out.own_ne Y5.out (by decide) (by decide) (by decide) (by decide))).trans Y5.out)
      have L6 := Aside0.mk (L0.out.below (B5.out.trans M6.b))
      clear c6 p1 p2 p3 M6 F5 P5 T5 R5 Y5 N5 B5 q0 q1 q2 q3 q4
      have RNG := Aside0.mk (rng_of Y6.out)
      have n1 : ((stepT t o).2.1 == (stepT t o).2.1) = true := beq_self_eq_true _
      have n2 : ((stepT t o).2.2 == (stepT t o).2.2) = true := beq_self_eq_true _
      go_wp2_with ((with_reducible refine gate_dst (N := 127) rfl ?_); refine wpList_load_g (by rfl) 33 _ rfl yb 0 rfl (tC (stepT t o).1.r u1 u2 u3) _ RNG.out Try.underlying33 rfl (by kernel_rfl) ?_)
      refine (asks_of T6.out C6.out R6.out (step_inv L0.out.iv o) (by omega)).mono ?_
      rintro e X7 ⟨rfl, hb7⟩
      have L7 := Aside0.mk (L6.out.below hb7)
      clear hb7 RNG L6 T6 C6 R6 Y6
      have RNG := Aside0.mk (rng_of L7.out.hx)
      go_wp2_with ((with_reducible refine gate_dst (N := 132) rfl ?_); refine wpList_load_g (by rfl) 33 _ rfl xb 0 rfl (tC t.r v1 v2 v3) _ RNG.out Try.underlying33 rfl (by kernel_rfl) ?_)
      refine (L7.out.asks (by omega)).mono ?_
      rintro e X8 ⟨rfl, hb8⟩
      have B8 := Aside0.mk (below_then L7.out.bl L7.out.bl.size hb8)
      clear hb8 RNG L7
      go_wp2_with fail
      refine (lives_calls _).mono ?_
      rintro e X9 ⟨rfl, hb9⟩
      have B9 := Aside0.mk (below_then B8.out B8.out.size hb9)
      clear hb9
      go_wp2
      go_ret
      exact ⟨rfl, B9.out⟩
set_option maxHeartbeats 4000000 in
set_option maxRecDepth 100000 in
theorem none_lives1 (l : List S39) (A : Option Addr) (c : Nat) (o : S39) (AL : Option Addr) (cL : Nat) (w : World) (hr : Kd.C k39 w A l.length l) (hc : l.length ≤ c) (hro : Kd.C (Kd.int .u64) w AL o.f2.length o.f2) (hcL : o.f2.length ≤ cL)
    (k : Nat) (hg : deadwoodlaw15_great.f k l = some true) :
    Calls Try.prog 5 #[.slice A l.length c, .agg #[.int .i64 o.f0, .int .i64 o.f1, .slice AL o.f2.length cL, .int .i64 o.f3.f0, .int .i64 o.f3.f1]] w fun e w' => e = .returned (.bool true) ∧ Below w.heap.size w w' := by
  have hu := Try.underlying33
  have huO := Try.underlying39
  have huT := Try.underlying57
  have huS := Try.underlying54
  have FO := Aside0.mk (Kd.C_F k39_heap hr)
  have FL := Aside0.mk (Kd.C_F (Kd.heap_int .u64) hro)
  have HCL2 := Aside0.mk hcL
  have G := Aside0.mk (fun (X : World) (hb : Below w.heap.size w X) => deadwoodlaw15_great.calls k A c l true X (Kd.C_below hr hb) hc hg)
  have B1 := Aside0.mk (below_alloc (Below.refl w.heap.size w) (.cells #[.int .i64 o.f0, .int .i64 o.f1, .slice AL o.f2.length cL, .int .i64 o.f3.f0, .int .i64 o.f3.f1] 39 (0, 0)))
  have N1 := Aside0.mk (heap_alloc_new w (.cells #[.int .i64 o.f0, .int .i64 o.f1, .slice AL o.f2.length cL, .int .i64 o.f3.f0, .int .i64 o.f3.f1] 39 (0, 0)))
  clear hg hr hro hcL
  go_enter Try.func5, Try.ntmps5
  go_upto_region 2 with (fail)
  generalize w.alloc _ = W1 at B1 N1 ⊢
  generalize hob : w.heap.size = ob at N1 ⊢
  have HOB := Aside0.mk hob
  clear hob
  have q0 : W1.cell? ⟨ob, 0, none⟩ = some (.int .i64 o.f0) := (blk_cell N1.out 0).trans rfl
  have q1 : W1.cell? ⟨ob, 1, none⟩ = some (.int .i64 o.f1) := (blk_cell N1.out 1).trans rfl
  have q2 : W1.cell? ⟨ob, 2, none⟩ = some (.slice AL o.f2.length cL) := (blk_cell N1.out 2).trans rfl
  have q3 : W1.cell? ⟨ob, 3, none⟩ = some (.int .i64 o.f3.f0) := (blk_cell N1.out 3).trans rfl
  have q4 : W1.cell? ⟨ob, 4, none⟩ = some (.int .i64 o.f3.f1) := (blk_cell N1.out 4).trans rfl
  go_wp2_with fail
  refine (do_nil o (AL := AL) (cL := cL)).mono ?_
  rintro e W2 ⟨rfl, hb⟩
  have B2 := Aside0.mk (below_then B1.out B1.out.size hb)
  have N2 := Aside0.mk (blk_below N1.out hb)
  clear hb B1 N1 q0 q1 q2 q3 q4
  go_wp2_with fail
  refine top_nil.mono ?_
  rintro e w3 ⟨rfl, rfl⟩
  go_wp2_with fail
  refine depth_nil.mono ?_
  rintro e w4 ⟨rfl, rfl⟩
  go_wp2_with fail
  refine row_nil.mono ?_
  rintro e w5 ⟨rfl, rfl⟩
  go_wp2_with fail
  refine clone_nil.mono ?_
  rintro e w6 ⟨rfl, rfl⟩
  go_wp2_with fail
  refine (G.out _ B2.out).mono ?_
  rintro e w7 ⟨rfl, ⟨nd, rfl⟩⟩
  have B3 := Aside0.mk (pw_below_drewN B2.out nd)
  have N3 := Aside0.mk (show (w6.drewN nd).heap[ob]? = _ from N2.out)
  generalize w6.drewN nd = W3 at B3 N3 ⊢
  clear B2 N2 G N3
  go_wp2_with fail
  refine (lives_calls _).mono ?_
  rintro e X9 ⟨rfl, hb9⟩
  have B9 := Aside0.mk (below_then B3.out B3.out.size hb9)
  clear hb9
  go_wp2
  go_ret
  exact ⟨rfl, B9.out⟩
set_option maxHeartbeats 4000000 in
set_option maxRecDepth 100000 in
theorem none_lives2 (l : List S39) (A : Option Addr) (c : Nat) (o : S39) (AL : Option Addr) (cL : Nat) (w : World) (hr : Kd.C k39 w A l.length l) (hc : l.length ≤ c) (hro : Kd.C (Kd.int .u64) w AL o.f2.length o.f2) (hcL : o.f2.length ≤ cL)
    (k : Nat) (hg : deadwoodlaw15_great.f k l = some false) (k2 : Nat) (hg2 : deadwoodlaw15_great.f k2 [o] = some true) :
    Calls Try.prog 5 #[.slice A l.length c, .agg #[.int .i64 o.f0, .int .i64 o.f1, .slice AL o.f2.length cL, .int .i64 o.f3.f0, .int .i64 o.f3.f1]] w fun e w' => e = .returned (.bool true) ∧ Below w.heap.size w w' := by
  have hu := Try.underlying33
  have huO := Try.underlying39
  have huT := Try.underlying57
  have huS := Try.underlying54
  have FO := Aside0.mk (Kd.C_F k39_heap hr)
  have FL := Aside0.mk (Kd.C_F (Kd.heap_int .u64) hro)
  have HCL2 := Aside0.mk hcL
  have G := Aside0.mk (fun (X : World) (hb : Below w.heap.size w X) => deadwoodlaw15_great.calls k A c l false X (Kd.C_below hr hb) hc hg)
  have B1 := Aside0.mk (below_alloc (Below.refl w.heap.size w) (.cells #[.int .i64 o.f0, .int .i64 o.f1, .slice AL o.f2.length cL, .int .i64 o.f3.f0, .int .i64 o.f3.f1] 39 (0, 0)))
  have N1 := Aside0.mk (heap_alloc_new w (.cells #[.int .i64 o.f0, .int .i64 o.f1, .slice AL o.f2.length cL, .int .i64 o.f3.f0, .int .i64 o.f3.f1] 39 (0, 0)))
  clear hg hr hro hcL
  go_enter Try.func5, Try.ntmps5
  go_upto_region 2 with (fail)
  generalize w.alloc _ = W1 at B1 N1 ⊢
  generalize hob : w.heap.size = ob at N1 ⊢
  have HOB := Aside0.mk hob
  clear hob
  have q0 : W1.cell? ⟨ob, 0, none⟩ = some (.int .i64 o.f0) := (blk_cell N1.out 0).trans rfl
  have q1 : W1.cell? ⟨ob, 1, none⟩ = some (.int .i64 o.f1) := (blk_cell N1.out 1).trans rfl
  have q2 : W1.cell? ⟨ob, 2, none⟩ = some (.slice AL o.f2.length cL) := (blk_cell N1.out 2).trans rfl
  have q3 : W1.cell? ⟨ob, 3, none⟩ = some (.int .i64 o.f3.f0) := (blk_cell N1.out 3).trans rfl
  have q4 : W1.cell? ⟨ob, 4, none⟩ = some (.int .i64 o.f3.f1) := (blk_cell N1.out 4).trans rfl
  go_wp2_with fail
  refine (do_nil o (AL := AL) (cL := cL)).mono ?_
  rintro e W2 ⟨rfl, hb⟩
  have B2 := Aside0.mk (below_then B1.out B1.out.size hb)
  have N2 := Aside0.mk (blk_below N1.out hb)
  clear hb B1 N1 q0 q1 q2 q3 q4
  go_wp2_with fail
  refine top_nil.mono ?_
  rintro e w3 ⟨rfl, rfl⟩
  go_wp2_with fail
  refine depth_nil.mono ?_
  rintro e w4 ⟨rfl, rfl⟩
  go_wp2_with fail
  refine row_nil.mono ?_
  rintro e w5 ⟨rfl, rfl⟩
  go_wp2_with fail
  refine clone_nil.mono ?_
  rintro e w6 ⟨rfl, rfl⟩
  go_wp2_with fail
  refine (G.out _ B2.out).mono ?_
  rintro e w7 ⟨rfl, ⟨nd, rfl⟩⟩
  have B3 := Aside0.mk (pw_below_drewN B2.out nd)
  have N3 := Aside0.mk (show (w6.drewN nd).heap[ob]? = _ from N2.out)
  generalize w6.drewN nd = W3 at B3 N3 ⊢
  have q0 : W3.cell? ⟨ob, 0, none⟩ = some (.int .i64 o.f0) := (blk_cell N3.out 0).trans rfl
  have q1 : W3.cell? ⟨ob, 1, none⟩ = some (.int .i64 o.f1) := (blk_cell N3.out 1).trans rfl
  have q2 : W3.cell? ⟨ob, 2, none⟩ = some (.slice AL o.f2.length cL) := (blk_cell N3.out 2).trans rfl
  have q3 : W3.cell? ⟨ob, 3, none⟩ = some (.int .i64 o.f3.f0) := (blk_cell N3.out 3).trans rfl
  have q4 : W3.cell? ⟨ob, 4, none⟩ = some (.int .i64 o.f3.f1) := (blk_cell N3.out 4).trans rfl
  clear B2 N2 G
  have B4 := Aside0.mk (below_alloc (Below.refl W3.heap.size W3) (.cells #[.int .i64 o.f0, .int .i64 o.f1, .slice AL o.f2.length cL, .int .i64 o.f3.f0, .int .i64 o.f3.f1] 39 (0, 0)))
  have C4 := Aside0.mk (one_op o (A := AL) (c := cL) (heap_alloc_new W3 (.cells #[.int .i64 o.f0, .int .i64 o.f1, .slice AL o.f2.length cL, .int .i64 o.f3.f0, .int .i64 o.f3.f1] 39 (0, 0))) HCL2.out (Kd.F_now (Kd.F_below FL.out (below_then B3.out B3.out.size B4.out))))
  go_wp2_with fail
  refine (deadwoodlaw15_great.calls k2 _ 1 [o] true _ C4.out (Nat.le_refl 1) hg2).mono ?_
  rintro e w7 ⟨rfl, ⟨nd2, rfl⟩⟩
  have B5 := Aside0.mk (pw_below_drewN (below_then B3.out B3.out.size B4.out) nd2)
  clear B3 N3 B4 C4 q0 q1 q2 q3 q4
  go_wp2_with fail
  refine (lives_calls _).mono ?_
  rintro e X9 ⟨rfl, hb9⟩
  have B9 := Aside0.mk (below_then B5.out B5.out.size hb9)
  clear hb9
  go_wp2
  go_ret
  exact ⟨rfl, B9.out⟩
/-- The law, walked. -/
theorem none_walk (l : List S39) (A : Option Addr) (c : Nat) (o : S39) (AL : Option Addr) (cL : Nat) (w : World) (hr : Kd.C k39 w A l.length l) (hc : l.length ≤ c) (hro : Kd.C (Kd.int .u64) w AL o.f2.length o.f2) (hcL : o.f2.length ≤ cL) :
    Calls Try.prog 5 #[.slice A l.length c, .agg #[.int .i64 o.f0, .int .i64 o.f1, .slice AL o.f2.length cL, .int .i64 o.f3.f0, .int .i64 o.f3.f1]] w fun e w' => e = .returned (.bool true) ∧ Below w.heap.size w w' := by
  obtain ⟨k, b, h1, h2⟩ := great_some l
  cases b with
  | true => exact none_lives1 l A c o AL cL w hr hc hro hcL k h1
  | false =>
    obtain ⟨k2, b2, h3, h4⟩ := great_some [o]
    cases b2 with
    | true => exact none_lives2 l A c o AL cL w hr hc hro hcL k h1 k2 h3
    | false => exact none_in l A c o AL cL w hr hc hro hcL k h1 (h2 rfl).1 (h2 rfl).2 k2 h3 ((h4 rfl).2 o List.mem_cons_self)
end Go.Proofs.Ytocmdcjbjhpooaa.FrW
