/- The opers of any thread of any events are told one by one: the walk of the law. -/
import Derived.Test.YtacajonkkfmibaaHistEachA
import Derived.Test.YtacajonkkfmibaaHistMayRef
import Derived.Deep.AppendLies
import Derived.Deep.RegionLaw
set_option linter.unusedVariables false
set_option linter.unusedSimpArgs false
namespace Go.Proofs.Ytacajonkkfmibaa.HistLawE
open Go Go.RowKit Go.Proofs.YtacajonkkfmibaaW.PrintWords Go.Proofs.YtacajonkkfmibaaW.PrintLast Go.Proofs.YtacajonkkfmibaaW.PrintMore Go.Proofs.Ytacajonkkfmibaa.PHistOpers Go.Proofs.Ytacajonkkfmibaa.PHistOpers.HistW Go.Proofs.Ytacajonkkfmibaa.Num Go.Proofs.Ytacajonkkfmibaa.HistEachA Go.Proofs.Ytacajonkkfmibaa.HistMayRef Go.Proofs.Ytacajonkkfmibaa.GRow
theorem great_loop (l : List Ev) (d : Nat) : ∀ (i : Nat), i + d = 201 → ∃ b, deadwoodlaw11_great.l0 (2 * d + 2) l (i : Int) = some b ∧ (b = false → l.length ≤ 120) := by
  have fin : ∀ (m : Nat) (x : Int), deadwoodlaw11_great.j1 (m + 1) l x false = some (decide ((l.length : Int) > 120)) := fun m x => by rw [deadwoodlaw11_great.j1, if_neg (by decide)]
  induction d with
  | zero =>
    intro i hi
    refine ⟨decide ((l.length : Int) > 120), ?_, fun h => by have := of_decide_eq_false h; omega⟩
    show deadwoodlaw11_great.l0 2 l i = _
    rw [deadwoodlaw11_great.l0]
    split
    · rw [decide_eq_false (by omega), fin]
    · rw [fin]
  | succ d ih =>
    intro i hi
    show ∃ b, deadwoodlaw11_great.l0 (2 * d + 2 + 1 + 1) l i = some b ∧ _
    rw [deadwoodlaw11_great.l0]
    by_cases h : (i : Int) < (l.length : Int)
    · rw [if_pos h]
      by_cases h2 : (i : Int) < 200
      · rw [decide_eq_true h2, deadwoodlaw11_great.j1, if_pos rfl, if_pos (by omega), if_pos h]
        split
        · exact ⟨true, rfl, fun h => by cases h⟩
        · rw [wrap64_of (by omega) (by omega), show (i : Int) + 1 = ((i + 1 : Nat) : Int) by omega]
          exact ih (i + 1) (by omega)
      · rw [decide_eq_false h2, fin]
        exact ⟨_, rfl, fun h => by have := of_decide_eq_false h; omega⟩
    · rw [if_neg h, fin]
      exact ⟨_, rfl, fun h => by have := of_decide_eq_false h; omega⟩
theorem great_some (l : List Ev) : ∃ k b, deadwoodlaw11_great.f k l = some b ∧ (b = false → l.length ≤ 120) := by
  obtain ⟨b, h1, h2⟩ := great_loop l 201 0 rfl
  exact ⟨_, b, h1, h2⟩
def eachR (l : List Ev) : List Opr := if mayF l = true then refs 0 l else []
theorem each_refs (l : List Ev) : eachR l = opersF l := by
  unfold eachR
  cases hm : mayF l with
  | true => rw [if_pos rfl, opers_refs hm]
  | false => rw [if_neg (by decide)]; unfold opersF; rw [hm, if_neg (by decide)]
theorem refs_len (l : List Ev) : ∀ i, (refs i l).length ≤ l.length := by
  induction l with
  | nil => intro i; exact Nat.le_refl _
  | cons e l ih =>
    intro i
    rw [refs]
    split
    · have := ih (i + 1); rw [List.length_cons]; omega
    · have := ih (i + 1); rw [List.length_cons, List.length_cons]; omega
theorem opers_len (l : List Ev) : (opersF l).length ≤ l.length := by
  rw [← each_refs]
  unfold eachR
  split
  · exact refs_len l 0
  · exact Nat.zero_le _
theorem op_foot {w : World} {ok : Nat → Prop} {A : Option Addr} {l : List Opr} (h : Kd.F kO w ok A l.length l) (i : Nat) (hi : i < l.length) : ∃ ad A10 c10, A = some ad ∧ C13 w (ad.add (i * 13)) l[i] A10 c10 ∧ l[i].f2.f4.length ≤ c10 ∧ Kd.F k104 w ok A10 l[i].f2.f4.length l[i].f2.f4 := by
  obtain ⟨hl, hm, hr⟩ := Kd.F_rows h
  obtain ⟨ad, hA, hr2⟩ := hr (by omega)
  obtain ⟨c, hc, hK, hcell⟩ := hr2 i l[i] (List.getElem?_eq_getElem hi)
  obtain ⟨A10, c10, rfl, l10, g10⟩ := k35_openF hK
  have hc2 : ∀ j u, _ → w.cell? (ad.add (i * 13 + j)) = some u := hcell
  exact ⟨ad, A10, c10, hA, ⟨hc2 0 _ rfl, by rw [← add_field _ _ 1 (by omega)]; exact hc2 1 _ rfl, by rw [← add_field _ _ 2 (by omega)]; exact hc2 2 _ rfl, by rw [← add_field _ _ 3 (by omega)]; exact hc2 3 _ rfl, by rw [← add_field _ _ 4 (by omega)]; exact hc2 4 _ rfl, by rw [← add_field _ _ 5 (by omega)]; exact hc2 5 _ rfl, by rw [← add_field _ _ 6 (by omega)]; exact hc2 6 _ rfl, by rw [← add_field _ _ 7 (by omega)]; exact hc2 7 _ rfl, by rw [← add_field _ _ 8 (by omega)]; exact hc2 8 _ rfl, by rw [← add_field _ _ 9 (by omega)]; exact hc2 9 _ rfl, by rw [← add_field _ _ 10 (by omega)]; exact hc2 10 _ rfl, by rw [← add_field _ _ 11 (by omega)]; exact hc2 11 _ rfl, by rw [← add_field _ _ 12 (by omega)]; exact hc2 12 _ rfl⟩, l10, g10⟩
theorem mine_take (t : Int) (xs : List Opr) (j : Nat) (hj : j < xs.length) : mine t (xs.take (j + 1)) = if xs[j].f0 = t then mine t (xs.take j) ++ [xs[j]] else mine t (xs.take j) := by
  rw [List.take_succ_eq_append_getElem hj]
  unfold mine
  rw [List.filter_append, List.filter_cons]
  by_cases h : xs[j].f0 = t
  · rw [if_pos h, if_pos (beq_iff_eq.2 h)]; rfl
  · rw [if_neg h, if_neg (by rw [beq_iff_eq]; exact h), List.filter_nil, List.append_nil]
theorem nil_cmp (a b : Array Value) (W : World) : (binOp .eql 38 (.func (.func 54) a b) .nilFunc).run Try.prog W = .ok (.bool false) W := by kernel_rfl
set_option maxHeartbeats 4000000 in
set_option maxRecDepth 100000 in
theorem walk_lives (l : List Ev) (A : Option Addr) (c : Nat) (thread till : Int) (w : World) (hr : Kd.C k33 w A l.length l) (hc : l.length ≤ c) (k : Nat) (hg : deadwoodlaw11_great.f k l = some true) :
    Calls Try.prog 4 #[.slice A l.length c, .int .i64 thread, .int .i64 till] w fun e w' => e = .returned (.bool true) ∧ Below w.heap.size w w' := by
  have G := Aside0.mk (fun (W : World) (hb : Below w.heap.size w W) => deadwoodlaw11_great.calls k A c l true W (Kd.C_below hr hb) hc hg)
  clear hg hr
  go_enter Try.func4, Try.ntmps4
  go_wp2_with fail
  have B0 := Aside0.mk (below_alloc (Below.refl w.heap.size w) (.cells #[.int .i64 till] 3 (0, 0)))
  refine (G.out _ B0.out).mono ?_
  rintro e w2 ⟨rfl, ⟨nd, rfl⟩⟩
  have B1 := Aside0.mk (pw_below_drewN B0.out nd)
  go_wp2_with fail
  refine (lives_calls _).mono ?_
  rintro e w3 ⟨rfl, hb⟩
  have HB := Aside0.mk (below_then B1.out B1.out.size hb)
  clear hb
  go_wp2
  all_goals go_ret
  all_goals exact ⟨rfl, HB.out⟩
set_option maxHeartbeats 4000000 in
set_option maxRecDepth 100000 in
theorem walk_in (l : List Ev) (A : Option Addr) (c : Nat) (thread till : Int) (w : World) (hr : Kd.C k33 w A l.length l) (hc : l.length ≤ c) (hl : l.length ≤ 120) (k : Nat) (hg : deadwoodlaw11_great.f k l = some false) :
    Calls Try.prog 4 #[.slice A l.length c, .int .i64 thread, .int .i64 till] w fun e w' => e = .returned (.bool true) ∧ Below w.heap.size w w' := by
  have hu5 := Try.underlying35
  obtain ⟨i0, hi0, hz1, hz2, zz, hz0, hzs⟩ := info_opr
  have G := Aside0.mk (fun (W : World) (hb : Below w.heap.size w W) => deadwoodlaw11_great.calls k A c l false W (Kd.C_below hr hb) hc hg)
  have RO := Aside0.mk (fun (W : World) (hb : Below w.heap.size w W) => rop_calls l A c W (fun k => k < W.heap.size) (Kd.C_F k33_heap (Kd.C_below hr hb)) hc (by omega) (mayF l) (ref_may l hl))
  have HR := Aside0.mk hr
  have XL := Nat.le_trans (opers_len l) hl
  have ER := Aside0.mk (each_refs l)
  unfold eachR at ER
  clear hg hr
  go_enter Try.func4, Try.ntmps4
  go_wp2_with fail
  have B0 := Aside0.mk (below_alloc (Below.refl w.heap.size w) (.cells #[.int .i64 till] 3 (0, 0)))
  have T0 := heap_alloc_new w (.cells #[.int .i64 till] 3 (0, 0))
  refine (G.out _ B0.out).mono ?_
  rintro e w2 ⟨rfl, ⟨nd, rfl⟩⟩
  have B1 := Aside0.mk (pw_below_drewN B0.out nd)
  have T1 := Aside0.mk (show ((w.alloc (.cells #[.int .i64 till] 3 (0, 0))).drewN nd).heap[w.heap.size]? = some (.cells #[.int .i64 till] 3 (0, 0)) from T0)
  clear T0 B0 G
  generalize (w.alloc (.cells #[.int .i64 till] 3 (0, 0))).drewN nd = w1 at B1 T1 ⊢
  go_wp2_with fail
  refine (RO.out _ B1.out).mono ?_
  rintro e w3 ⟨v0, rfl, hV, hb3⟩
  obtain ⟨Ao, co, rfl⟩ := Kd.V_slice hV
  rw [ER.out] at hV ⊢
  have FO := Aside0.mk (Kd.F_bound (Kd.V_F hV))
  have B3 := Aside0.mk (below_then B1.out B1.out.size hb3)
  have T3 := Aside0.mk (blk_below T1.out hb3)
  generalize hxs : opersF l = xs at FO XL ⊢
  have HXS := Aside0.mk hxs
  clear hV hb3 RO ER B1 T1 hxs
  have NX0 := Aside0.mk (heap_alloc_new w3 (.cells #[.slice none 0 0] 25 (0, 0)))
  have BX0 := Aside0.mk (below_alloc (Below.refl w3.heap.size w3) (.cells #[.slice none 0 0] 25 (0, 0)))
  go_wp2
  go_loopg [9] xs.length (fun kx s9 wr => ∃ (j : Nat) (v : Value) (recs : List (List Value)), s9 = .int .i64 j ∧ j + kx = xs.length ∧ Aside0 (wr.heap[w3.heap.size]? = some (.cells #[v] 25 (0, 0))) ∧ Aside0 (OV 35 13 wr w3.heap.size v recs) ∧ Aside0 (Recs w3 (fun k => k < w3.heap.size) (mine thread (xs.take j)) recs) ∧ Aside0 (recs.length ≤ j) ∧ Aside0 (Below w3.heap.size w3 wr))
  case atStart => exact ⟨0, .slice none 0 0, [], rfl, by omega, NX0, ⟨OV.nil _ _ _ _⟩, ⟨rfl, fun j h1 => by simp [mine] at h1⟩, ⟨Nat.le_refl _⟩, BX0⟩
  case round =>
    clear NX0 BX0
    obtain ⟨j, v, recs, rfl, hj, NX, OVV, RC, RL, BX⟩ := hrel
    by_cases hlt : j < xs.length
    · obtain ⟨ad, A10, c10, hA, hC13, hl10, hr10⟩ := op_foot FO.out j hlt
      subst hA
      have q1 : (j : Int) < (xs.length : Int) := by omega
      have hM := mine_take thread xs j hlt
      generalize xs[j] = o at hC13 hl10 hr10 hM
      have hC13 := hC13.below BX.out
      obtain ⟨p0, p1, p2, p3, p4, p5, p6, p7, p8, p9, p10, p11, p12⟩ := hC13
      by_cases hth : o.f0 = thread
      · have dth : (o.f0 == thread) = true := beq_iff_eq.2 hth
        rw [if_pos hth] at hM
        have HM := Aside0.mk hM
        have H10 := Aside0.mk (And.intro hl10 (Kd.F_mono hr10 (ok' := fun k => k < w3.heap.size) (fun k hk => hk.2)))
        obtain ⟨Av, cv, hs3, hcv⟩ := OVV.out.slice
        subst hs3
        have x0 : wr.cell? ⟨w3.heap.size, 0, none⟩ = some (.slice Av recs.length cv) := (blk_cell NX.out 0).trans rfl
        clear hM hl10 hr10 hth
        have NX5 : Aside0 (wr.drew.heap[w3.heap.size]? = some (.cells #[.slice Av recs.length cv] 25 (0, 0))) := ⟨NX.out⟩
        have OV5 := Aside0.mk (OVV.out.move (w' := wr.drew) (fun _ _ _ _ => rfl))
        have BX5 := Aside0.mk (below_drew1 BX.out)
        have OV6 := Aside0.mk (OV5.out.alloc (.cells #[.int .i64 o.f0, .int .i64 o.f1.f0, .int .i64 o.f1.f1, .int .i64 o.f1.f2, .int .i64 o.f1.f3, .int .i64 o.f1.f4, .int .i64 o.f2.f0, .int .i64 o.f2.f1, .int .i64 o.f2.f2, .int .i64 o.f2.f3, .slice A10 o.f2.f4.length c10, .int .i64 o.f3, .int .i64 o.f4] 35 (0, 0)))
        have OWN := Aside0.mk (OV6.out.own (by decide))
        have NEWS := Aside0.mk (heap_alloc_new wr.drew (.cells #[.int .i64 o.f0, .int .i64 o.f1.f0, .int .i64 o.f1.f1, .int .i64 o.f1.f2, .int .i64 o.f1.f3, .int .i64 o.f1.f4, .int .i64 o.f2.f0, .int .i64 o.f2.f1, .int .i64 o.f2.f2, .int .i64 o.f2.f3, .slice A10 o.f2.f4.length c10, .int .i64 o.f3, .int .i64 o.f4] 35 (0, 0)))
        have WID := Aside0.mk OV5.out.wide
        have hrl := RL.out
        have NW := Aside0.mk (show ∀ j u, ([.int .i64 o.f0, .int .i64 o.f1.f0, .int .i64 o.f1.f1, .int .i64 o.f1.f2, .int .i64 o.f1.f3, .int .i64 o.f1.f4, .int .i64 o.f2.f0, .int .i64 o.f2.f1, .int .i64 o.f2.f2, .int .i64 o.f2.f3, .slice A10 o.f2.f4.length c10, .int .i64 o.f3, .int .i64 o.f4] : List Value)[j]? = some u → (wr.drew.alloc (.cells #[.int .i64 o.f0, .int .i64 o.f1.f0, .int .i64 o.f1.f1, .int .i64 o.f1.f2, .int .i64 o.f1.f3, .int .i64 o.f1.f4, .int .i64 o.f2.f0, .int .i64 o.f2.f1, .int .i64 o.f2.f2, .int .i64 o.f2.f3, .slice A10 o.f2.f4.length c10, .int .i64 o.f3, .int .i64 o.f4] 35 (0, 0))).cell? ((⟨wr.heap.size, 0, none⟩ : Addr).add j) = some u from by
          intro j u hu
          rw [add_at, Nat.zero_add]
          exact (blk_cell NEWS.out j).trans (by rw [List.getElem?_toArray]; exact hu))
        have ONE := Aside0.mk (show ∀ u ∈ ([.int .i64 o.f0, .int .i64 o.f1.f0, .int .i64 o.f1.f1, .int .i64 o.f1.f2, .int .i64 o.f1.f3, .int .i64 o.f1.f4, .int .i64 o.f2.f0, .int .i64 o.f2.f1, .int .i64 o.f2.f2, .int .i64 o.f2.f3, .slice A10 o.f2.f4.length c10, .int .i64 o.f3, .int .i64 o.f4] : List Value), u.oneCell' = true from (List.forall_mem_cons.2 ⟨rfl, (List.forall_mem_cons.2 ⟨rfl, (List.forall_mem_cons.2 ⟨rfl, (List.forall_mem_cons.2 ⟨rfl, (List.forall_mem_cons.2 ⟨rfl, (List.forall_mem_cons.2 ⟨rfl, (List.forall_mem_cons.2 ⟨rfl, (List.forall_mem_cons.2 ⟨rfl, (List.forall_mem_cons.2 ⟨rfl, (List.forall_mem_cons.2 ⟨rfl, (List.forall_mem_cons.2 ⟨rfl, (List.forall_mem_cons.2 ⟨rfl, (List.forall_mem_cons.2 ⟨rfl, (fun _ h => nomatch h)⟩)⟩)⟩)⟩)⟩)⟩)⟩)⟩)⟩)⟩)⟩)⟩)⟩))
        have BX6 := Aside0.mk (below_alloc BX5.out (.cells #[.int .i64 o.f0, .int .i64 o.f1.f0, .int .i64 o.f1.f1, .int .i64 o.f1.f2, .int .i64 o.f1.f3, .int .i64 o.f1.f4, .int .i64 o.f2.f0, .int .i64 o.f2.f1, .int .i64 o.f2.f2, .int .i64 o.f2.f3, .slice A10 o.f2.f4.length c10, .int .i64 o.f3, .int .i64 o.f4] 35 (0, 0)))
        have BS6 := Aside0.mk (show w3.heap.size ≤ (wr.drew.alloc (.cells #[.int .i64 o.f0, .int .i64 o.f1.f0, .int .i64 o.f1.f1, .int .i64 o.f1.f2, .int .i64 o.f1.f3, .int .i64 o.f1.f4, .int .i64 o.f2.f0, .int .i64 o.f2.f1, .int .i64 o.f2.f2, .int .i64 o.f2.f3, .slice A10 o.f2.f4.length c10, .int .i64 o.f3, .int .i64 o.f4] 35 (0, 0))).heap.size from BX6.out.size)
        have NX6 := Aside0.mk (blk_alloc NX5.out (.cells #[.int .i64 o.f0, .int .i64 o.f1.f0, .int .i64 o.f1.f1, .int .i64 o.f1.f2, .int .i64 o.f1.f3, .int .i64 o.f1.f4, .int .i64 o.f2.f0, .int .i64 o.f2.f1, .int .i64 o.f2.f2, .int .i64 o.f2.f3, .slice A10 o.f2.f4.length c10, .int .i64 o.f3, .int .i64 o.f4] 35 (0, 0)))
        have x6 : (wr.alloc (.cells #[.int .i64 o.f0, .int .i64 o.f1.f0, .int .i64 o.f1.f1, .int .i64 o.f1.f2, .int .i64 o.f1.f3, .int .i64 o.f1.f4, .int .i64 o.f2.f0, .int .i64 o.f2.f1, .int .i64 o.f2.f2, .int .i64 o.f2.f3, .slice A10 o.f2.f4.length c10, .int .i64 o.f3, .int .i64 o.f4] 35 (0, 0))).cell? ⟨w3.heap.size, 0, none⟩ = some (.slice Av recs.length cv) := (blk_cell NX6.out 0).trans rfl
        have HNB := Aside0.mk (show some w3.heap.size ≠ (Value.slice Av recs.length cv).ownBlock from fun h => by
          rcases OV5.out with ⟨h1, _⟩ | ⟨g, c1, h1, _, G⟩
          · rw [h1] at h; cases h
          · rw [h1] at h
            obtain ⟨cur, hcur⟩ := G.typed
            exact blk_ne hcur NX5.out (by decide) (Option.some.inj h).symm)
        go_wp2_with fail
        go_region_law (refine step_append_lies _ rfl _ _ 25 rfl w3.heap.size 35 i0 zz 13 120 Try.underlying25 hi0 hz0 hz1 hz2 hzs (by decide) _ _ _ rfl OWN.out ⟨wr.heap.size, 0, none⟩ 1 1 [.int .i64 o.f0, .int .i64 o.f1.f0, .int .i64 o.f1.f1, .int .i64 o.f1.f2, .int .i64 o.f1.f3, .int .i64 o.f1.f4, .int .i64 o.f2.f0, .int .i64 o.f2.f1, .int .i64 o.f2.f2, .int .i64 o.f2.f3, .slice A10 o.f2.f4.length c10, .int .i64 o.f3, .int .i64 o.f4] rfl rfl NW.out ONE.out (by decide) (by unfold maxLen; omega) (by omega) BS6.out _ rfl ?_; intro g7 c7 w6 hown hgrow hat7 hlt7; have OV7 := Aside0.mk (OV.snoc hown rfl WID.out rfl); have NX7 := Aside0.mk ((hgrow.block _ (Array.getElem?_eq_some_iff.1 NX6.out).1 HNB.out).trans NX6.out); have BX7 := Aside0.mk (BX6.out.grown hgrow BS6.out (fun k hk => (OWN.out.lt k hk).1)); have x7 : w6.cell? ⟨w3.heap.size, 0, none⟩ = some (.slice Av recs.length cv) := (blk_cell NX7.out 0).trans rfl; have z7 := blk_frozen NX7.out 0; clear hown hgrow hat7 hlt7)
        all_goals go_wp2
        all_goals go_roundg (xs.length - (j + 1))
        all_goals try (exact (show xs.length - (j + 1) < _ by omega))
        all_goals refine ⟨j + 1, _, recs ++ [[.int .i64 o.f0, .int .i64 o.f1.f0, .int .i64 o.f1.f1, .int .i64 o.f1.f2, .int .i64 o.f1.f3, .int .i64 o.f1.f4, .int .i64 o.f2.f0, .int .i64 o.f2.f1, .int .i64 o.f2.f2, .int .i64 o.f2.f3, .slice A10 o.f2.f4.length c10, .int .i64 o.f3, .int .i64 o.f4]], by go_num, by omega, ⟨blk_set NX7.out 0 _⟩, ⟨OV7.out.move (fun k _ _ hk => blk_at_far ?_)⟩, ⟨?_⟩, ⟨by rw [List.length_append, List.length_singleton]; omega⟩, ⟨BX7.out.setCell (Nat.le_refl _) _⟩⟩
        all_goals try (rw [HM.out]; exact RC.out.snoc (k35_mkF w3 _ o H10.out.1 H10.out.2))
        all_goals rcases OV7.out with ⟨h1, _⟩ | ⟨g, c1, h1, _, G⟩
        all_goals rw [h1] at hk
        all_goals first | (cases hk; done) | (obtain ⟨cur, hcur⟩ := G.typed; obtain rfl : g = k := Option.some.inj hk; exact blk_ne hcur NX7.out (by decide))
      · have dth : (o.f0 == thread) = false := by rw [beq_eq_false_iff_ne]; exact hth
        rw [if_neg hth] at hM
        have HM := Aside0.mk hM
        clear hM hl10 hr10 hth
        go_wp2
        go_roundg (xs.length - (j + 1))
        case measure => omega
        case rel => exact ⟨j + 1, v, recs, by go_num, by omega, NX, OVV, ⟨by rw [HM.out]; exact RC.out⟩, ⟨by have := RL.out; omega⟩, BX⟩
    · obtain rfl : j = xs.length := by omega
      have RC2 := RC.out
      rw [List.take_length] at RC2
      have RV := Aside0.mk (recs_V OVV.out RC2 BX.out)
      obtain ⟨Ax, cx, hs3⟩ := Kd.V_slice RV.out
      subst hs3
      have FX := Aside0.mk (Kd.F_bound (Kd.V_F RV.out))
      have BW := Aside0.mk (below_then B3.out B3.out.size BX.out)
      have T4 := Aside0.mk (blk_below T3.out BX.out)
      have q1 : ¬ (xs.length : Int) < (xs.length : Int) := by omega
      clear RC2 RV OVV RC RL B3 BX T3
      have LT := Aside0.mk (And.intro (Array.getElem?_eq_some_iff.1 NX.out).1 (Array.getElem?_eq_some_iff.1 T4.out).1)
      have NE := Aside0.mk (show w3.heap.size ≠ w.heap.size from blk_ne NX.out T4.out (by decide))
      have L1 := Aside0.mk (heap_alloc_new wr (.cells #[.slice A l.length c] 22 (0, 0)))
      have H2 := Aside0.mk (heap_alloc_new (wr.alloc (.cells #[.slice A l.length c] 22 (0, 0))) (.cells #[.int .i64 thread] 3 (0, 0)))
      have I3 := Aside0.mk (heap_alloc_new ((wr.alloc (.cells #[.slice A l.length c] 22 (0, 0))).alloc (.cells #[.int .i64 thread] 3 (0, 0))) (.cells #[.int .i64 0] 3 (0, 0)))
      have F4 := Aside0.mk (heap_alloc_new (((wr.alloc (.cells #[.slice A l.length c] 22 (0, 0))).alloc (.cells #[.int .i64 thread] 3 (0, 0))).alloc (.cells #[.int .i64 0] 3 (0, 0))) (.cells #[.bool true] 4 (0, 0)))
      have BA := Aside0.mk (show Below wr.heap.size wr ((((wr.alloc (.cells #[.slice A l.length c] 22 (0, 0))).alloc (.cells #[.int .i64 thread] 3 (0, 0))).alloc (.cells #[.int .i64 0] 3 (0, 0))).alloc (.cells #[.bool true] 4 (0, 0))) from below_alloc (below_alloc (below_alloc (below_alloc (Below.refl _ _) _) _) _) _)
      have s1 : (wr.alloc (.cells #[.slice A l.length c] 22 (0, 0))).heap.size = wr.heap.size + 1 := by simp
      have s2 : ((wr.alloc (.cells #[.slice A l.length c] 22 (0, 0))).alloc (.cells #[.int .i64 thread] 3 (0, 0))).heap.size = wr.heap.size + 1 + 1 := by simp
      have s3 : (((wr.alloc (.cells #[.slice A l.length c] 22 (0, 0))).alloc (.cells #[.int .i64 thread] 3 (0, 0))).alloc (.cells #[.int .i64 0] 3 (0, 0))).heap.size = wr.heap.size + 1 + 1 + 1 := by simp
      have F5 := Aside0.mk (show ((((wr.alloc (.cells #[.slice A l.length c] 22 (0, 0))).alloc (.cells #[.int .i64 thread] 3 (0, 0))).alloc (.cells #[.int .i64 0] 3 (0, 0))).alloc (.cells #[.bool true] 4 (0, 0))).heap[wr.heap.size + 1 + 1 + 1]? = some (.cells #[.bool true] 4 (0, 0)) from by rw [← s3]; exact F4.out)
      have I5 := Aside0.mk (show ((((wr.alloc (.cells #[.slice A l.length c] 22 (0, 0))).alloc (.cells #[.int .i64 thread] 3 (0, 0))).alloc (.cells #[.int .i64 0] 3 (0, 0))).alloc (.cells #[.bool true] 4 (0, 0))).heap[wr.heap.size + 1 + 1]? = some (.cells #[.int .i64 0] 3 (0, 0)) from by rw [← s2]; exact blk_alloc I3.out _)
      have H5 := Aside0.mk (show ((((wr.alloc (.cells #[.slice A l.length c] 22 (0, 0))).alloc (.cells #[.int .i64 thread] 3 (0, 0))).alloc (.cells #[.int .i64 0] 3 (0, 0))).alloc (.cells #[.bool true] 4 (0, 0))).heap[wr.heap.size + 1]? = some (.cells #[.int .i64 thread] 3 (0, 0)) from by rw [← s1]; exact blk_alloc (blk_alloc H2.out _) _)
      have L5 := Aside0.mk (blk_alloc (blk_alloc (blk_alloc L1.out (.cells #[.int .i64 thread] 3 (0, 0))) (.cells #[.int .i64 0] 3 (0, 0))) (.cells #[.bool true] 4 (0, 0)))
      have FL := Aside0.mk (show Kd.F k33 ((((wr.alloc (.cells #[.slice A l.length c] 22 (0, 0))).alloc (.cells #[.int .i64 thread] 3 (0, 0))).alloc (.cells #[.int .i64 0] 3 (0, 0))).alloc (.cells #[.bool true] 4 (0, 0))) (kept (wr.heap.size + 1 + 1 + 1) (wr.heap.size + 1 + 1)) A l.length l from Kd.F_mono (Kd.F_below (Kd.F_below (Kd.C_F k33_heap HR.out) BW.out) BA.out) (fun k hk => ⟨by have := BW.out.size; omega, by have := BW.out.size; omega⟩))
      have FX5 := Aside0.mk (show Kd.F kO ((((wr.alloc (.cells #[.slice A l.length c] 22 (0, 0))).alloc (.cells #[.int .i64 thread] 3 (0, 0))).alloc (.cells #[.int .i64 0] 3 (0, 0))).alloc (.cells #[.bool true] 4 (0, 0))) (kept (wr.heap.size + 1 + 1 + 1) (wr.heap.size + 1 + 1)) Ax _ _ from Kd.F_mono (Kd.F_below FX.out BA.out) (fun k hk => ⟨by omega, by omega⟩))
      have N5 := Aside0.mk (blk_below NX.out BA.out)
      have T5 := Aside0.mk (blk_below T4.out BA.out)
      clear L1 H2 I3 F4 s1 s2 s3 FX NX T4
      go_wp2_with fail
      refine (each_calls A l.length c thread wr).mono ?_
      rintro e w7 ⟨rfl, rfl⟩
      have NC := nil_cmp
      go_wp2_with fail
      have ML := Aside0.mk (show (mine thread xs).length ≤ 120 from by have := List.length_filter_le (fun o : Opr => o.f0 == thread) xs; have e : (mine thread xs).length = (xs.filter (fun o : Opr => o.f0 == thread)).length := rfl; omega)
      refine (each1_calls l A c thread till (wr.heap.size + 1 + 1 + 1) (wr.heap.size + 1 + 1) w3.heap.size w.heap.size wr.heap.size (wr.heap.size + 1) Ax cx (mine thread xs) _ (by rw [HXS.out]) hl (by rw [HXS.out]; exact XL) hc FL.out FX5.out F5.out I5.out N5.out T5.out L5.out H5.out ⟨by omega, by have := LT.out; omega, by have := LT.out; omega⟩ ⟨by have := LT.out; omega, by have := LT.out; omega, by omega, by omega⟩).mono ?_
      rintro e w8 ⟨⟨vv, rfl⟩, i, hi, hfi, hk⟩
      have N8 := hk.blk N5.out (by have := LT.out; omega) (by have := LT.out; omega)
      have T8 := hk.blk T5.out (by have := LT.out; omega) (by have := LT.out; omega)
      have x8 : w8.cell? ⟨w3.heap.size, 0, none⟩ = some (.slice Ax (mine thread xs).length cx) := (blk_cell N8 0).trans rfl
      have t8 : w8.cell? ⟨w.heap.size, 0, none⟩ = some (.int .i64 till) := (blk_cell T8 0).trans rfl
      have f8 : w8.cell? ⟨wr.heap.size + 1 + 1 + 1, 0, none⟩ = some (.bool true) := (blk_cell hfi.1 0).trans rfl
      have i8 : w8.cell? ⟨wr.heap.size + 1 + 1, 0, none⟩ = some (.int .i64 i) := (blk_cell hfi.2 0).trans rfl
      have B8 := Aside0.mk (below_then BW.out BW.out.size (BA.out.trans (hk.below (B := wr.heap.size) (by omega) (by omega) BA.out.size)))
      generalize hn : (mine thread xs).length = n at hi x8 ML
      have HN := Aside0.mk hn
      have HI := Aside0.mk hi
      clear FL FX5 F5 I5 H5 L5 N5 T5 N8 T8 hfi hk BA BW LT NE HN FO HXS hn hi NC
      by_cases h0 : 0 < till
      · by_cases h1 : till < (n : Int)
        · have e : (i : Int) = till := by have := HI.out; unfold wantN at this; rw [if_pos ⟨h0, h1⟩] at this; exact this
          have d : ((i : Int) == till) = true := beq_iff_eq.2 e
          clear e
          go_wp2_with fail
          refine (lives_calls _).mono ?_
          rintro e w9 ⟨rfl, hb⟩
          have HB := Aside0.mk (below_then B8.out B8.out.size hb)
          clear hb
          go_wp2
          go_ret
          exact ⟨rfl, HB.out⟩
        · have e : (i : Int) = n := by have := HI.out; unfold wantN at this; rw [if_neg (fun h => h1 h.2)] at this; exact this
          have d : ((i : Int) == (n : Int)) = true := beq_iff_eq.2 e
          clear e
          go_wp2_with fail
          refine (lives_calls _).mono ?_
          rintro e w9 ⟨rfl, hb⟩
          have HB := Aside0.mk (below_then B8.out B8.out.size hb)
          clear hb
          go_wp2
          go_ret
          exact ⟨rfl, HB.out⟩
      · have e : (i : Int) = n := by have := HI.out; unfold wantN at this; rw [if_neg (fun h => h0 h.1)] at this; exact this
        have d : ((i : Int) == (n : Int)) = true := beq_iff_eq.2 e
        clear e
        go_wp2_with fail
        refine (lives_calls _).mono ?_
        rintro e w9 ⟨rfl, hb⟩
        have HB := Aside0.mk (below_then B8.out B8.out.size hb)
        clear hb
        go_wp2
        go_ret
        exact ⟨rfl, HB.out⟩
theorem walk (l : List Ev) (A : Option Addr) (c : Nat) (thread till : Int) (w : World) (hr : Kd.C k33 w A l.length l) (hc : l.length ≤ c) :
    Calls Try.prog 4 #[.slice A l.length c, .int .i64 thread, .int .i64 till] w fun e w' => e = .returned (.bool true) ∧ Below w.heap.size w w' := by
  obtain ⟨k, b, hg, hb⟩ := great_some l
  cases b with
  | true => exact walk_lives l A c thread till w hr hc k hg
  | false => exact walk_in l A c thread till w hr hc (hb rfl) k hg
end Go.Proofs.Ytacajonkkfmibaa.HistLawE
