/- A memory that isn't there tells nothing; a copy is by itself: behind any accesses of a memory of up to two hundred words, of any access, with no condition. -/
import Derived.Test.YtdmpfnnaefccnaaMemNil
import Derived.Test.YtdmpfnnaefccnaaMemLawHolds
import Derived.Test.YtdmpfnnaefccnaaMemLawOf
set_option linter.unusedVariables false
set_option linter.unusedSimpArgs false
namespace Go.Proofs.Ytdmpfnnaefccnaa.MemLawNone
open Go Go.RowKit Go.Proofs.YtdmpfnnaefccnaaW.PrintWords Go.Proofs.YtdmpfnnaefccnaaW.PrintLast Go.Proofs.Ytdmpfnnaefccnaa.MemW Go.Proofs.Ytdmpfnnaefccnaa.MemDo Go.Proofs.Ytdmpfnnaefccnaa.MemNil Go.Proofs.Ytdmpfnnaefccnaa.MemLawOf Go.Proofs.Ytdmpfnnaefccnaa.MemLawHolds Go.Proofs.Ytdmpfnnaefccnaa.PMemOf Go.Proofs.Ytdmpfnnaefccnaa.Num
theorem obox6 {w : World} {ob : Nat} {o0 o1 o2 o3 o4 o5 : Int} (h : w.heap[ob]? = some (.cells #[.int .i64 o0, .int .i64 o1, .int .i64 o2, .int .u64 o3, .int .u64 o4, .int .u64 o5] 34 (0, 0))) : w.cell? ⟨ob, 0, none⟩ = some (.int .i64 o0) ∧ w.cell? ⟨ob, 1, none⟩ = some (.int .i64 o1) ∧ w.cell? ⟨ob, 2, none⟩ = some (.int .i64 o2) ∧ w.cell? ⟨ob, 3, none⟩ = some (.int .u64 o3) ∧ w.cell? ⟨ob, 4, none⟩ = some (.int .u64 o4) ∧ w.cell? ⟨ob, 5, none⟩ = some (.int .u64 o5) :=
  ⟨(blk_cell h 0).trans rfl, (blk_cell h 1).trans rfl, (blk_cell h 2).trans rfl, (blk_cell h 3).trans rfl, (blk_cell h 4).trans rfl, (blk_cell h 5).trans rfl⟩
/-- A memory of any size, or none. -/
theorem new_any (n : Int) (w : World) : Calls Try.prog 17 #[.int .i64 n] w fun e w' => ∃ a, e = .returned (.pointer a) ∧ Below w.heap.size w w' := by
  by_cases h : n < 1 ∨ 4096 < n
  · refine (new_none n w h).mono ?_
    rintro e w' ⟨rfl, rfl⟩
    exact ⟨none, rfl, Below.refl _ _⟩
  · obtain ⟨m, rfl⟩ : ∃ m : Nat, n = m := ⟨n.toNat, by omega⟩
    refine (new_calls m w (by omega) (by omega)).mono ?_
    rintro e w' ⟨b, g, rfl, _, _, _, hb⟩
    exact ⟨_, rfl, hb⟩
set_option maxHeartbeats 8000000 in
set_option maxRecDepth 100000 in
theorem walk_out (n : Nat) (A0 : Option Addr) (c0 : Nat) (a0 o0 o1 o2 o3 o4 o5 : Int) (w : World) (hn : 60 < n ∨ 200 < a0 ∨ a0 < 1) :
    Calls Try.prog 6 #[.int .i64 a0, .slice A0 n c0, .agg #[.int .i64 o0, .int .i64 o1, .int .i64 o2, .int .u64 o3, .int .u64 o4, .int .u64 o5]] w fun e w' => e = .returned (.bool true) ∧ Below w.heap.size w w' := by
  have hu := Try.underlying34
  have HN := Aside0.mk hn
  clear hn
  go_enter Try.func6, Try.ntmps6
  go_wp2_with fail
  refine (do_nil _ _ _ _ _ _ _).mono ?_
  rintro e w1 ⟨rfl, hbl⟩
  have B1 := Aside0.mk (below_then (below_alloc (Below.refl w.heap.size w) _) (Below.size (below_alloc (Below.refl w.heap.size w) _)) hbl)
  clear hbl
  go_wp2_with fail
  refine (accesses_nil _).mono ?_
  rintro e w2 ⟨rfl, rfl⟩
  go_wp2_with fail
  refine (fault_nil _).mono ?_
  rintro e w2 ⟨rfl, rfl⟩
  go_wp2_with fail
  refine (words_nil _).mono ?_
  rintro e w2 ⟨rfl, rfl⟩
  go_wp2_with fail
  refine (clone_nil _).mono ?_
  rintro e w2 ⟨rfl, rfl⟩
  by_cases h1 : a0 < 1
  · go_wp2_with fail
    refine (new_none a0 _ (.inl h1)).mono ?_
    rintro e w3 ⟨rfl, rfl⟩
    by_cases h6 : 60 < n
    · have d60 : decide ((60 : Int) < (n : Int)) = true := decide_eq_true (by omega)
      go_wp2_with fail
      refine (lives_calls _).mono ?_
      rintro e w4 ⟨rfl, hb⟩
      have HB := Aside0.mk hb
      clear hb
      go_wp2
      all_goals go_ret
      all_goals exact ⟨rfl, below_then B1.out B1.out.size HB.out⟩
    · have d60 : decide ((60 : Int) < (n : Int)) = false := decide_eq_false (by omega)
      have d200 : decide ((200 : Int) < a0) = false := decide_eq_false (by omega)
      go_wp2_with fail
      refine (lives_calls _).mono ?_
      rintro e w4 ⟨rfl, hb⟩
      have HB := Aside0.mk hb
      clear hb
      go_wp2
      all_goals go_ret
      all_goals exact ⟨rfl, below_then B1.out B1.out.size HB.out⟩
  · go_wp2_with fail
    refine (new_any a0 _).mono ?_
    rintro e w3 ⟨a, rfl, hbl⟩
    have B3 := Aside0.mk (below_then B1.out B1.out.size hbl)
    clear hbl B1
    by_cases h6 : 60 < n
    · have d60 : decide ((60 : Int) < (n : Int)) = true := decide_eq_true (by omega)
      go_wp2_with fail
      refine (lives_calls _).mono ?_
      rintro e w4 ⟨rfl, hb⟩
      have HB := Aside0.mk hb
      clear hb
      go_wp2
      all_goals go_ret
      all_goals exact ⟨rfl, below_then B3.out B3.out.size HB.out⟩
    · have d60 : decide ((60 : Int) < (n : Int)) = false := decide_eq_false (by omega)
      have d200 : decide ((200 : Int) < a0) = true := decide_eq_true (by have := HN.out; omega)
      go_wp2_with fail
      refine (lives_calls _).mono ?_
      rintro e w4 ⟨rfl, hb⟩
      have HB := Aside0.mk hb
      clear hb
      go_wp2
      all_goals go_ret
      all_goals exact ⟨rfl, below_then B3.out B3.out.size HB.out⟩
variable {α : Type} (kk : Kd α) (op : α → Int × Int × Int × Int × Int × Int) (hk : ∀ w x cs, kk.K w x cs → cs = [.int .i64 (op x).1, .int .i64 (op x).2.1, .int .i64 (op x).2.2.1, .int .u64 (op x).2.2.2.1, .int .u64 (op x).2.2.2.2.1, .int .u64 (op x).2.2.2.2.2])
set_option maxHeartbeats 8000000 in
set_option maxRecDepth 100000 in
include hk in
theorem walk_in (l0 : List α) (A0 : Option Addr) (c0 : Nat) (m : Nat) (o0 o1 o2 o3 o4 o5 : Int) (w : World) (hlen : l0.length ≤ 60) (hm1 : 1 ≤ m) (hm2 : m ≤ 200) (hr0 : Kd.C kk w A0 l0.length l0) (hc0 : l0.length ≤ c0) :
    Calls Try.prog 6 #[.int .i64 (m : Int), .slice A0 l0.length c0, .agg #[.int .i64 o0, .int .i64 o1, .int .i64 o2, .int .u64 o3, .int .u64 o4, .int .u64 o5]] w fun e w' => e = .returned (.bool true) ∧ Below w.heap.size w w' := by
  have hu := Try.underlying34
  have HR := Aside0.mk hr0
  have HC := Aside0.mk hc0
  have q60 : ¬ (60 : Int) < (l0.length : Int) := by omega
  have q200 : ¬ (200 : Int) < (m : Int) := by omega
  have d60 : decide ((60 : Int) < (l0.length : Int)) = false := decide_eq_false (by omega)
  have d200 : decide ((200 : Int) < (m : Int)) = false := decide_eq_false (by omega)
  clear hr0 hc0
  go_enter Try.func6, Try.ntmps6
  go_wp2_with fail
  refine (do_nil _ _ _ _ _ _ _).mono ?_
  rintro e w1 ⟨rfl, hbl⟩
  have O1 := Aside0.mk (blk_below (heap_alloc_new w (.cells #[.int .i64 o0, .int .i64 o1, .int .i64 o2, .int .u64 o3, .int .u64 o4, .int .u64 o5] 34 (0, 0))) hbl)
  have B1 := Aside0.mk (below_then (below_alloc (Below.refl w.heap.size w) _) (Below.size (below_alloc (Below.refl w.heap.size w) _)) hbl)
  have hsz := hbl.size
  rw [show (w.alloc (.cells #[.int .i64 o0, .int .i64 o1, .int .i64 o2, .int .u64 o3, .int .u64 o4, .int .u64 o5] 34 (0, 0))).heap.size = w.heap.size + 1 from by simp] at hsz
  have S1 := Aside0.mk hsz
  clear hbl hsz
  go_wp2_with fail
  refine (accesses_nil _).mono ?_
  rintro e w2 ⟨rfl, rfl⟩
  go_wp2_with fail
  refine (fault_nil _).mono ?_
  rintro e w2 ⟨rfl, rfl⟩
  go_wp2_with fail
  refine (words_nil _).mono ?_
  rintro e w2 ⟨rfl, rfl⟩
  go_wp2_with fail
  refine (clone_nil _).mono ?_
  rintro e w2 ⟨rfl, rfl⟩
  go_wp2_with fail
  refine (new_calls m _ hm1 (by omega)).mono ?_
  rintro e w1 ⟨b, g, rfl, hm, hb, hg, hbl⟩
  have M1 := Aside0.mk hm
  have G1 := Aside0.mk (show w.heap.size + 1 ≤ b from Nat.le_trans S1.out hb)
  have G2 := Aside0.mk (show w.heap.size + 1 ≤ g from Nat.le_trans S1.out hg)
  have O2 := Aside0.mk (blk_below O1.out hbl)
  have B2 := Aside0.mk (below_then B1.out B1.out.size hbl)
  clear hm hb hg hbl O1 B1 S1
  go_wp2
  go_loopg [11] l0.length (fun kx s11 wr => ∃ (i : Nat) (ws : List Int) (f : Bool), s11 = .int .i64 i ∧ i + kx = l0.length ∧ Aside0 (ws.length = m) ∧ Aside0 (Mem wr b g ws i f) ∧ Aside0 (wr.heap[w.heap.size]? = some (.cells #[.int .i64 o0, .int .i64 o1, .int .i64 o2, .int .u64 o3, .int .u64 o4, .int .u64 o5] 34 (0, 0))) ∧ Aside0 (Below w.heap.size w wr))
  case atStart => exact ⟨0, List.replicate m 0, false, rfl, by omega, ⟨by simp⟩, M1, O2, B2⟩
  case round =>
    clear M1 O2 B2
    obtain ⟨i, ws, f, rfl, hi, WL, M2, O2, B2⟩ := hrel
    by_cases hlt : i < l0.length
    · obtain ⟨ad, hA, d0, d1, d2, d3, d4, d5⟩ := op_cells kk op hk (Kd.C_below HR.out B2.out) i hlt
      subst hA
      generalize op l0[i] = q at d0 d1 d2 d3 d4 d5
      have q1 : (i : Int) < (l0.length : Int) := by omega
      go_wp2_with fail
      refine (do_calls _ b g ws i f _ _ _ _ _ _ M2.out (by omega) (by omega)).mono ?_
      rintro e w3 ⟨rfl, hm, hkp⟩
      have M3 := Aside0.mk hm
      have W3 := Aside0.mk ((doW_len ws q.1 q.2.1 q.2.2.1 q.2.2.2.1 q.2.2.2.2.1 q.2.2.2.2.2).trans WL.out)
      have O3 := Aside0.mk (Keep2.row hkp O2.out (by have := G1.out; omega) (by have := G2.out; omega))
      have B3 := Aside0.mk (B2.out.trans (hkp.below (by have := G1.out; omega) (by have := G2.out; omega) B2.out.size))
      clear hm hkp
      go_wp2
      go_roundg (l0.length - (i + 1))
      case measure => omega
      case rel => exact ⟨i + 1, _, _, by go_num, by omega, W3, ⟨by have := M3.out; simpa using this⟩, O3, B3⟩
    · obtain rfl : i = l0.length := by omega
      clear hlt hi
      have lt2 := M2.out.ltb
      have nb1 : w.heap.size ≠ b := by have := G1.out; omega
      have nb2 : w.heap.size ≠ g := by have := G2.out; omega
      have ob1 : w.heap.size ≤ b := by have := G1.out; omega
      have ob2 : w.heap.size ≤ g := by have := G2.out; omega
      have hw1 : 1 ≤ ws.length := by rw [WL.out]; exact hm1
      have hw2 : ws.length ≤ 1000000 := by rw [WL.out]; omega
      have SM := Aside0.mk (same_self ws hw2)
      obtain ⟨n, hn⟩ : ∃ n, n = l0.length := ⟨_, rfl⟩
      have hn60 : n ≤ 60 := by omega
      rw [← hn] at M2
      -- the copy
      go_wp2_with fail
      refine (mclone_calls _ b g ws n f M2.out hw1 hw2).mono ?_
      rintro e w3 ⟨bb, gg, rfl, hmm, hb, hg, hbl⟩
      have N3 := Aside0.mk hmm
      have M3 := Aside0.mk (M2.out.below hbl)
      have O3 := Aside0.mk (blk_below O2.out hbl)
      have B3 := Aside0.mk (below_then B2.out B2.out.size hbl)
      have x1 : b ≠ bb := by omega
      have x2 : b ≠ gg := by omega
      have x3 : g ≠ bb := by omega
      have x4 : g ≠ gg := by omega
      have lto := (Array.getElem?_eq_some_iff.1 O2.out).1
      have x5 : w.heap.size ≠ bb := by omega
      have x6 : w.heap.size ≠ gg := by omega
      have ob3 : w.heap.size ≤ bb := by omega
      have ob4 : w.heap.size ≤ gg := by omega
      clear hmm hb hg hbl M2 O2 B2 lt2 lto
      -- its words and those of the first one
      go_wp2_with fail
      refine (words_calls w3 bb gg ws n f N3.out hw2).mono ?_
      rintro e w4 ⟨v4, rfl, ho, hbl⟩
      obtain ⟨A4, c4, rfl, hc4, hr4⟩ := C_of_own ho
      have R4 := Aside0.mk hr4
      have L4 := Aside0.mk hc4
      have N4 := Aside0.mk (N3.out.below hbl)
      have M4 := Aside0.mk (M3.out.below hbl)
      have O4 := Aside0.mk (blk_below O3.out hbl)
      have B4 := Aside0.mk (below_then B3.out B3.out.size hbl)
      clear ho hr4 hc4 hbl M3 N3 O3 B3
      go_wp2_with fail
      refine (words_calls w4 b g ws n f M4.out hw2).mono ?_
      rintro e w5 ⟨v5, rfl, ho, hbl⟩
      obtain ⟨A5, c5, rfl, hc5, hr5⟩ := C_of_own ho
      have R5 := Aside0.mk hr5
      have L5 := Aside0.mk hc5
      have R45 := Aside0.mk (Kd.C_below R4.out hbl)
      have N5 := Aside0.mk (N4.out.below hbl)
      have M5 := Aside0.mk (M4.out.below hbl)
      have O5 := Aside0.mk (blk_below O4.out hbl)
      have B5 := Aside0.mk (below_then B4.out B4.out.size hbl)
      clear ho hr5 hc5 hbl M4 N4 O4 B4 R4
      go_wp2_with fail
      refine (deadwoodlaw06_same.calls 1000001 A4 c4 ws A5 c5 ws true w5 R45.out L4.out R5.out L5.out SM.out).mono ?_
      rintro e w6 ⟨rfl, ⟨nd, rfl⟩⟩
      have N6 := Aside0.mk (N5.out.move (w' := w5.drewN nd) rfl rfl)
      have M6 := Aside0.mk (M5.out.move (w' := w5.drewN nd) rfl rfl)
      have B6 := Aside0.mk (pw_below_drewN B5.out nd)
      have O6 : Aside0 ((w5.drewN nd).heap[w.heap.size]? = some (.cells #[.int .i64 o0, .int .i64 o1, .int .i64 o2, .int .u64 o3, .int .u64 o4, .int .u64 o5] 34 (0, 0))) := ⟨O5.out⟩
      clear N5 M5 B5 O5 R45 R5 L4 L5
      generalize w5.drewN nd = w6 at N6 M6 B6 O6 ⊢
      go_wp2_with fail
      refine (accesses_calls w6 bb gg ws n f N6.out).mono ?_
      rintro e w7 ⟨rfl, rfl⟩
      go_wp2_with fail
      refine (accesses_calls _ b g ws n f M6.out).mono ?_
      rintro e w7 ⟨rfl, rfl⟩
      go_wp2_with fail
      refine (fault_calls _ bb gg ws n f N6.out).mono ?_
      rintro e w7 ⟨rfl, rfl⟩
      go_wp2_with fail
      refine (fault_calls _ b g ws n f M6.out).mono ?_
      rintro e w7 ⟨rfl, rfl⟩
      -- what it was
      have W7 := words_calls w7 b g ws n f M6.out hw2
      go_wp2_with fail
      refine W7.mono ?_
      rintro e w8 ⟨v8, rfl, ho, hbl⟩
      clear W7
      obtain ⟨g8, cap8, cur8, rfl, hbg8, hh8, hnc8, hcm8, hcs8, ht8⟩ := own_some ho hw1
      have N8 := Aside0.mk (N6.out.below hbl)
      have M8 := Aside0.mk (M6.out.below hbl)
      have O8 := Aside0.mk (blk_below O6.out hbl)
      have B8 := Aside0.mk (below_then B6.out B6.out.size hbl)
      have lt6 := N6.out.ltb
      have y1 : g8 ≠ bb := by omega
      have y2 : g8 ≠ gg := by omega
      have H8 := Aside0.mk hh8
      have T8 := Aside0.mk (And.intro hnc8 (And.intro hcm8 (And.intro hcs8 ht8)))
      obtain ⟨z0, z1, z2, z3, z4, z5⟩ := obox6 O8.out
      clear ho hbl hbg8 hh8 hnc8 hcm8 hcs8 ht8 lt6 N6 M6 O6 B6
      go_wp2_with fail
      refine (do_calls w8 bb gg ws n f _ _ _ _ _ _ N8.out (by omega) (by omega)).mono ?_
      rintro e w9 ⟨rfl, hm, hkp⟩
      have N9 := Aside0.mk hm
      have M9 := Aside0.mk (M8.out.move (hkp.2.2.2.2 b M8.out.ltb.1 x1 x2) (hkp.2.2.2.2 g M8.out.ltb.2 x3 x4))
      have O9 := Aside0.mk (Keep2.row hkp O8.out x5 x6)
      have H9 := Aside0.mk (Keep2.row hkp H8.out y1 y2)
      have B9 := Aside0.mk (B8.out.trans (hkp.below ob3 ob4 B8.out.size))
      clear hm hkp N8 M8 O8 H8 B8 z0 z1 z2 z3 z4 z5
      go_wp2_with fail
      refine (words_calls w9 b g ws n f M9.out hw2).mono ?_
      rintro e wa ⟨va, rfl, ho, hbl⟩
      obtain ⟨Aa, ca, rfl, hca, hra⟩ := C_of_own ho
      have Ra := Aside0.mk hra
      have La := Aside0.mk hca
      have Na := Aside0.mk (N9.out.below hbl)
      have Ma := Aside0.mk (M9.out.below hbl)
      have Oa := Aside0.mk (blk_below O9.out hbl)
      have Ha := Aside0.mk (blk_below H9.out hbl)
      have Ba := Aside0.mk (below_then B9.out B9.out.size hbl)
      clear ho hra hca hbl N9 M9 O9 H9 B9
      have OW : wa.ownsRow 0 29 1 (.slice (some ⟨g8, 0, none⟩) ws.length cap8) ws.length (ws.map (Value.int .u64)) := ⟨by simp, .inr ⟨g8, cap8, cur8, rfl, Nat.zero_le _, Ha.out, T8.out.1, T8.out.2.1, T8.out.2.2.1, T8.out.2.2.2⟩⟩
      have RW : Aside0 (Kd.C (Kd.int .u64) wa (some ⟨g8, 0, none⟩) ws.length ws) := by
        obtain ⟨A, c, e, _, h⟩ := C_of_own OW
        injection e with e1
        rw [e1]
        exact ⟨h⟩
      clear OW
      go_wp2_with fail
      refine (deadwoodlaw06_same.calls 1000001 Aa ca ws (some ⟨g8, 0, none⟩) cap8 ws true wa Ra.out La.out RW.out T8.out.1 SM.out).mono ?_
      rintro e wb ⟨rfl, ⟨nd, rfl⟩⟩
      have Nb := Aside0.mk (Na.out.move (w' := wa.drewN nd) rfl rfl)
      have Mb := Aside0.mk (Ma.out.move (w' := wa.drewN nd) rfl rfl)
      have Bb := Aside0.mk (pw_below_drewN Ba.out nd)
      have Ob : Aside0 ((wa.drewN nd).heap[w.heap.size]? = some (.cells #[.int .i64 o0, .int .i64 o1, .int .i64 o2, .int .u64 o3, .int .u64 o4, .int .u64 o5] 34 (0, 0))) := ⟨Oa.out⟩
      clear Na Ma Ba Oa Ha Ra La RW T8 SM
      generalize wa.drewN nd = wb at Nb Mb Bb Ob ⊢
      obtain ⟨z0, z1, z2, z3, z4, z5⟩ := obox6 Ob.out
      go_wp2_with fail
      refine (do_calls wb b g ws n f _ _ _ _ _ _ Mb.out (by omega) (by omega)).mono ?_
      rintro e wc ⟨rfl, hm, hkp⟩
      have Mc := Aside0.mk hm
      have Nc := Aside0.mk (Nb.out.move (hkp.2.2.2.2 bb Nb.out.ltb.1 x1.symm x3.symm) (hkp.2.2.2.2 gg Nb.out.ltb.2 x2.symm x4.symm))
      have Bc := Aside0.mk (Bb.out.trans (hkp.below ob1 ob2 Bb.out.size))
      have hlw := doW_len ws o0 o1 o2 o3 o4 o5
      clear hm hkp Nb Mb Ob Bb z0 z1 z2 z3 z4 z5
      generalize doW ws o0 o1 o2 o3 o4 o5 = vs at Mc Nc hlw
      have hv2 : vs.length ≤ 1000000 := by rw [hlw]; exact hw2
      clear hlw
      have SV := Aside0.mk (same_self vs hv2)
      go_wp2_with fail
      refine (words_calls wc bb gg vs _ _ Nc.out hv2).mono ?_
      rintro e wd ⟨vd, rfl, ho, hbl⟩
      obtain ⟨Ad, cd, rfl, hcd, hrd⟩ := C_of_own ho
      have Rd_ := Aside0.mk hrd
      have Ld := Aside0.mk hcd
      have Md := Aside0.mk (Mc.out.below hbl)
      have Bd := Aside0.mk (below_then Bc.out Bc.out.size hbl)
      clear ho hrd hcd hbl Nc Mc Bc
      go_wp2_with fail
      refine (words_calls wd b g vs _ _ Md.out hv2).mono ?_
      rintro e we ⟨ve, rfl, ho, hbl⟩
      obtain ⟨Ae, ce, rfl, hce, hre⟩ := C_of_own ho
      have Re := Aside0.mk hre
      have Le := Aside0.mk hce
      have Rde := Aside0.mk (Kd.C_below Rd_.out hbl)
      have Be := Aside0.mk (below_then Bd.out Bd.out.size hbl)
      clear ho hre hce hbl Md Bd Rd_
      go_wp2_with fail
      refine (deadwoodlaw06_same.calls 1000001 Ad cd vs Ae ce vs true we Rde.out Ld.out Re.out Le.out SV.out).mono ?_
      rintro e wf ⟨rfl, ⟨nd, rfl⟩⟩
      have Bf := Aside0.mk (pw_below_drewN Be.out nd)
      clear Be Rde Re Ld Le SV
      generalize we.drewN nd = wf at Bf ⊢
      go_wp2_with fail
      refine (lives_calls _).mono ?_
      rintro e wg ⟨rfl, hb⟩
      have HB := Aside0.mk hb
      clear hb
      go_wp2
      all_goals go_ret
      all_goals exact ⟨rfl, below_then Bf.out Bf.out.size HB.out⟩
include hk in
theorem walk (a0 : Int) (l1 : List α) (A1 : Option Addr) (c1 : Nat) (o0 o1 o2 o3 o4 o5 : Int) (w : World) {p0 p1 p2 : Prop} (_ : p0) (_ : p1) (_ : p2) (hr1 : Kd.C kk w A1 l1.length l1) (hc1 : l1.length ≤ c1) :
    Calls Try.prog 6 #[.int .i64 a0, .slice A1 l1.length c1, .agg #[.int .i64 o0, .int .i64 o1, .int .i64 o2, .int .u64 o3, .int .u64 o4, .int .u64 o5]] w fun e w' => e = .returned (.bool true) ∧ Below w.heap.size w w' := by
  by_cases h : 60 < l1.length ∨ 200 < a0 ∨ a0 < 1
  · exact walk_out _ _ _ _ _ _ _ _ _ _ _ h
  · obtain ⟨m, rfl⟩ : ∃ m : Nat, a0 = m := ⟨a0.toNat, by omega⟩
    exact walk_in kk op hk l1 A1 c1 m o0 o1 o2 o3 o4 o5 w (by omega) (by omega) (by omega) hr1 hc1
end Go.Proofs.Ytdmpfnnaefccnaa.MemLawNone
