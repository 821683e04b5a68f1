/- Two states of the document's that are the same. -/
import Derived.Test.YtkkneaefjahihaaZModR3
set_option linter.unusedVariables false
set_option linter.unusedSimpArgs false
namespace Go.Proofs.Ytkkneaefjahihaa.ModR
open Go Go.RowKit Go.Proofs.YtkkneaefjahihaaW.PrintWords Go.Proofs.YtkkneaefjahihaaW.PrintLast Go.Proofs.YtkkneaefjahihaaW.PrintMore Go.Proofs.Ytkkneaefjahihaa.PModelTold Go.Proofs.Ytkkneaefjahihaa.GRow Go.Proofs.Ytkkneaefjahihaa.ModRec Go.Proofs.Ytkkneaefjahihaa.Num Go.Proofs.Ytkkneaefjahihaa.Bxs Go.Proofs.Ytkkneaefjahihaa.ModW
theorem at_X {w : World} {A : Option Addr} {n : Nat} {xs : List S61} (h : Kd.C k61 w A n xs) (i : Nat) (hi : i < xs.length) (hn : xs.length = n) : ∃ ad A2 c2, A = some ad ∧ w.cell? (ad.add (i * 4)) = some (.bool xs[i].f0) ∧ w.cell? ⟨(ad.add (i * 4)).block, (ad.add (i * 4)).off + 1, none⟩ = some (.bool xs[i].f1) ∧ w.cell? ⟨(ad.add (i * 4)).block, (ad.add (i * 4)).off + 2, none⟩ = some (.slice A2 xs[i].f2.length c2) ∧ w.cell? ⟨(ad.add (i * 4)).block, (ad.add (i * 4)).off + 3, none⟩ = some (.int .i64 xs[i].f3) ∧ xs[i].f2.length ≤ c2 ∧ Kd.C k49 w A2 xs[i].f2.length xs[i].f2 := by
  have := at_T61 h (i : Int) (by omega) (by omega)
  have erd : rd_T61 xs (i : Int) = xs[i] := by unfold rd_T61; rw [Int.toNat_natCast]; simp [List.getD, hi]
  rw [erd, Int.toNat_natCast] at this
  obtain ⟨ad, A2, c2, h0, h1, h2, h3, h4, h5, h6⟩ := this
  exact ⟨ad, A2, c2, h0, h1, h2, h3, h4, h5, h6⟩
set_option maxHeartbeats 4000000 in
set_option maxRecDepth 100000 in
theorem same_calls (k N : Nat) (A0 : Option Addr) (c0 : Nat) (l0 : List S49) (A1 : Option Addr) (c1 : Nat) (l1 : List S61) (B0 : Option Addr) (d0 : Nat) (B1 : Option Addr) (d1 : Nat) (w : World) (h0 : Kd.C k49 w A0 l0.length l0) (hc0 : l0.length ≤ c0) (h1 : Kd.C k61 w A1 l1.length l1) (hc1 : l1.length ≤ c1) (g0 : Kd.C k49 w B0 l0.length l0) (hd0 : l0.length ≤ d0) (g1 : Kd.C k61 w B1 l1.length l1) (hd1 : l1.length ≤ d1) (hk : ∀ l : List S49, l.length ≤ N → deadwoodref08_Same.f k l l = some true) (hl0 : l0.length ≤ N) (hl1 : ∀ y ∈ l1, y.f2.length ≤ N) (hl : l1.length ≤ 1000000) :
    Calls Try.prog 13 #[.agg #[.slice A0 l0.length c0, .slice A1 l1.length c1], .agg #[.slice B0 l0.length d0, .slice B1 l1.length d1]] w fun e w' => e = .returned (.bool true) ∧ Below w.heap.size w w' := by
  have hu31 := Try.underlying31
  have hu61 := Try.underlying61
  have H0 := Aside0.mk (And.intro h0 g0)
  have H1 := Aside0.mk (And.intro h1 g1)
  have HK := Aside0.mk hk
  have HL := Aside0.mk hl1
  have HC := Aside0.mk (And.intro hc0 (And.intro hc1 (And.intro hd0 hd1)))
  have K0 := Aside0.mk (hk l0 hl0)
  clear h0 g0 h1 g1 hk hl1 hc0 hc1 hd0 hd1 hl0
  go_enter Try.func13, Try.ntmps13
  go_upto_region 1 with (fail)
  refine bx_gen (show Bxs w _ ([(w.heap.size + 1, #[.slice B0 l0.length d0, .slice B1 l1.length d1], 31), (w.heap.size, #[.slice A0 l0.length c0, .slice A1 l1.length c1], 31)] : List Box) from ((Bxs.nil w).box _ 31 rfl).box _ 31 (by simp)) ?_
  intro wr M
  have B := Aside0.mk M
  have s0 := (M.cell 1 0 rfl).trans rfl
  have s1 := (M.cell 1 1 rfl).trans rfl
  have t0 := (M.cell 0 0 rfl).trans rfl
  have t1 := (M.cell 0 1 rfl).trans rfl
  clear M
  go_wp2_with fail
  refine (deadwoodref08_Same.calls k A0 c0 l0 B0 d0 l0 true wr (Kd.C_below H0.out.1 B.out.b) HC.out.1 (Kd.C_below H0.out.2 B.out.b) HC.out.2.2.1 K0.out).mono ?_
  rintro e w1 ⟨rfl, n1, rfl⟩
  have BD := Aside0.mk (B.out.below (pw_below_drewN (Below.refl _ _) n1))
  go_wp2
  clear s0 s1 t0 t1 B
  generalize wr.drewN n1 = wd at BD ⊢
  go_loopg [5] l1.length (fun kx s5 wr => ∃ j : Nat, s5 = .int .i64 j ∧ j + kx = l1.length ∧ Aside0 (Bxs w wr ([(w.heap.size + 1, #[.slice B0 l0.length d0, .slice B1 l1.length d1], 31), (w.heap.size, #[.slice A0 l0.length c0, .slice A1 l1.length c1], 31)] : List Box)))
  case atStart => exact ⟨0, rfl, by omega, BD⟩
  case round =>
    clear BD
    obtain ⟨j, rfl, hj, BX⟩ := hrel
    have M := BX.out
    have s0 := (M.cell 1 0 rfl).trans rfl
    have s1 := (M.cell 1 1 rfl).trans rfl
    have t0 := (M.cell 0 0 rfl).trans rfl
    have t1 := (M.cell 0 1 rfl).trans rfl
    clear M
    by_cases hlt : j < l1.length
    · have q1 : (j : Int) < (l1.length : Int) := by omega
      obtain ⟨ad, A2, c2, rfl, p0, p1, p2, p3, hl2, hF2⟩ := at_X (Kd.C_below H1.out.1 BX.out.b) j hlt rfl
      obtain ⟨bd, B2, d2, rfl, r0, r1, r2, r3, hl3, hF3⟩ := at_X (Kd.C_below H1.out.2 BX.out.b) j hlt rfl
      have KY := Aside0.mk (HK.out l1[j].f2 (HL.out _ (List.getElem_mem hlt)))
      have FF := Aside0.mk (And.intro (And.intro hl2 hF2) (And.intro hl3 hF3))
      generalize l1[j] = y at p0 p1 p2 p3 r0 r1 r2 r3 hl2 hF2 hl3 hF3 KY FF
      clear hl2 hF2 hl3 hF3
      have s1a : ∀ o, (wr.alloc o).cell? _ = _ := fun o => blkcell_alloc o s1
      have s1b : ∀ o o2, ((wr.alloc o).alloc o2).cell? _ = _ := fun o o2 => blkcell_alloc o2 (blkcell_alloc o s1)
      have t1a : ∀ o, (wr.alloc o).cell? _ = _ := fun o => blkcell_alloc o t1
      have t1b : ∀ o o2, ((wr.alloc o).alloc o2).cell? _ = _ := fun o o2 => blkcell_alloc o2 (blkcell_alloc o t1)
      have p0a : ∀ o, (wr.alloc o).cell? _ = _ := fun o => blkcell_alloc o p0
      have p0b : ∀ o o2, ((wr.alloc o).alloc o2).cell? _ = _ := fun o o2 => blkcell_alloc o2 (blkcell_alloc o p0)
      have p1a : ∀ o, (wr.alloc o).cell? _ = _ := fun o => blkcell_alloc o p1
      have p1b : ∀ o o2, ((wr.alloc o).alloc o2).cell? _ = _ := fun o o2 => blkcell_alloc o2 (blkcell_alloc o p1)
      have p2a : ∀ o, (wr.alloc o).cell? _ = _ := fun o => blkcell_alloc o p2
      have p2b : ∀ o o2, ((wr.alloc o).alloc o2).cell? _ = _ := fun o o2 => blkcell_alloc o2 (blkcell_alloc o p2)
      have p3a : ∀ o, (wr.alloc o).cell? _ = _ := fun o => blkcell_alloc o p3
      have p3b : ∀ o o2, ((wr.alloc o).alloc o2).cell? _ = _ := fun o o2 => blkcell_alloc o2 (blkcell_alloc o p3)
      have r0a : ∀ o, (wr.alloc o).cell? _ = _ := fun o => blkcell_alloc o r0
      have r0b : ∀ o o2, ((wr.alloc o).alloc o2).cell? _ = _ := fun o o2 => blkcell_alloc o2 (blkcell_alloc o r0)
      have r1a : ∀ o, (wr.alloc o).cell? _ = _ := fun o => blkcell_alloc o r1
      have r1b : ∀ o o2, ((wr.alloc o).alloc o2).cell? _ = _ := fun o o2 => blkcell_alloc o2 (blkcell_alloc o r1)
      have r2a : ∀ o, (wr.alloc o).cell? _ = _ := fun o => blkcell_alloc o r2
      have r2b : ∀ o o2, ((wr.alloc o).alloc o2).cell? _ = _ := fun o o2 => blkcell_alloc o2 (blkcell_alloc o r2)
      have r3a : ∀ o, (wr.alloc o).cell? _ = _ := fun o => blkcell_alloc o r3
      have r3b : ∀ o o2, ((wr.alloc o).alloc o2).cell? _ = _ := fun o o2 => blkcell_alloc o2 (blkcell_alloc o r3)
      go_upto_region 6 with (fail)
      go_cut [6, 7] (fun v6 v7 wc => Aside0 (∃ ba bb, v6 = .pointer (some ⟨ba, 0, none⟩) ∧ v7 = .pointer (some ⟨bb, 0, none⟩) ∧ Bxs w wc ((ba, #[.bool y.f0, .bool y.f1, .slice A2 y.f2.length c2, .int .i64 y.f3], 61) :: (bb, #[.bool y.f0, .bool y.f1, .slice B2 y.f2.length d2, .int .i64 y.f3], 61) :: ([(w.heap.size + 1, #[.slice B0 l0.length d0, .slice (some bd) l1.length d1], 31), (w.heap.size, #[.slice A0 l0.length c0, .slice (some ad) l1.length c1], 31)] : List Box)) ∧ Below wr.heap.size wr wc))
      case first =>
        go_region
        all_goals go_wp2
        all_goals go_meet
        · exact ⟨⟨_, _, rfl, rfl, (((BX.out.box _ 61 rfl).box _ 61 (n := wr.heap.size + 1) (by simp)).perm (List.Perm.swap _ _ _)).drew, below_drew1 (below_alloc (below_alloc (Below.refl _ _) _) _)⟩⟩
        · exact ⟨⟨_, _, rfl, rfl, ((BX.out.box _ 61 rfl).box _ 61 (n := wr.heap.size + 1) (by simp)).drew, below_drew1 (below_alloc (below_alloc (Below.refl _ _) _) _)⟩⟩
      case rest =>
        obtain ⟨ba, bb, rfl, rfl, M, hbw⟩ := hcut.out
        have BC := Aside0.mk M
        have HW := Aside0.mk hbw
        have x0 := (M.cell 0 0 rfl).trans rfl
        have x1 := (M.cell 0 1 rfl).trans rfl
        have x2 := (M.cell 0 2 rfl).trans rfl
        have x3 := (M.cell 0 3 rfl).trans rfl
        have y0 := (M.cell 1 0 rfl).trans rfl
        have y1 := (M.cell 1 1 rfl).trans rfl
        have y2 := (M.cell 1 2 rfl).trans rfl
        have y3 := (M.cell 1 3 rfl).trans rfl
        have b0 : ∀ b : Bool, (b != b) = false := fun b => by simp
        have b3 : (y.f3 != y.f3) = false := by simp
        clear M hbw hcut s1a s1b t1a t1b p0a p0b p1a p1b p2a p2b p3a p3b r0a r0b r1a r1b r2a r2b r3a r3b p0 p1 p2 p3 r0 r1 r2 r3
        go_wp2_with fail
        refine (deadwoodref08_Same.calls k A2 c2 y.f2 B2 d2 y.f2 true _ (Kd.C_below FF.out.1.2 HW.out) FF.out.1.1 (Kd.C_below FF.out.2.2 HW.out) FF.out.2.1 KY.out).mono ?_
        rintro e w5 ⟨rfl, n5, rfl⟩
        have BF := Aside0.mk ((BC.out.sub (L' := ([(w.heap.size + 1, #[.slice B0 l0.length d0, .slice (some bd) l1.length d1], 31), (w.heap.size, #[.slice A0 l0.length c0, .slice (some ad) l1.length c1], 31)] : List Box)) (List.Sublist.cons _ (List.Sublist.cons _ (List.Sublist.refl _)))).below (pw_below_drewN (Below.refl _ _) n5))
        go_wp2
        go_roundg (l1.length - (j + 1))
        case measure => omega
        case rel => exact ⟨j + 1, by go_num, by omega, BF⟩
    · obtain rfl : j = l1.length := by omega
      have q1 : ¬ (l1.length : Int) < (l1.length : Int) := by omega
      go_wp2
      go_ret
      exact ⟨rfl, BX.out.b⟩
end Go.Proofs.Ytkkneaefjahihaa.ModR
