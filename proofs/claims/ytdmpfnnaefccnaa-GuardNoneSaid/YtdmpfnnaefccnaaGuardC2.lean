/- A guard's copy; a guard that isn't there tells nothing. -/
import Derived.Test.YtdmpfnnaefccnaaGuardC
set_option linter.unusedVariables false
set_option linter.unusedSimpArgs false
namespace Go.Proofs.Ytdmpfnnaefccnaa.GuardC2
open Go Go.Maps Go.RowKit Go.Proofs.YtdmpfnnaefccnaaW.PrintWords Go.Proofs.YtdmpfnnaefccnaaW.PrintLast Go.Proofs.YtdmpfnnaefccnaaW.PrintMore Go.Proofs.Ytdmpfnnaefccnaa.PGuardPlays Go.Proofs.Ytdmpfnnaefccnaa.Num Go.Proofs.Ytdmpfnnaefccnaa.Pure Go.Proofs.Ytdmpfnnaefccnaa.GuardW Go.Proofs.Ytdmpfnnaefccnaa.GuardX Go.Proofs.Ytdmpfnnaefccnaa.GuardSame Go.Proofs.Ytdmpfnnaefccnaa.GuardDo Go.Proofs.Ytdmpfnnaefccnaa.GuardLawP Go.Proofs.Ytdmpfnnaefccnaa.GuardC
theorem maxLen_le : maxLen ≤ 9223372036854775807 := by decide
open Go.WideElems (Fit rg) in
theorem clone_end {w w2 : World} {g2 cap2 : Nat} {L : List Sl} {sl : Int} {gens : List Int} {D : DataW Unit} {es : Array MapEntry} {clock : Nat} (hl : L.length ≤ 250)
    (hd : gens.length = L.length + 1 ∧ (∀ i (h : i < L.length) (h2 : i + 1 < gens.length), 0 ≤ gens[i + 1] ∧ gens[i + 1] < 18446744073709551616 ∧ gens[i + 1] % 1125899906842624 = L[i].f1) ∧ Fit Try.prog 3 (plainElem (H := Unit) Try.prog 29) es clock ∧ es.size ≤ Maps.size D ∧ D = .map ((es.toList.map (rg Try.prog 3 (plainElem Try.prog 29))).foldr DataW.insert []) ∧ HeldD D L)
    (ho : w2.ownsRow w.heap.size 29 1 (.slice (some ⟨g2, 0, none⟩) (L.length + 1) cap2) (L.length + 1) (gens.map (Value.int .u64))) (hb : Below w.heap.size w w2) :
    Gd ((w2.alloc (.map es clock)).alloc (.cells #[.slice (some ⟨g2, 0, none⟩) (L.length + 1) cap2, .map (some w2.heap.size), .int .i64 sl] 80 (0, 0))) (w2.heap.size + 1) g2 w2.heap.size L sl ∧ (w.heap.size ≤ w2.heap.size + 1 ∧ w.heap.size ≤ g2 ∧ w.heap.size ≤ w2.heap.size) ∧ Below w.heap.size w ((w2.alloc (.map es clock)).alloc (.cells #[.slice (some ⟨g2, 0, none⟩) (L.length + 1) cap2, .map (some w2.heap.size), .int .i64 sl] 80 (0, 0))) := by
  obtain ⟨d1, d2, d3, d4, d5, d6⟩ := hd
  obtain ⟨hlen, ⟨hv, _⟩ | ⟨g, cap, cur, hv, hbs, hg, h1, h2, h3, h4⟩⟩ := ho
  · cases hv
  · injection hv with hv1 hv2 hv3
    injection hv1 with hv1
    injection hv1 with hv1
    subst hv1
    subst hv3
    have sz := hb.size
    have s1 : (w2.alloc (.map es clock)).heap.size = w2.heap.size + 1 := by simp
    refine ⟨⟨cap2, cur, gens, D, ?_, ⟨blk_alloc (blk_alloc hg _) _, by omega, h1, Nat.le_trans h2 maxLen_le, d1, fun j hj => ?_⟩, d2, ⟨es, clock, blk_alloc (heap_alloc_new w2 _) _, d3, d4, d5⟩, d6⟩, ⟨by omega, hbs, sz⟩, below_alloc (below_alloc hb _) _⟩
    · rw [← s1]
      exact heap_alloc_new (w2.alloc (.map es clock)) _
    · have e : (cur.toList.take ((L.length + 1) * 1))[j]? = some (.int .u64 gens[j]) := by
        rw [h4, List.getElem?_map, List.getElem?_eq_getElem hj]
        rfl
      rw [List.getElem?_take, if_pos (by omega), Array.getElem?_toList] at e
      exact e
set_option maxHeartbeats 4000000 in
set_option maxRecDepth 100000 in
theorem gclone_calls {w : World} {b gb mb : Nat} {L : List Sl} {sl : Int} (hG : Gd w b gb mb L sl) (hL : WfL L) : Calls Try.prog 39 #[.pointer (some ⟨b, 0, none⟩)] w fun e w' => ∃ b2 gb2 mb2, e = .returned (.pointer (some ⟨b2, 0, none⟩)) ∧ Gd w' b2 gb2 mb2 L sl ∧ (w.heap.size ≤ b2 ∧ w.heap.size ≤ gb2 ∧ w.heap.size ≤ mb2) ∧ Below w.heap.size w w' := by
  have hu := Try.underlying80
  have hl := hL.1
  obtain ⟨c0, hc1, hc2, b0, b1, b2, z2⟩ := hG.cells
  obtain ⟨c, cur, gens, D, h1, ⟨h2, h3, h3b, h3c, h3d, h3e⟩, h4, ⟨es, clock, h5, F, hs, hD⟩, h6⟩ := hG
  have e1 := b0.symm.trans ((blk_cell h1 0).trans rfl)
  obtain rfl : c0 = c := by injection e1 with e1; injection e1
  have reads : ∀ j (h : j < gens.length), w.cell? ((⟨gb, 0, none⟩ : Addr).add j) = some (.int .u64 gens[j]) := fun j h => by
    rw [add_at, Nat.zero_add]
    exact (blk_cell h2 j).trans (h3e j h)
  have SC := Aside0.mk (fun (W : World) (hb : Below w.heap.size w W) => sclone_calls W ⟨gb, 0, none⟩ (L.length + 1) c0 gens h3d (by omega) (fun j h => pw_cell_below hb (reads j h)))
  have MC := Aside0.mk (fun (W : World) (hb : Below w.heap.size w W) => mclone_calls W mb es clock ((hb.block mb (Array.getElem?_eq_some_iff.1 h5).1).trans h5))
  have D0 := Aside0.mk (And.intro h3d (And.intro h4 (And.intro F (And.intro hs (And.intro hD h6)))))
  have C0 := Aside0.mk (And.intro b1 b2)
  clear h1 h2 h3 h3b h3c h3d h3e h4 h5 F hs hD h6 reads e1 hL z2
  go_enter Try.func39, Try.ntmps39
  go_wp2_with fail
  go_region_law (first | (go_simp; go_at_call 40; refine (SC.out w.drew (below_drew1 (Below.refl _ _))).mono ?_; rintro e w2 ⟨v2, rfl, ho2, hn2, hb2⟩; obtain ⟨g2, cap2, rfl, hg2, hg3⟩ := ho2.form (by omega); have O2 := Aside0.mk ho2; have B2 := Aside0.mk (below_then (below_drew1 (Below.refl w.heap.size w)) (Nat.le_refl _) hb2); have b1a := pw_cell_below B2.out C0.out.1; have b2a := pw_cell_below B2.out C0.out.2; have b2b : (w2.alloc (.map es clock)).cell? ⟨b, 2, none⟩ = some (.int .i64 sl) := blkcell_alloc _ b2a; clear ho2 hn2 hb2) | (go_simp; go_at_call 57; refine (MC.out _ B2.out).mono ?_; rintro e w3 ⟨rfl, rfl⟩))
  all_goals go_wp2
  all_goals go_ret
  all_goals exact ⟨_, _, _, rfl, clone_end hl D0.out O2.out B2.out⟩
set_option maxRecDepth 100000 in
theorem takeN (s : Int) (w : World) : Calls Try.prog 36 #[.pointer none, .int .i64 s] w fun e w' => e = .returned (.bool false) ∧ w' = w := by
  go_enter Try.func36, Try.ntmps36
  go_wp2
  go_ret
  exact ⟨rfl, rfl⟩
set_option maxRecDepth 100000 in
theorem dropN (x : Int) (w : World) : Calls Try.prog 33 #[.pointer none, .int .u64 x] w fun e w' => e = .returned (.bool false) ∧ w' = w := by
  go_enter Try.func33, Try.ntmps33
  go_wp2
  go_ret
  exact ⟨rfl, rfl⟩
set_option maxRecDepth 100000 in
theorem heldN_  (w : World) : Calls Try.prog 34 #[.pointer none] w fun e w' => e = .returned (.int .i64 0) ∧ w' = w := by
  go_enter Try.func34, Try.ntmps34
  go_wp2
  go_ret
  exact ⟨rfl, rfl⟩
set_option maxRecDepth 100000 in
theorem slipsN  (w : World) : Calls Try.prog 35 #[.pointer none] w fun e w' => e = .returned (.int .i64 0) ∧ w' = w := by
  go_enter Try.func35, Try.ntmps35
  go_wp2
  go_ret
  exact ⟨rfl, rfl⟩
set_option maxRecDepth 100000 in
theorem cloneN  (w : World) : Calls Try.prog 39 #[.pointer none] w fun e w' => e = .returned (.pointer none) ∧ w' = w := by
  go_enter Try.func39, Try.ntmps39
  go_wp2
  go_ret
  exact ⟨rfl, rfl⟩
set_option maxRecDepth 100000 in
theorem thereN (s : Int) (w : World) : Calls Try.prog 52 #[.pointer none, .int .i64 s] w fun e w' => e = .returned (.bool false) ∧ w' = w := by
  go_enter Try.func52, Try.ntmps52
  go_wp2
  go_ret
  exact ⟨rfl, rfl⟩
set_option maxRecDepth 100000 in
theorem edgeN (s : Int) (w : World) : Calls Try.prog 31 #[.pointer none, .int .i64 s] w fun e w' => e = .returned (.int .u64 0) ∧ w' = w := by
  go_enter Try.func31, Try.ntmps31
  go_wp2_with fail
  refine (thereN s w).mono ?_
  rintro e w2 ⟨rfl, rfl⟩
  go_wp2
  go_ret
  exact ⟨rfl, rfl⟩
set_option maxRecDepth 100000 in
theorem leadsN (x : Nat) (hx : x < 2 ^ 64) (w : World) : Calls Try.prog 32 #[.pointer none, .int .u64 (x : Int)] w fun e w' => e = .returned (.bool false) ∧ ∃ n, w' = w.drewN n := by
  have SL := Aside0.mk (fun W : World => slot_some x hx W)
  have TH := Aside0.mk (fun W : World => thereN (slotN x) W)
  go_enter Try.func32, Try.ntmps32
  go_wp2_with fail
  go_quiet (first | (go_at_call 54; refine Calls.quiet_of (SL.out _)) | (go_at_call 52; refine Calls.quiet_of_same (TH.out _)))
  go_wp2
  go_ret
  exact ⟨rfl, _, rfl⟩
end Go.Proofs.Ytdmpfnnaefccnaa.GuardC2
