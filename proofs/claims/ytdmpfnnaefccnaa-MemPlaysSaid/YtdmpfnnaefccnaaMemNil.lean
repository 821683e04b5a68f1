/- Memories of words: what a memory that isn't there tells, and copies. -/
import Derived.Test.YtdmpfnnaefccnaaMemDo
set_option linter.unusedVariables false
set_option linter.unusedSimpArgs false
namespace Go.Proofs.Ytdmpfnnaefccnaa.MemNil
open Go Go.RowKit Go.Proofs.YtdmpfnnaefccnaaW.PrintWords Go.Proofs.Ytdmpfnnaefccnaa.MemW Go.Proofs.Ytdmpfnnaefccnaa.MemDo
set_option maxHeartbeats 4000000 in
set_option maxRecDepth 100000 in
theorem turn_nil (a : Int) (fv : Value) (w : World) : Calls Try.prog 41 #[.pointer none, .int .i64 a, fv] w fun e w' => e = .returned (.int .u64 0) ∧ Below w.heap.size w w' := by
  go_enter Try.func41, Try.ntmps41
  go_wp2_with fail
  refine (at_nil _ _).mono ?_
  rintro e w2 ⟨rfl, rfl⟩
  go_wp2
  go_ret
  exact ⟨rfl, below_alloc (Below.refl _ _) _⟩
set_option maxHeartbeats 4000000 in
set_option maxRecDepth 100000 in
theorem load_nil (a : Int) (w : World) : Calls Try.prog 16 #[.pointer none, .int .i64 a] w fun e w' => e = .returned (.int .u64 0) ∧ Below w.heap.size w w' := by
  go_enter Try.func16, Try.ntmps16
  go_wp2_with fail
  refine (turn_nil _ _ _).mono ?_
  rintro e w2 ⟨rfl, hb⟩
  have HB := Aside0.mk hb
  clear hb
  go_wp2
  go_ret
  exact ⟨rfl, HB.out⟩
set_option maxHeartbeats 4000000 in
set_option maxRecDepth 100000 in
theorem or_nil (a : Int) (y : Int) (w : World) : Calls Try.prog 43 #[.pointer none, .int .i64 a, .int .u64 y] w fun e w' => e = .returned (.int .u64 0) ∧ Below w.heap.size w w' := by
  go_enter Try.func43, Try.ntmps43
  go_wp2_with fail
  refine (turn_nil _ _ _).mono ?_
  rintro e w2 ⟨rfl, hb⟩
  have HB := Aside0.mk (below_then (below_alloc (Below.refl w.heap.size w) (.cells #[.int .u64 y] 29 (0, 0))) (Below.size (below_alloc (Below.refl w.heap.size w) _)) hb)
  clear hb
  go_wp2
  go_ret
  exact ⟨rfl, HB.out⟩
set_option maxHeartbeats 4000000 in
set_option maxRecDepth 100000 in
theorem add_nil (a : Int) (y : Int) (w : World) : Calls Try.prog 22 #[.pointer none, .int .i64 a, .int .u64 y] w fun e w' => e = .returned (.int .u64 0) ∧ Below w.heap.size w w' := by
  go_enter Try.func22, Try.ntmps22
  go_wp2_with fail
  refine (turn_nil _ _ _).mono ?_
  rintro e w2 ⟨rfl, hb⟩
  have HB := Aside0.mk (below_then (below_alloc (Below.refl w.heap.size w) (.cells #[.int .u64 y] 29 (0, 0))) (Below.size (below_alloc (Below.refl w.heap.size w) _)) hb)
  clear hb
  go_wp2
  go_ret
  exact ⟨rfl, HB.out⟩
set_option maxHeartbeats 4000000 in
set_option maxRecDepth 100000 in
theorem store_nil (a : Int) (y : Int) (w : World) : Calls Try.prog 21 #[.pointer none, .int .i64 a, .int .u64 y] w fun e w' => e = .returned (.tuple #[]) ∧ Below w.heap.size w w' := by
  go_enter Try.func21, Try.ntmps21
  go_wp2_with fail
  refine (turn_nil _ _ _).mono ?_
  rintro e w2 ⟨rfl, hb⟩
  have HB := Aside0.mk (below_then (below_alloc (Below.refl w.heap.size w) (.cells #[.int .u64 y] 29 (0, 0))) (Below.size (below_alloc (Below.refl w.heap.size w) _)) hb)
  clear hb
  go_wp2
  exact bodyPost_end (v := .tuple #[]) (by kernel_rfl) rfl ⟨rfl, HB.out⟩
set_option maxHeartbeats 4000000 in
set_option maxRecDepth 100000 in
theorem cas_nil (a old next : Int) (w : World) : Calls Try.prog 20 #[.pointer none, .int .i64 a, .int .u64 old, .int .u64 next] w fun e w' => e = .returned (.bool false) ∧ Below w.heap.size w w' := by
  go_enter Try.func20, Try.ntmps20
  go_wp2_with fail
  refine (at_nil _ _).mono ?_
  rintro e w2 ⟨rfl, rfl⟩
  go_wp2
  go_ret
  exact ⟨rfl, below_alloc (Below.refl _ _) _⟩
set_option maxHeartbeats 4000000 in
set_option maxRecDepth 100000 in
theorem dcss_nil (p iss a old next : Int) (w : World) : Calls Try.prog 19 #[.pointer none, .int .i64 p, .int .u64 iss, .int .i64 a, .int .u64 old, .int .u64 next] w fun e w' => e = .returned (.bool false) ∧ Below w.heap.size w w' := by
  go_enter Try.func19, Try.ntmps19
  go_wp2_with fail
  refine (at_nil _ _).mono ?_
  rintro e w2 ⟨rfl, rfl⟩
  go_wp2
  go_ret
  exact ⟨rfl, below_alloc (Below.refl _ _) _⟩
set_option maxHeartbeats 4000000 in
set_option maxRecDepth 100000 in
theorem accesses_nil (w : World) : Calls Try.prog 14 #[.pointer none] w fun e w' => e = .returned (.int .i64 0) ∧ w' = w := by
  go_enter Try.func14, Try.ntmps14
  go_wp2
  go_ret
  exact ⟨rfl, rfl⟩
set_option maxHeartbeats 4000000 in
set_option maxRecDepth 100000 in
theorem fault_nil (w : World) : Calls Try.prog 15 #[.pointer none] w fun e w' => e = .returned (.bool false) ∧ w' = w := by
  go_enter Try.func15, Try.ntmps15
  go_wp2
  go_ret
  exact ⟨rfl, rfl⟩
set_option maxHeartbeats 4000000 in
set_option maxRecDepth 100000 in
theorem words_nil (w : World) : Calls Try.prog 13 #[.pointer none] w fun e w' => e = .returned (.slice none 0 0) ∧ w' = w := by
  go_enter Try.func13, Try.ntmps13
  go_wp2
  go_ret
  exact ⟨rfl, rfl⟩
set_option maxHeartbeats 4000000 in
set_option maxRecDepth 100000 in
theorem clone_nil (w : World) : Calls Try.prog 25 #[.pointer none] w fun e w' => e = .returned (.pointer none) ∧ w' = w := by
  go_enter Try.func25, Try.ntmps25
  go_wp2
  go_ret
  exact ⟨rfl, rfl⟩
set_option maxHeartbeats 4000000 in
set_option maxRecDepth 100000 in
theorem do_nil (k a p iss old n : Int) (w : World) : Calls Try.prog 18 #[.pointer none, .agg #[.int .i64 k, .int .i64 a, .int .i64 p, .int .u64 iss, .int .u64 old, .int .u64 n]] w fun e w' => e = .returned (.tuple #[.int .u64 0, .bool false]) ∧ Below w.heap.size w w' := by
  have hu := Try.underlying34
  by_cases k0 : k = 0
  · subst k0
    go_enter Try.func18, Try.ntmps18
    go_wp2_with fail
    refine (load_nil _ _).mono ?_
    rintro e w2 ⟨rfl, hb⟩
    have HB := Aside0.mk (below_then (below_alloc (Below.refl w.heap.size w) (.cells #[.int .i64 0, .int .i64 a, .int .i64 p, .int .u64 iss, .int .u64 old, .int .u64 n] 34 (0, 0))) (Below.size (below_alloc (Below.refl w.heap.size w) _)) hb)
    clear hb
    go_wp2
    go_ret2
    exact ⟨rfl, HB.out⟩
  by_cases k1 : k = 1
  · subst k1
    go_enter Try.func18, Try.ntmps18
    go_wp2_with fail
    refine (store_nil _ _ _).mono ?_
    rintro e w2 ⟨rfl, hb⟩
    have HB := Aside0.mk (below_then (below_alloc (Below.refl w.heap.size w) (.cells #[.int .i64 1, .int .i64 a, .int .i64 p, .int .u64 iss, .int .u64 old, .int .u64 n] 34 (0, 0))) (Below.size (below_alloc (Below.refl w.heap.size w) _)) hb)
    clear hb
    go_wp2
    go_ret2
    exact ⟨rfl, HB.out⟩
  by_cases k2 : k = 2
  · subst k2
    go_enter Try.func18, Try.ntmps18
    go_wp2_with fail
    refine (cas_nil _ _ _ _).mono ?_
    rintro e w2 ⟨rfl, hb⟩
    have HB := Aside0.mk (below_then (below_alloc (Below.refl w.heap.size w) (.cells #[.int .i64 2, .int .i64 a, .int .i64 p, .int .u64 iss, .int .u64 old, .int .u64 n] 34 (0, 0))) (Below.size (below_alloc (Below.refl w.heap.size w) _)) hb)
    clear hb
    go_wp2
    go_ret2
    exact ⟨rfl, HB.out⟩
  by_cases k3 : k = 3
  · subst k3
    go_enter Try.func18, Try.ntmps18
    go_wp2_with fail
    refine (or_nil _ _ _).mono ?_
    rintro e w2 ⟨rfl, hb⟩
    have HB := Aside0.mk (below_then (below_alloc (Below.refl w.heap.size w) (.cells #[.int .i64 3, .int .i64 a, .int .i64 p, .int .u64 iss, .int .u64 old, .int .u64 n] 34 (0, 0))) (Below.size (below_alloc (Below.refl w.heap.size w) _)) hb)
    clear hb
    go_wp2
    go_ret2
    exact ⟨rfl, HB.out⟩
  by_cases k4 : k = 4
  · subst k4
    go_enter Try.func18, Try.ntmps18
    go_wp2_with fail
    refine (add_nil _ _ _).mono ?_
    rintro e w2 ⟨rfl, hb⟩
    have HB := Aside0.mk (below_then (below_alloc (Below.refl w.heap.size w) (.cells #[.int .i64 4, .int .i64 a, .int .i64 p, .int .u64 iss, .int .u64 old, .int .u64 n] 34 (0, 0))) (Below.size (below_alloc (Below.refl w.heap.size w) _)) hb)
    clear hb
    go_wp2
    go_ret2
    exact ⟨rfl, HB.out⟩
  go_enter Try.func18, Try.ntmps18
  go_wp2_with fail
  refine (dcss_nil _ _ _ _ _ _).mono ?_
  rintro e w2 ⟨rfl, hb⟩
  have HB := Aside0.mk (below_then (below_alloc (Below.refl w.heap.size w) (.cells #[.int .i64 k, .int .i64 a, .int .i64 p, .int .u64 iss, .int .u64 old, .int .u64 n] 34 (0, 0))) (Below.size (below_alloc (Below.refl w.heap.size w) _)) hb)
  clear hb
  go_wp2
  go_ret2
  exact ⟨rfl, HB.out⟩
theorem own_some {w : World} {base n : Nat} {v : Value} {xs : List Value} (h : w.ownsRow base 29 1 v n xs) (h1 : 1 ≤ n) : ∃ g cap cur, v = .slice (some ⟨g, 0, none⟩) n cap ∧ base ≤ g ∧ w.heap[g]? = some (.cells cur 29 (0, 0)) ∧ n ≤ cap ∧ cap ≤ maxLen ∧ cur.size = cap * 1 ∧ cur.toList.take (n * 1) = xs := by
  rcases h.2 with ⟨_, hz⟩ | h
  · omega
  · exact h
theorem Below.drew_first {w w2 : World} (h : Below w.drew.heap.size w.drew w2) : Below w.heap.size w w2 := below_then (below_drew1 (Below.refl w.heap.size w)) (Nat.le_refl _) h
theorem Mem.mk_at {w : World} {g cap : Nat} {cur : Array Value} {ws : List Int} {acc : Int} {f : Bool} (hh : w.heap[g]? = some (.cells cur 29 (0, 0))) (hnc : ws.length ≤ cap) (hcm : cap ≤ maxLen) (hcs : cur.size = cap * 1) (ht : cur.toList.take (ws.length * 1) = ws.map (Value.int .u64)) :
    Mem (w.alloc (.cells #[.slice (some ⟨g, 0, none⟩) ws.length cap, .int .i64 acc, .bool f] 74 (0, 0))) w.heap.size g ws acc f := by
  have hg : g < w.heap.size := (Array.getElem?_eq_some_iff.1 hh).1
  refine ⟨by omega, cap, cur, heap_alloc_new w _, blk_alloc hh _, by omega, hnc, by unfold maxLen at hcm; omega, fun i hi => ?_⟩
  have h2 : (cur.toList.take (ws.length * 1))[i]? = some (.int .u64 ws[i]) := by rw [ht, List.getElem?_map, List.getElem?_eq_getElem hi]; rfl
  rw [List.getElem?_take, if_pos (by omega), Array.getElem?_toList] at h2
  exact h2
set_option maxHeartbeats 4000000 in
set_option maxRecDepth 100000 in
theorem mclone_calls (w : World) (b g : Nat) (ws : List Int) (acc : Int) (f : Bool) (hM : Mem w b g ws acc f) (h1 : 1 ≤ ws.length) (hn : ws.length ≤ 1000000) :
    Calls Try.prog 25 #[.pointer (some ⟨b, 0, none⟩)] w fun e w' => ∃ b2 g2, e = .returned (.pointer (some ⟨b2, 0, none⟩)) ∧ Mem w' b2 g2 ws acc f ∧ w.heap.size ≤ b2 ∧ w.heap.size ≤ g2 ∧ Below w.heap.size w w' := by
  have hu := Try.underlying74
  obtain ⟨c2, hc1, hc2, b0, b1, b2, z1, z2⟩ := hM.facts
  have M0 := Aside0.mk hM
  have R0 := Aside0.mk (hM.move (w' := w.drew) rfl rfl).reads
  have mixed : Try.prog.follows Departure.mixedOrders = true := by kernel_rfl
  clear hM
  go_enter Try.func25, Try.ntmps25
  go_wp2_with fail
  go_region_with (go_at_call 40; refine (clone_calls _ ⟨g, 0, none⟩ ws.length c2 ws rfl hn R0.out).mono ?_; rintro e w2 ⟨v, rfl, ho, _, hb⟩; obtain ⟨g3, cap, cur, rfl, hbg, hh, hnc, hcm, hcs, ht⟩ := own_some ho h1; have MN := Aside0.mk (Mem.mk_at (acc := acc) (f := f) hh hnc hcm hcs ht); have HB := Aside0.mk (Below.drew_first hb); have HS := Aside0.mk hb.size; have HG := Aside0.mk hbg; obtain ⟨c4, _, _, b4, b5, b6, _, _⟩ := ((M0.out.move (w' := w.drew) rfl rfl).below hb).facts; clear ho hb hh hnc hcm hcs ht hbg b0 b1 b2 z1 z2)
  all_goals go_wp2
  all_goals go_ret
  all_goals exact ⟨w2.heap.size, g3, rfl, MN.out, HS.out, HG.out, below_alloc HB.out _⟩
end Go.Proofs.Ytdmpfnnaefccnaa.MemNil
