/- The reference's access of a memory: what it tells, and the memory behind. -/
import Derived.Test.YtdmpfnnaefccnaaMemRow
import Derived.Deep.DeepMust
import Derived.Deep.QuietTactic
import Derived.BigQuiet
set_option linter.unusedVariables false
set_option linter.unusedSimpArgs false
namespace Go.Proofs.Ytdmpfnnaefccnaa.MemRef
open Go Go.RowKit Go.Proofs.YtdmpfnnaefccnaaW.PrintWords Go.Proofs.YtdmpfnnaefccnaaW.PrintLast Go.Proofs.Ytdmpfnnaefccnaa.MemW Go.Proofs.Ytdmpfnnaefccnaa.MemDo Go.Proofs.Ytdmpfnnaefccnaa.MemPlaysNum Go.Proofs.Ytdmpfnnaefccnaa.MemRow Go.Proofs.Ytdmpfnnaefccnaa.Num Go.Proofs.Ytdmpfnnaefccnaa.MemLawHolds
theorem cells3 {w : World} {b T : Nat} {x y z : Value} (h : w.heap[b]? = some (.cells #[x, y, z] T (0, 0))) : w.cell? ⟨b, 0, none⟩ = some x ∧ w.cell? ⟨b, 1, none⟩ = some y ∧ w.cell? ⟨b, 2, none⟩ = some z ∧ w.frozen? ⟨b, 0, none⟩ = false ∧ w.frozen? ⟨b, 1, none⟩ = false ∧ w.frozen? ⟨b, 2, none⟩ = false :=
  ⟨(blk_cell h 0).trans rfl, (blk_cell h 1).trans rfl, (blk_cell h 2).trans rfl, blk_frozen h 0, blk_frozen h 1, blk_frozen h 2⟩
theorem cells6 {w : World} {b T : Nat} {x0 x1 x2 x3 x4 x5 : Value} (h : w.heap[b]? = some (.cells #[x0, x1, x2, x3, x4, x5] T (0, 0))) : w.cell? ⟨b, 0, none⟩ = some x0 ∧ w.cell? ⟨b, 1, none⟩ = some x1 ∧ w.cell? ⟨b, 2, none⟩ = some x2 ∧ w.cell? ⟨b, 3, none⟩ = some x3 ∧ w.cell? ⟨b, 4, none⟩ = some x4 ∧ w.cell? ⟨b, 5, none⟩ = some x5 :=
  ⟨(blk_cell h 0).trans rfl, (blk_cell h 1).trans rfl, (blk_cell h 2).trans rfl, (blk_cell h 3).trans rfl, (blk_cell h 4).trans rfl, (blk_cell h 5).trans rfl⟩
set_option maxHeartbeats 1000000 in
set_option maxRecDepth 100000 in
theorem ref_out (w : World) (A : Option Addr) (n c : Nat) (acc : Int) (f : Bool) (k a p iss old nn : Int) (h0 : 0 ≤ acc) (h1 : acc < 1000000) (ho : a < 0 ∨ (n : Int) ≤ a) :
    Calls Try.prog 24 #[.agg #[.slice A n c, .int .i64 acc, .bool f], .agg #[.int .i64 k, .int .i64 a, .int .i64 p, .int .u64 iss, .int .u64 old, .int .u64 nn]] w fun e w' => e = .returned (.tuple #[.agg #[.slice A n c, .int .i64 (acc + 1), .bool true], .int .u64 0, .bool false]) ∧ Below w.heap.size w w' := by
  have hu44 := Try.underlying44
  have hu34 := Try.underlying34
  have q1 : IntKind.i64.wrap (acc + 1) = acc + 1 := by rw [IntKind.wrap_i64]; omega
  rcases ho with h | h
  · go_enter Try.func24, Try.ntmps24
    go_wp2
    all_goals refine bodyPost_ret (v := .tuple #[.agg #[.slice A n c, .int .i64 (acc + 1), .bool true], .int .u64 0, .bool false]) (by simp [results, Try.results24, go_sem]) rfl ⟨rfl, below_alloc (below_alloc (below_alloc (Below.refl w.heap.size w) _) _) _⟩
  · have h2 : ¬ a < 0 := by omega
    go_enter Try.func24, Try.ntmps24
    go_wp2
    all_goals refine bodyPost_ret (v := .tuple #[.agg #[.slice A n c, .int .i64 (acc + 1), .bool true], .int .u64 0, .bool false]) (by simp [results, Try.results24, go_sem]) rfl ⟨rfl, below_alloc (below_alloc (below_alloc (Below.refl w.heap.size w) _) _) _⟩
set_option maxHeartbeats 1000000 in
set_option maxRecDepth 100000 in
theorem ref_out2 (w : World) (A : Option Addr) (n c : Nat) (acc : Int) (f : Bool) (k a p iss old nn : Int) (h0 : 0 ≤ acc) (h1 : acc < 1000000) (ha : ¬ a < 0) (hb : ¬ (n : Int) ≤ a) (hk : k < 0 ∨ 4 < k) (ho : p < 0 ∨ (n : Int) ≤ p) :
    Calls Try.prog 24 #[.agg #[.slice A n c, .int .i64 acc, .bool f], .agg #[.int .i64 k, .int .i64 a, .int .i64 p, .int .u64 iss, .int .u64 old, .int .u64 nn]] w fun e w' => e = .returned (.tuple #[.agg #[.slice A n c, .int .i64 (acc + 1), .bool true], .int .u64 0, .bool false]) ∧ Below w.heap.size w w' := by
  have hu44 := Try.underlying44
  have hu34 := Try.underlying34
  have q1 : IntKind.i64.wrap (acc + 1) = acc + 1 := by rw [IntKind.wrap_i64]; omega
  by_cases hk0 : k < 0
  · clear hk
    by_cases h : p < 0
    · go_enter Try.func24, Try.ntmps24
      go_wp2
      all_goals refine bodyPost_ret (v := .tuple #[.agg #[.slice A n c, .int .i64 (acc + 1), .bool true], .int .u64 0, .bool false]) (by simp [results, Try.results24, go_sem]) rfl ⟨rfl, below_alloc (below_alloc (below_alloc (Below.refl w.heap.size w) _) _) _⟩
    · have h5 : (n : Int) ≤ p := by omega
      clear ho
      go_enter Try.func24, Try.ntmps24
      go_wp2
      all_goals refine bodyPost_ret (v := .tuple #[.agg #[.slice A n c, .int .i64 (acc + 1), .bool true], .int .u64 0, .bool false]) (by simp [results, Try.results24, go_sem]) rfl ⟨rfl, below_alloc (below_alloc (below_alloc (Below.refl w.heap.size w) _) _) _⟩
  · have hk4 : 4 < k := by omega
    clear hk
    by_cases h : p < 0
    · go_enter Try.func24, Try.ntmps24
      go_wp2
      all_goals refine bodyPost_ret (v := .tuple #[.agg #[.slice A n c, .int .i64 (acc + 1), .bool true], .int .u64 0, .bool false]) (by simp [results, Try.results24, go_sem]) rfl ⟨rfl, below_alloc (below_alloc (below_alloc (Below.refl w.heap.size w) _) _) _⟩
    · have h5 : (n : Int) ≤ p := by omega
      clear ho
      go_enter Try.func24, Try.ntmps24
      go_wp2
      all_goals refine bodyPost_ret (v := .tuple #[.agg #[.slice A n c, .int .i64 (acc + 1), .bool true], .int .u64 0, .bool false]) (by simp [results, Try.results24, go_sem]) rfl ⟨rfl, below_alloc (below_alloc (below_alloc (Below.refl w.heap.size w) _) _) _⟩
set_option maxHeartbeats 1000000 in
set_option maxRecDepth 100000 in
theorem after_append (w w3 : World) (g c : Nat) (ws : List Int) (acc : Int) (f : Bool) (k i p iss old nn : Int) (v' : Value) (cells : List Value) (hc : cells = ws.map (Value.int .u64)) (h1 : 1 ≤ ws.length)
    (ho : w3.ownsRow (w.heap.size + 1 + 1 + 1) 29 1 v' (0 + ws.length) ([] ++ cells)) (hg : World.grownBy ((((w.alloc (.cells #[.slice (some ⟨g, 0, none⟩) ws.length c, .int .i64 (acc + 1), .bool f] 44 (0, 0))).alloc (.cells #[.int .i64 k, .int .i64 i, .int .i64 p, .int .u64 iss, .int .u64 old, .int .u64 nn] 34 (0, 0))).alloc (.cells #[.slice none 0 0, .int .i64 0, .bool false] 44 (0, 0))).alloc (.cells #[] 29 (0, 0))) w3 (Value.slice (some ⟨w.heap.size + 1 + 1 + 1, 0, none⟩) 0 0).ownBlock) :
    ∃ g3 c3, v' = .slice (some ⟨g3, 0, none⟩) ws.length c3 ∧ w.heap.size + 1 + 1 + 1 ≤ g3 ∧ Row w3 g3 c3 ws ∧ w3.heap[w.heap.size]? = some (.cells #[.slice (some ⟨g, 0, none⟩) ws.length c, .int .i64 (acc + 1), .bool f] 44 (0, 0)) ∧ w3.heap[w.heap.size + 1]? = some (.cells #[.int .i64 k, .int .i64 i, .int .i64 p, .int .u64 iss, .int .u64 old, .int .u64 nn] 34 (0, 0)) ∧ w3.heap[w.heap.size + 1 + 1]? = some (.cells #[.slice none 0 0, .int .i64 0, .bool false] 44 (0, 0)) ∧ Below w.heap.size w w3 := by
  subst hc
  rw [List.nil_append, Nat.zero_add] at ho
  obtain ⟨g3, c3, hv, hg3, hr⟩ := Row.of_own ho rfl h1
  have s0 := heap_alloc_new w (.cells #[.slice (some ⟨g, 0, none⟩) ws.length c, .int .i64 (acc + 1), .bool f] 44 (0, 0))
  have Q0 := blk_alloc (blk_alloc (blk_alloc s0 (.cells #[.int .i64 k, .int .i64 i, .int .i64 p, .int .u64 iss, .int .u64 old, .int .u64 nn] 34 (0, 0))) (.cells #[.slice none 0 0, .int .i64 0, .bool false] 44 (0, 0))) (.cells #[] 29 (0, 0))
  have s1 := heap_alloc_new (w.alloc (.cells #[.slice (some ⟨g, 0, none⟩) ws.length c, .int .i64 (acc + 1), .bool f] 44 (0, 0))) (.cells #[.int .i64 k, .int .i64 i, .int .i64 p, .int .u64 iss, .int .u64 old, .int .u64 nn] 34 (0, 0))
  have Q1 := blk_alloc (blk_alloc s1 (.cells #[.slice none 0 0, .int .i64 0, .bool false] 44 (0, 0))) (.cells #[] 29 (0, 0))
  have s2 := heap_alloc_new ((w.alloc (.cells #[.slice (some ⟨g, 0, none⟩) ws.length c, .int .i64 (acc + 1), .bool f] 44 (0, 0))).alloc (.cells #[.int .i64 k, .int .i64 i, .int .i64 p, .int .u64 iss, .int .u64 old, .int .u64 nn] 34 (0, 0))) (.cells #[.slice none 0 0, .int .i64 0, .bool false] 44 (0, 0))
  have Q2 := blk_alloc s2 (.cells #[] 29 (0, 0))
  have z1 : (w.alloc (.cells #[.slice (some ⟨g, 0, none⟩) ws.length c, .int .i64 (acc + 1), .bool f] 44 (0, 0))).heap.size = w.heap.size + 1 := by simp
  have z2 : ((w.alloc (.cells #[.slice (some ⟨g, 0, none⟩) ws.length c, .int .i64 (acc + 1), .bool f] 44 (0, 0))).alloc (.cells #[.int .i64 k, .int .i64 i, .int .i64 p, .int .u64 iss, .int .u64 old, .int .u64 nn] 34 (0, 0))).heap.size = w.heap.size + 1 + 1 := by simp
  rw [z1] at Q1
  rw [z2] at Q2
  have mv : ∀ jj, jj < w.heap.size + 1 + 1 + 1 → w3.heap[jj]? = ((((w.alloc (.cells #[.slice (some ⟨g, 0, none⟩) ws.length c, .int .i64 (acc + 1), .bool f] 44 (0, 0))).alloc (.cells #[.int .i64 k, .int .i64 i, .int .i64 p, .int .u64 iss, .int .u64 old, .int .u64 nn] 34 (0, 0))).alloc (.cells #[.slice none 0 0, .int .i64 0, .bool false] 44 (0, 0))).alloc (.cells #[] 29 (0, 0))).heap[jj]? := fun jj hk => hg.block jj (by simp; omega) (by simp [Value.ownBlock]; omega)
  refine ⟨g3, c3, hv, hg3, hr, (mv _ (by omega)).trans Q0, (mv _ (by omega)).trans Q1, (mv _ (by omega)).trans Q2, ?_⟩
  exact ((below_alloc (below_alloc (below_alloc (below_alloc (Below.refl w.heap.size w) _) _) _) _).grown hg (by simp; omega) (fun k hk => by have : w.heap.size + 1 + 1 + 1 = k := Option.some.inj hk; omega))
set_option maxHeartbeats 1000000 in
set_option maxRecDepth 100000 in
theorem in0 (w : World) (g c : Nat) (ws : List Int) (acc : Int) (f : Bool) (i : Nat) (p iss old nn : Int) (R0 : Row w g c ws) (h0 : 0 ≤ acc) (h1 : acc < 1000000) (hl : ws.length ≤ 1000) (hi : i < ws.length) :
    Calls Try.prog 24 #[.agg #[.slice (some ⟨g, 0, none⟩) ws.length c, .int .i64 acc, .bool f], .agg #[.int .i64 0, .int .i64 i, .int .i64 p, .int .u64 iss, .int .u64 old, .int .u64 nn]] w fun e w' => ∃ g2 c2, e = .returned (.tuple #[.agg #[.slice (some ⟨g2, 0, none⟩) ws.length c2, .int .i64 (acc + 1), .bool f], .int .u64 (ws[i]), .bool (false)]) ∧ Row w' g2 c2 (ws) ∧ w.heap.size ≤ g2 ∧ Below w.heap.size w w' := by
  have hu44 := Try.underlying44
  have hu34 := Try.underlying34
  have q1 : IntKind.i64.wrap (acc + 1) = acc + 1 := by rw [IntKind.wrap_i64]; omega
  obtain ⟨i0, hi0, hz0, hz1, hz2⟩ := info_u64
  have mixed : Try.prog.follows Departure.mixedOrders = true := by kernel_rfl
  have RR := Aside0.mk R0
  have q2 : ¬ (i : Int) < 0 := by omega
  have q3 : ¬ (ws.length : Int) ≤ (i : Int) := by omega
  have q4 : (i : Int) < (ws.length : Int) := by omega
  have HC := Aside0.mk (show ∀ (W : World), Below w.heap.size w W → ∀ j u, (ws.map (Value.int .u64))[j]? = some u → W.cell? ((⟨g, 0, none⟩ : Addr).add j) = some u from by
    intro W hb j u hj
    rw [List.getElem?_map] at hj
    obtain ⟨x, hx, rfl⟩ := Option.map_eq_some_iff.1 hj
    obtain ⟨h1, h2⟩ := List.getElem?_eq_some_iff.1 hx
    rw [← h2, add_at, Nat.zero_add]
    exact ((RR.out.below hb).word j h1).1)
  have HL := Aside0.mk (show (ws.map (Value.int .u64)).length = ws.length * 1 by rw [List.length_map]; omega)
  have H1 := Aside0.mk (show ∀ u ∈ ws.map (Value.int .u64), u.oneCell' = true from by intro u hu; obtain ⟨x, _, rfl⟩ := List.mem_map.1 hu; rfl)
  clear R0
  have B0 := Aside0.mk (below_alloc (below_alloc (below_alloc (below_alloc (Below.refl w.heap.size w) (.cells #[.slice (some ⟨g, 0, none⟩) ws.length c, .int .i64 (acc + 1), .bool f] 44 (0, 0))) (.cells #[.int .i64 0, .int .i64 i, .int .i64 p, .int .u64 iss, .int .u64 old, .int .u64 nn] 34 (0, 0))) (.cells #[.slice none 0 0, .int .i64 0, .bool false] 44 (0, 0))) (.cells #[] 29 (0, 0)))
  have hlen1 : 1 ≤ ws.length := by omega
  have OWN0 := World.ownsRow_made (base := w.heap.size + 1 + 1 + 1) (e := 29) (size := 1) (((w.alloc (.cells #[.slice (some ⟨g, 0, none⟩) ws.length c, .int .i64 (acc + 1), .bool f] 44 (0, 0))).alloc (.cells #[.int .i64 0, .int .i64 i, .int .i64 p, .int .u64 iss, .int .u64 old, .int .u64 nn] 34 (0, 0))).alloc (.cells #[.slice none 0 0, .int .i64 0, .bool false] 44 (0, 0))) #[] 0 (by simp) (Nat.zero_le _) rfl
  have hsz : (((w.alloc (.cells #[.slice (some ⟨g, 0, none⟩) ws.length c, .int .i64 (acc + 1), .bool f] 44 (0, 0))).alloc (.cells #[.int .i64 0, .int .i64 i, .int .i64 p, .int .u64 iss, .int .u64 old, .int .u64 nn] 34 (0, 0))).alloc (.cells #[.slice none 0 0, .int .i64 0, .bool false] 44 (0, 0))).heap.size = w.heap.size + 1 + 1 + 1 := by simp
  rw [hsz] at OWN0
  have OWN := Aside0.mk OWN0
  clear OWN0 hsz
  obtain ⟨cells, hcells⟩ : ∃ cells, cells = ws.map (Value.int .u64) := ⟨_, rfl⟩
  rw [← hcells] at HC HL H1
  have HE := Aside0.mk hcells
  clear hcells
  go_enter Try.func24, Try.ntmps24
  go_wp2_with (at_builtin; go_must (refine wpList_append_own _ rfl _ _ 22 rfl (w.heap.size + 1 + 1 + 1) 29 i0 (.int .u64 0) 1 8 Try.underlying22 hi0 hz0 hz1 hz2 rfl (by decide) _ _ _ rfl OWN.out ⟨g, 0, none⟩ ws.length c cells rfl HL.out (fun j u hj => HC.out _ B0.out j u hj) H1.out (by unfold maxLen; omega) (by omega) (by simp) ?_; intro v' w3 hown hgrow hnil; obtain ⟨g3, c3, rfl, hg3, hr3, hb0, hb1, hb2, hbl⟩ := after_append w w3 g c ws acc f _ _ _ _ _ _ v' cells HE.out hlen1 hown hgrow; have R3 := Aside0.mk hr3; have X0 := Aside0.mk hb0; have X1 := Aside0.mk hb1; have X2 := Aside0.mk hb2; have B3 := Aside0.mk hbl; obtain ⟨c00, c01, c02, f00, f01, f02⟩ := cells3 hb0; obtain ⟨c10, c11, c12, c13, c14, c15⟩ := cells6 hb1; obtain ⟨c20, c21, c22, f20, f21, f22⟩ := cells3 hb2; obtain ⟨y1, y2⟩ := hr3.word i hi; have n0 : w.heap.size ≠ g3 := (by omega); have n1 : w.heap.size + 1 ≠ g3 := (by omega); have n2 : w.heap.size + 1 + 1 ≠ g3 := (by omega); have n0' : g3 ≠ w.heap.size := (by omega); have n1' : g3 ≠ w.heap.size + 1 := (by omega); have n2' : g3 ≠ w.heap.size + 1 + 1 := (by omega); clear hown hgrow hnil hr3 hb0 hb1 hb2 hbl OWN HC HL H1 B0))
  all_goals refine bodyPost_ret (v := .tuple #[.agg #[.slice (some ⟨g3, 0, none⟩) ws.length c3, .int .i64 (acc + 1), .bool f], .int .u64 (ws[i]), .bool (false)]) (by simp [results, Try.results24, go_sem, c20, c21, c22, f20, f21, f22, n0, n1, n2, n0', n1', n2']) rfl ⟨g3, c3, rfl, ?_, by omega, ?_⟩
  all_goals first
    | exact (((R3.out.far n0' _).far n2' _).far n2' _).far n2' _
    | exact ((((B3.out).setCell (by simp) _).setCell (by simp; omega) _).setCell (by simp; omega) _).setCell (by simp; omega) _
set_option maxHeartbeats 1000000 in
set_option maxRecDepth 100000 in
theorem in1 (w : World) (g c : Nat) (ws : List Int) (acc : Int) (f : Bool) (i : Nat) (p iss old nn : Int) (R0 : Row w g c ws) (h0 : 0 ≤ acc) (h1 : acc < 1000000) (hl : ws.length ≤ 1000) (hi : i < ws.length) :
    Calls Try.prog 24 #[.agg #[.slice (some ⟨g, 0, none⟩) ws.length c, .int .i64 acc, .bool f], .agg #[.int .i64 1, .int .i64 i, .int .i64 p, .int .u64 iss, .int .u64 old, .int .u64 nn]] w fun e w' => ∃ g2 c2, e = .returned (.tuple #[.agg #[.slice (some ⟨g2, 0, none⟩) ws.length c2, .int .i64 (acc + 1), .bool f], .int .u64 (0), .bool (false)]) ∧ Row w' g2 c2 (ws.set i nn) ∧ w.heap.size ≤ g2 ∧ Below w.heap.size w w' := by
  have hu44 := Try.underlying44
  have hu34 := Try.underlying34
  have q1 : IntKind.i64.wrap (acc + 1) = acc + 1 := by rw [IntKind.wrap_i64]; omega
  obtain ⟨i0, hi0, hz0, hz1, hz2⟩ := info_u64
  have mixed : Try.prog.follows Departure.mixedOrders = true := by kernel_rfl
  have RR := Aside0.mk R0
  have q2 : ¬ (i : Int) < 0 := by omega
  have q3 : ¬ (ws.length : Int) ≤ (i : Int) := by omega
  have q4 : (i : Int) < (ws.length : Int) := by omega
  have HC := Aside0.mk (show ∀ (W : World), Below w.heap.size w W → ∀ j u, (ws.map (Value.int .u64))[j]? = some u → W.cell? ((⟨g, 0, none⟩ : Addr).add j) = some u from by
    intro W hb j u hj
    rw [List.getElem?_map] at hj
    obtain ⟨x, hx, rfl⟩ := Option.map_eq_some_iff.1 hj
    obtain ⟨h1, h2⟩ := List.getElem?_eq_some_iff.1 hx
    rw [← h2, add_at, Nat.zero_add]
    exact ((RR.out.below hb).word j h1).1)
  have HL := Aside0.mk (show (ws.map (Value.int .u64)).length = ws.length * 1 by rw [List.length_map]; omega)
  have H1 := Aside0.mk (show ∀ u ∈ ws.map (Value.int .u64), u.oneCell' = true from by intro u hu; obtain ⟨x, _, rfl⟩ := List.mem_map.1 hu; rfl)
  clear R0
  have B0 := Aside0.mk (below_alloc (below_alloc (below_alloc (below_alloc (Below.refl w.heap.size w) (.cells #[.slice (some ⟨g, 0, none⟩) ws.length c, .int .i64 (acc + 1), .bool f] 44 (0, 0))) (.cells #[.int .i64 1, .int .i64 i, .int .i64 p, .int .u64 iss, .int .u64 old, .int .u64 nn] 34 (0, 0))) (.cells #[.slice none 0 0, .int .i64 0, .bool false] 44 (0, 0))) (.cells #[] 29 (0, 0)))
  have hlen1 : 1 ≤ ws.length := by omega
  have OWN0 := World.ownsRow_made (base := w.heap.size + 1 + 1 + 1) (e := 29) (size := 1) (((w.alloc (.cells #[.slice (some ⟨g, 0, none⟩) ws.length c, .int .i64 (acc + 1), .bool f] 44 (0, 0))).alloc (.cells #[.int .i64 1, .int .i64 i, .int .i64 p, .int .u64 iss, .int .u64 old, .int .u64 nn] 34 (0, 0))).alloc (.cells #[.slice none 0 0, .int .i64 0, .bool false] 44 (0, 0))) #[] 0 (by simp) (Nat.zero_le _) rfl
  have hsz : (((w.alloc (.cells #[.slice (some ⟨g, 0, none⟩) ws.length c, .int .i64 (acc + 1), .bool f] 44 (0, 0))).alloc (.cells #[.int .i64 1, .int .i64 i, .int .i64 p, .int .u64 iss, .int .u64 old, .int .u64 nn] 34 (0, 0))).alloc (.cells #[.slice none 0 0, .int .i64 0, .bool false] 44 (0, 0))).heap.size = w.heap.size + 1 + 1 + 1 := by simp
  rw [hsz] at OWN0
  have OWN := Aside0.mk OWN0
  clear OWN0 hsz
  obtain ⟨cells, hcells⟩ : ∃ cells, cells = ws.map (Value.int .u64) := ⟨_, rfl⟩
  rw [← hcells] at HC HL H1
  have HE := Aside0.mk hcells
  clear hcells
  go_enter Try.func24, Try.ntmps24
  go_wp2_with (at_builtin; go_must (refine wpList_append_own _ rfl _ _ 22 rfl (w.heap.size + 1 + 1 + 1) 29 i0 (.int .u64 0) 1 8 Try.underlying22 hi0 hz0 hz1 hz2 rfl (by decide) _ _ _ rfl OWN.out ⟨g, 0, none⟩ ws.length c cells rfl HL.out (fun j u hj => HC.out _ B0.out j u hj) H1.out (by unfold maxLen; omega) (by omega) (by simp) ?_; intro v' w3 hown hgrow hnil; obtain ⟨g3, c3, rfl, hg3, hr3, hb0, hb1, hb2, hbl⟩ := after_append w w3 g c ws acc f _ _ _ _ _ _ v' cells HE.out hlen1 hown hgrow; have R3 := Aside0.mk hr3; have X0 := Aside0.mk hb0; have X1 := Aside0.mk hb1; have X2 := Aside0.mk hb2; have B3 := Aside0.mk hbl; obtain ⟨c00, c01, c02, f00, f01, f02⟩ := cells3 hb0; obtain ⟨c10, c11, c12, c13, c14, c15⟩ := cells6 hb1; obtain ⟨c20, c21, c22, f20, f21, f22⟩ := cells3 hb2; obtain ⟨y1, y2⟩ := hr3.word i hi; have n0 : w.heap.size ≠ g3 := (by omega); have n1 : w.heap.size + 1 ≠ g3 := (by omega); have n2 : w.heap.size + 1 + 1 ≠ g3 := (by omega); have n0' : g3 ≠ w.heap.size := (by omega); have n1' : g3 ≠ w.heap.size + 1 := (by omega); have n2' : g3 ≠ w.heap.size + 1 + 1 := (by omega); clear hown hgrow hnil hr3 hb0 hb1 hb2 hbl OWN HC HL H1 B0))
  all_goals refine bodyPost_ret (v := .tuple #[.agg #[.slice (some ⟨g3, 0, none⟩) ws.length c3, .int .i64 (acc + 1), .bool f], .int .u64 (0), .bool (false)]) (by simp [results, Try.results24, go_sem, c20, c21, c22, f20, f21, f22, n0, n1, n2, n0', n1', n2']) rfl ⟨g3, c3, rfl, ?_, by omega, ?_⟩
  all_goals first
    | exact ((((R3.out.setw i hi (nn)).far n0' _).far n2' _).far n2' _).far n2' _
    | exact ((((B3.out.setCell (by simp; omega) _).setCell (by simp) _).setCell (by simp; omega) _).setCell (by simp; omega) _).setCell (by simp; omega) _
set_option maxHeartbeats 1000000 in
set_option maxRecDepth 100000 in
theorem in2y (w : World) (g c : Nat) (ws : List Int) (acc : Int) (f : Bool) (i : Nat) (p iss old nn : Int) (R0 : Row w g c ws) (h0 : 0 ≤ acc) (h1 : acc < 1000000) (hl : ws.length ≤ 1000) (hi : i < ws.length) (he : ws[i] = old) :
    Calls Try.prog 24 #[.agg #[.slice (some ⟨g, 0, none⟩) ws.length c, .int .i64 acc, .bool f], .agg #[.int .i64 2, .int .i64 i, .int .i64 p, .int .u64 iss, .int .u64 old, .int .u64 nn]] w fun e w' => ∃ g2 c2, e = .returned (.tuple #[.agg #[.slice (some ⟨g2, 0, none⟩) ws.length c2, .int .i64 (acc + 1), .bool f], .int .u64 (0), .bool (true)]) ∧ Row w' g2 c2 (ws.set i nn) ∧ w.heap.size ≤ g2 ∧ Below w.heap.size w w' := by
  have hu44 := Try.underlying44
  have hu34 := Try.underlying34
  have q1 : IntKind.i64.wrap (acc + 1) = acc + 1 := by rw [IntKind.wrap_i64]; omega
  obtain ⟨i0, hi0, hz0, hz1, hz2⟩ := info_u64
  have mixed : Try.prog.follows Departure.mixedOrders = true := by kernel_rfl
  have RR := Aside0.mk R0
  have q2 : ¬ (i : Int) < 0 := by omega
  have q3 : ¬ (ws.length : Int) ≤ (i : Int) := by omega
  have q4 : (i : Int) < (ws.length : Int) := by omega
  have HC := Aside0.mk (show ∀ (W : World), Below w.heap.size w W → ∀ j u, (ws.map (Value.int .u64))[j]? = some u → W.cell? ((⟨g, 0, none⟩ : Addr).add j) = some u from by
    intro W hb j u hj
    rw [List.getElem?_map] at hj
    obtain ⟨x, hx, rfl⟩ := Option.map_eq_some_iff.1 hj
    obtain ⟨h1, h2⟩ := List.getElem?_eq_some_iff.1 hx
    rw [← h2, add_at, Nat.zero_add]
    exact ((RR.out.below hb).word j h1).1)
  have HL := Aside0.mk (show (ws.map (Value.int .u64)).length = ws.length * 1 by rw [List.length_map]; omega)
  have H1 := Aside0.mk (show ∀ u ∈ ws.map (Value.int .u64), u.oneCell' = true from by intro u hu; obtain ⟨x, _, rfl⟩ := List.mem_map.1 hu; rfl)
  clear R0
  have B0 := Aside0.mk (below_alloc (below_alloc (below_alloc (below_alloc (Below.refl w.heap.size w) (.cells #[.slice (some ⟨g, 0, none⟩) ws.length c, .int .i64 (acc + 1), .bool f] 44 (0, 0))) (.cells #[.int .i64 2, .int .i64 i, .int .i64 p, .int .u64 iss, .int .u64 old, .int .u64 nn] 34 (0, 0))) (.cells #[.slice none 0 0, .int .i64 0, .bool false] 44 (0, 0))) (.cells #[] 29 (0, 0)))
  have hlen1 : 1 ≤ ws.length := by omega
  have OWN0 := World.ownsRow_made (base := w.heap.size + 1 + 1 + 1) (e := 29) (size := 1) (((w.alloc (.cells #[.slice (some ⟨g, 0, none⟩) ws.length c, .int .i64 (acc + 1), .bool f] 44 (0, 0))).alloc (.cells #[.int .i64 2, .int .i64 i, .int .i64 p, .int .u64 iss, .int .u64 old, .int .u64 nn] 34 (0, 0))).alloc (.cells #[.slice none 0 0, .int .i64 0, .bool false] 44 (0, 0))) #[] 0 (by simp) (Nat.zero_le _) rfl
  have hsz : (((w.alloc (.cells #[.slice (some ⟨g, 0, none⟩) ws.length c, .int .i64 (acc + 1), .bool f] 44 (0, 0))).alloc (.cells #[.int .i64 2, .int .i64 i, .int .i64 p, .int .u64 iss, .int .u64 old, .int .u64 nn] 34 (0, 0))).alloc (.cells #[.slice none 0 0, .int .i64 0, .bool false] 44 (0, 0))).heap.size = w.heap.size + 1 + 1 + 1 := by simp
  rw [hsz] at OWN0
  have OWN := Aside0.mk OWN0
  clear OWN0 hsz
  obtain ⟨cells, hcells⟩ : ∃ cells, cells = ws.map (Value.int .u64) := ⟨_, rfl⟩
  rw [← hcells] at HC HL H1
  have HE := Aside0.mk hcells
  clear hcells
  have HEQ := Aside0.mk he
  clear he
  go_enter Try.func24, Try.ntmps24
  go_wp2_with (at_builtin; go_must (refine wpList_append_own _ rfl _ _ 22 rfl (w.heap.size + 1 + 1 + 1) 29 i0 (.int .u64 0) 1 8 Try.underlying22 hi0 hz0 hz1 hz2 rfl (by decide) _ _ _ rfl OWN.out ⟨g, 0, none⟩ ws.length c cells rfl HL.out (fun j u hj => HC.out _ B0.out j u hj) H1.out (by unfold maxLen; omega) (by omega) (by simp) ?_; intro v' w3 hown hgrow hnil; obtain ⟨g3, c3, rfl, hg3, hr3, hb0, hb1, hb2, hbl⟩ := after_append w w3 g c ws acc f _ _ _ _ _ _ v' cells HE.out hlen1 hown hgrow; have R3 := Aside0.mk hr3; have X0 := Aside0.mk hb0; have X1 := Aside0.mk hb1; have X2 := Aside0.mk hb2; have B3 := Aside0.mk hbl; obtain ⟨c00, c01, c02, f00, f01, f02⟩ := cells3 hb0; obtain ⟨c10, c11, c12, c13, c14, c15⟩ := cells6 hb1; obtain ⟨c20, c21, c22, f20, f21, f22⟩ := cells3 hb2; obtain ⟨y1, y2⟩ := hr3.word i hi; have n0 : w.heap.size ≠ g3 := (by omega); have n1 : w.heap.size + 1 ≠ g3 := (by omega); have n2 : w.heap.size + 1 + 1 ≠ g3 := (by omega); have n0' : g3 ≠ w.heap.size := (by omega); have n1' : g3 ≠ w.heap.size + 1 := (by omega); have n2' : g3 ≠ w.heap.size + 1 + 1 := (by omega); clear hown hgrow hnil hr3 hb0 hb1 hb2 hbl OWN HC HL H1 B0; rw [HEQ.out] at y1))
  all_goals refine bodyPost_ret (v := .tuple #[.agg #[.slice (some ⟨g3, 0, none⟩) ws.length c3, .int .i64 (acc + 1), .bool f], .int .u64 (0), .bool (true)]) (by simp [results, Try.results24, go_sem, c20, c21, c22, f20, f21, f22, n0, n1, n2, n0', n1', n2']) rfl ⟨g3, c3, rfl, ?_, by omega, ?_⟩
  all_goals first
    | exact ((((R3.out.setw i hi (nn)).far n0' _).far n2' _).far n2' _).far n2' _
    | exact ((((B3.out.setCell (by simp; omega) _).setCell (by simp) _).setCell (by simp; omega) _).setCell (by simp; omega) _).setCell (by simp; omega) _
set_option maxHeartbeats 1000000 in
set_option maxRecDepth 100000 in
theorem in2n (w : World) (g c : Nat) (ws : List Int) (acc : Int) (f : Bool) (i : Nat) (p iss old nn : Int) (R0 : Row w g c ws) (h0 : 0 ≤ acc) (h1 : acc < 1000000) (hl : ws.length ≤ 1000) (hi : i < ws.length) (he : ¬ ws[i] = old) :
    Calls Try.prog 24 #[.agg #[.slice (some ⟨g, 0, none⟩) ws.length c, .int .i64 acc, .bool f], .agg #[.int .i64 2, .int .i64 i, .int .i64 p, .int .u64 iss, .int .u64 old, .int .u64 nn]] w fun e w' => ∃ g2 c2, e = .returned (.tuple #[.agg #[.slice (some ⟨g2, 0, none⟩) ws.length c2, .int .i64 (acc + 1), .bool f], .int .u64 (0), .bool (false)]) ∧ Row w' g2 c2 (ws) ∧ w.heap.size ≤ g2 ∧ Below w.heap.size w w' := by
  have hu44 := Try.underlying44
  have hu34 := Try.underlying34
  have q1 : IntKind.i64.wrap (acc + 1) = acc + 1 := by rw [IntKind.wrap_i64]; omega
  obtain ⟨i0, hi0, hz0, hz1, hz2⟩ := info_u64
  have mixed : Try.prog.follows Departure.mixedOrders = true := by kernel_rfl
  have RR := Aside0.mk R0
  have q2 : ¬ (i : Int) < 0 := by omega
  have q3 : ¬ (ws.length : Int) ≤ (i : Int) := by omega
  have q4 : (i : Int) < (ws.length : Int) := by omega
  have HC := Aside0.mk (show ∀ (W : World), Below w.heap.size w W → ∀ j u, (ws.map (Value.int .u64))[j]? = some u → W.cell? ((⟨g, 0, none⟩ : Addr).add j) = some u from by
    intro W hb j u hj
    rw [List.getElem?_map] at hj
    obtain ⟨x, hx, rfl⟩ := Option.map_eq_some_iff.1 hj
    obtain ⟨h1, h2⟩ := List.getElem?_eq_some_iff.1 hx
    rw [← h2, add_at, Nat.zero_add]
    exact ((RR.out.below hb).word j h1).1)
  have HL := Aside0.mk (show (ws.map (Value.int .u64)).length = ws.length * 1 by rw [List.length_map]; omega)
  have H1 := Aside0.mk (show ∀ u ∈ ws.map (Value.int .u64), u.oneCell' = true from by intro u hu; obtain ⟨x, _, rfl⟩ := List.mem_map.1 hu; rfl)
  clear R0
  have B0 := Aside0.mk (below_alloc (below_alloc (below_alloc (below_alloc (Below.refl w.heap.size w) (.cells #[.slice (some ⟨g, 0, none⟩) ws.length c, .int .i64 (acc + 1), .bool f] 44 (0, 0))) (.cells #[.int .i64 2, .int .i64 i, .int .i64 p, .int .u64 iss, .int .u64 old, .int .u64 nn] 34 (0, 0))) (.cells #[.slice none 0 0, .int .i64 0, .bool false] 44 (0, 0))) (.cells #[] 29 (0, 0)))
  have hlen1 : 1 ≤ ws.length := by omega
  have OWN0 := World.ownsRow_made (base := w.heap.size + 1 + 1 + 1) (e := 29) (size := 1) (((w.alloc (.cells #[.slice (some ⟨g, 0, none⟩) ws.length c, .int .i64 (acc + 1), .bool f] 44 (0, 0))).alloc (.cells #[.int .i64 2, .int .i64 i, .int .i64 p, .int .u64 iss, .int .u64 old, .int .u64 nn] 34 (0, 0))).alloc (.cells #[.slice none 0 0, .int .i64 0, .bool false] 44 (0, 0))) #[] 0 (by simp) (Nat.zero_le _) rfl
  have hsz : (((w.alloc (.cells #[.slice (some ⟨g, 0, none⟩) ws.length c, .int .i64 (acc + 1), .bool f] 44 (0, 0))).alloc (.cells #[.int .i64 2, .int .i64 i, .int .i64 p, .int .u64 iss, .int .u64 old, .int .u64 nn] 34 (0, 0))).alloc (.cells #[.slice none 0 0, .int .i64 0, .bool false] 44 (0, 0))).heap.size = w.heap.size + 1 + 1 + 1 := by simp
  rw [hsz] at OWN0
  have OWN := Aside0.mk OWN0
  clear OWN0 hsz
  obtain ⟨cells, hcells⟩ : ∃ cells, cells = ws.map (Value.int .u64) := ⟨_, rfl⟩
  rw [← hcells] at HC HL H1
  have HE := Aside0.mk hcells
  clear hcells
  go_enter Try.func24, Try.ntmps24
  go_wp2_with (at_builtin; go_must (refine wpList_append_own _ rfl _ _ 22 rfl (w.heap.size + 1 + 1 + 1) 29 i0 (.int .u64 0) 1 8 Try.underlying22 hi0 hz0 hz1 hz2 rfl (by decide) _ _ _ rfl OWN.out ⟨g, 0, none⟩ ws.length c cells rfl HL.out (fun j u hj => HC.out _ B0.out j u hj) H1.out (by unfold maxLen; omega) (by omega) (by simp) ?_; intro v' w3 hown hgrow hnil; obtain ⟨g3, c3, rfl, hg3, hr3, hb0, hb1, hb2, hbl⟩ := after_append w w3 g c ws acc f _ _ _ _ _ _ v' cells HE.out hlen1 hown hgrow; have R3 := Aside0.mk hr3; have X0 := Aside0.mk hb0; have X1 := Aside0.mk hb1; have X2 := Aside0.mk hb2; have B3 := Aside0.mk hbl; obtain ⟨c00, c01, c02, f00, f01, f02⟩ := cells3 hb0; obtain ⟨c10, c11, c12, c13, c14, c15⟩ := cells6 hb1; obtain ⟨c20, c21, c22, f20, f21, f22⟩ := cells3 hb2; obtain ⟨y1, y2⟩ := hr3.word i hi; have n0 : w.heap.size ≠ g3 := (by omega); have n1 : w.heap.size + 1 ≠ g3 := (by omega); have n2 : w.heap.size + 1 + 1 ≠ g3 := (by omega); have n0' : g3 ≠ w.heap.size := (by omega); have n1' : g3 ≠ w.heap.size + 1 := (by omega); have n2' : g3 ≠ w.heap.size + 1 + 1 := (by omega); clear hown hgrow hnil hr3 hb0 hb1 hb2 hbl OWN HC HL H1 B0))
  all_goals refine bodyPost_ret (v := .tuple #[.agg #[.slice (some ⟨g3, 0, none⟩) ws.length c3, .int .i64 (acc + 1), .bool f], .int .u64 (0), .bool (false)]) (by simp [results, Try.results24, go_sem, c20, c21, c22, f20, f21, f22, n0, n1, n2, n0', n1', n2']) rfl ⟨g3, c3, rfl, ?_, by omega, ?_⟩
  all_goals first
    | exact (((R3.out.far n0' _).far n2' _).far n2' _).far n2' _
    | exact ((((B3.out).setCell (by simp) _).setCell (by simp; omega) _).setCell (by simp; omega) _).setCell (by simp; omega) _
set_option maxHeartbeats 1000000 in
set_option maxRecDepth 100000 in
theorem in3 (w : World) (g c : Nat) (ws : List Int) (acc : Int) (f : Bool) (i : Nat) (p iss old nn : Int) (R0 : Row w g c ws) (h0 : 0 ≤ acc) (h1 : acc < 1000000) (hl : ws.length ≤ 1000) (hi : i < ws.length) :
    Calls Try.prog 24 #[.agg #[.slice (some ⟨g, 0, none⟩) ws.length c, .int .i64 acc, .bool f], .agg #[.int .i64 3, .int .i64 i, .int .i64 p, .int .u64 iss, .int .u64 old, .int .u64 nn]] w fun e w' => ∃ g2 c2, e = .returned (.tuple #[.agg #[.slice (some ⟨g2, 0, none⟩) ws.length c2, .int .i64 (acc + 1), .bool f], .int .u64 (ws[i]), .bool (false)]) ∧ Row w' g2 c2 (ws.set i (Go.bits .or .u64 ws[i] nn)) ∧ w.heap.size ≤ g2 ∧ Below w.heap.size w w' := by
  have hu44 := Try.underlying44
  have hu34 := Try.underlying34
  have q1 : IntKind.i64.wrap (acc + 1) = acc + 1 := by rw [IntKind.wrap_i64]; omega
  obtain ⟨i0, hi0, hz0, hz1, hz2⟩ := info_u64
  have mixed : Try.prog.follows Departure.mixedOrders = true := by kernel_rfl
  have RR := Aside0.mk R0
  have q2 : ¬ (i : Int) < 0 := by omega
  have q3 : ¬ (ws.length : Int) ≤ (i : Int) := by omega
  have q4 : (i : Int) < (ws.length : Int) := by omega
  have HC := Aside0.mk (show ∀ (W : World), Below w.heap.size w W → ∀ j u, (ws.map (Value.int .u64))[j]? = some u → W.cell? ((⟨g, 0, none⟩ : Addr).add j) = some u from by
    intro W hb j u hj
    rw [List.getElem?_map] at hj
    obtain ⟨x, hx, rfl⟩ := Option.map_eq_some_iff.1 hj
    obtain ⟨h1, h2⟩ := List.getElem?_eq_some_iff.1 hx
    rw [← h2, add_at, Nat.zero_add]
    exact ((RR.out.below hb).word j h1).1)
  have HL := Aside0.mk (show (ws.map (Value.int .u64)).length = ws.length * 1 by rw [List.length_map]; omega)
  have H1 := Aside0.mk (show ∀ u ∈ ws.map (Value.int .u64), u.oneCell' = true from by intro u hu; obtain ⟨x, _, rfl⟩ := List.mem_map.1 hu; rfl)
  clear R0
  have B0 := Aside0.mk (below_alloc (below_alloc (below_alloc (below_alloc (Below.refl w.heap.size w) (.cells #[.slice (some ⟨g, 0, none⟩) ws.length c, .int .i64 (acc + 1), .bool f] 44 (0, 0))) (.cells #[.int .i64 3, .int .i64 i, .int .i64 p, .int .u64 iss, .int .u64 old, .int .u64 nn] 34 (0, 0))) (.cells #[.slice none 0 0, .int .i64 0, .bool false] 44 (0, 0))) (.cells #[] 29 (0, 0)))
  have hlen1 : 1 ≤ ws.length := by omega
  have OWN0 := World.ownsRow_made (base := w.heap.size + 1 + 1 + 1) (e := 29) (size := 1) (((w.alloc (.cells #[.slice (some ⟨g, 0, none⟩) ws.length c, .int .i64 (acc + 1), .bool f] 44 (0, 0))).alloc (.cells #[.int .i64 3, .int .i64 i, .int .i64 p, .int .u64 iss, .int .u64 old, .int .u64 nn] 34 (0, 0))).alloc (.cells #[.slice none 0 0, .int .i64 0, .bool false] 44 (0, 0))) #[] 0 (by simp) (Nat.zero_le _) rfl
  have hsz : (((w.alloc (.cells #[.slice (some ⟨g, 0, none⟩) ws.length c, .int .i64 (acc + 1), .bool f] 44 (0, 0))).alloc (.cells #[.int .i64 3, .int .i64 i, .int .i64 p, .int .u64 iss, .int .u64 old, .int .u64 nn] 34 (0, 0))).alloc (.cells #[.slice none 0 0, .int .i64 0, .bool false] 44 (0, 0))).heap.size = w.heap.size + 1 + 1 + 1 := by simp
  rw [hsz] at OWN0
  have OWN := Aside0.mk OWN0
  clear OWN0 hsz
  obtain ⟨cells, hcells⟩ : ∃ cells, cells = ws.map (Value.int .u64) := ⟨_, rfl⟩
  rw [← hcells] at HC HL H1
  have HE := Aside0.mk hcells
  clear hcells
  go_enter Try.func24, Try.ntmps24
  go_wp2_with (at_builtin; go_must (refine wpList_append_own _ rfl _ _ 22 rfl (w.heap.size + 1 + 1 + 1) 29 i0 (.int .u64 0) 1 8 Try.underlying22 hi0 hz0 hz1 hz2 rfl (by decide) _ _ _ rfl OWN.out ⟨g, 0, none⟩ ws.length c cells rfl HL.out (fun j u hj => HC.out _ B0.out j u hj) H1.out (by unfold maxLen; omega) (by omega) (by simp) ?_; intro v' w3 hown hgrow hnil; obtain ⟨g3, c3, rfl, hg3, hr3, hb0, hb1, hb2, hbl⟩ := after_append w w3 g c ws acc f _ _ _ _ _ _ v' cells HE.out hlen1 hown hgrow; have R3 := Aside0.mk hr3; have X0 := Aside0.mk hb0; have X1 := Aside0.mk hb1; have X2 := Aside0.mk hb2; have B3 := Aside0.mk hbl; obtain ⟨c00, c01, c02, f00, f01, f02⟩ := cells3 hb0; obtain ⟨c10, c11, c12, c13, c14, c15⟩ := cells6 hb1; obtain ⟨c20, c21, c22, f20, f21, f22⟩ := cells3 hb2; obtain ⟨y1, y2⟩ := hr3.word i hi; have n0 : w.heap.size ≠ g3 := (by omega); have n1 : w.heap.size + 1 ≠ g3 := (by omega); have n2 : w.heap.size + 1 + 1 ≠ g3 := (by omega); have n0' : g3 ≠ w.heap.size := (by omega); have n1' : g3 ≠ w.heap.size + 1 := (by omega); have n2' : g3 ≠ w.heap.size + 1 + 1 := (by omega); clear hown hgrow hnil hr3 hb0 hb1 hb2 hbl OWN HC HL H1 B0))
  all_goals refine bodyPost_ret (v := .tuple #[.agg #[.slice (some ⟨g3, 0, none⟩) ws.length c3, .int .i64 (acc + 1), .bool f], .int .u64 (ws[i]), .bool (false)]) (by simp [results, Try.results24, go_sem, c20, c21, c22, f20, f21, f22, n0, n1, n2, n0', n1', n2']) rfl ⟨g3, c3, rfl, ?_, by omega, ?_⟩
  all_goals first
    | exact ((((R3.out.setw i hi (Go.bits .or .u64 ws[i] nn)).far n0' _).far n2' _).far n2' _).far n2' _
    | exact ((((B3.out.setCell (by simp; omega) _).setCell (by simp) _).setCell (by simp; omega) _).setCell (by simp; omega) _).setCell (by simp; omega) _
set_option maxHeartbeats 1000000 in
set_option maxRecDepth 100000 in
theorem in4 (w : World) (g c : Nat) (ws : List Int) (acc : Int) (f : Bool) (i : Nat) (p iss old nn : Int) (R0 : Row w g c ws) (h0 : 0 ≤ acc) (h1 : acc < 1000000) (hl : ws.length ≤ 1000) (hi : i < ws.length) :
    Calls Try.prog 24 #[.agg #[.slice (some ⟨g, 0, none⟩) ws.length c, .int .i64 acc, .bool f], .agg #[.int .i64 4, .int .i64 i, .int .i64 p, .int .u64 iss, .int .u64 old, .int .u64 nn]] w fun e w' => ∃ g2 c2, e = .returned (.tuple #[.agg #[.slice (some ⟨g2, 0, none⟩) ws.length c2, .int .i64 (acc + 1), .bool f], .int .u64 (ws[i]), .bool (false)]) ∧ Row w' g2 c2 (ws.set i (IntKind.u64.wrap (ws[i] + nn))) ∧ w.heap.size ≤ g2 ∧ Below w.heap.size w w' := by
  have hu44 := Try.underlying44
  have hu34 := Try.underlying34
  have q1 : IntKind.i64.wrap (acc + 1) = acc + 1 := by rw [IntKind.wrap_i64]; omega
  obtain ⟨i0, hi0, hz0, hz1, hz2⟩ := info_u64
  have mixed : Try.prog.follows Departure.mixedOrders = true := by kernel_rfl
  have RR := Aside0.mk R0
  have q2 : ¬ (i : Int) < 0 := by omega
  have q3 : ¬ (ws.length : Int) ≤ (i : Int) := by omega
  have q4 : (i : Int) < (ws.length : Int) := by omega
  have HC := Aside0.mk (show ∀ (W : World), Below w.heap.size w W → ∀ j u, (ws.map (Value.int .u64))[j]? = some u → W.cell? ((⟨g, 0, none⟩ : Addr).add j) = some u from by
    intro W hb j u hj
    rw [List.getElem?_map] at hj
    obtain ⟨x, hx, rfl⟩ := Option.map_eq_some_iff.1 hj
    obtain ⟨h1, h2⟩ := List.getElem?_eq_some_iff.1 hx
    rw [← h2, add_at, Nat.zero_add]
    exact ((RR.out.below hb).word j h1).1)
  have HL := Aside0.mk (show (ws.map (Value.int .u64)).length = ws.length * 1 by rw [List.length_map]; omega)
  have H1 := Aside0.mk (show ∀ u ∈ ws.map (Value.int .u64), u.oneCell' = true from by intro u hu; obtain ⟨x, _, rfl⟩ := List.mem_map.1 hu; rfl)
  clear R0
  have B0 := Aside0.mk (below_alloc (below_alloc (below_alloc (below_alloc (Below.refl w.heap.size w) (.cells #[.slice (some ⟨g, 0, none⟩) ws.length c, .int .i64 (acc + 1), .bool f] 44 (0, 0))) (.cells #[.int .i64 4, .int .i64 i, .int .i64 p, .int .u64 iss, .int .u64 old, .int .u64 nn] 34 (0, 0))) (.cells #[.slice none 0 0, .int .i64 0, .bool false] 44 (0, 0))) (.cells #[] 29 (0, 0)))
  have hlen1 : 1 ≤ ws.length := by omega
  have OWN0 := World.ownsRow_made (base := w.heap.size + 1 + 1 + 1) (e := 29) (size := 1) (((w.alloc (.cells #[.slice (some ⟨g, 0, none⟩) ws.length c, .int .i64 (acc + 1), .bool f] 44 (0, 0))).alloc (.cells #[.int .i64 4, .int .i64 i, .int .i64 p, .int .u64 iss, .int .u64 old, .int .u64 nn] 34 (0, 0))).alloc (.cells #[.slice none 0 0, .int .i64 0, .bool false] 44 (0, 0))) #[] 0 (by simp) (Nat.zero_le _) rfl
  have hsz : (((w.alloc (.cells #[.slice (some ⟨g, 0, none⟩) ws.length c, .int .i64 (acc + 1), .bool f] 44 (0, 0))).alloc (.cells #[.int .i64 4, .int .i64 i, .int .i64 p, .int .u64 iss, .int .u64 old, .int .u64 nn] 34 (0, 0))).alloc (.cells #[.slice none 0 0, .int .i64 0, .bool false] 44 (0, 0))).heap.size = w.heap.size + 1 + 1 + 1 := by simp
  rw [hsz] at OWN0
  have OWN := Aside0.mk OWN0
  clear OWN0 hsz
  obtain ⟨cells, hcells⟩ : ∃ cells, cells = ws.map (Value.int .u64) := ⟨_, rfl⟩
  rw [← hcells] at HC HL H1
  have HE := Aside0.mk hcells
  clear hcells
  go_enter Try.func24, Try.ntmps24
  go_wp2_with (at_builtin; go_must (refine wpList_append_own _ rfl _ _ 22 rfl (w.heap.size + 1 + 1 + 1) 29 i0 (.int .u64 0) 1 8 Try.underlying22 hi0 hz0 hz1 hz2 rfl (by decide) _ _ _ rfl OWN.out ⟨g, 0, none⟩ ws.length c cells rfl HL.out (fun j u hj => HC.out _ B0.out j u hj) H1.out (by unfold maxLen; omega) (by omega) (by simp) ?_; intro v' w3 hown hgrow hnil; obtain ⟨g3, c3, rfl, hg3, hr3, hb0, hb1, hb2, hbl⟩ := after_append w w3 g c ws acc f _ _ _ _ _ _ v' cells HE.out hlen1 hown hgrow; have R3 := Aside0.mk hr3; have X0 := Aside0.mk hb0; have X1 := Aside0.mk hb1; have X2 := Aside0.mk hb2; have B3 := Aside0.mk hbl; obtain ⟨c00, c01, c02, f00, f01, f02⟩ := cells3 hb0; obtain ⟨c10, c11, c12, c13, c14, c15⟩ := cells6 hb1; obtain ⟨c20, c21, c22, f20, f21, f22⟩ := cells3 hb2; obtain ⟨y1, y2⟩ := hr3.word i hi; have n0 : w.heap.size ≠ g3 := (by omega); have n1 : w.heap.size + 1 ≠ g3 := (by omega); have n2 : w.heap.size + 1 + 1 ≠ g3 := (by omega); have n0' : g3 ≠ w.heap.size := (by omega); have n1' : g3 ≠ w.heap.size + 1 := (by omega); have n2' : g3 ≠ w.heap.size + 1 + 1 := (by omega); clear hown hgrow hnil hr3 hb0 hb1 hb2 hbl OWN HC HL H1 B0))
  all_goals refine bodyPost_ret (v := .tuple #[.agg #[.slice (some ⟨g3, 0, none⟩) ws.length c3, .int .i64 (acc + 1), .bool f], .int .u64 (ws[i]), .bool (false)]) (by simp [results, Try.results24, go_sem, c20, c21, c22, f20, f21, f22, n0, n1, n2, n0', n1', n2']) rfl ⟨g3, c3, rfl, ?_, by omega, ?_⟩
  all_goals first
    | exact ((((R3.out.setw i hi (IntKind.u64.wrap (ws[i] + nn))).far n0' _).far n2' _).far n2' _).far n2' _
    | exact ((((B3.out.setCell (by simp; omega) _).setCell (by simp) _).setCell (by simp; omega) _).setCell (by simp; omega) _).setCell (by simp; omega) _
set_option maxHeartbeats 1000000 in
set_option maxRecDepth 100000 in
theorem inxan (w : World) (g c : Nat) (ws : List Int) (acc : Int) (f : Bool) (k : Int) (i : Nat) (p iss old nn : Int) (R0 : Row w g c ws) (h0 : 0 ≤ acc) (h1 : acc < 1000000) (hl : ws.length ≤ 1000) (hi : i < ws.length) (kn : k < 0) (j : Nat) (hj : j < ws.length) (hp : p = j) (he : ¬ ws[i] = old) :
    Calls Try.prog 24 #[.agg #[.slice (some ⟨g, 0, none⟩) ws.length c, .int .i64 acc, .bool f], .agg #[.int .i64 k, .int .i64 i, .int .i64 p, .int .u64 iss, .int .u64 old, .int .u64 nn]] w fun e w' => ∃ g2 c2, e = .returned (.tuple #[.agg #[.slice (some ⟨g2, 0, none⟩) ws.length c2, .int .i64 (acc + 1), .bool f], .int .u64 (0), .bool (false)]) ∧ Row w' g2 c2 (ws) ∧ w.heap.size ≤ g2 ∧ Below w.heap.size w w' := by
  have hu44 := Try.underlying44
  have hu34 := Try.underlying34
  have q1 : IntKind.i64.wrap (acc + 1) = acc + 1 := by rw [IntKind.wrap_i64]; omega
  obtain ⟨i0, hi0, hz0, hz1, hz2⟩ := info_u64
  have mixed : Try.prog.follows Departure.mixedOrders = true := by kernel_rfl
  have RR := Aside0.mk R0
  have q2 : ¬ (i : Int) < 0 := by omega
  have q3 : ¬ (ws.length : Int) ≤ (i : Int) := by omega
  have q4 : (i : Int) < (ws.length : Int) := by omega
  have HC := Aside0.mk (show ∀ (W : World), Below w.heap.size w W → ∀ j u, (ws.map (Value.int .u64))[j]? = some u → W.cell? ((⟨g, 0, none⟩ : Addr).add j) = some u from by
    intro W hb j u hj
    rw [List.getElem?_map] at hj
    obtain ⟨x, hx, rfl⟩ := Option.map_eq_some_iff.1 hj
    obtain ⟨h1, h2⟩ := List.getElem?_eq_some_iff.1 hx
    rw [← h2, add_at, Nat.zero_add]
    exact ((RR.out.below hb).word j h1).1)
  have HL := Aside0.mk (show (ws.map (Value.int .u64)).length = ws.length * 1 by rw [List.length_map]; omega)
  have H1 := Aside0.mk (show ∀ u ∈ ws.map (Value.int .u64), u.oneCell' = true from by intro u hu; obtain ⟨x, _, rfl⟩ := List.mem_map.1 hu; rfl)
  clear R0
  have B0 := Aside0.mk (below_alloc (below_alloc (below_alloc (below_alloc (Below.refl w.heap.size w) (.cells #[.slice (some ⟨g, 0, none⟩) ws.length c, .int .i64 (acc + 1), .bool f] 44 (0, 0))) (.cells #[.int .i64 k, .int .i64 i, .int .i64 p, .int .u64 iss, .int .u64 old, .int .u64 nn] 34 (0, 0))) (.cells #[.slice none 0 0, .int .i64 0, .bool false] 44 (0, 0))) (.cells #[] 29 (0, 0)))
  have hlen1 : 1 ≤ ws.length := by omega
  have OWN0 := World.ownsRow_made (base := w.heap.size + 1 + 1 + 1) (e := 29) (size := 1) (((w.alloc (.cells #[.slice (some ⟨g, 0, none⟩) ws.length c, .int .i64 (acc + 1), .bool f] 44 (0, 0))).alloc (.cells #[.int .i64 k, .int .i64 i, .int .i64 p, .int .u64 iss, .int .u64 old, .int .u64 nn] 34 (0, 0))).alloc (.cells #[.slice none 0 0, .int .i64 0, .bool false] 44 (0, 0))) #[] 0 (by simp) (Nat.zero_le _) rfl
  have hsz : (((w.alloc (.cells #[.slice (some ⟨g, 0, none⟩) ws.length c, .int .i64 (acc + 1), .bool f] 44 (0, 0))).alloc (.cells #[.int .i64 k, .int .i64 i, .int .i64 p, .int .u64 iss, .int .u64 old, .int .u64 nn] 34 (0, 0))).alloc (.cells #[.slice none 0 0, .int .i64 0, .bool false] 44 (0, 0))).heap.size = w.heap.size + 1 + 1 + 1 := by simp
  rw [hsz] at OWN0
  have OWN := Aside0.mk OWN0
  clear OWN0 hsz
  obtain ⟨cells, hcells⟩ : ∃ cells, cells = ws.map (Value.int .u64) := ⟨_, rfl⟩
  rw [← hcells] at HC HL H1
  have HE := Aside0.mk hcells
  clear hcells
  subst hp
  have k0 : ¬ k = 0 := by omega
  have k1 : ¬ k = 1 := by omega
  have k2 : ¬ k = 2 := by omega
  have k3 : ¬ k = 3 := by omega
  have k4 : ¬ k = 4 := by omega
  have p2 : ¬ (j : Int) < 0 := by omega
  have p3 : ¬ (ws.length : Int) ≤ (j : Int) := by omega
  have p4 : (j : Int) < (ws.length : Int) := by omega
  have p5 : (0 : Int) ≤ (j : Int) := by omega
  have de : decide (ws[i] = old) = false := decide_eq_false he
  go_enter Try.func24, Try.ntmps24
  go_wp2_with (at_builtin; go_must (refine wpList_append_own _ rfl _ _ 22 rfl (w.heap.size + 1 + 1 + 1) 29 i0 (.int .u64 0) 1 8 Try.underlying22 hi0 hz0 hz1 hz2 rfl (by decide) _ _ _ rfl OWN.out ⟨g, 0, none⟩ ws.length c cells rfl HL.out (fun j u hj => HC.out _ B0.out j u hj) H1.out (by unfold maxLen; omega) (by omega) (by simp) ?_; intro v' w3 hown hgrow hnil; obtain ⟨g3, c3, rfl, hg3, hr3, hb0, hb1, hb2, hbl⟩ := after_append w w3 g c ws acc f _ _ _ _ _ _ v' cells HE.out hlen1 hown hgrow; have R3 := Aside0.mk hr3; have X0 := Aside0.mk hb0; have X1 := Aside0.mk hb1; have X2 := Aside0.mk hb2; have B3 := Aside0.mk hbl; obtain ⟨c00, c01, c02, f00, f01, f02⟩ := cells3 hb0; obtain ⟨c10, c11, c12, c13, c14, c15⟩ := cells6 hb1; obtain ⟨c20, c21, c22, f20, f21, f22⟩ := cells3 hb2; obtain ⟨y1, y2⟩ := hr3.word i hi; have n0 : w.heap.size ≠ g3 := (by omega); have n1 : w.heap.size + 1 ≠ g3 := (by omega); have n2 : w.heap.size + 1 + 1 ≠ g3 := (by omega); have n0' : g3 ≠ w.heap.size := (by omega); have n1' : g3 ≠ w.heap.size + 1 := (by omega); have n2' : g3 ≠ w.heap.size + 1 + 1 := (by omega); clear hown hgrow hnil hr3 hb0 hb1 hb2 hbl OWN HC HL H1 B0; obtain ⟨z1, z2⟩ := R3.out.word j hj; skip))
  go_quiet (fail)
  go_wp2
  all_goals refine bodyPost_ret (v := .tuple #[.agg #[.slice (some ⟨g3, 0, none⟩) ws.length c3, .int .i64 (acc + 1), .bool f], .int .u64 (0), .bool (false)]) (by simp [results, Try.results24, go_sem, c20, c21, c22, f20, f21, f22, n0, n1, n2, n0', n1', n2']) rfl ⟨g3, c3, rfl, ?_, by omega, ?_⟩
  all_goals first
    | exact ((((R3.out.move (w' := w3.drewN _) rfl).far n0' _).far n2' _).far n2' _).far n2' _
    | exact (((((pw_below_drewN B3.out _)).setCell (by simp) _).setCell (by simp; omega) _).setCell (by simp; omega) _).setCell (by simp; omega) _
set_option maxHeartbeats 1000000 in
set_option maxRecDepth 100000 in
theorem inxap (w : World) (g c : Nat) (ws : List Int) (acc : Int) (f : Bool) (k : Int) (i : Nat) (p iss old nn : Int) (R0 : Row w g c ws) (h0 : 0 ≤ acc) (h1 : acc < 1000000) (hl : ws.length ≤ 1000) (hi : i < ws.length) (kn : k < 0) (j : Nat) (hj : j < ws.length) (hp : p = j) (he : ws[i] = old) (he2 : ¬ ws[j] = iss) :
    Calls Try.prog 24 #[.agg #[.slice (some ⟨g, 0, none⟩) ws.length c, .int .i64 acc, .bool f], .agg #[.int .i64 k, .int .i64 i, .int .i64 p, .int .u64 iss, .int .u64 old, .int .u64 nn]] w fun e w' => ∃ g2 c2, e = .returned (.tuple #[.agg #[.slice (some ⟨g2, 0, none⟩) ws.length c2, .int .i64 (acc + 1), .bool f], .int .u64 (0), .bool (false)]) ∧ Row w' g2 c2 (ws) ∧ w.heap.size ≤ g2 ∧ Below w.heap.size w w' := by
  have hu44 := Try.underlying44
  have hu34 := Try.underlying34
  have q1 : IntKind.i64.wrap (acc + 1) = acc + 1 := by rw [IntKind.wrap_i64]; omega
  obtain ⟨i0, hi0, hz0, hz1, hz2⟩ := info_u64
  have mixed : Try.prog.follows Departure.mixedOrders = true := by kernel_rfl
  have RR := Aside0.mk R0
  have q2 : ¬ (i : Int) < 0 := by omega
  have q3 : ¬ (ws.length : Int) ≤ (i : Int) := by omega
  have q4 : (i : Int) < (ws.length : Int) := by omega
  have HC := Aside0.mk (show ∀ (W : World), Below w.heap.size w W → ∀ j u, (ws.map (Value.int .u64))[j]? = some u → W.cell? ((⟨g, 0, none⟩ : Addr).add j) = some u from by
    intro W hb j u hj
    rw [List.getElem?_map] at hj
    obtain ⟨x, hx, rfl⟩ := Option.map_eq_some_iff.1 hj
    obtain ⟨h1, h2⟩ := List.getElem?_eq_some_iff.1 hx
    rw [← h2, add_at, Nat.zero_add]
    exact ((RR.out.below hb).word j h1).1)
  have HL := Aside0.mk (show (ws.map (Value.int .u64)).length = ws.length * 1 by rw [List.length_map]; omega)
  have H1 := Aside0.mk (show ∀ u ∈ ws.map (Value.int .u64), u.oneCell' = true from by intro u hu; obtain ⟨x, _, rfl⟩ := List.mem_map.1 hu; rfl)
  clear R0
  have B0 := Aside0.mk (below_alloc (below_alloc (below_alloc (below_alloc (Below.refl w.heap.size w) (.cells #[.slice (some ⟨g, 0, none⟩) ws.length c, .int .i64 (acc + 1), .bool f] 44 (0, 0))) (.cells #[.int .i64 k, .int .i64 i, .int .i64 p, .int .u64 iss, .int .u64 old, .int .u64 nn] 34 (0, 0))) (.cells #[.slice none 0 0, .int .i64 0, .bool false] 44 (0, 0))) (.cells #[] 29 (0, 0)))
  have hlen1 : 1 ≤ ws.length := by omega
  have OWN0 := World.ownsRow_made (base := w.heap.size + 1 + 1 + 1) (e := 29) (size := 1) (((w.alloc (.cells #[.slice (some ⟨g, 0, none⟩) ws.length c, .int .i64 (acc + 1), .bool f] 44 (0, 0))).alloc (.cells #[.int .i64 k, .int .i64 i, .int .i64 p, .int .u64 iss, .int .u64 old, .int .u64 nn] 34 (0, 0))).alloc (.cells #[.slice none 0 0, .int .i64 0, .bool false] 44 (0, 0))) #[] 0 (by simp) (Nat.zero_le _) rfl
  have hsz : (((w.alloc (.cells #[.slice (some ⟨g, 0, none⟩) ws.length c, .int .i64 (acc + 1), .bool f] 44 (0, 0))).alloc (.cells #[.int .i64 k, .int .i64 i, .int .i64 p, .int .u64 iss, .int .u64 old, .int .u64 nn] 34 (0, 0))).alloc (.cells #[.slice none 0 0, .int .i64 0, .bool false] 44 (0, 0))).heap.size = w.heap.size + 1 + 1 + 1 := by simp
  rw [hsz] at OWN0
  have OWN := Aside0.mk OWN0
  clear OWN0 hsz
  obtain ⟨cells, hcells⟩ : ∃ cells, cells = ws.map (Value.int .u64) := ⟨_, rfl⟩
  rw [← hcells] at HC HL H1
  have HE := Aside0.mk hcells
  clear hcells
  subst hp
  have k0 : ¬ k = 0 := by omega
  have k1 : ¬ k = 1 := by omega
  have k2 : ¬ k = 2 := by omega
  have k3 : ¬ k = 3 := by omega
  have k4 : ¬ k = 4 := by omega
  have p2 : ¬ (j : Int) < 0 := by omega
  have p3 : ¬ (ws.length : Int) ≤ (j : Int) := by omega
  have p4 : (j : Int) < (ws.length : Int) := by omega
  have p5 : (0 : Int) ≤ (j : Int) := by omega
  have HEQ := Aside0.mk he
  clear he
  have de2 : decide (ws[j] = iss) = false := decide_eq_false he2
  go_enter Try.func24, Try.ntmps24
  go_wp2_with (at_builtin; go_must (refine wpList_append_own _ rfl _ _ 22 rfl (w.heap.size + 1 + 1 + 1) 29 i0 (.int .u64 0) 1 8 Try.underlying22 hi0 hz0 hz1 hz2 rfl (by decide) _ _ _ rfl OWN.out ⟨g, 0, none⟩ ws.length c cells rfl HL.out (fun j u hj => HC.out _ B0.out j u hj) H1.out (by unfold maxLen; omega) (by omega) (by simp) ?_; intro v' w3 hown hgrow hnil; obtain ⟨g3, c3, rfl, hg3, hr3, hb0, hb1, hb2, hbl⟩ := after_append w w3 g c ws acc f _ _ _ _ _ _ v' cells HE.out hlen1 hown hgrow; have R3 := Aside0.mk hr3; have X0 := Aside0.mk hb0; have X1 := Aside0.mk hb1; have X2 := Aside0.mk hb2; have B3 := Aside0.mk hbl; obtain ⟨c00, c01, c02, f00, f01, f02⟩ := cells3 hb0; obtain ⟨c10, c11, c12, c13, c14, c15⟩ := cells6 hb1; obtain ⟨c20, c21, c22, f20, f21, f22⟩ := cells3 hb2; obtain ⟨y1, y2⟩ := hr3.word i hi; have n0 : w.heap.size ≠ g3 := (by omega); have n1 : w.heap.size + 1 ≠ g3 := (by omega); have n2 : w.heap.size + 1 + 1 ≠ g3 := (by omega); have n0' : g3 ≠ w.heap.size := (by omega); have n1' : g3 ≠ w.heap.size + 1 := (by omega); have n2' : g3 ≠ w.heap.size + 1 + 1 := (by omega); clear hown hgrow hnil hr3 hb0 hb1 hb2 hbl OWN HC HL H1 B0; rw [HEQ.out] at y1; obtain ⟨z1, z2⟩ := R3.out.word j hj; skip))
  go_quiet (fail)
  go_wp2
  all_goals refine bodyPost_ret (v := .tuple #[.agg #[.slice (some ⟨g3, 0, none⟩) ws.length c3, .int .i64 (acc + 1), .bool f], .int .u64 (0), .bool (false)]) (by simp [results, Try.results24, go_sem, c20, c21, c22, f20, f21, f22, he2, n0, n1, n2, n0', n1', n2']) rfl ⟨g3, c3, rfl, ?_, by omega, ?_⟩
  all_goals first
    | exact ((((R3.out.move (w' := w3.drewN _) rfl).far n0' _).far n2' _).far n2' _).far n2' _
    | exact (((((pw_below_drewN B3.out _)).setCell (by simp) _).setCell (by simp; omega) _).setCell (by simp; omega) _).setCell (by simp; omega) _
set_option maxHeartbeats 1000000 in
set_option maxRecDepth 100000 in
theorem inxay (w : World) (g c : Nat) (ws : List Int) (acc : Int) (f : Bool) (k : Int) (i : Nat) (p iss old nn : Int) (R0 : Row w g c ws) (h0 : 0 ≤ acc) (h1 : acc < 1000000) (hl : ws.length ≤ 1000) (hi : i < ws.length) (kn : k < 0) (j : Nat) (hj : j < ws.length) (hp : p = j) (he : ws[i] = old) (he2 : ws[j] = iss) :
    Calls Try.prog 24 #[.agg #[.slice (some ⟨g, 0, none⟩) ws.length c, .int .i64 acc, .bool f], .agg #[.int .i64 k, .int .i64 i, .int .i64 p, .int .u64 iss, .int .u64 old, .int .u64 nn]] w fun e w' => ∃ g2 c2, e = .returned (.tuple #[.agg #[.slice (some ⟨g2, 0, none⟩) ws.length c2, .int .i64 (acc + 1), .bool f], .int .u64 (0), .bool (true)]) ∧ Row w' g2 c2 (ws.set i nn) ∧ w.heap.size ≤ g2 ∧ Below w.heap.size w w' := by
  have hu44 := Try.underlying44
  have hu34 := Try.underlying34
  have q1 : IntKind.i64.wrap (acc + 1) = acc + 1 := by rw [IntKind.wrap_i64]; omega
  obtain ⟨i0, hi0, hz0, hz1, hz2⟩ := info_u64
  have mixed : Try.prog.follows Departure.mixedOrders = true := by kernel_rfl
  have RR := Aside0.mk R0
  have q2 : ¬ (i : Int) < 0 := by omega
  have q3 : ¬ (ws.length : Int) ≤ (i : Int) := by omega
  have q4 : (i : Int) < (ws.length : Int) := by omega
  have HC := Aside0.mk (show ∀ (W : World), Below w.heap.size w W → ∀ j u, (ws.map (Value.int .u64))[j]? = some u → W.cell? ((⟨g, 0, none⟩ : Addr).add j) = some u from by
    intro W hb j u hj
    rw [List.getElem?_map] at hj
    obtain ⟨x, hx, rfl⟩ := Option.map_eq_some_iff.1 hj
    obtain ⟨h1, h2⟩ := List.getElem?_eq_some_iff.1 hx
    rw [← h2, add_at, Nat.zero_add]
    exact ((RR.out.below hb).word j h1).1)
  have HL := Aside0.mk (show (ws.map (Value.int .u64)).length = ws.length * 1 by rw [List.length_map]; omega)
  have H1 := Aside0.mk (show ∀ u ∈ ws.map (Value.int .u64), u.oneCell' = true from by intro u hu; obtain ⟨x, _, rfl⟩ := List.mem_map.1 hu; rfl)
  clear R0
  have B0 := Aside0.mk (below_alloc (below_alloc (below_alloc (below_alloc (Below.refl w.heap.size w) (.cells #[.slice (some ⟨g, 0, none⟩) ws.length c, .int .i64 (acc + 1), .bool f] 44 (0, 0))) (.cells #[.int .i64 k, .int .i64 i, .int .i64 p, .int .u64 iss, .int .u64 old, .int .u64 nn] 34 (0, 0))) (.cells #[.slice none 0 0, .int .i64 0, .bool false] 44 (0, 0))) (.cells #[] 29 (0, 0)))
  have hlen1 : 1 ≤ ws.length := by omega
  have OWN0 := World.ownsRow_made (base := w.heap.size + 1 + 1 + 1) (e := 29) (size := 1) (((w.alloc (.cells #[.slice (some ⟨g, 0, none⟩) ws.length c, .int .i64 (acc + 1), .bool f] 44 (0, 0))).alloc (.cells #[.int .i64 k, .int .i64 i, .int .i64 p, .int .u64 iss, .int .u64 old, .int .u64 nn] 34 (0, 0))).alloc (.cells #[.slice none 0 0, .int .i64 0, .bool false] 44 (0, 0))) #[] 0 (by simp) (Nat.zero_le _) rfl
  have hsz : (((w.alloc (.cells #[.slice (some ⟨g, 0, none⟩) ws.length c, .int .i64 (acc + 1), .bool f] 44 (0, 0))).alloc (.cells #[.int .i64 k, .int .i64 i, .int .i64 p, .int .u64 iss, .int .u64 old, .int .u64 nn] 34 (0, 0))).alloc (.cells #[.slice none 0 0, .int .i64 0, .bool false] 44 (0, 0))).heap.size = w.heap.size + 1 + 1 + 1 := by simp
  rw [hsz] at OWN0
  have OWN := Aside0.mk OWN0
  clear OWN0 hsz
  obtain ⟨cells, hcells⟩ : ∃ cells, cells = ws.map (Value.int .u64) := ⟨_, rfl⟩
  rw [← hcells] at HC HL H1
  have HE := Aside0.mk hcells
  clear hcells
  subst hp
  have k0 : ¬ k = 0 := by omega
  have k1 : ¬ k = 1 := by omega
  have k2 : ¬ k = 2 := by omega
  have k3 : ¬ k = 3 := by omega
  have k4 : ¬ k = 4 := by omega
  have p2 : ¬ (j : Int) < 0 := by omega
  have p3 : ¬ (ws.length : Int) ≤ (j : Int) := by omega
  have p4 : (j : Int) < (ws.length : Int) := by omega
  have p5 : (0 : Int) ≤ (j : Int) := by omega
  have HEQ := Aside0.mk he
  have HEQ2 := Aside0.mk he2
  clear he he2
  go_enter Try.func24, Try.ntmps24
  go_wp2_with (at_builtin; go_must (refine wpList_append_own _ rfl _ _ 22 rfl (w.heap.size + 1 + 1 + 1) 29 i0 (.int .u64 0) 1 8 Try.underlying22 hi0 hz0 hz1 hz2 rfl (by decide) _ _ _ rfl OWN.out ⟨g, 0, none⟩ ws.length c cells rfl HL.out (fun j u hj => HC.out _ B0.out j u hj) H1.out (by unfold maxLen; omega) (by omega) (by simp) ?_; intro v' w3 hown hgrow hnil; obtain ⟨g3, c3, rfl, hg3, hr3, hb0, hb1, hb2, hbl⟩ := after_append w w3 g c ws acc f _ _ _ _ _ _ v' cells HE.out hlen1 hown hgrow; have R3 := Aside0.mk hr3; have X0 := Aside0.mk hb0; have X1 := Aside0.mk hb1; have X2 := Aside0.mk hb2; have B3 := Aside0.mk hbl; obtain ⟨c00, c01, c02, f00, f01, f02⟩ := cells3 hb0; obtain ⟨c10, c11, c12, c13, c14, c15⟩ := cells6 hb1; obtain ⟨c20, c21, c22, f20, f21, f22⟩ := cells3 hb2; obtain ⟨y1, y2⟩ := hr3.word i hi; have n0 : w.heap.size ≠ g3 := (by omega); have n1 : w.heap.size + 1 ≠ g3 := (by omega); have n2 : w.heap.size + 1 + 1 ≠ g3 := (by omega); have n0' : g3 ≠ w.heap.size := (by omega); have n1' : g3 ≠ w.heap.size + 1 := (by omega); have n2' : g3 ≠ w.heap.size + 1 + 1 := (by omega); clear hown hgrow hnil hr3 hb0 hb1 hb2 hbl OWN HC HL H1 B0; rw [HEQ.out] at y1; obtain ⟨z1, z2⟩ := R3.out.word j hj; rw [HEQ2.out] at z1))
  go_quiet (fail)
  go_wp2
  all_goals refine bodyPost_ret (v := .tuple #[.agg #[.slice (some ⟨g3, 0, none⟩) ws.length c3, .int .i64 (acc + 1), .bool f], .int .u64 (0), .bool (true)]) (by simp [results, Try.results24, go_sem, c20, c21, c22, f20, f21, f22, n0, n1, n2, n0', n1', n2']) rfl ⟨g3, c3, rfl, ?_, by omega, ?_⟩
  all_goals first
    | exact (((((R3.out.move (w' := w3.drewN _) rfl).setw i hi nn).far n0' _).far n2' _).far n2' _).far n2' _
    | exact (((((pw_below_drewN B3.out _).setCell (by simp; omega) _).setCell (by simp) _).setCell (by simp; omega) _).setCell (by simp; omega) _).setCell (by simp; omega) _
set_option maxHeartbeats 1000000 in
set_option maxRecDepth 100000 in
theorem inxbn (w : World) (g c : Nat) (ws : List Int) (acc : Int) (f : Bool) (k : Int) (i : Nat) (p iss old nn : Int) (R0 : Row w g c ws) (h0 : 0 ≤ acc) (h1 : acc < 1000000) (hl : ws.length ≤ 1000) (hi : i < ws.length) (kn : 4 < k) (j : Nat) (hj : j < ws.length) (hp : p = j) (he : ¬ ws[i] = old) :
    Calls Try.prog 24 #[.agg #[.slice (some ⟨g, 0, none⟩) ws.length c, .int .i64 acc, .bool f], .agg #[.int .i64 k, .int .i64 i, .int .i64 p, .int .u64 iss, .int .u64 old, .int .u64 nn]] w fun e w' => ∃ g2 c2, e = .returned (.tuple #[.agg #[.slice (some ⟨g2, 0, none⟩) ws.length c2, .int .i64 (acc + 1), .bool f], .int .u64 (0), .bool (false)]) ∧ Row w' g2 c2 (ws) ∧ w.heap.size ≤ g2 ∧ Below w.heap.size w w' := by
  have hu44 := Try.underlying44
  have hu34 := Try.underlying34
  have q1 : IntKind.i64.wrap (acc + 1) = acc + 1 := by rw [IntKind.wrap_i64]; omega
  obtain ⟨i0, hi0, hz0, hz1, hz2⟩ := info_u64
  have mixed : Try.prog.follows Departure.mixedOrders = true := by kernel_rfl
  have RR := Aside0.mk R0
  have q2 : ¬ (i : Int) < 0 := by omega
  have q3 : ¬ (ws.length : Int) ≤ (i : Int) := by omega
  have q4 : (i : Int) < (ws.length : Int) := by omega
  have HC := Aside0.mk (show ∀ (W : World), Below w.heap.size w W → ∀ j u, (ws.map (Value.int .u64))[j]? = some u → W.cell? ((⟨g, 0, none⟩ : Addr).add j) = some u from by
    intro W hb j u hj
    rw [List.getElem?_map] at hj
    obtain ⟨x, hx, rfl⟩ := Option.map_eq_some_iff.1 hj
    obtain ⟨h1, h2⟩ := List.getElem?_eq_some_iff.1 hx
    rw [← h2, add_at, Nat.zero_add]
    exact ((RR.out.below hb).word j h1).1)
  have HL := Aside0.mk (show (ws.map (Value.int .u64)).length = ws.length * 1 by rw [List.length_map]; omega)
  have H1 := Aside0.mk (show ∀ u ∈ ws.map (Value.int .u64), u.oneCell' = true from by intro u hu; obtain ⟨x, _, rfl⟩ := List.mem_map.1 hu; rfl)
  clear R0
  have B0 := Aside0.mk (below_alloc (below_alloc (below_alloc (below_alloc (Below.refl w.heap.size w) (.cells #[.slice (some ⟨g, 0, none⟩) ws.length c, .int .i64 (acc + 1), .bool f] 44 (0, 0))) (.cells #[.int .i64 k, .int .i64 i, .int .i64 p, .int .u64 iss, .int .u64 old, .int .u64 nn] 34 (0, 0))) (.cells #[.slice none 0 0, .int .i64 0, .bool false] 44 (0, 0))) (.cells #[] 29 (0, 0)))
  have hlen1 : 1 ≤ ws.length := by omega
  have OWN0 := World.ownsRow_made (base := w.heap.size + 1 + 1 + 1) (e := 29) (size := 1) (((w.alloc (.cells #[.slice (some ⟨g, 0, none⟩) ws.length c, .int .i64 (acc + 1), .bool f] 44 (0, 0))).alloc (.cells #[.int .i64 k, .int .i64 i, .int .i64 p, .int .u64 iss, .int .u64 old, .int .u64 nn] 34 (0, 0))).alloc (.cells #[.slice none 0 0, .int .i64 0, .bool false] 44 (0, 0))) #[] 0 (by simp) (Nat.zero_le _) rfl
  have hsz : (((w.alloc (.cells #[.slice (some ⟨g, 0, none⟩) ws.length c, .int .i64 (acc + 1), .bool f] 44 (0, 0))).alloc (.cells #[.int .i64 k, .int .i64 i, .int .i64 p, .int .u64 iss, .int .u64 old, .int .u64 nn] 34 (0, 0))).alloc (.cells #[.slice none 0 0, .int .i64 0, .bool false] 44 (0, 0))).heap.size = w.heap.size + 1 + 1 + 1 := by simp
  rw [hsz] at OWN0
  have OWN := Aside0.mk OWN0
  clear OWN0 hsz
  obtain ⟨cells, hcells⟩ : ∃ cells, cells = ws.map (Value.int .u64) := ⟨_, rfl⟩
  rw [← hcells] at HC HL H1
  have HE := Aside0.mk hcells
  clear hcells
  have kn0 : ¬ k < 0 := by omega
  subst hp
  have k0 : ¬ k = 0 := by omega
  have k1 : ¬ k = 1 := by omega
  have k2 : ¬ k = 2 := by omega
  have k3 : ¬ k = 3 := by omega
  have k4 : ¬ k = 4 := by omega
  have p2 : ¬ (j : Int) < 0 := by omega
  have p3 : ¬ (ws.length : Int) ≤ (j : Int) := by omega
  have p4 : (j : Int) < (ws.length : Int) := by omega
  have p5 : (0 : Int) ≤ (j : Int) := by omega
  have de : decide (ws[i] = old) = false := decide_eq_false he
  go_enter Try.func24, Try.ntmps24
  go_wp2_with (at_builtin; go_must (refine wpList_append_own _ rfl _ _ 22 rfl (w.heap.size + 1 + 1 + 1) 29 i0 (.int .u64 0) 1 8 Try.underlying22 hi0 hz0 hz1 hz2 rfl (by decide) _ _ _ rfl OWN.out ⟨g, 0, none⟩ ws.length c cells rfl HL.out (fun j u hj => HC.out _ B0.out j u hj) H1.out (by unfold maxLen; omega) (by omega) (by simp) ?_; intro v' w3 hown hgrow hnil; obtain ⟨g3, c3, rfl, hg3, hr3, hb0, hb1, hb2, hbl⟩ := after_append w w3 g c ws acc f _ _ _ _ _ _ v' cells HE.out hlen1 hown hgrow; have R3 := Aside0.mk hr3; have X0 := Aside0.mk hb0; have X1 := Aside0.mk hb1; have X2 := Aside0.mk hb2; have B3 := Aside0.mk hbl; obtain ⟨c00, c01, c02, f00, f01, f02⟩ := cells3 hb0; obtain ⟨c10, c11, c12, c13, c14, c15⟩ := cells6 hb1; obtain ⟨c20, c21, c22, f20, f21, f22⟩ := cells3 hb2; obtain ⟨y1, y2⟩ := hr3.word i hi; have n0 : w.heap.size ≠ g3 := (by omega); have n1 : w.heap.size + 1 ≠ g3 := (by omega); have n2 : w.heap.size + 1 + 1 ≠ g3 := (by omega); have n0' : g3 ≠ w.heap.size := (by omega); have n1' : g3 ≠ w.heap.size + 1 := (by omega); have n2' : g3 ≠ w.heap.size + 1 + 1 := (by omega); clear hown hgrow hnil hr3 hb0 hb1 hb2 hbl OWN HC HL H1 B0; obtain ⟨z1, z2⟩ := R3.out.word j hj; skip))
  go_quiet (fail)
  go_wp2
  all_goals refine bodyPost_ret (v := .tuple #[.agg #[.slice (some ⟨g3, 0, none⟩) ws.length c3, .int .i64 (acc + 1), .bool f], .int .u64 (0), .bool (false)]) (by simp [results, Try.results24, go_sem, c20, c21, c22, f20, f21, f22, n0, n1, n2, n0', n1', n2']) rfl ⟨g3, c3, rfl, ?_, by omega, ?_⟩
  all_goals first
    | exact ((((R3.out.move (w' := w3.drewN _) rfl).far n0' _).far n2' _).far n2' _).far n2' _
    | exact (((((pw_below_drewN B3.out _)).setCell (by simp) _).setCell (by simp; omega) _).setCell (by simp; omega) _).setCell (by simp; omega) _
set_option maxHeartbeats 1000000 in
set_option maxRecDepth 100000 in
theorem inxbp (w : World) (g c : Nat) (ws : List Int) (acc : Int) (f : Bool) (k : Int) (i : Nat) (p iss old nn : Int) (R0 : Row w g c ws) (h0 : 0 ≤ acc) (h1 : acc < 1000000) (hl : ws.length ≤ 1000) (hi : i < ws.length) (kn : 4 < k) (j : Nat) (hj : j < ws.length) (hp : p = j) (he : ws[i] = old) (he2 : ¬ ws[j] = iss) :
    Calls Try.prog 24 #[.agg #[.slice (some ⟨g, 0, none⟩) ws.length c, .int .i64 acc, .bool f], .agg #[.int .i64 k, .int .i64 i, .int .i64 p, .int .u64 iss, .int .u64 old, .int .u64 nn]] w fun e w' => ∃ g2 c2, e = .returned (.tuple #[.agg #[.slice (some ⟨g2, 0, none⟩) ws.length c2, .int .i64 (acc + 1), .bool f], .int .u64 (0), .bool (false)]) ∧ Row w' g2 c2 (ws) ∧ w.heap.size ≤ g2 ∧ Below w.heap.size w w' := by
  have hu44 := Try.underlying44
  have hu34 := Try.underlying34
  have q1 : IntKind.i64.wrap (acc + 1) = acc + 1 := by rw [IntKind.wrap_i64]; omega
  obtain ⟨i0, hi0, hz0, hz1, hz2⟩ := info_u64
  have mixed : Try.prog.follows Departure.mixedOrders = true := by kernel_rfl
  have RR := Aside0.mk R0
  have q2 : ¬ (i : Int) < 0 := by omega
  have q3 : ¬ (ws.length : Int) ≤ (i : Int) := by omega
  have q4 : (i : Int) < (ws.length : Int) := by omega
  have HC := Aside0.mk (show ∀ (W : World), Below w.heap.size w W → ∀ j u, (ws.map (Value.int .u64))[j]? = some u → W.cell? ((⟨g, 0, none⟩ : Addr).add j) = some u from by
    intro W hb j u hj
    rw [List.getElem?_map] at hj
    obtain ⟨x, hx, rfl⟩ := Option.map_eq_some_iff.1 hj
    obtain ⟨h1, h2⟩ := List.getElem?_eq_some_iff.1 hx
    rw [← h2, add_at, Nat.zero_add]
    exact ((RR.out.below hb).word j h1).1)
  have HL := Aside0.mk (show (ws.map (Value.int .u64)).length = ws.length * 1 by rw [List.length_map]; omega)
  have H1 := Aside0.mk (show ∀ u ∈ ws.map (Value.int .u64), u.oneCell' = true from by intro u hu; obtain ⟨x, _, rfl⟩ := List.mem_map.1 hu; rfl)
  clear R0
  have B0 := Aside0.mk (below_alloc (below_alloc (below_alloc (below_alloc (Below.refl w.heap.size w) (.cells #[.slice (some ⟨g, 0, none⟩) ws.length c, .int .i64 (acc + 1), .bool f] 44 (0, 0))) (.cells #[.int .i64 k, .int .i64 i, .int .i64 p, .int .u64 iss, .int .u64 old, .int .u64 nn] 34 (0, 0))) (.cells #[.slice none 0 0, .int .i64 0, .bool false] 44 (0, 0))) (.cells #[] 29 (0, 0)))
  have hlen1 : 1 ≤ ws.length := by omega
  have OWN0 := World.ownsRow_made (base := w.heap.size + 1 + 1 + 1) (e := 29) (size := 1) (((w.alloc (.cells #[.slice (some ⟨g, 0, none⟩) ws.length c, .int .i64 (acc + 1), .bool f] 44 (0, 0))).alloc (.cells #[.int .i64 k, .int .i64 i, .int .i64 p, .int .u64 iss, .int .u64 old, .int .u64 nn] 34 (0, 0))).alloc (.cells #[.slice none 0 0, .int .i64 0, .bool false] 44 (0, 0))) #[] 0 (by simp) (Nat.zero_le _) rfl
  have hsz : (((w.alloc (.cells #[.slice (some ⟨g, 0, none⟩) ws.length c, .int .i64 (acc + 1), .bool f] 44 (0, 0))).alloc (.cells #[.int .i64 k, .int .i64 i, .int .i64 p, .int .u64 iss, .int .u64 old, .int .u64 nn] 34 (0, 0))).alloc (.cells #[.slice none 0 0, .int .i64 0, .bool false] 44 (0, 0))).heap.size = w.heap.size + 1 + 1 + 1 := by simp
  rw [hsz] at OWN0
  have OWN := Aside0.mk OWN0
  clear OWN0 hsz
  obtain ⟨cells, hcells⟩ : ∃ cells, cells = ws.map (Value.int .u64) := ⟨_, rfl⟩
  rw [← hcells] at HC HL H1
  have HE := Aside0.mk hcells
  clear hcells
  have kn0 : ¬ k < 0 := by omega
  subst hp
  have k0 : ¬ k = 0 := by omega
  have k1 : ¬ k = 1 := by omega
  have k2 : ¬ k = 2 := by omega
  have k3 : ¬ k = 3 := by omega
  have k4 : ¬ k = 4 := by omega
  have p2 : ¬ (j : Int) < 0 := by omega
  have p3 : ¬ (ws.length : Int) ≤ (j : Int) := by omega
  have p4 : (j : Int) < (ws.length : Int) := by omega
  have p5 : (0 : Int) ≤ (j : Int) := by omega
  have HEQ := Aside0.mk he
  clear he
  have de2 : decide (ws[j] = iss) = false := decide_eq_false he2
  go_enter Try.func24, Try.ntmps24
  go_wp2_with (at_builtin; go_must (refine wpList_append_own _ rfl _ _ 22 rfl (w.heap.size + 1 + 1 + 1) 29 i0 (.int .u64 0) 1 8 Try.underlying22 hi0 hz0 hz1 hz2 rfl (by decide) _ _ _ rfl OWN.out ⟨g, 0, none⟩ ws.length c cells rfl HL.out (fun j u hj => HC.out _ B0.out j u hj) H1.out (by unfold maxLen; omega) (by omega) (by simp) ?_; intro v' w3 hown hgrow hnil; obtain ⟨g3, c3, rfl, hg3, hr3, hb0, hb1, hb2, hbl⟩ := after_append w w3 g c ws acc f _ _ _ _ _ _ v' cells HE.out hlen1 hown hgrow; have R3 := Aside0.mk hr3; have X0 := Aside0.mk hb0; have X1 := Aside0.mk hb1; have X2 := Aside0.mk hb2; have B3 := Aside0.mk hbl; obtain ⟨c00, c01, c02, f00, f01, f02⟩ := cells3 hb0; obtain ⟨c10, c11, c12, c13, c14, c15⟩ := cells6 hb1; obtain ⟨c20, c21, c22, f20, f21, f22⟩ := cells3 hb2; obtain ⟨y1, y2⟩ := hr3.word i hi; have n0 : w.heap.size ≠ g3 := (by omega); have n1 : w.heap.size + 1 ≠ g3 := (by omega); have n2 : w.heap.size + 1 + 1 ≠ g3 := (by omega); have n0' : g3 ≠ w.heap.size := (by omega); have n1' : g3 ≠ w.heap.size + 1 := (by omega); have n2' : g3 ≠ w.heap.size + 1 + 1 := (by omega); clear hown hgrow hnil hr3 hb0 hb1 hb2 hbl OWN HC HL H1 B0; rw [HEQ.out] at y1; obtain ⟨z1, z2⟩ := R3.out.word j hj; skip))
  go_quiet (fail)
  go_wp2
  all_goals refine bodyPost_ret (v := .tuple #[.agg #[.slice (some ⟨g3, 0, none⟩) ws.length c3, .int .i64 (acc + 1), .bool f], .int .u64 (0), .bool (false)]) (by simp [results, Try.results24, go_sem, c20, c21, c22, f20, f21, f22, he2, n0, n1, n2, n0', n1', n2']) rfl ⟨g3, c3, rfl, ?_, by omega, ?_⟩
  all_goals first
    | exact ((((R3.out.move (w' := w3.drewN _) rfl).far n0' _).far n2' _).far n2' _).far n2' _
    | exact (((((pw_below_drewN B3.out _)).setCell (by simp) _).setCell (by simp; omega) _).setCell (by simp; omega) _).setCell (by simp; omega) _
set_option maxHeartbeats 1000000 in
set_option maxRecDepth 100000 in
theorem inxby (w : World) (g c : Nat) (ws : List Int) (acc : Int) (f : Bool) (k : Int) (i : Nat) (p iss old nn : Int) (R0 : Row w g c ws) (h0 : 0 ≤ acc) (h1 : acc < 1000000) (hl : ws.length ≤ 1000) (hi : i < ws.length) (kn : 4 < k) (j : Nat) (hj : j < ws.length) (hp : p = j) (he : ws[i] = old) (he2 : ws[j] = iss) :
    Calls Try.prog 24 #[.agg #[.slice (some ⟨g, 0, none⟩) ws.length c, .int .i64 acc, .bool f], .agg #[.int .i64 k, .int .i64 i, .int .i64 p, .int .u64 iss, .int .u64 old, .int .u64 nn]] w fun e w' => ∃ g2 c2, e = .returned (.tuple #[.agg #[.slice (some ⟨g2, 0, none⟩) ws.length c2, .int .i64 (acc + 1), .bool f], .int .u64 (0), .bool (true)]) ∧ Row w' g2 c2 (ws.set i nn) ∧ w.heap.size ≤ g2 ∧ Below w.heap.size w w' := by
  have hu44 := Try.underlying44
  have hu34 := Try.underlying34
  have q1 : IntKind.i64.wrap (acc + 1) = acc + 1 := by rw [IntKind.wrap_i64]; omega
  obtain ⟨i0, hi0, hz0, hz1, hz2⟩ := info_u64
  have mixed : Try.prog.follows Departure.mixedOrders = true := by kernel_rfl
  have RR := Aside0.mk R0
  have q2 : ¬ (i : Int) < 0 := by omega
  have q3 : ¬ (ws.length : Int) ≤ (i : Int) := by omega
  have q4 : (i : Int) < (ws.length : Int) := by omega
  have HC := Aside0.mk (show ∀ (W : World), Below w.heap.size w W → ∀ j u, (ws.map (Value.int .u64))[j]? = some u → W.cell? ((⟨g, 0, none⟩ : Addr).add j) = some u from by
    intro W hb j u hj
    rw [List.getElem?_map] at hj
    obtain ⟨x, hx, rfl⟩ := Option.map_eq_some_iff.1 hj
    obtain ⟨h1, h2⟩ := List.getElem?_eq_some_iff.1 hx
    rw [← h2, add_at, Nat.zero_add]
    exact ((RR.out.below hb).word j h1).1)
  have HL := Aside0.mk (show (ws.map (Value.int .u64)).length = ws.length * 1 by rw [List.length_map]; omega)
  have H1 := Aside0.mk (show ∀ u ∈ ws.map (Value.int .u64), u.oneCell' = true from by intro u hu; obtain ⟨x, _, rfl⟩ := List.mem_map.1 hu; rfl)
  clear R0
  have B0 := Aside0.mk (below_alloc (below_alloc (below_alloc (below_alloc (Below.refl w.heap.size w) (.cells #[.slice (some ⟨g, 0, none⟩) ws.length c, .int .i64 (acc + 1), .bool f] 44 (0, 0))) (.cells #[.int .i64 k, .int .i64 i, .int .i64 p, .int .u64 iss, .int .u64 old, .int .u64 nn] 34 (0, 0))) (.cells #[.slice none 0 0, .int .i64 0, .bool false] 44 (0, 0))) (.cells #[] 29 (0, 0)))
  have hlen1 : 1 ≤ ws.length := by omega
  have OWN0 := World.ownsRow_made (base := w.heap.size + 1 + 1 + 1) (e := 29) (size := 1) (((w.alloc (.cells #[.slice (some ⟨g, 0, none⟩) ws.length c, .int .i64 (acc + 1), .bool f] 44 (0, 0))).alloc (.cells #[.int .i64 k, .int .i64 i, .int .i64 p, .int .u64 iss, .int .u64 old, .int .u64 nn] 34 (0, 0))).alloc (.cells #[.slice none 0 0, .int .i64 0, .bool false] 44 (0, 0))) #[] 0 (by simp) (Nat.zero_le _) rfl
  have hsz : (((w.alloc (.cells #[.slice (some ⟨g, 0, none⟩) ws.length c, .int .i64 (acc + 1), .bool f] 44 (0, 0))).alloc (.cells #[.int .i64 k, .int .i64 i, .int .i64 p, .int .u64 iss, .int .u64 old, .int .u64 nn] 34 (0, 0))).alloc (.cells #[.slice none 0 0, .int .i64 0, .bool false] 44 (0, 0))).heap.size = w.heap.size + 1 + 1 + 1 := by simp
  rw [hsz] at OWN0
  have OWN := Aside0.mk OWN0
  clear OWN0 hsz
  obtain ⟨cells, hcells⟩ : ∃ cells, cells = ws.map (Value.int .u64) := ⟨_, rfl⟩
  rw [← hcells] at HC HL H1
  have HE := Aside0.mk hcells
  clear hcells
  have kn0 : ¬ k < 0 := by omega
  subst hp
  have k0 : ¬ k = 0 := by omega
  have k1 : ¬ k = 1 := by omega
  have k2 : ¬ k = 2 := by omega
  have k3 : ¬ k = 3 := by omega
  have k4 : ¬ k = 4 := by omega
  have p2 : ¬ (j : Int) < 0 := by omega
  have p3 : ¬ (ws.length : Int) ≤ (j : Int) := by omega
  have p4 : (j : Int) < (ws.length : Int) := by omega
  have p5 : (0 : Int) ≤ (j : Int) := by omega
  have HEQ := Aside0.mk he
  have HEQ2 := Aside0.mk he2
  clear he he2
  go_enter Try.func24, Try.ntmps24
  go_wp2_with (at_builtin; go_must (refine wpList_append_own _ rfl _ _ 22 rfl (w.heap.size + 1 + 1 + 1) 29 i0 (.int .u64 0) 1 8 Try.underlying22 hi0 hz0 hz1 hz2 rfl (by decide) _ _ _ rfl OWN.out ⟨g, 0, none⟩ ws.length c cells rfl HL.out (fun j u hj => HC.out _ B0.out j u hj) H1.out (by unfold maxLen; omega) (by omega) (by simp) ?_; intro v' w3 hown hgrow hnil; obtain ⟨g3, c3, rfl, hg3, hr3, hb0, hb1, hb2, hbl⟩ := after_append w w3 g c ws acc f _ _ _ _ _ _ v' cells HE.out hlen1 hown hgrow; have R3 := Aside0.mk hr3; have X0 := Aside0.mk hb0; have X1 := Aside0.mk hb1; have X2 := Aside0.mk hb2; have B3 := Aside0.mk hbl; obtain ⟨c00, c01, c02, f00, f01, f02⟩ := cells3 hb0; obtain ⟨c10, c11, c12, c13, c14, c15⟩ := cells6 hb1; obtain ⟨c20, c21, c22, f20, f21, f22⟩ := cells3 hb2; obtain ⟨y1, y2⟩ := hr3.word i hi; have n0 : w.heap.size ≠ g3 := (by omega); have n1 : w.heap.size + 1 ≠ g3 := (by omega); have n2 : w.heap.size + 1 + 1 ≠ g3 := (by omega); have n0' : g3 ≠ w.heap.size := (by omega); have n1' : g3 ≠ w.heap.size + 1 := (by omega); have n2' : g3 ≠ w.heap.size + 1 + 1 := (by omega); clear hown hgrow hnil hr3 hb0 hb1 hb2 hbl OWN HC HL H1 B0; rw [HEQ.out] at y1; obtain ⟨z1, z2⟩ := R3.out.word j hj; rw [HEQ2.out] at z1))
  go_quiet (fail)
  go_wp2
  all_goals refine bodyPost_ret (v := .tuple #[.agg #[.slice (some ⟨g3, 0, none⟩) ws.length c3, .int .i64 (acc + 1), .bool f], .int .u64 (0), .bool (true)]) (by simp [results, Try.results24, go_sem, c20, c21, c22, f20, f21, f22, n0, n1, n2, n0', n1', n2']) rfl ⟨g3, c3, rfl, ?_, by omega, ?_⟩
  all_goals first
    | exact (((((R3.out.move (w' := w3.drewN _) rfl).setw i hi nn).far n0' _).far n2' _).far n2' _).far n2' _
    | exact (((((pw_below_drewN B3.out _).setCell (by simp; omega) _).setCell (by simp) _).setCell (by simp; omega) _).setCell (by simp; omega) _).setCell (by simp; omega) _
theorem ref_calls (w : World) (g c : Nat) (ws : List Int) (acc : Int) (f : Bool) (k a p iss old nn : Int) (R0 : Row w g c ws) (h0 : 0 ≤ acc) (h1 : acc < 1000000) (hl : ws.length ≤ 1000) :
    Calls Try.prog 24 #[.agg #[.slice (some ⟨g, 0, none⟩) ws.length c, .int .i64 acc, .bool f], .agg #[.int .i64 k, .int .i64 a, .int .i64 p, .int .u64 iss, .int .u64 old, .int .u64 nn]] w fun e w' => ∃ g2 c2, e = .returned (.tuple #[.agg #[.slice (some ⟨g2, 0, none⟩) ws.length c2, .int .i64 (acc + 1), .bool (f || !doI ws k a p)], .int .u64 (doV ws k a), .bool (doB ws k a p iss old)]) ∧ Row w' g2 c2 (doW ws k a p iss old nn) ∧ (g2 = g ∨ w.heap.size ≤ g2) ∧ Below w.heap.size w w' := by
  cases hI : doI ws k a p with
  | false =>
    obtain ⟨x1, x2, x3⟩ := do_no (iss := iss) (old := old) (n := nn) hI
    rw [x1, x2, x3, Bool.not_false, Bool.or_true]
    cases ha : inb ws a with
    | false =>
      have hao := of_decide_eq_false ha
      refine (ref_out w _ ws.length c acc f k a p iss old nn h0 h1 (by omega)).mono ?_
      rintro e w' ⟨rfl, hb⟩
      exact ⟨g, c, rfl, R0.below hb, .inl rfl, hb⟩
    | true =>
      have hai := of_decide_eq_true ha
      have hk : k < 0 ∨ 4 < k := by
        unfold doI at hI
        rw [ha] at hI
        by_cases k0 : k = 0
        · rw [if_pos k0] at hI; cases hI
        by_cases k1 : k = 1
        · rw [if_neg k0, if_pos k1] at hI; cases hI
        by_cases k2 : k = 2
        · rw [if_neg k0, if_neg k1, if_pos k2] at hI; cases hI
        by_cases k3 : k = 3
        · rw [if_neg k0, if_neg k1, if_neg k2, if_pos k3] at hI; cases hI
        by_cases k4 : k = 4
        · rw [if_neg k0, if_neg k1, if_neg k2, if_neg k3, if_pos k4] at hI; cases hI
        omega
      have hp : inb ws p = false := by
        unfold doI at hI
        rw [if_neg (by omega), if_neg (by omega), if_neg (by omega), if_neg (by omega), if_neg (by omega)] at hI
        unfold in2 at hI
        rw [ha, Bool.and_true] at hI
        exact hI
      have hpo := of_decide_eq_false hp
      refine (ref_out2 w _ ws.length c acc f k a p iss old nn h0 h1 (by omega) (by omega) hk (by omega)).mono ?_
      rintro e w' ⟨rfl, hb⟩
      exact ⟨g, c, rfl, R0.below hb, .inl rfl, hb⟩
  | true =>
    rw [Bool.not_true, Bool.or_false]
    have fin : ∀ {e : Ending} {w' : World} {W : List Int} {v : Int} {ok : Bool}, (∃ g2 c2, e = .returned (.tuple #[.agg #[.slice (some ⟨g2, 0, none⟩) ws.length c2, .int .i64 (acc + 1), .bool f], .int .u64 v, .bool ok]) ∧ Row w' g2 c2 W ∧ w.heap.size ≤ g2 ∧ Below w.heap.size w w') → doV ws k a = v → doB ws k a p iss old = ok → doW ws k a p iss old nn = W →
        ∃ g2 c2, e = .returned (.tuple #[.agg #[.slice (some ⟨g2, 0, none⟩) ws.length c2, .int .i64 (acc + 1), .bool f], .int .u64 (doV ws k a), .bool (doB ws k a p iss old)]) ∧ Row w' g2 c2 (doW ws k a p iss old nn) ∧ (g2 = g ∨ w.heap.size ≤ g2) ∧ Below w.heap.size w w' := by
      rintro e w' W v ok ⟨g2, c2, he, hr, hg, hb⟩ rfl rfl rfl
      exact ⟨g2, c2, he, hr, .inr hg, hb⟩
    by_cases hk : k < 0 ∨ 4 < k
    · have k0 : ¬ k = 0 := by omega
      have k1 : ¬ k = 1 := by omega
      have k2 : ¬ k = 2 := by omega
      have k3 : ¬ k = 3 := by omega
      have k4 : ¬ k = 4 := by omega
      have h2 : in2 ws p a = true := by
        unfold doI at hI
        rwa [if_neg k0, if_neg k1, if_neg k2, if_neg k3, if_neg k4] at hI
      have h3 := h2
      unfold in2 at h3
      rw [Bool.and_eq_true] at h3
      obtain ⟨j, rfl, hj⟩ := inb_yes h3.1
      obtain ⟨i, rfl, hi⟩ := inb_yes h3.2
      have eV : doV ws k i = 0 := by unfold doV; simp only [if_neg k0, if_neg k1, if_neg k2, if_neg k3, if_neg k4]
      have eB : doB ws k i j iss old = dcssB ws j iss i old := by unfold doB; simp only [if_neg k0, if_neg k1, if_neg k2, if_neg k3, if_neg k4]
      have eW : doW ws k i j iss old nn = dcssed ws j iss i old nn := by unfold doW; simp only [if_neg k0, if_neg k1, if_neg k2, if_neg k3, if_neg k4]
      by_cases he : ws[i] = old
      · by_cases he2 : ws[j] = iss
        · have eB2 : dcssB ws j iss i old = true := by unfold dcssB; rw [h2, word_yes hi, word_yes hj, he, he2]; simp
          have eW2 : dcssed ws j iss i old nn = ws.set i nn := by unfold dcssed; rw [eB2, if_pos rfl, Int.toNat_natCast]
          rcases hk with kn | kn
          · exact (inxay w g c ws acc f k i j iss old nn R0 h0 h1 hl hi kn j hj rfl he he2).mono (fun e w' h => fin h eV (eB.trans eB2) (eW.trans eW2))
          · exact (inxby w g c ws acc f k i j iss old nn R0 h0 h1 hl hi kn j hj rfl he he2).mono (fun e w' h => fin h eV (eB.trans eB2) (eW.trans eW2))
        · have eB2 : dcssB ws j iss i old = false := by unfold dcssB; rw [h2, word_yes hi, word_yes hj, he]; simp [he2]
          have eW2 : dcssed ws j iss i old nn = ws := dcssed_no nn eB2
          rcases hk with kn | kn
          · exact (inxap w g c ws acc f k i j iss old nn R0 h0 h1 hl hi kn j hj rfl he he2).mono (fun e w' h => fin h eV (eB.trans eB2) (eW.trans eW2))
          · exact (inxbp w g c ws acc f k i j iss old nn R0 h0 h1 hl hi kn j hj rfl he he2).mono (fun e w' h => fin h eV (eB.trans eB2) (eW.trans eW2))
      · have eB2 : dcssB ws j iss i old = false := by unfold dcssB; rw [h2, word_yes hi, word_yes hj]; simp [he]
        have eW2 : dcssed ws j iss i old nn = ws := dcssed_no nn eB2
        rcases hk with kn | kn
        · exact (inxan w g c ws acc f k i j iss old nn R0 h0 h1 hl hi kn j hj rfl he).mono (fun e w' h => fin h eV (eB.trans eB2) (eW.trans eW2))
        · exact (inxbn w g c ws acc f k i j iss old nn R0 h0 h1 hl hi kn j hj rfl he).mono (fun e w' h => fin h eV (eB.trans eB2) (eW.trans eW2))
    · have hin : inb ws a = true := by
        unfold doI at hI
        by_cases k0 : k = 0
        · rwa [if_pos k0] at hI
        by_cases k1 : k = 1
        · rwa [if_neg k0, if_pos k1] at hI
        by_cases k2 : k = 2
        · rwa [if_neg k0, if_neg k1, if_pos k2] at hI
        by_cases k3 : k = 3
        · rwa [if_neg k0, if_neg k1, if_neg k2, if_pos k3] at hI
        · have k4 : k = 4 := by omega
          rwa [if_neg k0, if_neg k1, if_neg k2, if_neg k3, if_pos k4] at hI
      obtain ⟨i, rfl, hi⟩ := inb_yes hin
      have ht := turned_yes hi
      have hwd := word_yes hi
      have hkk : k = 0 ∨ k = 1 ∨ k = 2 ∨ k = 3 ∨ k = 4 := by omega
      rcases hkk with rfl | rfl | rfl | rfl | rfl
      · exact (in0 w g c ws acc f i p iss old nn R0 h0 h1 hl hi).mono (fun e w' h => fin h (by simp [doV, hwd]) (by simp [doB]) (by simp [doW, turned_id]))
      · exact (in1 w g c ws acc f i p iss old nn R0 h0 h1 hl hi).mono (fun e w' h => fin h (by simp [doV]) (by simp [doB]) (by simp [doW, ht]))
      · by_cases he : ws[i] = old
        · exact (in2y w g c ws acc f i p iss old nn R0 h0 h1 hl hi he).mono (fun e w' h => fin h (by simp [doV]) (by simp [doB, casB, hin, hwd, he]) (by simp [doW, cased, casB, hin, hwd, he]))
        · exact (in2n w g c ws acc f i p iss old nn R0 h0 h1 hl hi he).mono (fun e w' h => fin h (by simp [doV]) (by simp [doB, casB, hin, hwd, he]) (by simp [doW, cased, casB, hin, hwd, he]))
      · exact (in3 w g c ws acc f i p iss old nn R0 h0 h1 hl hi).mono (fun e w' h => fin h (by simp [doV, hwd]) (by simp [doB]) (by simp [doW, ht]))
      · exact (in4 w g c ws acc f i p iss old nn R0 h0 h1 hl hi).mono (fun e w' h => fin h (by simp [doV, hwd]) (by simp [doB]) (by simp [doW, ht]))
end Go.Proofs.Ytdmpfnnaefccnaa.MemRef
