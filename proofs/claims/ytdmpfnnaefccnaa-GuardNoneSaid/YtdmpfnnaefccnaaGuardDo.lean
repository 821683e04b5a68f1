/- A call of a guard and of the document's: both answer alike, and are as each other behind it. -/
import Derived.Test.YtdmpfnnaefccnaaGuardSame
set_option linter.unusedVariables false
set_option linter.unusedSimpArgs false
namespace Go.Proofs.Ytdmpfnnaefccnaa.GuardDo
open Go Go.Maps Go.RowKit Go.Proofs.YtdmpfnnaefccnaaW.PrintWords Go.Proofs.YtdmpfnnaefccnaaW.PrintLast Go.Proofs.YtdmpfnnaefccnaaW.PrintMore Go.Proofs.Ytdmpfnnaefccnaa.PGuardPlays Go.Proofs.Ytdmpfnnaefccnaa.Num Go.Proofs.Ytdmpfnnaefccnaa.Pure Go.Proofs.Ytdmpfnnaefccnaa.GuardW Go.Proofs.Ytdmpfnnaefccnaa.GuardX Go.Proofs.Ytdmpfnnaefccnaa.GuardSame
def kept3 (b gb mb : Nat) (k : Nat) : Prop := k ≠ b ∧ k ≠ gb ∧ k ≠ mb
/-- The document's guard's row, told by blocks of which ok speaks. -/
def XV (w : World) (ok : Nat → Prop) (v : Value) (L : List Sl) : Prop := ∃ A c, v = .slice A L.length c ∧ L.length ≤ c ∧ Kd.F k91 w ok A L.length L
theorem XV.keep {w w' : World} {b gb mb : Nat} {ok : Nat → Prop} {v : Value} {L : List Sl} (h : XV w ok v L) (hok : ∀ k, ok k → kept3 b gb mb k) (hk : Keep3 w w' b gb mb) : XV w' ok v L := by
  obtain ⟨A, c, h1, h2, h3⟩ := h
  exact ⟨A, c, h1, h2, Kd.F_step h3 (fun k hk2 hlt => hk.2.2.2.2 k hlt (hok k hk2).1 (hok k hk2).2.1 (hok k hk2).2.2)⟩
theorem XV.step {w w' : World} {ok : Nat → Prop} {v : Value} {L : List Sl} (h : XV w ok v L) (hm : ∀ k, ok k → k < w.heap.size → w'.heap[k]? = w.heap[k]?) : XV w' ok v L := by
  obtain ⟨A, c, h1, h2, h3⟩ := h
  exact ⟨A, c, h1, h2, Kd.F_step h3 hm⟩
theorem XV.mono {w : World} {ok ok' : Nat → Prop} {v : Value} {L : List Sl} (h : XV w ok v L) (hm : ∀ k, ok k → ok' k) : XV w ok' v L := by
  obtain ⟨A, c, h1, h2, h3⟩ := h
  exact ⟨A, c, h1, h2, Kd.F_mono h3 hm⟩
theorem XV.bound {w : World} {ok : Nat → Prop} {v : Value} {L : List Sl} (h : XV w ok v L) : XV w (fun k => ok k ∧ k < w.heap.size) v L := by
  obtain ⟨A, c, h1, h2, h3⟩ := h
  exact ⟨A, c, h1, h2, Kd.F_bound h3⟩
theorem XV.below {w W : World} {ok : Nat → Prop} {A : Option Addr} {c : Nat} {L : List Sl} (h : XV w ok (.slice A L.length c) L) (hb : Below w.heap.size w W) : Kd.F k91 W ok A L.length L := by
  obtain ⟨A', c', h1, h2, h3⟩ := h
  injection h1 with e1 e2 e3
  subst e1
  exact Kd.F_below h3 hb
theorem XV.le {w : World} {ok : Nat → Prop} {A : Option Addr} {c : Nat} {L : List Sl} (h : XV w ok (.slice A L.length c) L) : L.length ≤ c := by
  obtain ⟨A', c', h1, h2, h3⟩ := h
  injection h1 with e1 e2 e3
  subst e3
  exact h2
theorem XV.V2 {w W : World} {e base : Nat} {ok : Nat → Prop} {A : Option Addr} {c : Nat} {L : List Sl} (h : XV w ok (.slice A L.length c) L) (hb : Below w.heap.size w W) : Kd.V k91 e W base (fun k => ok k ∧ k < w.heap.size) (.slice A L.length c) L := by
  obtain ⟨A', c', h1, h2, h3⟩ := h
  injection h1 with e1 e2 e3
  subst e1
  subst e3
  exact ⟨A, c, rfl, h2, Kd.F_step (Kd.F_bound h3) (fun k hk hlt => hb.block k hk.2)⟩
theorem keep3_blk {w w' : World} {b gb mb g : Nat} {o : Obj} (h : Keep3 w w' b gb mb) (hg : w.heap[g]? = some o) (h1 : g ≠ b) (h2 : g ≠ gb) (h3 : g ≠ mb) : w'.heap[g]? = some o :=
  (h.2.2.2.2 g (Array.getElem?_eq_some_iff.1 hg).1 h1 h2 h3).trans hg
/-- The row behind all: what was written meanwhile lies between. -/
theorem XV.end_ {w W0 w3 w7 : World} {b gb mb e base rb : Nat} {ok : Nat → Prop} {v : Value} {L : List Sl} (h : Kd.V k91 e w3 base (fun k => (ok k ∧ k < w.heap.size) ∨ W0.heap.size ≤ k) v L) (hok : ∀ k, ok k → kept3 b gb mb k) (hlt : b < w.heap.size ∧ gb < w.heap.size ∧ mb < w.heap.size) (hr : w.heap.size ≤ rb ∧ rb < W0.heap.size)
    (hm : ∀ k, k < w3.heap.size → k ≠ b → k ≠ gb → k ≠ mb → k ≠ rb → w7.heap[k]? = w3.heap[k]?) : XV w7 (fun k => ok k ∨ w.heap.size ≤ k) v L := by
  obtain ⟨A, c, rfl⟩ := Kd.V_slice h
  refine ⟨A, c, rfl, (Kd.V_at h).2.1, Kd.F_mono (Kd.F_step (Kd.V_F h) (fun k hk hl => ?_)) (fun k hk => ?_)⟩
  · rcases hk with ⟨k1, k4⟩ | hk
    · exact hm k hl (hok k k1).1 (hok k k1).2.1 (hok k k1).2.2 (by omega)
    · exact hm k hl (by omega) (by omega) (by omega) (by omega)
  · rcases hk with ⟨hk, _⟩ | hk
    · exact .inl hk
    · exact .inr (by omega)
theorem set2 (w : World) (r : Nat) (u v : Value) {k : Nat} (h : k ≠ r) : ((w.setCell ⟨r, 0, none⟩ u).setCell ⟨r, 1, none⟩ v).heap[k]? = w.heap[k]? := (Below.heap_setCell (w.setCell ⟨r, 0, none⟩ u) ⟨r, 1, none⟩ v k h).trans (Below.heap_setCell w ⟨r, 0, none⟩ u k h)
theorem keep3_set {w w' : World} {b gb mb r i : Nat} (h : Keep3 w w' b gb mb) (hr : w.heap.size ≤ r) (u : Value) : Keep3 w (w'.setCell ⟨r, i, none⟩ u) b gb mb :=
  ⟨h.1, h.2.1, h.2.2.1, by rw [World.size_setCell]; exact h.2.2.2.1, fun k hk h1 h2 h3 => (Below.heap_setCell w' ⟨r, i, none⟩ u k (by show k ≠ r; omega)).trans (h.2.2.2.2 k hk h1 h2 h3)⟩
def opE (L : List Sl) (kind s : Int) (x : Nat) : Nat := if kind = 1 then (edgeV L s).toNat else x
def doL (L : List Sl) (kind s : Int) (x : Nat) : List Sl := if kind = 0 then takeL L s else dropL L (opE L kind s x)
def doS (L : List Sl) (sl kind s : Int) (x : Nat) : Int := if kind = 0 then takeS L sl s else dropS L sl (opE L kind s x)
theorem do_wf {L : List Sl} (hL : WfL L) (kind s : Int) (x : Nat) : WfL (doL L kind s x) := by
  unfold doL
  split
  · exact take_wf hL s
  · exact drop_wf hL _
set_option maxHeartbeats 2000000 in
set_option maxRecDepth 100000 in
theorem do_take {w : World} {b gb mb : Nat} {L : List Sl} {sl : Int} (hG : Gd w b gb mb L sl) (hL : WfL L) {Ax : Option Addr} {cx : Nat} {ok : Nat → Prop} (hok : ∀ k, ok k → kept3 b gb mb k) (hV : XV w ok (.slice Ax L.length cx) L) (s : Int) (hs : (Lit.int .i64 s).wf = true) (x : Int) :
    Calls Try.prog 29 #[.pointer (some ⟨b, 0, none⟩), .agg #[.slice Ax L.length cx, .int .i64 sl], .agg #[.int .i64 0, .int .i64 s, .int .u64 x]] w fun e w' => ∃ v0, e = .returned (.tuple #[.agg #[v0, .int .i64 (takeS L sl s)], .bool true]) ∧ Gd w' b gb mb (takeL L s) (takeS L sl s) ∧ XV w' (fun k => ok k ∨ w.heap.size ≤ k) v0 (takeL L s) ∧ Keep3 w w' b gb mb := by
  have hu := Try.underlying57
  have hu2 := Try.underlying62
  have RT := Aside0.mk (fun (W : World) (hb : Below w.heap.size w W) => deadwoodref07_Take.calls (fun k => ok k ∧ k < w.heap.size) Ax cx L sl s _ _ _ W (hV.V2 hb) (ref_take hL sl s))
  have GT := Aside0.mk (fun (W : World) (hb : Below w.heap.size w W) => take_calls (hG.below hb) hL s hs)
  have LT := Aside0.mk hG.lt
  generalize takeL L s = L2 at RT GT ⊢
  generalize takeS L sl s = s2 at RT GT ⊢
  generalize takeOk L s = okb at RT GT
  clear hG hV
  go_enter Try.func29, Try.ntmps29
  have s1 : (w.alloc (.cells #[.slice Ax L.length cx, .int .i64 sl] 57 (0, 0))).heap.size = w.heap.size + 1 := by simp
  have s2' : ((w.alloc (.cells #[.slice Ax L.length cx, .int .i64 sl] 57 (0, 0))).alloc (.cells #[.int .i64 0, .int .i64 s, .int .u64 x] 62 (0, 0))).heap.size = w.heap.size + 1 + 1 := by simp
  have s3 : (((w.alloc (.cells #[.slice Ax L.length cx, .int .i64 sl] 57 (0, 0))).alloc (.cells #[.int .i64 0, .int .i64 s, .int .u64 x] 62 (0, 0))).alloc (.cells #[.slice none 0 0, .int .i64 0] 57 (0, 0))).heap.size = w.heap.size + 1 + 1 + 1 := by simp
  have O0 := heap_alloc_new (w.alloc (.cells #[.slice Ax L.length cx, .int .i64 sl] 57 (0, 0))) (.cells #[.int .i64 0, .int .i64 s, .int .u64 x] 62 (0, 0))
  have R0 := heap_alloc_new ((w.alloc (.cells #[.slice Ax L.length cx, .int .i64 sl] 57 (0, 0))).alloc (.cells #[.int .i64 0, .int .i64 s, .int .u64 x] 62 (0, 0))) (.cells #[.slice none 0 0, .int .i64 0] 57 (0, 0))
  rw [s1] at O0
  rw [s2'] at R0
  have OB := Aside0.mk (blk_alloc O0 (.cells #[.slice none 0 0, .int .i64 0] 57 (0, 0)))
  have RB := Aside0.mk R0
  have BW := Aside0.mk (show Below w.heap.size w (((w.alloc (.cells #[.slice Ax L.length cx, .int .i64 sl] 57 (0, 0))).alloc (.cells #[.int .i64 0, .int .i64 s, .int .u64 x] 62 (0, 0))).alloc (.cells #[.slice none 0 0, .int .i64 0] 57 (0, 0))) from below_alloc (below_alloc (below_alloc (Below.refl _ _) _) _) _)
  have S3 := Aside0.mk s3
  clear O0 R0 s1 s2' s3
  go_wp2_with fail
  refine (RT.out _ BW.out).mono ?_
  rintro e w3 ⟨v0, rfl, hV3, hb3⟩
  obtain ⟨A3, c3, rfl⟩ := Kd.V_slice hV3
  have V3 := Aside0.mk hV3
  have O3 := Aside0.mk (blk_below OB.out hb3)
  have R3 := Aside0.mk (blk_below RB.out hb3)
  have B3 := Aside0.mk (below_then BW.out BW.out.size hb3)
  have Z3 := Aside0.mk (show w.heap.size + 1 + 1 + 1 ≤ w3.heap.size from by rw [← S3.out]; exact hb3.size)
  clear hV3 hb3 RT OB RB
  go_upto_region 3 with (fail)
  have O4 := Aside0.mk (blk_alloc O3.out (.cells #[.slice A3 L2.length c3, .int .i64 s2] 57 (0, 0)))
  have R4 := Aside0.mk (blk_alloc R3.out (.cells #[.slice A3 L2.length c3, .int .i64 s2] 57 (0, 0)))
  have B4 := Aside0.mk (below_alloc B3.out (.cells #[.slice A3 L2.length c3, .int .i64 s2] 57 (0, 0)))
  have Y4 := Aside0.mk (heap_alloc_new w3 (.cells #[.slice A3 L2.length c3, .int .i64 s2] 57 (0, 0)))
  have M4 := Aside0.mk (show ∀ k, k < w3.heap.size → (w3.alloc (.cells #[.slice A3 L2.length c3, .int .i64 s2] 57 (0, 0))).heap[k]? = w3.heap[k]? from fun k hk => (below_alloc (Below.refl _ _) _).block k hk)
  have Z4 := Aside0.mk (show w3.heap.size < (w3.alloc (.cells #[.slice A3 L2.length c3, .int .i64 s2] 57 (0, 0))).heap.size from by simp)
  clear O3 R3 B3
  generalize hyb : w3.heap.size = yb at Y4 ⊢
  generalize w3.alloc (.cells #[.slice A3 L2.length c3, .int .i64 s2] 57 (0, 0)) = w4 at O4 R4 B4 Y4 M4 Z4 ⊢
  have o4 : w4.cell? ⟨w.heap.size + 1, 1, none⟩ = some (.int .i64 s) := (blk_cell O4.out 1).trans rfl
  have r40 : w4.cell? ⟨w.heap.size + 1 + 1, 0, none⟩ = some (.slice none 0 0) := (blk_cell R4.out 0).trans rfl
  have r41 : w4.cell? ⟨w.heap.size + 1 + 1, 1, none⟩ = some (.int .i64 0) := (blk_cell R4.out 1).trans rfl
  have z40 := blk_frozen R4.out 0
  have z41 := blk_frozen R4.out 1
  have y40 : w4.cell? ⟨yb, 0, none⟩ = some (.slice A3 L2.length c3) := (blk_cell Y4.out 0).trans rfl
  have y41 : w4.cell? ⟨yb, 1, none⟩ = some (.int .i64 s2) := (blk_cell Y4.out 1).trans rfl
  have BD := Aside0.mk (below_drew1 B4.out)
  have BS := Aside0.mk (show Below w.heap.size w ((w4.drew.setCell ⟨w.heap.size + 1 + 1, 0, none⟩ (.slice A3 L2.length c3)).setCell ⟨w.heap.size + 1 + 1, 1, none⟩ (.int .i64 s2)) from (BD.out.setCell (p := ⟨w.heap.size + 1 + 1, 0, none⟩) (by show w.heap.size ≤ w.heap.size + 1 + 1; omega) _).setCell (p := ⟨w.heap.size + 1 + 1, 1, none⟩) (by show w.heap.size ≤ w.heap.size + 1 + 1; omega) _)
  have RD := Aside0.mk (show w4.drew.heap[w.heap.size + 1 + 1]? = some (.cells #[.slice none 0 0, .int .i64 0] 57 (0, 0)) from R4.out)
  have RS := Aside0.mk (show ((w4.drew.setCell ⟨w.heap.size + 1 + 1, 0, none⟩ (.slice A3 L2.length c3)).setCell ⟨w.heap.size + 1 + 1, 1, none⟩ (.int .i64 s2)).heap[w.heap.size + 1 + 1]? = some (.cells #[.slice A3 L2.length c3, .int .i64 s2] 57 (0, 0)) from blk_set (blk_set RD.out 0 _) 1 _)
  have nr : w.heap.size + 1 + 1 ≠ b ∧ w.heap.size + 1 + 1 ≠ gb ∧ w.heap.size + 1 + 1 ≠ mb := by have := LT.out; omega
  have YD := Aside0.mk (show w4.drew.heap[yb]? = some (.cells #[.slice A3 L2.length c3, .int .i64 s2] 57 (0, 0)) from Y4.out)
  have ny : yb ≠ b ∧ yb ≠ gb ∧ yb ≠ mb := by have := LT.out; have := Z3.out; omega
  go_cut [7] (fun v7 wc => v7 = .bool true ∧ Aside0 (wc.heap[w.heap.size + 1 + 1]? = some (.cells #[.slice A3 L2.length c3, .int .i64 s2] 57 (0, 0)) ∧ Gd wc b gb mb L2 s2 ∧ Keep3 w wc b gb mb ∧ (∀ k, k < w3.heap.size → k ≠ b → k ≠ gb → k ≠ mb → k ≠ w.heap.size + 1 + 1 → wc.heap[k]? = w3.heap[k]?)))
  case first =>
    go_region_law (first | (go_simp; go_at_call 36; refine (GT.out w4.drew BD.out).mono ?_; rintro e w6 ⟨rfl, hG6, hK6⟩; have A6 := Aside0.mk (And.intro hG6 hK6); have R6 := Aside0.mk (keep3_blk hK6 RD.out nr.1 nr.2.1 nr.2.2); have Y6 := keep3_blk hK6 YD.out ny.1 ny.2.1 ny.2.2; have y60 : w6.cell? ⟨yb, 0, none⟩ = some (.slice A3 L2.length c3) := (blk_cell Y6 0).trans rfl; have y61 : w6.cell? ⟨yb, 1, none⟩ = some (.int .i64 s2) := (blk_cell Y6 1).trans rfl; have r60 : w6.cell? ⟨w.heap.size + 1 + 1, 0, none⟩ = some (.slice none 0 0) := (blk_cell R6.out 0).trans rfl; have r61 : w6.cell? ⟨w.heap.size + 1 + 1, 1, none⟩ = some (.int .i64 0) := (blk_cell R6.out 1).trans rfl; have z60 := blk_frozen R6.out 0; have z61 := blk_frozen R6.out 1; clear hG6 hK6) | (go_simp; go_at_call 36; refine (GT.out _ BS.out).mono ?_; rintro e w6 ⟨rfl, hG6, hK6⟩; have A6 := Aside0.mk (And.intro hG6 hK6); have R6 := Aside0.mk (keep3_blk hK6 RS.out nr.1 nr.2.1 nr.2.2); clear hG6 hK6))
    all_goals go_wp2
    all_goals go_meet
    all_goals refine ⟨rfl, ⟨blk_set (blk_set R6.out 0 _) 1 _, ?_, ?_, ?_⟩⟩
    all_goals first
      | exact A6.out.1.move (set2 _ _ _ _ nr.1.symm) (set2 _ _ _ _ nr.2.1.symm) (set2 _ _ _ _ nr.2.2.symm)
      | exact keep3_set (keep3_set ((Keep3.of_below BD.out).trans A6.out.2) (by omega) _) (by omega) _
      | exact fun k hk h1 h2 h3 h4 => (set2 _ _ _ _ h4).trans ((A6.out.2.2.2.2.2 k (Nat.lt_trans hk (by have := Z4.out; exact this)) h1 h2 h3).trans (M4.out k hk))
  case rest =>
    obtain ⟨rfl, HC⟩ := hcut
    obtain ⟨c1, c2, c3_, c4⟩ := HC.out
    go_wp2
    refine bodyPost_ret (results_ct rfl _ _ (w.heap.size + 1 + 1) 57 #[.slice A3 L2.length c3, .int .i64 s2] (0, 0) _ rfl c1 Try.underlying57 rfl (by kernel_rfl)) rfl ?_
    have lt3 := LT.out
    have s3 := S3.out
    exact ⟨_, rfl, c2, XV.end_ V3.out hok lt3 (by omega) c4, c3_⟩
set_option maxHeartbeats 2000000 in
set_option maxRecDepth 100000 in
theorem do_drop {w : World} {b gb mb : Nat} {L : List Sl} {sl : Int} (hG : Gd w b gb mb L sl) (hL : WfL L) {Ax : Option Addr} {cx : Nat} {ok : Nat → Prop} (hok : ∀ k, ok k → kept3 b gb mb k) (hV : XV w ok (.slice Ax L.length cx) L) (kd s : Int) (x : Nat) (hx : x < 2 ^ 64) (h0 : ¬ kd = 0) :
    Calls Try.prog 29 #[.pointer (some ⟨b, 0, none⟩), .agg #[.slice Ax L.length cx, .int .i64 sl], .agg #[.int .i64 kd, .int .i64 s, .int .u64 (x : Int)]] w fun e w' => ∃ v0, e = .returned (.tuple #[.agg #[v0, .int .i64 (dropS L sl (opE L kd s x))], .bool true]) ∧ Gd w' b gb mb (dropL L (opE L kd s x)) (dropS L sl (opE L kd s x)) ∧ XV w' (fun k => ok k ∨ w.heap.size ≤ k) v0 (dropL L (opE L kd s x)) ∧ Keep3 w w' b gb mb := by
  have hu := Try.underlying57
  have hu2 := Try.underlying62
  have hev : (kd = 1 → edgeV L s = (opE L kd s x : Int)) ∧ opE L kd s x < 2 ^ 64 := by
    obtain ⟨ev, e1, e2⟩ := edge_nat hL s
    unfold opE
    split
    · rw [e1, Int.toNat_natCast]; exact ⟨fun _ => rfl, e2⟩
    · rename_i h; exact ⟨fun h2 => absurd h2 h, hx⟩
  have hex : ¬ kd = 1 → opE L kd s x = x := fun h => by unfold opE; rw [if_neg h]
  have RE := Aside0.mk (fun (W : World) (hb : Below w.heap.size w W) => deadwoodref07_Edge.calls Ax cx L sl s _ W (Kd.F_now (hV.below hb)) hV.le (ref_edge hL sl s))
  have RT := Aside0.mk (fun (W : World) (hb : Below w.heap.size w W) => deadwoodref07_Drop.calls (fun k => ok k ∧ k < w.heap.size) Ax cx L sl (opE L kd s x : Int) _ _ _ W (hV.V2 hb) (ref_drop hL sl hev.2))
  have GT := Aside0.mk (fun (W : World) (hb : Below w.heap.size w W) => drop_calls (hG.below hb) hL (opE L kd s x) hev.2)
  have LT := Aside0.mk hG.lt
  generalize dropL L (opE L kd s x) = L2 at RT GT ⊢
  generalize dropS L sl (opE L kd s x) = s2 at RT GT ⊢
  generalize leadsB L (opE L kd s x) = okb at RT GT
  generalize opE L kd s x = ev at RT GT hev hex
  have d0 : (kd == 0) = false := by rw [beq_eq_false_iff_ne]; exact h0
  clear hG hV
  go_enter Try.func29, Try.ntmps29
  have s1 : (w.alloc (.cells #[.slice Ax L.length cx, .int .i64 sl] 57 (0, 0))).heap.size = w.heap.size + 1 := by simp
  have s2' : ((w.alloc (.cells #[.slice Ax L.length cx, .int .i64 sl] 57 (0, 0))).alloc (.cells #[.int .i64 kd, .int .i64 s, .int .u64 (x : Int)] 62 (0, 0))).heap.size = w.heap.size + 1 + 1 := by simp
  have s3 : (((w.alloc (.cells #[.slice Ax L.length cx, .int .i64 sl] 57 (0, 0))).alloc (.cells #[.int .i64 kd, .int .i64 s, .int .u64 (x : Int)] 62 (0, 0))).alloc (.cells #[.slice none 0 0, .int .i64 0] 57 (0, 0))).heap.size = w.heap.size + 1 + 1 + 1 := by simp
  have O0 := heap_alloc_new (w.alloc (.cells #[.slice Ax L.length cx, .int .i64 sl] 57 (0, 0))) (.cells #[.int .i64 kd, .int .i64 s, .int .u64 (x : Int)] 62 (0, 0))
  have R0 := heap_alloc_new ((w.alloc (.cells #[.slice Ax L.length cx, .int .i64 sl] 57 (0, 0))).alloc (.cells #[.int .i64 kd, .int .i64 s, .int .u64 (x : Int)] 62 (0, 0))) (.cells #[.slice none 0 0, .int .i64 0] 57 (0, 0))
  rw [s1] at O0
  rw [s2'] at R0
  have OB := Aside0.mk (blk_alloc O0 (.cells #[.slice none 0 0, .int .i64 0] 57 (0, 0)))
  have RB := Aside0.mk R0
  have XB := Aside0.mk (blk_alloc (blk_alloc (heap_alloc_new w (.cells #[.slice Ax L.length cx, .int .i64 sl] 57 (0, 0))) (.cells #[.int .i64 kd, .int .i64 s, .int .u64 (x : Int)] 62 (0, 0))) (.cells #[.slice none 0 0, .int .i64 0] 57 (0, 0)))
  have BW := Aside0.mk (show Below w.heap.size w (((w.alloc (.cells #[.slice Ax L.length cx, .int .i64 sl] 57 (0, 0))).alloc (.cells #[.int .i64 kd, .int .i64 s, .int .u64 (x : Int)] 62 (0, 0))).alloc (.cells #[.slice none 0 0, .int .i64 0] 57 (0, 0))) from below_alloc (below_alloc (below_alloc (Below.refl _ _) _) _) _)
  have S3 := Aside0.mk s3
  clear O0 R0 s1 s2' s3
  by_cases hk1 : kd = 1
  · have d1 : (kd == 1) = true := beq_iff_eq.2 hk1
    have HK1 := Aside0.mk (hev.1 hk1)
    clear hk1 hev hex
    go_wp2_with fail
    refine (RE.out _ BW.out).mono ?_
    rintro e w2 ⟨rfl, hb2⟩
    have B2 := Aside0.mk (below_then BW.out BW.out.size hb2)
    have O2 := Aside0.mk (blk_below OB.out hb2)
    have R2 := Aside0.mk (blk_below RB.out hb2)
    have Z2 := Aside0.mk hb2.size
    have X2 := blk_below XB.out hb2
    have x20 : w2.cell? ⟨w.heap.size, 0, none⟩ = some (.slice Ax L.length cx) := (blk_cell X2 0).trans rfl
    have x21 : w2.cell? ⟨w.heap.size, 1, none⟩ = some (.int .i64 sl) := (blk_cell X2 1).trans rfl
    clear X2
    clear hb2
    rw [HK1.out]
    go_wp2_with fail
    refine (RT.out _ B2.out).mono ?_
    rintro e w3 ⟨v0, rfl, hV3, hb3⟩
    obtain ⟨A3, c3, rfl⟩ := Kd.V_slice hV3
    have V3 := Aside0.mk hV3
    have O3 := Aside0.mk (blk_below O2.out hb3)
    have R3 := Aside0.mk (blk_below R2.out hb3)
    have B3 := Aside0.mk (below_then B2.out B2.out.size hb3)
    have Z3 := Aside0.mk (show w.heap.size + 1 + 1 + 1 ≤ w3.heap.size from by rw [← S3.out]; exact Nat.le_trans Z2.out hb3.size)
    clear hV3 hb3 RT OB RB
    go_upto_region 8 with (fail)
    have O4 := Aside0.mk (blk_alloc O3.out (.cells #[.slice A3 L2.length c3, .int .i64 s2] 57 (0, 0)))
    have R4 := Aside0.mk (blk_alloc R3.out (.cells #[.slice A3 L2.length c3, .int .i64 s2] 57 (0, 0)))
    have B4 := Aside0.mk (below_alloc B3.out (.cells #[.slice A3 L2.length c3, .int .i64 s2] 57 (0, 0)))
    have Y4 := Aside0.mk (heap_alloc_new w3 (.cells #[.slice A3 L2.length c3, .int .i64 s2] 57 (0, 0)))
    have M4 := Aside0.mk (show ∀ k, k < w3.heap.size → (w3.alloc (.cells #[.slice A3 L2.length c3, .int .i64 s2] 57 (0, 0))).heap[k]? = w3.heap[k]? from fun k hk => (below_alloc (Below.refl _ _) _).block k hk)
    have Z4 := Aside0.mk (show w3.heap.size < (w3.alloc (.cells #[.slice A3 L2.length c3, .int .i64 s2] 57 (0, 0))).heap.size from by simp)
    clear O3 R3 B3
    generalize hyb : w3.heap.size = yb at Y4 ⊢
    generalize w3.alloc (.cells #[.slice A3 L2.length c3, .int .i64 s2] 57 (0, 0)) = w4 at O4 R4 B4 Y4 M4 Z4 ⊢
    have r40 : w4.cell? ⟨w.heap.size + 1 + 1, 0, none⟩ = some (.slice none 0 0) := (blk_cell R4.out 0).trans rfl
    have r41 : w4.cell? ⟨w.heap.size + 1 + 1, 1, none⟩ = some (.int .i64 0) := (blk_cell R4.out 1).trans rfl
    have z40 := blk_frozen R4.out 0
    have z41 := blk_frozen R4.out 1
    have y40 : w4.cell? ⟨yb, 0, none⟩ = some (.slice A3 L2.length c3) := (blk_cell Y4.out 0).trans rfl
    have y41 : w4.cell? ⟨yb, 1, none⟩ = some (.int .i64 s2) := (blk_cell Y4.out 1).trans rfl
    have BD := Aside0.mk (below_drew1 B4.out)
    have BS := Aside0.mk (show Below w.heap.size w ((w4.drew.setCell ⟨w.heap.size + 1 + 1, 0, none⟩ (.slice A3 L2.length c3)).setCell ⟨w.heap.size + 1 + 1, 1, none⟩ (.int .i64 s2)) from (BD.out.setCell (p := ⟨w.heap.size + 1 + 1, 0, none⟩) (by show w.heap.size ≤ w.heap.size + 1 + 1; omega) _).setCell (p := ⟨w.heap.size + 1 + 1, 1, none⟩) (by show w.heap.size ≤ w.heap.size + 1 + 1; omega) _)
    have RD := Aside0.mk (show w4.drew.heap[w.heap.size + 1 + 1]? = some (.cells #[.slice none 0 0, .int .i64 0] 57 (0, 0)) from R4.out)
    have RS := Aside0.mk (show ((w4.drew.setCell ⟨w.heap.size + 1 + 1, 0, none⟩ (.slice A3 L2.length c3)).setCell ⟨w.heap.size + 1 + 1, 1, none⟩ (.int .i64 s2)).heap[w.heap.size + 1 + 1]? = some (.cells #[.slice A3 L2.length c3, .int .i64 s2] 57 (0, 0)) from blk_set (blk_set RD.out 0 _) 1 _)
    have nr : w.heap.size + 1 + 1 ≠ b ∧ w.heap.size + 1 + 1 ≠ gb ∧ w.heap.size + 1 + 1 ≠ mb := by have := LT.out; omega
    have YD := Aside0.mk (show w4.drew.heap[yb]? = some (.cells #[.slice A3 L2.length c3, .int .i64 s2] 57 (0, 0)) from Y4.out)
    have ny : yb ≠ b ∧ yb ≠ gb ∧ yb ≠ mb := by have := LT.out; have := Z3.out; omega
    go_cut [7] (fun v7 wc => v7 = .bool true ∧ Aside0 (wc.heap[w.heap.size + 1 + 1]? = some (.cells #[.slice A3 L2.length c3, .int .i64 s2] 57 (0, 0)) ∧ Gd wc b gb mb L2 s2 ∧ Keep3 w wc b gb mb ∧ (∀ k, k < w3.heap.size → k ≠ b → k ≠ gb → k ≠ mb → k ≠ w.heap.size + 1 + 1 → wc.heap[k]? = w3.heap[k]?)))
    case first =>
      go_region_law (first | (go_simp; go_at_call 33; refine (GT.out w4.drew BD.out).mono ?_; rintro e w6 ⟨rfl, hG6, hK6⟩; have A6 := Aside0.mk (And.intro hG6 hK6); have R6 := Aside0.mk (keep3_blk hK6 RD.out nr.1 nr.2.1 nr.2.2); have Y6 := keep3_blk hK6 YD.out ny.1 ny.2.1 ny.2.2; have y60 : w6.cell? ⟨yb, 0, none⟩ = some (.slice A3 L2.length c3) := (blk_cell Y6 0).trans rfl; have y61 : w6.cell? ⟨yb, 1, none⟩ = some (.int .i64 s2) := (blk_cell Y6 1).trans rfl; have r60 : w6.cell? ⟨w.heap.size + 1 + 1, 0, none⟩ = some (.slice none 0 0) := (blk_cell R6.out 0).trans rfl; have r61 : w6.cell? ⟨w.heap.size + 1 + 1, 1, none⟩ = some (.int .i64 0) := (blk_cell R6.out 1).trans rfl; have z60 := blk_frozen R6.out 0; have z61 := blk_frozen R6.out 1; clear hG6 hK6) | (go_simp; go_at_call 33; refine (GT.out _ BS.out).mono ?_; rintro e w6 ⟨rfl, hG6, hK6⟩; have A6 := Aside0.mk (And.intro hG6 hK6); have R6 := Aside0.mk (keep3_blk hK6 RS.out nr.1 nr.2.1 nr.2.2); clear hG6 hK6))
      all_goals go_wp2
      all_goals go_meet
      all_goals refine ⟨rfl, ⟨blk_set (blk_set R6.out 0 _) 1 _, ?_, ?_, ?_⟩⟩
      all_goals first
        | exact A6.out.1.move (set2 _ _ _ _ nr.1.symm) (set2 _ _ _ _ nr.2.1.symm) (set2 _ _ _ _ nr.2.2.symm)
        | exact keep3_set (keep3_set ((Keep3.of_below BD.out).trans A6.out.2) (by omega) _) (by omega) _
        | exact fun k hk h1 h2 h3 h4 => (set2 _ _ _ _ h4).trans ((A6.out.2.2.2.2.2 k (Nat.lt_trans hk (by have := Z4.out; exact this)) h1 h2 h3).trans (M4.out k hk))
    case rest =>
      obtain ⟨rfl, HC⟩ := hcut
      obtain ⟨c1, c2, c3_, c4⟩ := HC.out
      go_wp2
      refine bodyPost_ret (results_ct rfl _ _ (w.heap.size + 1 + 1) 57 #[.slice A3 L2.length c3, .int .i64 s2] (0, 0) _ rfl c1 Try.underlying57 rfl (by kernel_rfl)) rfl ?_
      have lt3 := LT.out
      have s3 := S3.out
      have z2 := Z2.out
      exact ⟨_, rfl, c2, XV.end_ V3.out hok lt3 (by omega) c4, c3_⟩
  · have d1 : (kd == 1) = false := by rw [beq_eq_false_iff_ne]; exact hk1
    obtain rfl := hex hk1
    go_wp2_with fail
    refine (RT.out _ BW.out).mono ?_
    rintro e w3 ⟨v0, rfl, hV3, hb3⟩
    obtain ⟨A3, c3, rfl⟩ := Kd.V_slice hV3
    have V3 := Aside0.mk hV3
    have O3 := Aside0.mk (blk_below OB.out hb3)
    have R3 := Aside0.mk (blk_below RB.out hb3)
    have B3 := Aside0.mk (below_then BW.out BW.out.size hb3)
    have Z3 := Aside0.mk (show w.heap.size + 1 + 1 + 1 ≤ w3.heap.size from by rw [← S3.out]; exact hb3.size)
    clear hV3 hb3 RT OB RB
    go_upto_region 8 with (fail)
    have O4 := Aside0.mk (blk_alloc O3.out (.cells #[.slice A3 L2.length c3, .int .i64 s2] 57 (0, 0)))
    have R4 := Aside0.mk (blk_alloc R3.out (.cells #[.slice A3 L2.length c3, .int .i64 s2] 57 (0, 0)))
    have B4 := Aside0.mk (below_alloc B3.out (.cells #[.slice A3 L2.length c3, .int .i64 s2] 57 (0, 0)))
    have Y4 := Aside0.mk (heap_alloc_new w3 (.cells #[.slice A3 L2.length c3, .int .i64 s2] 57 (0, 0)))
    have M4 := Aside0.mk (show ∀ k, k < w3.heap.size → (w3.alloc (.cells #[.slice A3 L2.length c3, .int .i64 s2] 57 (0, 0))).heap[k]? = w3.heap[k]? from fun k hk => (below_alloc (Below.refl _ _) _).block k hk)
    have Z4 := Aside0.mk (show w3.heap.size < (w3.alloc (.cells #[.slice A3 L2.length c3, .int .i64 s2] 57 (0, 0))).heap.size from by simp)
    clear O3 R3 B3
    generalize hyb : w3.heap.size = yb at Y4 ⊢
    generalize w3.alloc (.cells #[.slice A3 L2.length c3, .int .i64 s2] 57 (0, 0)) = w4 at O4 R4 B4 Y4 M4 Z4 ⊢
    have r40 : w4.cell? ⟨w.heap.size + 1 + 1, 0, none⟩ = some (.slice none 0 0) := (blk_cell R4.out 0).trans rfl
    have r41 : w4.cell? ⟨w.heap.size + 1 + 1, 1, none⟩ = some (.int .i64 0) := (blk_cell R4.out 1).trans rfl
    have z40 := blk_frozen R4.out 0
    have z41 := blk_frozen R4.out 1
    have y40 : w4.cell? ⟨yb, 0, none⟩ = some (.slice A3 L2.length c3) := (blk_cell Y4.out 0).trans rfl
    have y41 : w4.cell? ⟨yb, 1, none⟩ = some (.int .i64 s2) := (blk_cell Y4.out 1).trans rfl
    have BD := Aside0.mk (below_drew1 B4.out)
    have BS := Aside0.mk (show Below w.heap.size w ((w4.drew.setCell ⟨w.heap.size + 1 + 1, 0, none⟩ (.slice A3 L2.length c3)).setCell ⟨w.heap.size + 1 + 1, 1, none⟩ (.int .i64 s2)) from (BD.out.setCell (p := ⟨w.heap.size + 1 + 1, 0, none⟩) (by show w.heap.size ≤ w.heap.size + 1 + 1; omega) _).setCell (p := ⟨w.heap.size + 1 + 1, 1, none⟩) (by show w.heap.size ≤ w.heap.size + 1 + 1; omega) _)
    have RD := Aside0.mk (show w4.drew.heap[w.heap.size + 1 + 1]? = some (.cells #[.slice none 0 0, .int .i64 0] 57 (0, 0)) from R4.out)
    have RS := Aside0.mk (show ((w4.drew.setCell ⟨w.heap.size + 1 + 1, 0, none⟩ (.slice A3 L2.length c3)).setCell ⟨w.heap.size + 1 + 1, 1, none⟩ (.int .i64 s2)).heap[w.heap.size + 1 + 1]? = some (.cells #[.slice A3 L2.length c3, .int .i64 s2] 57 (0, 0)) from blk_set (blk_set RD.out 0 _) 1 _)
    have nr : w.heap.size + 1 + 1 ≠ b ∧ w.heap.size + 1 + 1 ≠ gb ∧ w.heap.size + 1 + 1 ≠ mb := by have := LT.out; omega
    have YD := Aside0.mk (show w4.drew.heap[yb]? = some (.cells #[.slice A3 L2.length c3, .int .i64 s2] 57 (0, 0)) from Y4.out)
    have ny : yb ≠ b ∧ yb ≠ gb ∧ yb ≠ mb := by have := LT.out; have := Z3.out; omega
    go_cut [7] (fun v7 wc => v7 = .bool true ∧ Aside0 (wc.heap[w.heap.size + 1 + 1]? = some (.cells #[.slice A3 L2.length c3, .int .i64 s2] 57 (0, 0)) ∧ Gd wc b gb mb L2 s2 ∧ Keep3 w wc b gb mb ∧ (∀ k, k < w3.heap.size → k ≠ b → k ≠ gb → k ≠ mb → k ≠ w.heap.size + 1 + 1 → wc.heap[k]? = w3.heap[k]?)))
    case first =>
      go_region_law (first | (go_simp; go_at_call 33; refine (GT.out w4.drew BD.out).mono ?_; rintro e w6 ⟨rfl, hG6, hK6⟩; have A6 := Aside0.mk (And.intro hG6 hK6); have R6 := Aside0.mk (keep3_blk hK6 RD.out nr.1 nr.2.1 nr.2.2); have Y6 := keep3_blk hK6 YD.out ny.1 ny.2.1 ny.2.2; have y60 : w6.cell? ⟨yb, 0, none⟩ = some (.slice A3 L2.length c3) := (blk_cell Y6 0).trans rfl; have y61 : w6.cell? ⟨yb, 1, none⟩ = some (.int .i64 s2) := (blk_cell Y6 1).trans rfl; have r60 : w6.cell? ⟨w.heap.size + 1 + 1, 0, none⟩ = some (.slice none 0 0) := (blk_cell R6.out 0).trans rfl; have r61 : w6.cell? ⟨w.heap.size + 1 + 1, 1, none⟩ = some (.int .i64 0) := (blk_cell R6.out 1).trans rfl; have z60 := blk_frozen R6.out 0; have z61 := blk_frozen R6.out 1; clear hG6 hK6) | (go_simp; go_at_call 33; refine (GT.out _ BS.out).mono ?_; rintro e w6 ⟨rfl, hG6, hK6⟩; have A6 := Aside0.mk (And.intro hG6 hK6); have R6 := Aside0.mk (keep3_blk hK6 RS.out nr.1 nr.2.1 nr.2.2); clear hG6 hK6))
      all_goals go_wp2
      all_goals go_meet
      all_goals refine ⟨rfl, ⟨blk_set (blk_set R6.out 0 _) 1 _, ?_, ?_, ?_⟩⟩
      all_goals first
        | exact A6.out.1.move (set2 _ _ _ _ nr.1.symm) (set2 _ _ _ _ nr.2.1.symm) (set2 _ _ _ _ nr.2.2.symm)
        | exact keep3_set (keep3_set ((Keep3.of_below BD.out).trans A6.out.2) (by omega) _) (by omega) _
        | exact fun k hk h1 h2 h3 h4 => (set2 _ _ _ _ h4).trans ((A6.out.2.2.2.2.2 k (Nat.lt_trans hk (by have := Z4.out; exact this)) h1 h2 h3).trans (M4.out k hk))
    case rest =>
      obtain ⟨rfl, HC⟩ := hcut
      obtain ⟨c1, c2, c3_, c4⟩ := HC.out
      go_wp2
      refine bodyPost_ret (results_ct rfl _ _ (w.heap.size + 1 + 1) 57 #[.slice A3 L2.length c3, .int .i64 s2] (0, 0) _ rfl c1 Try.underlying57 rfl (by kernel_rfl)) rfl ?_
      have lt3 := LT.out
      have s3 := S3.out
      exact ⟨_, rfl, c2, XV.end_ V3.out hok lt3 (by omega) c4, c3_⟩
theorem do_calls {w : World} {b gb mb : Nat} {L : List Sl} {sl : Int} (hG : Gd w b gb mb L sl) (hL : WfL L) {Ax : Option Addr} {cx : Nat} {ok : Nat → Prop} (hok : ∀ k, ok k → kept3 b gb mb k) (hV : XV w ok (.slice Ax L.length cx) L) (kd s : Int) (hs : (Lit.int .i64 s).wf = true) (x : Nat) (hx : x < 2 ^ 64) :
    Calls Try.prog 29 #[.pointer (some ⟨b, 0, none⟩), .agg #[.slice Ax L.length cx, .int .i64 sl], .agg #[.int .i64 kd, .int .i64 s, .int .u64 (x : Int)]] w fun e w' => ∃ v0, e = .returned (.tuple #[.agg #[v0, .int .i64 (doS L sl kd s x)], .bool true]) ∧ Gd w' b gb mb (doL L kd s x) (doS L sl kd s x) ∧ XV w' (fun k => ok k ∨ w.heap.size ≤ k) v0 (doL L kd s x) ∧ Keep3 w w' b gb mb := by
  unfold doL doS
  by_cases h : kd = 0
  · subst h
    rw [if_pos rfl, if_pos rfl]
    exact do_take hG hL hok hV s hs (x : Int)
  · rw [if_neg h, if_neg h]
    exact do_drop hG hL hok hV kd s x hx h
set_option maxHeartbeats 1000000 in
set_option maxRecDepth 100000 in
theorem lives_calls (w : World) : Calls Try.prog 28 #[] w fun e w' => e = .returned (.bool true) ∧ Below w.heap.size w w' := by
  have q1 : takeOk (newL 9) 3 = true := by decide
  have q2 : edgeV (takeL (newL 9) 3) 3 = ((3 : Nat) : Int) := by decide
  have q3 : leadsB (takeL (newL 9) 3) 3 = true := by decide
  have q4 : edgeV (dropL (takeL (newL 9) 3) 3) 3 = 4099 := by decide
  have q5 : heldN (dropL (takeL (newL 9) 3) 3) = 0 := by decide
  have wf0 := new_wf 9
  have wf1 := take_wf wf0 3
  have wf2 := drop_wf wf1 3
  have Q := Aside0.mk (And.intro q1 (And.intro q2 (And.intro q3 (And.intro q4 q5))))
  have WF := Aside0.mk (And.intro wf0 (And.intro wf1 wf2))
  clear q1 q2 q3 q4 q5 wf0 wf1 wf2
  go_enter Try.func28, Try.ntmps28
  go_wp2_with fail
  refine (new_calls w 9 (by decide)).mono ?_
  rintro e w1 ⟨b, gb, mb, rfl, hG, hlo, hb1⟩
  go_wp2_with fail
  refine (take_calls hG WF.out.1 3 (by decide)).mono ?_
  rintro e w2 ⟨rfl, hG2, hK2⟩
  rw [Q.out.1]
  go_wp2_with fail
  refine (edge_calls hG2 WF.out.2.1 3).mono ?_
  rintro e w3 ⟨rfl, n3, rfl⟩
  rw [Q.out.2.1]
  go_wp2_with fail
  refine (drop_calls (hG2.drewN n3) WF.out.2.1 3 (by decide)).mono ?_
  rintro e w4 ⟨rfl, hG4, hK4⟩
  rw [Q.out.2.2.1]
  go_wp2_with fail
  refine (edge_calls hG4 WF.out.2.2 3).mono ?_
  rintro e w5 ⟨rfl, n5, rfl⟩
  rw [Q.out.2.2.2.1]
  go_wp2_with fail
  refine (held_calls (hG4.drewN n5)).mono ?_
  rintro e w6 ⟨rfl, rfl⟩
  rw [Q.out.2.2.2.2]
  go_wp2
  go_ret
  exact ⟨rfl, hb1.trans ((((hK2.trans (Keep3.drewN _ _ _ _ _)).trans hK4).trans (Keep3.drewN _ _ _ _ _)).below (B := w.heap.size) hlo.1 hlo.2.1 hlo.2.2 hb1.size)⟩
end Go.Proofs.Ytdmpfnnaefccnaa.GuardDo
