-- Printed by a program of this session (mkprint.py) out of the translation; Lean checks it.
import Derived.Test.YtckbndckfeicmaaInsW
import Derived.Test.YtckbndckfeicmaaPScriptCleansx0
namespace Go.Proofs.Ytckbndckfeicmaa.PScriptCleans
open Go.RowKit Go.Proofs.YtckbndckfeicmaaW.PrintWords Go.Proofs.YtckbndckfeicmaaW.PrintLast Go.Proofs.YtckbndckfeicmaaW.PrintMore
attribute [local go_sem] max2_int min2_int max_two min_two max_three min_three max_four min_four   -- for this text's walks alone
set_option linter.unusedVariables false
set_option linter.unusedSimpArgs false

/-! ### script_Clean: function 21 : a hand text -/
def clampI (lo hi a : Int) : Int := max lo (min hi a)
def script_Clean.f (_k : Nat) (a0_0 : Int) (a0_1 : Int) (a0_2 : Int) (l0_3 : List (S75)) : Option (Int × Int × Int × (List (S75))) := if l0_3.length ≤ 1000000 then some (clampI 1 6 a0_0, clampI 7 250 a0_1, clampI 1 1099511627776 a0_2, l0_3.take 60000) else none
theorem script_Clean.mono : ∀ a0 a1 a2 a3 k, LeO (script_Clean.f k a0 a1 a2 a3) (script_Clean.f (k + 1) a0 a1 a2 a3) := fun _ _ _ _ _ _ h => h
namespace CleanWalk
theorem info_entry : (Try.prog.info? 75).map (fun i => (i.zero, i.size, i.bytes)) = some (some (.agg #[.int .i64 0, .bool false, .int .i64 0, .int .i64 0, .int .i64 0, .int .i64 0, .int .i64 0]), 7, 56) := by kernel_rfl
set_option maxHeartbeats 4000000 in
set_option maxRecDepth 100000 in
theorem clone_calls (A : Option Addr) (c : Nat) (l : List S75) (w : World) (hC : Kd.C k75 w A l.length l) (hl : l.length ≤ 1000000) :
    Calls Try.prog 66 #[.slice A l.length c] w fun e w' => ∃ v, e = .returned v ∧ Kd.R k75 75 w' w.heap.size (fun k_ => w.heap.size ≤ k_) v l ∧ Below w.heap.size w w' := by
  have q39 : ∀ (w : World) (a : Option Addr) (n c n' c' : Nat), (binOp .eql 25 (.slice a n c) (.slice none n' c')).run Try.prog w = .ok (.bool a.isNone) w := fun w a n c n' c' => Lib.run_eql_slice_nil w 25 75 a n c n' c' Try.underlying25
  have mixed : Try.prog.follows Departure.mixedOrders = true := by kernel_rfl
  cases A with
  | none =>
    have h0 : l = [] := by
      rcases Nat.eq_zero_or_pos l.length with h | h
      · exact List.eq_nil_of_length_eq_zero h
      · obtain ⟨ad, hA, _⟩ := hC.2.2 h
        cases hA
    subst h0
    clear hC
    go_enter Try.func66, Try.ntmps66
    go_wp2
    go_ret
    exact ⟨_, rfl, ⟨fun k hk => by simp [Value.ownBlock] at hk, [], World.ownsRow_nil _ _ _ _, Reps.none _ _⟩, Below.refl _ _⟩
  | some ad =>
    have HC := Aside0.mk hC
    clear hC
    go_enter Try.func66, Try.ntmps66
    go_wp2_with (at_builtin; refine Kd.R_append_rows k75 (Rr := k75.K w) (w0 := w) w.heap.size rfl _ _ 25 75 _ 56 rfl Try.underlying25 info_entry rfl (by decide) (by decide) _ [] l (some ad) l.length c (fun k_ => w.heap.size ≤ k_) (fun _ => False) rfl rfl ⟨(fun k hk => Nat.le_of_eq (Option.some.inj (show some w.heap.size = some k from hk))), [], World.ownsRow_made w #[] 0 (Nat.le_refl _) (Nat.zero_le _) rfl, Reps.none _ _⟩ (ReadsRow.imp_ HC.out (below_alloc (Below.refl _ _) _) (fun _ _ h => h)) (fun x cs hx => by rw [k75_open hx]; exact k75_mkM _ _ _ x) (fun _ hk => hk.elim) (fun k hk => by simp at hk; omega) (below_alloc (Below.refl _ _) _) (by simp) (by simp; omega) ?_; intro v1 w1 hR hb hg hat; have HR := Aside0.mk hR; have HB := Aside0.mk hb; clear hR hb hg hat)
    go_ret
    exact ⟨_, rfl, HR.out, HB.out⟩
theorem first3 (w : World) (X Y Z : Obj) : (((w.alloc X).alloc Y).alloc Z).heap[w.heap.size]? = some X := blk_alloc (blk_alloc (heap_alloc_new w X) Y) Z
theorem second3 (w : World) (X Y Z : Obj) : (((w.alloc X).alloc Y).alloc Z).heap[w.heap.size + 1]? = some Y := by
  have h := blk_alloc (heap_alloc_new (w.alloc X) Y) Z
  have e : (w.alloc X).heap.size = w.heap.size + 1 := by simp
  rwa [e] at h
theorem third3 (w : World) (X Y Z : Obj) : (((w.alloc X).alloc Y).alloc Z).heap[w.heap.size + 1 + 1]? = some Z := by
  have h := heap_alloc_new ((w.alloc X).alloc Y) Z
  have e : ((w.alloc X).alloc Y).heap.size = w.heap.size + 1 + 1 := by simp
  rwa [e] at h
theorem after_clone {wc w4 : World} {n1 n2 : Nat} {a' b' c' : Int} (h1 : wc.heap[n1]? = some (.cells #[.int .i64 0, .int .i64 0, .int .u64 0, .slice none 0 0] 27 (0, 0))) (h2 : wc.heap[n2]? = some (.cells #[.int .i64 a', .int .i64 b', .int .u64 c'] 24 (0, 0))) (hb : Below wc.drew.heap.size wc.drew w4) :
    w4.heap[n1]? = some (.cells #[.int .i64 0, .int .i64 0, .int .u64 0, .slice none 0 0] 27 (0, 0)) ∧ w4.cell? ⟨n2, 0, none⟩ = some (.int .i64 a') ∧ w4.cell? ⟨n2, 1, none⟩ = some (.int .i64 b') ∧ w4.cell? ⟨n2, 2, none⟩ = some (.int .u64 c') ∧ w4.cell? ⟨n1, 0, none⟩ = some (.int .i64 0) ∧ w4.cell? ⟨n1, 1, none⟩ = some (.int .i64 0) ∧ w4.cell? ⟨n1, 2, none⟩ = some (.int .u64 0) ∧ w4.cell? ⟨n1, 3, none⟩ = some (.slice none 0 0) ∧ ∀ j, w4.frozen? ⟨n1, j, none⟩ = false := by
  have g1 : w4.heap[n1]? = some (.cells #[.int .i64 0, .int .i64 0, .int .u64 0, .slice none 0 0] 27 (0, 0)) := blk_below (w := wc.drew) h1 hb
  have g2 : w4.heap[n2]? = some (.cells #[.int .i64 a', .int .i64 b', .int .u64 c'] 24 (0, 0)) := blk_below (w := wc.drew) h2 hb
  exact ⟨g1, (blk_cell g2 0).trans rfl, (blk_cell g2 1).trans rfl, (blk_cell g2 2).trans rfl, (blk_cell g1 0).trans rfl, (blk_cell g1 1).trans rfl, (blk_cell g1 2).trans rfl, (blk_cell g1 3).trans rfl, fun j => blk_frozen g1 j⟩
theorem four_far (w4 : World) {n1 : Nat} (a' b' c' : Int) (v : Value) {k : Nat} (hk : k ≠ n1) : ((((w4.setCell ⟨n1, 0, none⟩ (.int .i64 a')).setCell ⟨n1, 1, none⟩ (.int .i64 b')).setCell ⟨n1, 2, none⟩ (.int .u64 c')).setCell ⟨n1, 3, none⟩ v).heap[k]? = w4.heap[k]? :=
  (Below.heap_setCell _ ⟨n1, 3, none⟩ _ k hk).trans ((Below.heap_setCell _ ⟨n1, 2, none⟩ _ k hk).trans ((Below.heap_setCell _ ⟨n1, 1, none⟩ _ k hk).trans (Below.heap_setCell _ ⟨n1, 0, none⟩ _ k hk)))
theorem clamp_lo {lo hi a : Int} (h : lo ≤ hi) (h1 : a < hi) (h2 : ¬ lo < a) : clampI lo hi a = lo := by unfold clampI; omega
theorem clamp_mid {lo hi a : Int} (h1 : a < hi) (h2 : lo < a) : clampI lo hi a = a := by unfold clampI; omega
theorem clamp_hi {lo hi a : Int} (h : lo ≤ hi) (h1 : ¬ a < hi) : clampI lo hi a = hi := by unfold clampI; omega
set_option maxHeartbeats 8000000 in
set_option maxRecDepth 100000 in
theorem clean_calls (a b c : Int) (A : Option Addr) (cap : Nat) (l : List S75) (w : World) (hl : l.length ≤ 1000000) (hC : Kd.C k75 w A l.length l) (hc : l.length ≤ cap) (m : Nat) (hm : m = min l.length 60000) :
    Calls Try.prog 21 #[.agg #[.int .i64 a, .int .i64 b, .int .u64 c, .slice A l.length cap]] w fun e w' => ∃ v, e = .returned (.agg #[.int .i64 (clampI 1 6 a), .int .i64 (clampI 7 250 b), .int .u64 (clampI 1 1099511627776 c), v]) ∧ Kd.R k75 75 w' w.heap.size (fun k_ => w.heap.size ≤ k_) v (l.take m) ∧ Below w.heap.size w w' := by
  have hu := Try.underlying27
  have hu2 := Try.underlying24
  have HC := Aside0.mk hC
  have HL := Aside0.mk hc
  have HM := Aside0.mk hm
  obtain ⟨a', ha⟩ : ∃ a', a' = clampI 1 6 a := ⟨_, rfl⟩
  obtain ⟨b', hb⟩ : ∃ b', b' = clampI 7 250 b := ⟨_, rfl⟩
  obtain ⟨c', hc'⟩ : ∃ c', c' = clampI 1 1099511627776 c := ⟨_, rfl⟩
  rw [← ha, ← hb, ← hc']
  have EA := Aside0.mk ha
  have EB := Aside0.mk hb
  have EC := Aside0.mk hc'
  clear hC hc hm ha hb hc'
  go_enter Try.func21, Try.ntmps21
  go_upto_region 1 with fail
  go_cut [3] (fun v3 wc => v3 = .pointer (some ⟨w.heap.size + 1 + 1, 0, none⟩) ∧ Aside0 (wc.heap[w.heap.size]? = some (.cells #[.int .i64 a, .int .i64 b, .int .u64 c, .slice A l.length cap] 27 (0, 0))) ∧ Aside0 (wc.heap[w.heap.size + 1]? = some (.cells #[.int .i64 0, .int .i64 0, .int .u64 0, .slice none 0 0] 27 (0, 0))) ∧ Aside0 (wc.heap[w.heap.size + 1 + 1]? = some (.cells #[.int .i64 a', .int .i64 b', .int .u64 c'] 24 (0, 0))) ∧ Aside0 (Below w.heap.size w wc))
  case first =>
    go_wp2_with fail
    all_goals go_meet
    all_goals
      case rel =>
        have e1 := EA.out
        have e2 := EB.out
        have e3 := EC.out
        unfold clampI at e1 e2 e3
        refine ⟨rfl, ⟨first3 _ _ _ _⟩, ⟨second3 _ _ _ _⟩, ⟨(third3 _ _ _ _).trans ?_⟩, ⟨below_alloc (below_alloc (below_alloc (Below.refl _ _) _) _) _⟩⟩
        simp only [Option.some.injEq, Obj.cells.injEq, Array.mk.injEq, List.cons.injEq, Value.int.injEq, true_and, and_true]
        omega
  case rest =>
    obtain ⟨rfl, X0, X1, X2, XB⟩ := hcut
    have mixed : Try.prog.follows Departure.mixedOrders = true := by kernel_rfl
    have c3 : wc.cell? ⟨w.heap.size, 3, none⟩ = some (.slice A l.length cap) := (blk_cell X0.out 3).trans rfl
    have d0 : wc.cell? ⟨w.heap.size + 1 + 1, 0, none⟩ = some (.int .i64 a') := (blk_cell X2.out 0).trans rfl
    have d1 : wc.cell? ⟨w.heap.size + 1 + 1, 1, none⟩ = some (.int .i64 b') := (blk_cell X2.out 1).trans rfl
    have d2 : wc.cell? ⟨w.heap.size + 1 + 1, 2, none⟩ = some (.int .u64 c') := (blk_cell X2.out 2).trans rfl
    by_cases h60 : 60000 < l.length
    · have em : m = 60000 := by have := HM.out; omega
      subst em
      have el : (l.take 60000).length = 60000 := by rw [List.length_take]; omega
      have hcc : 60000 ≤ cap := by have := HL.out; omega
      have q0 : (60000 : Int) < (l.length : Int) := by omega
      have q1 : (60000 : Int) ≤ (cap : Int) := by omega
      have C2 : ∀ W : World, Kd.C k75 W A l.length l → Calls Try.prog 66 #[.slice A 60000 cap] W fun e w' => ∃ v, e = .returned v ∧ Kd.R k75 75 w' W.heap.size (fun k_ => W.heap.size ≤ k_) v (l.take 60000) ∧ Below W.heap.size W w' := fun W hW => by
        have C := clone_calls A cap (l.take 60000) W (Kd.C_take hW (by omega)) (by rw [el]; decide)
        rw [el] at C
        exact C
      have D2 := Aside0.mk C2
      clear C2
      go_upto_region 2 with fail
      refine start_ (n := 11) (S := fun w' => w'.cell? ⟨w.heap.size, 3, none⟩ = some (.slice A l.length cap) ∧ w'.cell? ⟨w.heap.size + 1 + 1, 0, none⟩ = some (.int .i64 a') ∧ w'.cell? ⟨w.heap.size + 1 + 1, 1, none⟩ = some (.int .i64 b') ∧ w'.cell? ⟨w.heap.size + 1 + 1, 2, none⟩ = some (.int .u64 c')) (ds := [10]) #[false, false, false, false, false, false, false, false, false, false, false] mixed rfl rfl ⟨c3, d0, d1, d2⟩ (fun hHeld => ?_)
      refine pure_ (i := 1) (N := some 21) (v := ?_) (a' := ?_) #[false, true, false, false, false, false, false, false, false, false, false] rfl rfl (by kernel_rfl) (fun _ _ _ h => h) (Or.inl ⟨by rfl, ?_⟩) ?_ ?_
      rotate_left
      · intro w'
        go_simp
        with_reducible rfl
      rotate_left
      · simp only [Act.put, List.setIfInBounds_toArray, List.set_cons_zero, List.set_cons_succ, i64_w, i32_w]
        rfl
      refine pure_ (i := 3) (N := some 23) (v := ?_) (a' := ?_) #[false, true, false, true, false, false, false, false, false, false, false] rfl rfl (by kernel_rfl) (fun _ _ _ h => h) (Or.inl ⟨by rfl, ?_⟩) ?_ ?_
      rotate_left
      · intro w'
        go_simp
        with_reducible rfl
      rotate_left
      · simp only [Act.put, List.setIfInBounds_toArray, List.set_cons_zero, List.set_cons_succ, i64_w, i32_w]
        rfl
      refine take_ (i := 0) (N := some 20) (v := ?_) (a' := ?_) #[true, true, false, true, false, false, false, false, false, false, false] rfl rfl (by kernel_rfl) (fun _ _ _ h => h) (Or.inl ⟨by rfl, ?_⟩) hHeld ?_ ?_
      rotate_left
      · rintro w' ⟨s0, s1, s2, s3⟩
        go_simp
        with_reducible rfl
      rotate_left
      · simp only [Act.put, List.setIfInBounds_toArray, List.set_cons_zero, List.set_cons_succ, i64_w, i32_w]
        rfl
      refine take_ (i := 2) (N := some 22) (v := ?_) (a' := ?_) #[true, true, true, true, false, false, false, false, false, false, false] rfl rfl (by kernel_rfl) (fun _ _ _ h => h) (Or.inl ⟨by rfl, ?_⟩) hHeld ?_ ?_
      rotate_left
      · rintro w' ⟨s0, s1, s2, s3⟩
        go_simp
        with_reducible rfl
      rotate_left
      · simp only [Act.put, List.setIfInBounds_toArray, List.set_cons_zero, List.set_cons_succ, i64_w, i32_w]
        rfl
      refine take_ (i := 4) (N := some 24) (v := ?_) (a' := ?_) #[true, true, true, true, true, false, false, false, false, false, false] rfl rfl (by kernel_rfl) (fun _ _ _ h => h) (Or.inl ⟨by rfl, ?_⟩) hHeld ?_ ?_
      rotate_left
      · rintro w' ⟨s0, s1, s2, s3⟩
        go_simp
        with_reducible rfl
      rotate_left
      · simp only [Act.put, List.setIfInBounds_toArray, List.set_cons_zero, List.set_cons_succ, i64_w, i32_w]
        rfl
      refine pure_ (i := 5) (N := some 25) (v := ?_) (a' := ?_) #[true, true, true, true, true, true, false, false, false, false, false] rfl rfl (by kernel_rfl) (fun _ _ _ h => h) (Or.inl ⟨by rfl, ?_⟩) ?_ ?_
      rotate_left
      · intro w'
        go_simp
        with_reducible rfl
      rotate_left
      · simp only [Act.put, List.setIfInBounds_toArray, List.set_cons_zero, List.set_cons_succ, i64_w, i32_w]
        rfl
      refine pure_ (i := 6) (N := some 26) (v := ?_) (a' := ?_) #[true, true, true, true, true, true, true, false, false, false, false] rfl rfl (by kernel_rfl) (fun _ _ _ h => h) (Or.inl ⟨by rfl, ?_⟩) ?_ ?_
      rotate_left
      · intro w'
        go_simp
        with_reducible rfl
      rotate_left
      · simp only [Act.put, List.setIfInBounds_toArray, List.set_cons_zero, List.set_cons_succ, i64_w, i32_w]
        rfl
      refine pure_ (i := 7) (N := some 27) (v := ?_) (a' := ?_) #[true, true, true, true, true, true, true, true, false, false, false] rfl rfl (by kernel_rfl) (fun _ _ _ h => h) (Or.inl ⟨by rfl, ?_⟩) ?_ ?_
      rotate_left
      · intro w'
        go_simp
        with_reducible rfl
      rotate_left
      · simp only [Act.put, List.setIfInBounds_toArray, List.set_cons_zero, List.set_cons_succ, i64_w, i32_w]
        rfl
      refine one_ (i := 8) (N := some 28) #[true, true, true, true, true, true, true, true, true, false, false] rfl rfl (by kernel_rfl) (by decide) (fun K hK => ?_)
      refine goes_ Try.func66 (by kernel_rfl) rfl #[.slice A 60000 cap] (by rfl) rfl rfl (by (try simp only [List.map_toArray, List.map_cons, List.map_nil]); first | done | rfl) ?_
      refine (D2.out _ (Kd.C_below HC.out (below_drew XB.out))).mono ?_
      rintro e w4 ⟨v4, rfl, ho, hb⟩
      obtain ⟨A4, c4, rfl⟩ := Kd.R_slice ho
      refine ⟨_, rfl, ?_⟩
      have HO := Aside0.mk ho
      have HB4 := Aside0.mk hb
      clear ho hb
      obtain ⟨g1, d04, d14, d24, z0, z1, z2, z3, fz⟩ := after_clone X1.out X2.out HB4.out
      have G1 := Aside0.mk g1
      have f0 := fz 0
      have f1 := fz 1
      have f2 := fz 2
      have f3 := fz 3
      clear g1 fz
      have c34 : w4.cell? ⟨w.heap.size, 3, none⟩ = some (.slice A l.length cap) := (blk_cell (blk_below (w := wc.drew) X0.out HB4.out) 3).trans rfl
      refine hK.out _ _ ⟨c34, d04, d14, d24⟩ (fun hHeld => ?_)
      clear hK K
      refine norm_ (a' := ?_) ?_ ?_
      rotate_left
      · show Act.put _ (some 28) _ = _
        simp only [Act.put, List.setIfInBounds_toArray, List.set_cons_zero, List.set_cons_succ, i64_w, i32_w]
        rfl
      refine pure_ (i := 9) (N := some 29) (v := ?_) (a' := ?_) #[true, true, true, true, true, true, true, true, true, true, false] rfl rfl (by kernel_rfl) (fun _ _ _ h => h) (Or.inl ⟨by rfl, ?_⟩) ?_ ?_
      rotate_left
      · intro w'
        go_simp
        with_reducible rfl
      rotate_left
      · simp only [Act.put, List.setIfInBounds_toArray, List.set_cons_zero, List.set_cons_succ, i64_w, i32_w]
        rfl
      refine last_ (i := 10) (N := none) #[true, true, true, true, true, true, true, true, true, true, true] rfl rfl (by kernel_rfl) (by decide) (fun K hK => ?_)
      refine skip_ (w1 := ?_) (by rfl) rfl ?_ ?_
      rotate_left
      · go_simp
        with_reducible rfl
      refine hK.out _ _ ?_
      clear hK K
      refine done_ (by kernel_rfl) ?_
      set_option maxRecDepth 1000000 in
      go_wp2
      have hfin := blk_set (blk_set (blk_set (blk_set G1.out 0 (.int .i64 a')) 1 (.int .i64 b')) 2 (.int .u64 c')) 3 (.slice A4 60000 c4)
      have hlt : w.heap.size + 1 < wc.heap.size := (Array.getElem?_eq_some_iff.1 X1.out).1
      have HO2 := HO.out
      rw [el] at HO2
      exact bodyPost_ret (results_cell_row rfl _ _ (w.heap.size + 1) 27 #[.int .i64 a', .int .i64 b', .int .u64 c', .slice A4 60000 c4] (0, 0) _ rfl hfin Try.underlying27 rfl (by kernel_rfl)) rfl ⟨_, rfl, Kd.R_mono (Kd.R_lower (Kd.R_step HO2 (fun k hk _ => four_far w4 a' b' c' _ (by have : wc.heap.size ≤ k := hk; omega))) XB.out.size) (fun k hk => Nat.le_trans XB.out.size hk), below_set (below_set (below_set (below_set (below_then (below_drew XB.out) (Below.size (below_drew XB.out)) HB4.out) (by omega)) (by omega)) (by omega)) (by omega)⟩
    · have em : m = l.length := by have := HM.out; omega
      subst em
      have q0 : ¬ (60000 : Int) < (l.length : Int) := by omega
      have q1 : l.length ≤ cap := HL.out
      have q2 : (l.length : Int) ≤ (cap : Int) := by omega
      go_upto_region 2 with fail
      refine start_ (n := 11) (S := fun w' => w'.cell? ⟨w.heap.size, 3, none⟩ = some (.slice A l.length cap) ∧ w'.cell? ⟨w.heap.size + 1 + 1, 0, none⟩ = some (.int .i64 a') ∧ w'.cell? ⟨w.heap.size + 1 + 1, 1, none⟩ = some (.int .i64 b') ∧ w'.cell? ⟨w.heap.size + 1 + 1, 2, none⟩ = some (.int .u64 c')) (ds := [10]) #[false, false, false, false, false, false, false, false, false, false, false] mixed rfl rfl ⟨c3, d0, d1, d2⟩ (fun hHeld => ?_)
      refine pure_ (i := 1) (N := some 21) (v := ?_) (a' := ?_) #[false, true, false, false, false, false, false, false, false, false, false] rfl rfl (by kernel_rfl) (fun _ _ _ h => h) (Or.inl ⟨by rfl, ?_⟩) ?_ ?_
      rotate_left
      · intro w'
        go_simp
        with_reducible rfl
      rotate_left
      · simp only [Act.put, List.setIfInBounds_toArray, List.set_cons_zero, List.set_cons_succ, i64_w, i32_w]
        rfl
      refine pure_ (i := 3) (N := some 23) (v := ?_) (a' := ?_) #[false, true, false, true, false, false, false, false, false, false, false] rfl rfl (by kernel_rfl) (fun _ _ _ h => h) (Or.inl ⟨by rfl, ?_⟩) ?_ ?_
      rotate_left
      · intro w'
        go_simp
        with_reducible rfl
      rotate_left
      · simp only [Act.put, List.setIfInBounds_toArray, List.set_cons_zero, List.set_cons_succ, i64_w, i32_w]
        rfl
      refine take_ (i := 0) (N := some 20) (v := ?_) (a' := ?_) #[true, true, false, true, false, false, false, false, false, false, false] rfl rfl (by kernel_rfl) (fun _ _ _ h => h) (Or.inl ⟨by rfl, ?_⟩) hHeld ?_ ?_
      rotate_left
      · rintro w' ⟨s0, s1, s2, s3⟩
        go_simp
        with_reducible rfl
      rotate_left
      · simp only [Act.put, List.setIfInBounds_toArray, List.set_cons_zero, List.set_cons_succ, i64_w, i32_w]
        rfl
      refine take_ (i := 2) (N := some 22) (v := ?_) (a' := ?_) #[true, true, true, true, false, false, false, false, false, false, false] rfl rfl (by kernel_rfl) (fun _ _ _ h => h) (Or.inl ⟨by rfl, ?_⟩) hHeld ?_ ?_
      rotate_left
      · rintro w' ⟨s0, s1, s2, s3⟩
        go_simp
        with_reducible rfl
      rotate_left
      · simp only [Act.put, List.setIfInBounds_toArray, List.set_cons_zero, List.set_cons_succ, i64_w, i32_w]
        rfl
      refine take_ (i := 4) (N := some 24) (v := ?_) (a' := ?_) #[true, true, true, true, true, false, false, false, false, false, false] rfl rfl (by kernel_rfl) (fun _ _ _ h => h) (Or.inl ⟨by rfl, ?_⟩) hHeld ?_ ?_
      rotate_left
      · rintro w' ⟨s0, s1, s2, s3⟩
        go_simp
        with_reducible rfl
      rotate_left
      · simp only [Act.put, List.setIfInBounds_toArray, List.set_cons_zero, List.set_cons_succ, i64_w, i32_w]
        rfl
      refine pure_ (i := 5) (N := some 25) (v := ?_) (a' := ?_) #[true, true, true, true, true, true, false, false, false, false, false] rfl rfl (by kernel_rfl) (fun _ _ _ h => h) (Or.inl ⟨by rfl, ?_⟩) ?_ ?_
      rotate_left
      · intro w'
        go_simp
        with_reducible rfl
      rotate_left
      · simp only [Act.put, List.setIfInBounds_toArray, List.set_cons_zero, List.set_cons_succ, i64_w, i32_w]
        rfl
      refine pure_ (i := 6) (N := some 26) (v := ?_) (a' := ?_) #[true, true, true, true, true, true, true, false, false, false, false] rfl rfl (by kernel_rfl) (fun _ _ _ h => h) (Or.inl ⟨by rfl, ?_⟩) ?_ ?_
      rotate_left
      · intro w'
        go_simp
        with_reducible rfl
      rotate_left
      · simp only [Act.put, List.setIfInBounds_toArray, List.set_cons_zero, List.set_cons_succ, i64_w, i32_w]
        rfl
      refine pure_ (i := 7) (N := some 27) (v := ?_) (a' := ?_) #[true, true, true, true, true, true, true, true, false, false, false] rfl rfl (by kernel_rfl) (fun _ _ _ h => h) (Or.inl ⟨by rfl, ?_⟩) ?_ ?_
      rotate_left
      · intro w'
        go_simp
        with_reducible rfl
      rotate_left
      · simp only [Act.put, List.setIfInBounds_toArray, List.set_cons_zero, List.set_cons_succ, i64_w, i32_w]
        rfl
      refine one_ (i := 8) (N := some 28) #[true, true, true, true, true, true, true, true, true, false, false] rfl rfl (by kernel_rfl) (by decide) (fun K hK => ?_)
      refine goes_ Try.func66 (by kernel_rfl) rfl #[.slice A l.length cap] (by rfl) rfl rfl (by (try simp only [List.map_toArray, List.map_cons, List.map_nil]); first | done | rfl) ?_
      refine (clone_calls A cap l _ (Kd.C_below HC.out (below_drew XB.out)) hl).mono ?_
      rintro e w4 ⟨v4, rfl, ho, hb⟩
      obtain ⟨A4, c4, rfl⟩ := Kd.R_slice ho
      refine ⟨_, rfl, ?_⟩
      have HO := Aside0.mk ho
      have HB4 := Aside0.mk hb
      clear ho hb
      obtain ⟨g1, d04, d14, d24, z0, z1, z2, z3, fz⟩ := after_clone X1.out X2.out HB4.out
      have G1 := Aside0.mk g1
      have f0 := fz 0
      have f1 := fz 1
      have f2 := fz 2
      have f3 := fz 3
      clear g1 fz
      have c34 : w4.cell? ⟨w.heap.size, 3, none⟩ = some (.slice A l.length cap) := (blk_cell (blk_below (w := wc.drew) X0.out HB4.out) 3).trans rfl
      refine hK.out _ _ ⟨c34, d04, d14, d24⟩ (fun hHeld => ?_)
      clear hK K
      refine norm_ (a' := ?_) ?_ ?_
      rotate_left
      · show Act.put _ (some 28) _ = _
        simp only [Act.put, List.setIfInBounds_toArray, List.set_cons_zero, List.set_cons_succ, i64_w, i32_w]
        rfl
      refine pure_ (i := 9) (N := some 29) (v := ?_) (a' := ?_) #[true, true, true, true, true, true, true, true, true, true, false] rfl rfl (by kernel_rfl) (fun _ _ _ h => h) (Or.inl ⟨by rfl, ?_⟩) ?_ ?_
      rotate_left
      · intro w'
        go_simp
        with_reducible rfl
      rotate_left
      · simp only [Act.put, List.setIfInBounds_toArray, List.set_cons_zero, List.set_cons_succ, i64_w, i32_w]
        rfl
      refine last_ (i := 10) (N := none) #[true, true, true, true, true, true, true, true, true, true, true] rfl rfl (by kernel_rfl) (by decide) (fun K hK => ?_)
      refine skip_ (w1 := ?_) (by rfl) rfl ?_ ?_
      rotate_left
      · go_simp
        with_reducible rfl
      refine hK.out _ _ ?_
      clear hK K
      refine done_ (by kernel_rfl) ?_
      set_option maxRecDepth 1000000 in
      go_wp2
      have hfin := blk_set (blk_set (blk_set (blk_set G1.out 0 (.int .i64 a')) 1 (.int .i64 b')) 2 (.int .u64 c')) 3 (.slice A4 l.length c4)
      have hlt : w.heap.size + 1 < wc.heap.size := (Array.getElem?_eq_some_iff.1 X1.out).1
      have HO2 := HO.out
      exact bodyPost_ret (results_cell_row rfl _ _ (w.heap.size + 1) 27 #[.int .i64 a', .int .i64 b', .int .u64 c', .slice A4 l.length c4] (0, 0) _ rfl hfin Try.underlying27 rfl (by kernel_rfl)) rfl ⟨_, rfl, Kd.R_mono (Kd.R_lower (Kd.R_step HO2 (fun k hk _ => four_far w4 a' b' c' _ (by have : wc.heap.size ≤ k := hk; omega))) XB.out.size) (fun k hk => Nat.le_trans XB.out.size hk), below_set (below_set (below_set (below_set (below_then (below_drew XB.out) (Below.size (below_drew XB.out)) HB4.out) (by omega)) (by omega)) (by omega)) (by omega)⟩
end CleanWalk
theorem script_Clean.calls (k : Nat) (a0_0 : Int) (a0_1 : Int) (a0_2 : Int) (P0_3_ : Nat → Prop) (A0_3 : Option Addr) (c0_3 : Nat) (l0_3 : List (S75)) (r1 : Int) (r2 : Int) (r3 : Int) (r4 : List (S75)) (w : World) (hs0_3 : Kd.V k75 75 w w.heap.size (fun k_ => P0_3_ k_) (.slice A0_3 l0_3.length c0_3) l0_3) (h : script_Clean.f k a0_0 a0_1 a0_2 l0_3 = some (r1, r2, r3, r4)) :
    Calls Try.prog 21 #[.agg #[.int .i64 a0_0, .int .i64 a0_1, .int .u64 a0_2, .slice A0_3 l0_3.length c0_3]] w fun e w' => ∃ v3_ : Value, e = .returned (.agg #[.int .i64 r1, .int .i64 r2, .int .u64 r3, v3_]) ∧ Kd.V k75 75 w' w.heap.size (fun k_ => (P0_3_ k_ ∨ w.heap.size ≤ k_)) v3_ r4 ∧ Below w.heap.size w w' := by
  unfold script_Clean.f at h
  obtain ⟨_, hl, hC⟩ := Kd.V_reads' hs0_3
  by_cases hn : l0_3.length ≤ 1000000
  · rw [if_pos hn] at h
    simp only [Option.some.injEq, Prod.mk.injEq] at h
    obtain ⟨rfl, rfl, rfl, rfl⟩ := h
    refine (CleanWalk.clean_calls a0_0 a0_1 a0_2 A0_3 c0_3 l0_3 w hn hC hl _ rfl).mono ?_
    rintro e w' ⟨v, rfl, hr, hb⟩
    have et : l0_3.take (min l0_3.length 60000) = l0_3.take 60000 := by
      rcases Nat.le_total l0_3.length 60000 with h | h
      · rw [Nat.min_eq_left h, List.take_length, List.take_of_length_le h]
      · rw [Nat.min_eq_right h]
    rw [et] at hr
    exact ⟨v, rfl, Kd.V_mono (Kd.R_V hr) (fun _ hk => .inr hk), hb⟩
  · rw [if_neg hn] at h
    cases h

end Go.Proofs.Ytckbndckfeicmaa.PScriptCleans
