/- slices.Clone, Insert and Delete at pairs, by cells: of rows of one's own, of at most a million pairs. -/
import Derived.Test.YtocmdcjbjhpooaaProg
import Derived.Test.YtocmdcjbjhpooaaWWords
import Derived.Lib.AppendZerosOnto
import Derived.Lib.Overlaps
import Derived.Lib.SliceRun
import Derived.Deep.RegionLaw
import Derived.Shelf.RegionOpenPlain
import Derived.WalkKit
import Derived.Laws.Externs
set_option linter.unusedVariables false
set_option linter.unusedSimpArgs false
namespace Go.Proofs.Ytocmdcjbjhpooaa.InsW
open Go Go.RowKit Go.Proofs.YtocmdcjbjhpooaaW.PrintWords
/-- copy at elements of two cells. -/
theorem run_copy_two {P : Program} (w : World) (dT sT ty elem : TypeId) (b o dLen dCap : Nat) (a : Addr) (sLen sCap m : Nat) (cs : List Value)
    (hu : P.underlying dT = some (.slice elem)) (hs : (P.info? elem).map (·.size) = some 2) (hm : Nat.min sLen dLen = m) (hn : cs.length = m * 2)
    (hsrc : ∀ j v, cs[j]? = some v → w.cell? (a.add j) = some v) (hc : ∀ j, j < cs.length → (w.cell? ⟨b, o + j, none⟩).isSome = true) (hf : ∀ j, j < cs.length → w.frozen? ⟨b, o + j, none⟩ = false) (h1 : ∀ v ∈ cs, v.oneCell' = true) :
    (Builtin.copy_ #[dT, sT] ty #[.slice (some ⟨b, o, none⟩) dLen dCap, .slice (some a) sLen sCap]).run P w = .ok (goInt (m : Int)) (w.setCells b o cs) := by
  have hl := run_loadCells_list (P := P) w a cs hsrc
  rw [hn] at hl
  have hst := run_storeCells_cells (P := P) b o cs 0 w (by simpa using hc) (by simpa using hf) h1
  cases hq : P.info? elem with
  | none => simp [hq] at hs
  | some i =>
    have hi : i.size = 2 := by simpa [hq] using hs
    simp [Builtin.copy_, run_underlying hu, Builtin.lenOf, Builtin.firstCells, sizeOf, typeInfo, hq, hi, hm, hl, hst]
theorem wp_copy_at {P : Program} (w : World) {o : Oper} {a : Act} {K : Act → World → Prop} {Q : Exit → Act → World → Prop} (d s : Operand) (t : TypeId)
    (ho : o.op = .call { callee := .builtin .copy, args := #[d, s], argTypes := #[t, t] }) (v u : Value) (hd : a.eval d = v) (hs : a.eval s = u) {v' : Value} {w' : World}
    (hr : (Builtin.copy_ #[t, t] o.type #[v, u]).run P w = .ok v' w') (h : K (a.put o.dst v') w') : o.wp P a w K Q := by
  unfold Oper.wp execOp
  simp only [ho, resolve, invoke, builtin, Sem.run_bind, Sem.run_pure, Result.andThen_ok, List.map_toArray, List.map_cons, List.map_nil, hd, hs, hr]
  exact h
theorem wpList_copy_at {P : Program} (w : World) {ops : Array Oper} {rest : List Oper} {o : Oper} {a : Act} {Q : Exit → Act → World → Prop} (hgd : o.guard = none) (d s : Operand) (t : TypeId)
    (ho : o.op = .call { callee := .builtin .copy, args := #[d, s], argTypes := #[t, t] }) (v u : Value) (hd : a.eval d = v) (hs : a.eval s = u) {v' : Value} {w' : World}
    (hr : (Builtin.copy_ #[t, t] o.type #[v, u]).run P w = .ok v' w') (h : wpList P ops Q rest (a.put o.dst v') w') : wpList P ops Q (o :: rest) a w :=
  wpList_plain hgd fun _ hK => wp_copy_at w d s t ho v u hd hs hr (hK _ _ h)
theorem wpList_append_at {P : Program} (w : World) {ops : Array Oper} {rest : List Oper} {o : Oper} {a : Act} {Q : Exit → Act → World → Prop} (hgd : o.guard = none) (d s : Operand) (t t2 : TypeId)
    (ho : o.op = .call { callee := .builtin .append, args := #[d, s], argTypes := #[t, t2] }) (v u : Value) (hd : a.eval d = v) (hs : a.eval s = u) {v' : Value} {w' : World}
    (hr : (Builtin.append_ #[t, t2] o.type #[v, u]).run P w = .ok v' w') (h : wpList P ops Q rest (a.put o.dst v') w') : wpList P ops Q (o :: rest) a w := by
  refine wpList_plain hgd fun _ hK => ?_
  unfold Oper.wp execOp
  simp only [ho, resolve, invoke, builtin, Sem.run_bind, Sem.run_pure, Result.andThen_ok, List.map_toArray, List.map_cons, List.map_nil, hd, hs, hr]
  exact hK _ _ h
theorem step_append_at {P : Program} {ops : Array Oper} {o : Oper} {a : Act} {w : World} {K : Act → World → Prop} {Q : Exit → Act → World → Prop} {E : Prop} (hg : o.guard = none) (d x : Operand) (t : TypeId)
    (hop : o.op = Op.call { callee := Callee.builtin Builtin.append, args := #[d, x], argTypes := #[t, t] }) (v u : Value) (hd : a.eval d = v) (hx : a.eval x = u) {v' : Value} {w' : World}
    (hr : (Builtin.append_ #[t, t] o.type #[v, u]).run P w = .ok v' w') (hK : K (a.put o.dst v') w') : if Region.wanted o (yielded ops a.tmps) = true then Oper.wp P o a w K Q else E := by
  rw [if_pos (show Region.wanted o (yielded ops a.tmps) = true by simp [Region.wanted, hg])]
  unfold Oper.wp execOp
  simp only [hop, resolve, invoke, builtin, Sem.run_bind, Sem.run_pure, Result.andThen_ok, List.map_toArray, List.map_cons, List.map_nil, hd, hx, hr]
  exact hK
theorem step_copy_at {P : Program} {ops : Array Oper} {o : Oper} {a : Act} {w : World} {K : Act → World → Prop} {Q : Exit → Act → World → Prop} {E : Prop} (hg : o.guard = none) (d x : Operand) (t : TypeId)
    (hop : o.op = Op.call { callee := Callee.builtin Builtin.copy, args := #[d, x], argTypes := #[t, t] }) (v u : Value) (hd : a.eval d = v) (hx : a.eval x = u) {v' : Value} {w' : World}
    (hr : (Builtin.copy_ #[t, t] o.type #[v, u]).run P w = .ok v' w') (hK : K (a.put o.dst v') w') : if Region.wanted o (yielded ops a.tmps) = true then Oper.wp P o a w K Q else E := by
  rw [if_pos (show Region.wanted o (yielded ops a.tmps) = true by simp [Region.wanted, hg])]
  exact wp_copy_at w d x t hop v u hd hx hr hK
theorem below_cells {base g : Nat} {w W : World} (hb : Below base w W) (hg : base ≤ g) (o : Nat) (vs : List Value) : Below base w (W.setCells g o vs) := by
  obtain ⟨s1, s2, s3, s4⟩ := setCells_same g vs o W
  exact hb.trans ⟨s1, s2, s3, by rw [s4]; exact Nat.le_refl _, fun k hk => setCells_far vs o k (by omega)⟩
theorem blkcell_alloc {W : World} {a : Addr} {v : Value} (o : Obj) (h : W.cell? a = some v) : (W.alloc o).cell? a = some v := by
  have hlt := block_lt_of_cell h
  rw [← h]
  simp only [World.cell?, World.alloc, Array.getElem?_push, Nat.ne_of_lt hlt, if_false]
theorem own_raise_low {w : World} {base base' n : Nat} {e : TypeId} {v : Value} {xs : List Value} (h : w.ownsRow base' e 2 v n xs) (hb : base ≤ base') : w.ownsRow base e 2 v n xs := by
  refine ⟨h.1, h.2.imp id ?_⟩
  rintro ⟨g, cap, cur, h1, h2, h3⟩
  exact ⟨g, cap, cur, h1, Nat.le_trans hb h2, h3⟩
theorem splice_first {α : Type} (L Y M : List α) (a : Nat) (hY : Y.length = 2) (hL : a + 2 + M.length ≤ L.length) :
    (((L.take (a + 2) ++ M ++ L.drop (a + 2 + M.length)).take a ++ Y ++ (L.take (a + 2) ++ M ++ L.drop (a + 2 + M.length)).drop (a + Y.length))).take (a + 2 + M.length) = L.take a ++ (Y ++ M) := by
  have e1 : (L.take (a + 2) ++ M ++ L.drop (a + 2 + M.length)).take a = L.take a := by
    rw [List.append_assoc, List.take_append_of_le_length (by rw [List.length_take]; omega), List.take_take, Nat.min_eq_left (by omega)]
  have e2 : (L.take (a + 2) ++ M ++ L.drop (a + 2 + M.length)).drop (a + Y.length) = M ++ L.drop (a + 2 + M.length) := by
    rw [hY, List.append_assoc, List.drop_left' (by rw [List.length_take]; omega)]
  rw [e1, e2, ← List.append_assoc, List.append_assoc (L.take a) Y M |>.symm]
  exact List.take_left' (by simp only [List.length_append, List.length_take, hY]; omega)
theorem splice_last {α : Type} (L Y M : List α) (a : Nat) (hY : Y.length = 2) (hL : a + 2 + M.length ≤ L.length) :
    (((L.take a ++ Y ++ L.drop (a + Y.length)).take (a + 2) ++ M ++ (L.take a ++ Y ++ L.drop (a + Y.length)).drop (a + 2 + M.length))).take (a + 2 + M.length) = L.take a ++ (Y ++ M) := by
  have e1 : (L.take a ++ Y ++ L.drop (a + Y.length)).take (a + 2) = L.take a ++ Y := List.take_left' (by simp only [List.length_append, List.length_take, hY]; omega)
  rw [e1, List.append_assoc (L.take a) Y M |>.symm]
  exact List.take_left' (by simp only [List.length_append, List.length_take, hY]; omega)
abbrev T : Nat := 37
theorem info_pair : ∃ i0, Try.prog.info? 37 = some i0 ∧ i0.zero = some (.agg #[.int .i64 0, .int .i64 0]) ∧ i0.size = 2 ∧ i0.bytes = 16 := by
  have h : (Try.prog.info? 37).map (fun i => (i.zero, i.size, i.bytes)) = some (some (.agg #[.int .i64 0, .int .i64 0]), 2, 16) := by kernel_rfl
  obtain ⟨i, hi, he⟩ := Option.map_eq_some_iff.1 h
  simp only [Prod.mk.injEq] at he
  exact ⟨i, hi, he.1, he.2.1, he.2.2⟩
theorem size_pair : (Try.prog.info? 37).map (·.size) = some 2 := by kernel_rfl
theorem sizeOf_pair (w : World) : (sizeOf 37).run Try.prog w = .ok 2 w := by
  obtain ⟨i0, hi, _, hs, _⟩ := info_pair
  simp [sizeOf, typeInfo, hi, hs]
section
variable (w : World) (base n : Nat) (v : Value) (cells : List Value)
set_option maxHeartbeats 4000000 in
set_option maxRecDepth 100000 in
/-- Insert at the end. -/
theorem insert_end (vb vc : Nat) (k x : Int) (hn : n ≤ 1000000) (hown : w.ownsRow base 37 2 v n cells) (hs : ∃ A c, v = .slice A n c) (hb : base ≤ w.heap.size) (hv : w.heap[vb]? = some (.cells #[.int .i64 k, .int .i64 x] 37 (0, 0))) :
    Calls Try.prog 98 #[v, .int .i64 n, .slice (some ⟨vb, 0, none⟩) 1 vc] w fun e w' => ∃ v', e = .returned v' ∧ w'.ownsRow base 37 2 v' (n + 1) (cells ++ [.int .i64 k, .int .i64 x]) ∧ Below base w w' := by
  obtain ⟨i0, hi0, hz0, hz1, hz2⟩ := info_pair
  obtain ⟨A, c, rfl⟩ := hs
  have hcell : ∀ j u, ([.int .i64 k, .int .i64 x] : List Value)[j]? = some u → w.cell? ((⟨vb, 0, none⟩ : Addr).add j) = some u := by
    intro j u hj
    rw [add_at, Nat.zero_add, cell_of_row w vb j _ 37 (0, 0) hv]
    simpa using hj
  have hnc : n ≤ c := by
    rcases hown.2 with ⟨h1, h2⟩ | ⟨g, cap, cur, h1, _, _, h2, _⟩
    · injection h1; omega
    · injection h1; omega
  have H := Aside0.mk hown
  have HV := Aside0.mk hcell
  clear hown hv hcell
  go_enter Try.func98, Try.ntmps98
  go_wp2_with (at_builtin; refine wpList_append_own _ rfl _ _ 30 rfl base 37 i0 (.agg #[.int .i64 0, .int .i64 0]) 2 16 Try.underlying30 hi0 hz0 hz1 hz2 rfl (by decide) (.slice A n c) n cells rfl H.out ⟨vb, 0, none⟩ 1 vc [.int .i64 k, .int .i64 x] rfl rfl HV.out (fun u hu => by simp at hu; rcases hu with rfl | rfl <;> rfl) (by unfold maxLen; omega) (by omega) hb ?_; intro v' w3 hown' hgrow3 hnil3; have X := Aside0.mk hown'; have Y := Aside0.mk hgrow3; clear hown' hgrow3 hnil3)
  all_goals go_ret
  all_goals exact ⟨_, rfl, X.out, (Below.refl base w).grown Y.out hb (fun k hk => own_base H.out k hk)⟩
set_option maxHeartbeats 4000000 in
set_option maxRecDepth 100000 in
/-- Insert in place. -/
theorem insert_room (g c i vb vc : Nat) (k x : Int) (hn : n ≤ 1000000) (hi : i < n) (hc : n + 1 ≤ c) (hc63 : c ≤ 9223372036854775807) (hbg : base ≤ g) (cur : Array Value) (hg : w.heap[g]? = some (.cells cur 37 (0, 0))) (hcs : cur.size = c * 2) (hcl : cells.length = n * 2) (ht : cur.toList.take (n * 2) = cells) (h1 : ∀ u ∈ cells, u.oneCell' = true)
    (hvb : vb ≠ g) (hv : w.heap[vb]? = some (.cells #[.int .i64 k, .int .i64 x] 37 (0, 0))) :
    Calls Try.prog 98 #[.slice (some ⟨g, 0, none⟩) n c, .int .i64 i, .slice (some ⟨vb, 0, none⟩) 1 vc] w fun e w' => ∃ v', e = .returned v' ∧ w'.ownsRow base 37 2 v' (n + 1) (cells.take (i * 2) ++ ([.int .i64 k, .int .i64 x] ++ cells.drop (i * 2))) ∧ Below base w w' := by
  have hdl : (cells.drop (i * 2)).length = (n - i) * 2 := by rw [List.length_drop, hcl]; omega
  have hcell : ∀ j u, cells[j]? = some u → w.cell? ⟨g, j, none⟩ = some u := by
    intro j u hj
    have hjl : j < n * 2 := by rw [← hcl]; exact (List.getElem?_eq_some_iff.1 hj).1
    rw [cell_of_row w g j _ 37 (0, 0) hg, ← Array.getElem?_toList]
    rw [← ht, List.getElem?_take, if_pos hjl] at hj
    exact hj
  have hsome : ∀ j, j < c * 2 → (w.cell? ⟨g, j, none⟩).isSome = true := by
    intro j hj
    rw [cell_of_row w g j _ 37 (0, 0) hg, Array.getElem?_eq_getElem (by omega)]
    rfl
  have hfro : ∀ j, w.frozen? ⟨g, j, none⟩ = false := fun j => blk_frozen hg j
  have hvc : ∀ j u, ([.int .i64 k, .int .i64 x] : List Value)[j]? = some u → w.cell? ⟨vb, j, none⟩ = some u := by
    intro j u hj
    rw [cell_of_row w vb j _ 37 (0, 0) hv]
    simpa using hj
  have hov : ∀ lb cb, (callFunc 113 #[.slice (some ⟨vb, 0, none⟩) 1 vc, .slice (some ⟨g, (i + 1) * 2, none⟩) lb cb]).run Try.prog w = .ok (.value (.bool false)) w := fun lb cb => by
    rw [run_callFunc_extern Try.func113 (by kernel_rfl) (by kernel_rfl) (by kernel_rfl) (e := Extern.SlicesOverlaps.overlaps #[30, 30] #[4]) (by kernel_rfl),
      Lib.run_overlaps_apart w 30 4 37 Try.underlying30 2 sizeOf_pair ⟨vb, 0, none⟩ ⟨g, (i + 1) * 2, none⟩ 1 vc lb cb hvb 37 37 2 (c * 2) (by simp [World.shape?, hv]) (by simp [World.shape?, hg, hcs]) (by omega) (blk_frozen hv _) (blk_frozen hv _)]
    rfl
  have hcp1 : ∀ ty dc sc, (Builtin.copy_ #[30, 30] ty #[.slice (some ⟨g, (i + 1) * 2, none⟩) (n - i) dc, .slice (some ⟨g, i * 2, none⟩) (n + 1 - i) sc]).run Try.prog w.drew = .ok (goInt ((n - i : Nat) : Int)) (w.drew.setCells g ((i + 1) * 2) (cells.drop (i * 2))) := fun ty dc sc =>
    run_copy_two w.drew _ _ ty 37 g ((i + 1) * 2) (n - i) dc ⟨g, i * 2, none⟩ (n + 1 - i) sc (n - i) (cells.drop (i * 2)) Try.underlying30 size_pair (by simp only [Nat.min_def]; split <;> omega) hdl
      (fun j v hj => by rw [add_at]; exact hcell (i * 2 + j) v (by rwa [List.getElem?_drop] at hj))
      (fun j hj => hsome _ (by rw [hdl] at hj; omega)) (fun j hj => hfro _) (fun v hv => h1 v (List.mem_of_mem_drop hv))
  obtain ⟨W1, hW1⟩ : ∃ W1, W1 = w.drew.setCells g ((i + 1) * 2) (cells.drop (i * 2)) := ⟨_, rfl⟩
  rw [← hW1] at hcp1
  obtain ⟨cur1, hg1, hs1, hl1⟩ := setCells_row (cells.drop (i * 2)) ((i + 1) * 2) w.drew cur hg (by rw [hdl]; omega)
  rw [← hW1] at hg1
  have hv1 : W1.heap[vb]? = some (.cells #[.int .i64 k, .int .i64 x] 37 (0, 0)) := by rw [hW1, setCells_far _ _ _ hvb]; exact hv
  have hcp2 : ∀ (W : World), W.heap = W1.heap → ∀ ty dc, (Builtin.copy_ #[30, 30] ty #[.slice (some ⟨g, i * 2, none⟩) (n + 1 - i) dc, .slice (some ⟨vb, 0, none⟩) 1 vc]).run Try.prog W = .ok (goInt ((1 : Nat) : Int)) (W.setCells g (i * 2) [.int .i64 k, .int .i64 x]) := fun W hW ty dc =>
    run_copy_two W _ _ ty 37 g (i * 2) (n + 1 - i) dc ⟨vb, 0, none⟩ 1 vc 1 [.int .i64 k, .int .i64 x] Try.underlying30 size_pair (by simp only [Nat.min_def]; split <;> omega) rfl
      (fun j v hj => by
        rw [add_at, cell_of_row W vb _ _ 37 (0, 0) (by rw [hW]; exact hv1)]
        simpa using hj)
      (fun j hj => by
        rw [cell_of_row W g _ _ 37 (0, 0) (by rw [hW]; exact hg1), Array.getElem?_eq_getElem (by simp at hj; omega)]
        rfl)
      (fun j hj => blk_frozen (by rw [hW]; exact hg1) _) (fun u hu => by simp at hu; rcases hu with rfl | rfl <;> rfl)
  have fin : ∃ cur2, (W1.setCells g (i * 2) [.int .i64 k, .int .i64 x]).heap[g]? = some (.cells cur2 37 (0, 0)) ∧ cur2.size = c * 2 ∧ cur2.toList.take ((n + 1) * 2) = cells.take (i * 2) ++ ([.int .i64 k, .int .i64 x] ++ cells.drop (i * 2)) := by
    obtain ⟨cur2, g2, s2, l2⟩ := setCells_row [.int .i64 k, .int .i64 x] (i * 2) W1 cur1 hg1 (by rw [hs1, hcs]; simp; omega)
    refine ⟨cur2, g2, by rw [s2, hs1, hcs], ?_⟩
    have h5 := splice_first cur.toList [Value.int .i64 k, .int .i64 x] (cells.drop (i * 2)) (i * 2) rfl (by rw [hdl, Array.length_toList, hcs]; omega)
    have h6 : cur.toList.take (i * 2) = cells.take (i * 2) := by rw [← ht, List.take_take, Nat.min_eq_left (by omega)]
    rw [l2, hl1, show (i + 1) * 2 = i * 2 + 2 by omega, show (n + 1) * 2 = i * 2 + 2 + (cells.drop (i * 2)).length by rw [hdl]; omega, h5, h6]
  have bel : Below base w (W1.setCells g (i * 2) [.int .i64 k, .int .i64 x]) := by
    rw [hW1]
    exact below_cells (below_cells (below_drew (Below.refl _ _)) hbg _ _) hbg _ _
  have HF := Aside0.mk fin
  have HL := Aside0.mk bel
  have q1 : ¬ ((i : Int) = (n : Int)) := by omega
  have q2 : ¬ ((c : Int) < (n : Int) + 1) := by omega
  have q3 : IntKind.i64.wrap ((n : Int) + 1) = (n : Int) + 1 := by rw [IntKind.wrap_i64]; omega
  have q4 : IntKind.i64.wrap ((i : Int) + 1) = (i : Int) + 1 := by rw [IntKind.wrap_i64]; omega
  have q5 : ¬ (c = i) := by omega
  have q6 : ¬ (c = i + 1) := by omega
  have q7 : ((i : Int) + 1).toNat = i + 1 := by omega
  have q8 : ((n : Int) + 1).toNat = n + 1 := by omega
  have q9 : i ≤ n + 1 := by omega
  have q10 : (0 : Int) ≤ (i : Int) + 1 := by omega
  have q11 : i ≤ n := by omega
  have q12 : (i : Int) ≤ (n : Int) + 1 := by omega
  have mixed : Try.prog.follows Departure.mixedOrders = true := by kernel_rfl
  clear hg hv hg1 hv1 hsome hfro hcell hvc h1 hW1 ht hdl hs1 hl1 fin bel
  go_enter Try.func98, Try.ntmps98
  go_wp2_with (simp only [hov])
  go_region_law_o (refine step_copy_at rfl _ _ 30 rfl _ _ (by simp [Act.eval, Act.put]) (by simp [Act.eval, Act.put]) (hcp1 _ _ _) ?_)
  go_wp2_with (at_builtin; refine wpList_copy_at _ rfl _ _ 30 rfl _ _ rfl rfl (hcp2 _ rfl _ _) ?_)
  go_ret
  obtain ⟨cur2, g2, s2, t2⟩ := HF.out
  refine ⟨.slice (some ⟨g, 0, none⟩) (n + 1) c, rfl, ⟨?_, .inr ⟨g, c, cur2, rfl, hbg, g2, hc, by unfold maxLen; omega, s2, t2⟩⟩, HL.out⟩
  simp only [List.length_append, List.length_take, List.length_drop, List.length_cons, List.length_nil, hcl]
  omega
set_option maxHeartbeats 1000000 in
set_option maxRecDepth 100000 in
/-- Insert into a new row. -/
theorem insert_grow (g c i vb vc : Nat) (k x : Int) (hn : n ≤ 1000000) (hi : i < n) (hc : c = n) (hbw : base ≤ w.heap.size) (cur : Array Value) (hg : w.heap[g]? = some (.cells cur 37 (0, 0))) (hcs : cur.size = c * 2) (hcl : cells.length = n * 2) (ht : cur.toList.take (n * 2) = cells) (h1 : ∀ u ∈ cells, u.oneCell' = true)
    (hv : w.heap[vb]? = some (.cells #[.int .i64 k, .int .i64 x] 37 (0, 0))) :
    Calls Try.prog 98 #[.slice (some ⟨g, 0, none⟩) n c, .int .i64 i, .slice (some ⟨vb, 0, none⟩) 1 vc] w fun e w' => ∃ v', e = .returned v' ∧ w'.ownsRow base 37 2 v' (n + 1) (cells.take (i * 2) ++ ([.int .i64 k, .int .i64 x] ++ cells.drop (i * 2))) ∧ Below base w w' := by
  subst hc
  obtain ⟨i0, hi0, hz0, hzs, hzb⟩ := info_pair
  have hdl : (cells.drop (i * 2)).length = (c - i) * 2 := by rw [List.length_drop, hcl]; omega
  have htl : (cells.take (i * 2)).length = i * 2 := by rw [List.length_take, hcl]; omega
  have hgl : g < w.heap.size := (Array.getElem?_eq_some_iff.1 hg).1
  have hvl : vb < w.heap.size := (Array.getElem?_eq_some_iff.1 hv).1
  have hcell : ∀ j u, cells[j]? = some u → w.cell? ⟨g, j, none⟩ = some u := by
    intro j u hj
    have hjl : j < c * 2 := by rw [← hcl]; exact (List.getElem?_eq_some_iff.1 hj).1
    rw [cell_of_row w g j _ 37 (0, 0) hg, ← Array.getElem?_toList]
    rw [← ht, List.getElem?_take, if_pos hjl] at hj
    exact hj
  have hold : (Builtin.firstCells i0.size i (.slice (some ⟨g, 0, none⟩) i c)).run Try.prog w.drew = .ok (cells.take (i * 2)).toArray w.drew := by
    rw [hzs]
    exact run_firstCells_some w.drew 2 i ⟨g, 0, none⟩ i c (cells.take (i * 2)) htl (fun j v hj => by
      rw [add_at, Nat.zero_add]
      rw [List.getElem?_take] at hj
      split at hj
      · exact hcell j v hj
      · cases hj)
  obtain ⟨G, hG⟩ : ∃ G, G = grownCap w (c + 1) c 37 := ⟨_, rfl⟩
  obtain ⟨ROW, hROW⟩ : ∃ ROW : Array Value, ROW = (cells.take (i * 2)).toArray ++ Builtin.zeroCells (Value.agg #[.int .i64 0, .int .i64 0]).cells (c + 1 - i) ++ Builtin.zeroCells (Value.agg #[.int .i64 0, .int .i64 0]).cells (G - (c + 1)) := ⟨_, rfl⟩
  have hGn : c + 1 ≤ G := by rw [hG]; exact grownCap_ge w _ _ _
  have hG63 : G ≤ 9223372036854775807 := by
    have := grownCap_le_maxLen w (c + 1) c 37 (by unfold maxLen; omega)
    rw [← hG] at this
    unfold maxLen at this
    omega
  have hRs : ROW.size = G * 2 := by
    rw [hROW]
    simp [Builtin.zeroCells, Value.cells, hcl]
    omega
  have hRt : ROW.toList.take (i * 2) = cells.take (i * 2) := by
    rw [hROW]
    simp only [Array.toList_append]
    rw [List.append_assoc]
    exact List.take_left' htl
  have hrz : ∀ ty, (Builtin.append_ #[30, 3] ty #[.slice (some ⟨g, 0, none⟩) i c, .int .i64 ((c : Int) + 1 - (i : Int))]).run Try.prog w =
      .ok (.slice (some ⟨w.heap.size, 0, none⟩) (c + 1) G) (w.drew.alloc (.cells ROW 37)) := fun ty => by
    have h := Lib.run_append_grow_zeros w 30 3 ty 37 i0 _ .i64 .i64 Try.underlying30 Try.underlying3 hi0 hz0 (some ⟨g, 0, none⟩) i c (cells.take (i * 2)) hold (c + 1 - i) (by omega) (by omega) (by omega) (by omega) (by rw [hzb]; omega) (by rw [hzb, show i + (c + 1 - i) = c + 1 by omega]; exact growslice_fits (by omega) (by omega))
    rw [show i + (c + 1 - i) = c + 1 by omega, ← hG, ← hROW] at h
    rw [show (c : Int) + 1 - (i : Int) = ((c + 1 - i : Nat) : Int) by omega]
    exact h
  obtain ⟨W1, hW1⟩ : ∃ W1, W1 = w.drew.alloc (.cells ROW 37) := ⟨_, rfl⟩
  have hg1 : W1.heap[w.heap.size]? = some (.cells ROW 37 (0, 0)) := by rw [hW1]; exact heap_alloc_new w.drew _
  have hv1 : W1.heap[vb]? = some (.cells #[.int .i64 k, .int .i64 x] 37 (0, 0)) := by rw [hW1]; exact blk_alloc (w := w.drew) hv _
  have hgo1 : W1.heap[g]? = some (.cells cur 37 (0, 0)) := by rw [hW1]; exact blk_alloc (w := w.drew) hg _
  have hcpA : ∀ (W : World), W.heap = W1.heap → ∀ ty dc, (Builtin.copy_ #[30, 30] ty #[.slice (some ⟨w.heap.size, i * 2, none⟩) (c + 1 - i) dc, .slice (some ⟨vb, 0, none⟩) 1 vc]).run Try.prog W = .ok (goInt ((1 : Nat) : Int)) (W.setCells w.heap.size (i * 2) [.int .i64 k, .int .i64 x]) := fun W hW ty dc =>
    run_copy_two W _ _ ty 37 w.heap.size (i * 2) (c + 1 - i) dc ⟨vb, 0, none⟩ 1 vc 1 [.int .i64 k, .int .i64 x] Try.underlying30 size_pair (by simp only [Nat.min_def]; split <;> omega) rfl
      (fun j v hj => by
        rw [add_at, cell_of_row W vb _ _ 37 (0, 0) (by rw [hW]; exact hv1)]
        simpa using hj)
      (fun j hj => by
        rw [cell_of_row W _ _ _ 37 (0, 0) (by rw [hW]; exact hg1), Array.getElem?_eq_getElem (by simp at hj; omega)]
        rfl)
      (fun j hj => blk_frozen (by rw [hW]; exact hg1) _) (fun u hu => by simp at hu; rcases hu with rfl | rfl <;> rfl)
  obtain ⟨W2, hW2⟩ : ∃ W2, W2 = W1.setCells w.heap.size (i * 2) [.int .i64 k, .int .i64 x] := ⟨_, rfl⟩
  obtain ⟨cur1, hg2, hs1, hl1⟩ := setCells_row [.int .i64 k, .int .i64 x] (i * 2) W1 ROW hg1 (by rw [hRs]; simp; omega)
  have hgo2 : W2.heap[g]? = some (.cells cur 37 (0, 0)) := by rw [hW2, setCells_far _ _ _ (by omega)]; exact hgo1
  rw [← hW2] at hg2
  have hcpB : ∀ (W : World), W.heap = W2.heap → ∀ ty dc sc, (Builtin.copy_ #[30, 30] ty #[.slice (some ⟨w.heap.size, (i + 1) * 2, none⟩) (c - i) dc, .slice (some ⟨g, i * 2, none⟩) (c - i) sc]).run Try.prog W = .ok (goInt ((c - i : Nat) : Int)) (W.setCells w.heap.size ((i + 1) * 2) (cells.drop (i * 2))) := fun W hW ty dc sc =>
    run_copy_two W _ _ ty 37 w.heap.size ((i + 1) * 2) (c - i) dc ⟨g, i * 2, none⟩ (c - i) sc (c - i) (cells.drop (i * 2)) Try.underlying30 size_pair (Nat.min_self _) hdl
      (fun j v hj => by
        rw [List.getElem?_drop] at hj
        have := hcell (i * 2 + j) v hj
        rw [cell_of_row w g _ _ 37 (0, 0) hg] at this
        rw [add_at, cell_of_row W g _ _ 37 (0, 0) (by rw [hW]; exact hgo2)]
        exact this)
      (fun j hj => by
        rw [cell_of_row W _ _ _ 37 (0, 0) (by rw [hW]; exact hg2), Array.getElem?_eq_getElem (by rw [hdl] at hj; omega)]
        rfl)
      (fun j hj => blk_frozen (by rw [hW]; exact hg2) _) (fun v hv => h1 v (List.mem_of_mem_drop hv))
  have fin : ∀ W : World, W.heap = W2.heap → ∃ cur2, (W.setCells w.heap.size ((i + 1) * 2) (cells.drop (i * 2))).heap[w.heap.size]? = some (.cells cur2 37 (0, 0)) ∧ cur2.size = G * 2 ∧ cur2.toList.take ((c + 1) * 2) = cells.take (i * 2) ++ ([.int .i64 k, .int .i64 x] ++ cells.drop (i * 2)) := by
    intro W hW
    obtain ⟨cur2, g2, s2, l2⟩ := setCells_row (cells.drop (i * 2)) ((i + 1) * 2) W cur1 (by rw [hW]; exact hg2) (by rw [hs1, hRs, hdl]; omega)
    refine ⟨cur2, g2, by rw [s2, hs1, hRs], ?_⟩
    have h5 := splice_last ROW.toList [Value.int .i64 k, .int .i64 x] (cells.drop (i * 2)) (i * 2) rfl (by rw [hdl, Array.length_toList, hRs]; omega)
    rw [l2, hl1, show (i + 1) * 2 = i * 2 + 2 by omega, show (c + 1) * 2 = i * 2 + 2 + (cells.drop (i * 2)).length by rw [hdl]; omega, h5, hRt]
  have hE : ∀ W : World, W.heap = (w.alloc (.cells ROW 37)).heap → W.heap = W1.heap := fun W h => by rw [h, hW1]; rfl
  have hE2 : ∀ W : World, W.heap = ((w.alloc (.cells ROW 37)).drew.setCells w.heap.size (i * 2) [.int .i64 k, .int .i64 x]).heap → W.heap = W2.heap := fun W h => by rw [h, hW2, hW1]; rfl
  have HF := Aside0.mk fin
  have HE := Aside0.mk hE
  have HE2 := Aside0.mk hE2
  have q1 : ¬ ((i : Int) = (c : Int)) := by omega
  have q2 : (c : Int) < (c : Int) + 1 := by omega
  have q3 : IntKind.i64.wrap ((c : Int) + 1) = (c : Int) + 1 := by rw [IntKind.wrap_i64]; omega
  have q4 : IntKind.i64.wrap ((i : Int) + 1) = (i : Int) + 1 := by rw [IntKind.wrap_i64]; omega
  have q14 : IntKind.i64.wrap ((c : Int) + 1 - (i : Int)) = (c : Int) + 1 - (i : Int) := by rw [IntKind.wrap_i64]; omega
  have q5 : ¬ (c = i) := by omega
  have q15 : ¬ (G = i) := by omega
  have q16 : ¬ (G = i + 1) := by omega
  have q7 : ((i : Int) + 1).toNat = i + 1 := by omega
  have q9 : i ≤ c + 1 := by omega
  have q10 : (0 : Int) ≤ (i : Int) + 1 := by omega
  have q11 : i ≤ c := by omega
  have q12 : (i : Int) ≤ (c : Int) + 1 := by omega
  have q13 : (i : Int) ≤ (c : Int) := by omega
  have mixed : Try.prog.follows Departure.mixedOrders = true := by kernel_rfl
  rw [← hW1] at hrz
  subst hW1
  clear hg hv hg1 hv1 hcell h1 hW2 ht hdl hs1 hl1 fin hE hE2 hgo1 hgo2 hg2 hRs hRt hROW hold hG htl
  go_enter Try.func98, Try.ntmps98
  go_wp2_with (at_builtin; refine wpList_append_at _ rfl _ _ 30 3 rfl _ _ rfl rfl (hrz _) ?_)
  rw [hcpA ((w.alloc (.cells ROW 37)).drew) (HE.out _ rfl) 3 (G - i)]
  go_wp2_with fail
  go_region_law_o (refine step_copy_at rfl _ _ 30 rfl (.slice (some ⟨w.heap.size, (i + 1) * 2, none⟩) (c - i) (G - (i + 1))) (.slice (some ⟨g, i * 2, none⟩) (c - i) (c - i)) (by simp [Act.eval, Act.put]) (by simp [Act.eval, Act.put]) (by refine hcpB _ ?_ _ _ _; exact HE2.out _ rfl) ?_)
  go_wp2
  go_ret
  obtain ⟨cur2, g2, s2, t2⟩ := HF.out _ (HE2.out (((w.alloc (.cells ROW 37)).drew.setCells w.heap.size (i * 2) [.int .i64 k, .int .i64 x]).drew) rfl)
  refine ⟨.slice (some ⟨w.heap.size, 0, none⟩) (c + 1) G, rfl, ⟨?_, .inr ⟨w.heap.size, G, cur2, rfl, hbw, g2, hGn, by unfold maxLen; omega, s2, t2⟩⟩, below_cells (below_drew (below_cells (below_drew ((Below.refl base w).alloc hbw _)) hbw _ _)) hbw _ _⟩
  simp only [List.length_append, List.length_take, List.length_drop, List.length_cons, List.length_nil, hcl]
  omega
set_option maxHeartbeats 4000000 in
set_option maxRecDepth 100000 in
/-- Clone of a slice that came in, or is another's. -/
theorem clone_calls (A : Option Addr) (c : Nat) (hn : n ≤ 1000000) (hcl : cells.length = n * 2) (h1 : ∀ u ∈ cells, u.oneCell' = true) (hA : A = none → n = 0) (hc : ∀ ad, A = some ad → ∀ j u, cells[j]? = some u → w.cell? (ad.add j) = some u) :
    Calls Try.prog 62 #[.slice A n c] w fun e w' => ∃ v', e = .returned v' ∧ w'.ownsRow w.heap.size 37 2 v' n cells ∧ Below w.heap.size w w' := by
  obtain ⟨i0, hi0, hz0, hz1, hz2⟩ := info_pair
  have mixed : Try.prog.follows Departure.mixedOrders = true := by kernel_rfl
  have q39 : ∀ (w : World) (a : Option Addr) (n c n' c' : Nat), (binOp .eql 30 (.slice a n c) (.slice none n' c')).run Try.prog w = .ok (.bool a.isNone) w := fun w a n c n' c' => Lib.run_eql_slice_nil w 30 37 a n c n' c' Try.underlying30
  cases A with
  | none =>
    obtain rfl := hA rfl
    obtain rfl : cells = [] := List.eq_nil_of_length_eq_zero hcl
    clear hc h1
    go_enter Try.func62, Try.ntmps62
    go_wp2
    go_ret
    exact ⟨_, rfl, World.ownsRow_nil _ _ _ _, Below.refl _ _⟩
  | some ad =>
    have HC := Aside0.mk (hc ad rfl)
    have H1 := Aside0.mk h1
    clear hc h1 hA
    go_enter Try.func62, Try.ntmps62
    go_wp2_with (at_builtin; refine wpList_append_own _ rfl _ _ 30 rfl w.heap.size 37 i0 (.agg #[.int .i64 0, .int .i64 0]) 2 16 Try.underlying30 hi0 hz0 hz1 hz2 rfl (by decide) _ _ _ rfl (World.ownsRow_made w #[] 0 (Nat.le_refl _) (Nat.zero_le _) rfl) ad n c cells rfl hcl (fun j u hj => blkcell_alloc _ (HC.out j u hj)) H1.out (by unfold maxLen; omega) (by omega) (by simp) ?_; intro v' w3 hown' hgrow3 hnil3; have X := Aside0.mk hown'; have Y := Aside0.mk hgrow3; clear hown' hgrow3 hnil3)
    go_ret
    refine ⟨_, rfl, by have := X.out; simpa using this, ?_⟩
    exact ((Below.refl _ w).alloc (Nat.le_refl _) _).grown Y.out (by simp) (fun k hk => Nat.le_of_eq (Option.some.inj (show some w.heap.size = some k from hk)))
set_option maxHeartbeats 4000000 in
set_option maxRecDepth 100000 in
theorem insert_calls (w4 : World) (i vb vc : Nat) (k x : Int) (base' : Nat) (hn : n ≤ 1000000) (hi : i ≤ n) (hown : w4.ownsRow base' 37 2 v n cells) (hb4 : Below w4.heap.size w4 w) (h1 : ∀ u ∈ cells, u.oneCell' = true) (hbb : base ≤ base') (hbw : base ≤ w.heap.size) (hvb : w4.heap.size ≤ vb ∨ vb < base')
    (hv : w.heap[vb]? = some (.cells #[.int .i64 k, .int .i64 x] 37 (0, 0))) :
    Calls Try.prog 98 #[v, .int .i64 i, .slice (some ⟨vb, 0, none⟩) 1 vc] w fun e w' => ∃ v', e = .returned v' ∧ w'.ownsRow base 37 2 v' (n + 1) (cells.take (i * 2) ++ ([.int .i64 k, .int .i64 x] ++ cells.drop (i * 2))) ∧ Below base w w' := by
  have hown2 : w.ownsRow base 37 2 v n cells := by
    refine own_raise_low (own_move hown fun k hk => hb4.block k ?_) hbb
    obtain ⟨cs, hc⟩ := own_typed hown k hk
    exact (Array.getElem?_eq_some_iff.1 hc).1
  by_cases hin : i = n
  · subst hin
    have e1 : cells.take (i * 2) = cells := List.take_of_length_le (by rw [hown.1]; exact Nat.le_refl _)
    have e2 : cells.drop (i * 2) = [] := List.drop_eq_nil_of_le (by rw [hown.1]; exact Nat.le_refl _)
    rw [e1, e2]
    refine insert_end w base i v cells vb vc k x hn hown2 ?_ hbw hv
    rcases hown2.2 with ⟨rfl, rfl⟩ | ⟨g, cap, _, rfl, _⟩
    · exact ⟨_, _, rfl⟩
    · exact ⟨_, _, rfl⟩
  · rcases hown2.2 with ⟨rfl, rfl⟩ | ⟨g, cap, cur, rfl, hbg, hg, hnc, hcm, hcs, ht⟩
    · omega
    · by_cases hroom : n + 1 ≤ cap
      · refine insert_room w base n cells g cap i vb vc k x hn (by omega) hroom (by unfold maxLen at hcm; omega) hbg cur hg hcs hown.1 ht h1 ?_ hv
        rintro rfl
        rcases hvb with h | h
        · obtain ⟨cs, hc⟩ := own_typed hown vb (by simp [Value.ownBlock])
          have := (Array.getElem?_eq_some_iff.1 hc).1
          omega
        · have := own_base hown vb (by simp [Value.ownBlock])
          omega
      · exact insert_grow w base n cells g cap i vb vc k x hn (by omega) (by omega) hbw cur hg hcs hown.1 ht h1 hv
end
end Go.Proofs.Ytocmdcjbjhpooaa.InsW
