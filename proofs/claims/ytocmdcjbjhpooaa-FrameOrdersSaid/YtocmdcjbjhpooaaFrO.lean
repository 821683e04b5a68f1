/- What the law asks of a thread and of the document's: do both tell the same? -/
import Derived.Test.YtocmdcjbjhpooaaFrN
import Derived.Test.YtocmdcjbjhpooaaFrSame
import Derived.ChangeKeysEq
set_option linter.unusedVariables false
set_option linter.unusedSimpArgs false
namespace Go.Proofs.Ytocmdcjbjhpooaa.FrW
open Go Go.RowKit Go.Proofs.YtocmdcjbjhpooaaW.PrintWords Go.Proofs.YtocmdcjbjhpooaaW.PrintLast Go.Proofs.YtocmdcjbjhpooaaW.PrintMore Go.Proofs.Ytocmdcjbjhpooaa.PFrameOrders Go.Proofs.Ytocmdcjbjhpooaa.GRow Go.Proofs.Ytocmdcjbjhpooaa.Num Go.Proofs.Ytocmdcjbjhpooaa.Bxs Go.Proofs.Ytocmdcjbjhpooaa.InsW
theorem part_u64 (cs : List Value) (i : Nat) (x : Int) (h : cs[i]? = some (.int .u64 x)) (w : World) : (part 27 cs.toArray (i * 1)).run Try.prog w = .ok (.int .u64 x) w := by
  have hu := Try.underlying27
  rw [Nat.mul_one]
  simp [part, isAgg, run_underlying hu, h]
theorem items_u64 (cs : List Value) (d : Nat) (w : World) : ∀ is : List Nat, (∀ i ∈ is, ∃ x, cs[i]? = some (.int .u64 x)) → (Op.eqItems (d + 1) 27 1 cs.toArray cs.toArray is).run Try.prog w = .ok true w
  | [], _ => by simp [Op.eqItems]
  | i :: is, h => by
    obtain ⟨x, hx⟩ := h i List.mem_cons_self
    have ih := items_u64 cs d w is (fun j hj => h j (List.mem_cons_of_mem _ hj))
    have he := run_equalIn_int (P := Try.prog) w d 27 .u64 .u64 x x Try.underlying27
    simp only [Op.eqItems, Sem.run_bind, part_u64 cs i x hx w, he, Result.andThen_ok, beq_self_eq_true, Bool.not_true, Bool.false_eq_true, if_false]
    exact ih
theorem ws_at (n : Nat) (r : Nat → Int) (i : Nat) (hi : i < n) : (ws n r)[i]? = some (.int .u64 (r i)) := by rw [List.getElem?_eq_getElem (by rw [ws_len]; exact hi), ws_get _ _ _ hi]
theorem cells_u64 : Try.prog.cellsOf 27 = 1 := by kernel_rfl
theorem arr_same {t n : Nat} (hu : Try.prog.underlying t = some (.array n 27)) (r : Nat → Int) (d : Nat) (w : World) : (Op.equalIn (d + 2) t (.agg (ws n r).toArray) (.agg (ws n r).toArray)).run Try.prog w = .ok true w := by
  obtain ⟨i0, hi, _⟩ := info_u64
  rw [run_equalIn_array w (d + 1) _ _ hu hi, cells_u64]
  exact items_u64 _ d w _ (fun i hi => ⟨r i, ws_at n r i (List.mem_range.1 hi)⟩)
theorem ret_same (r : Nat → Int) (w : World) : (binOp .neq 28 (.agg (ws 12 r).toArray) (.agg (ws 12 r).toArray)).run Try.prog w = .ok (.bool false) w := by
  rw [run_neq_struct, arr_same Try.underlying28 r 9998 w]
  rfl
theorem part_int (t : Nat) (hu : ∃ d, Try.prog.underlying t = some (.int d)) (cs : Array Value) (o : Nat) (v : Value) (h : cs[o]? = some v) (w : World) : (part t cs o).run Try.prog w = .ok v w := by
  obtain ⟨d, hd⟩ := hu
  simp [part, isAgg, run_underlying hd, h]
theorem part_regs (f : Co) (w : World) : (part 48 (gC f).toArray 2).run Try.prog w = .ok (.agg (ws 24 f.2.2).toArray) w := by
  have hu := Try.underlying48
  obtain ⟨i0, hi, hs⟩ : ∃ i0, Try.prog.info? 48 = some i0 ∧ i0.size = 24 := by
    have h : (Try.prog.info? 48).map (·.size) = some 24 := by kernel_rfl
    exact Option.map_eq_some_iff.1 h
  have he : (gC f).toArray.extract 2 26 = (ws 24 f.2.2).toArray := by
    simp [gC, List.take_of_length_le, ws_len]
  simp [part, isAgg, run_underlying hu, sizeOf, typeInfo, hi, hs, he]
  show List.take 24 (ws 24 f.2.2) = _
  exact List.take_of_length_le (Nat.le_of_eq (ws_len _ _))
theorem frame_eq (f : Co) (w : World) : (Op.equalIn 10000 113 (.agg (gC f).toArray) (.agg (gC f).toArray)).run Try.prog w = .ok true w := by
    show (Op.equalIn (9999 + 1) 113 (.agg (gC f).toArray) (.agg (gC f).toArray)).run Try.prog w = .ok true w
    refine eqA_of Try.underlying113 (by kernel_rfl) ?_
    have h1 : (part 3 (gC f).toArray 0).run Try.prog w = .ok (.int .i64 f.1) w := part_int _ ⟨_, Try.underlying3⟩ _ _ _ rfl w
    have h2 : (part 3 (gC f).toArray 1).run Try.prog w = .ok (.int .i64 f.2.1) w := part_int _ ⟨_, Try.underlying3⟩ _ _ _ rfl w
    have e1 := run_equalIn_int (P := Try.prog) w 9998 3 .i64 .i64 f.1 f.1 Try.underlying3
    have e2 := run_equalIn_int (P := Try.prog) w 9998 3 .i64 .i64 f.2.1 f.2.1 Try.underlying3
    rw [beq_self_eq_true] at e1 e2
    exact eqf_end rfl h1 h1 e1 (eqf_end rfl h2 h2 e2 (eqf_end rfl (part_regs f w) (part_regs f w) (arr_same Try.underlying48 _ 9997 w) eqf_nil))
def sm1_T : Bool × List (List Nat × List Nat) := (true, [([], []), ([0], [0]), ([1], [1]), ([2], [2]), ([3, 2], [2, 3]), ([4, 2], [2, 4]), ([5, 2], [2, 5]), ([2], [2]), ([7, 2], [2, 7]), ([6, 8, 2], [2, 6, 8]), ([2, 9], [2, 9]), ([10, 2], [10]), ([11], [11]), ([12, 11, 11], [11, 12]), ([11], [11]), ([14, 11], [11, 14]), ([15, 11], [11, 15]), ([13, 16, 11], [11, 13, 16]), ([11, 17], [11, 17]), ([18, 13], [18]), ([19], [19]), ([20, 19, 19], [19, 20]), ([19], [19]), ([22, 19], [19, 22]), ([21, 23, 21, 19], [19, 21, 23]), ([24, 19], [19, 24]), ([19, 25], [19, 25])])
def sm1_B : List Nat := [0, 1, 3, 7, 15, 31, 63, 7, 135, 511, 1023, 2047, 4095, 8191, 4095, 20479, 53247, 131071, 262143, 524287, 1048575, 2097151, 1048575, 5242879, 16777215, 33554431, 67108863]
theorem sm1_tab : rtab .any (opsOf Try.f15 1) = sm1_T := by kernel_rfl
theorem sm1_bits : waitsOk sm1_T.2 sm1_B = true := by kernel_rfl
def sm6_T : Bool × List (List Nat × List Nat) := (true, [([], []), ([0], [0]), ([1], [1]), ([2], [2]), ([3, 2], [2, 3]), ([4, 2], [2, 4]), ([2], [2]), ([6, 2], [2, 6]), ([2], [2]), ([8, 2], [2, 8]), ([9, 2], [2, 9]), ([10, 2], [2, 10]), ([7, 11, 2], [2, 7, 11]), ([12, 2], [2, 12]), ([5, 13, 2], [2, 5, 13]), ([2, 14], [2, 14]), ([15, 2, 0, 1, 2, 3, 4, 5, 6, 7, 8, 9, 10, 11, 12, 13, 14, 15], [15])])
def sm6_B : List Nat := [0, 1, 3, 7, 15, 31, 7, 71, 7, 263, 775, 1799, 4039, 8135, 16383, 32767, 65535]
theorem sm6_tab : rtab .any (opsOf Try.f15 6) = sm6_T := by kernel_rfl
theorem sm6_bits : waitsOk sm6_T.2 sm6_B = true := by kernel_rfl
theorem exec_eql {o : Oper} {ty tt : TypeId} {x y : Operand} {ρ : Operand → Value} {xs ys : Array Value} {bb : Bool} {w : World} (ho : o.op = .binOp .eql ty x y tt) (hx : ρ x = .agg xs) (hy : ρ y = .agg ys) (hm : Try.prog.eqGuardType Try.prog.depth ty = false)
    (he : (Op.equalIn 10000 ty (.agg xs) (.agg ys)).run Try.prog w = .ok bb w) : (execOp ρ o).run Try.prog w = .ok (.value (.bool bb)) w := by
  have hg := run_eqGuard_agg (P := Try.prog) w .eql ty x y xs ys hm
  unfold execOp
  simp only [ho, hx, hy, Sem.run_bind, hg, run_eql_struct, he, Result.andThen_ok, Sem.run_pure]
structure OnlyB (wd w' : World) : Prop where
  b : Below wd.heap.size wd w'
section
variable {W : World} {base : Nat} {P ok : Nat → Prop} {b : Nat} {r : Nat → Int} {s : Ses} {vF vR vS v1 v2 v3 : Value} {fs : List Fr} {row : List S37} {st : List Int}
theorem Th.rngR (h : Th W base P b r s vF vR vS fs row st) : W.rangeAt b 0 (ws 12 r) := fun i v hv => by
  have hi := (List.getElem?_eq_some_iff.1 hv).1
  rw [Nat.zero_add, h.cell i]
  unfold thC
  rw [List.getElem?_append_left hi]
  exact hv
theorem rng_below' {w w' : World} {b o : Nat} {cs : List Value} (hb : Below w.heap.size w w') (h : w.rangeAt b o cs) : w'.rangeAt b o cs := rng_below hb h
theorem RT.rngF {A : Option Addr} {c : Nat} (h : RT W ok (.slice A fs.length c) vR vS (fs.map Fr.core) row st) {i : Nat} (hi : i < fs.length) : ∃ g, A = some ⟨g, 0, none⟩ ∧ W.rangeAt g (i * 26) (gC fs[i].core) := by
  rcases h.fo with ⟨_, h2⟩ | ⟨g, c2, h1, h2, h3⟩
  · rw [List.map_eq_nil_iff, List.map_eq_nil_iff] at h2
    subst h2
    exact absurd hi (Nat.not_lt_zero _)
  · injection h1 with e1
    refine ⟨g, e1, ?_⟩
    have := h3.range i (by simpa using hi)
    rw [List.getElem_map, List.getElem_map] at this
    exact this
theorem rngX {w : World} {xb : Nat} {r : Nat → Int} {a1 a2 a3 : Value} (h : w.heap[xb]? = some (.cells (tC r a1 a2 a3).toArray 33 (0, 0))) : w.rangeAt xb 0 (ws 12 r) := fun i v hv => by
  have hi := (List.getElem?_eq_some_iff.1 hv).1
  rw [Nat.zero_add, blk_cell h i, List.getElem?_toArray]
  unfold tC
  rw [List.getElem?_append_left hi]
  exact hv
set_option maxHeartbeats 4000000 in
set_option maxRecDepth 100000 in
theorem same_calls (h : Th W base P b r s v1 v2 v3 fs row st) (hx : RT W ok vF vR vS (fs.map Fr.core) row st) (hm1 : fs.length ≤ 1000000) (hmr : row.length ≤ 1000000) {ks : Nat} (hs : deadwoodref08_Same.f ks row row = some true) :
    Calls Try.prog 15 #[.pointer (some ⟨b, 0, none⟩), .agg (tC r vF vR vS).toArray] W fun e W' => e = .returned (.bool true) ∧ Below W.heap.size W W' := by
  have hu := Try.underlying33
  have huT := Try.underlying57
  obtain ⟨AF, cF, eF, hcF⟩ := hx.sF
  obtain ⟨AS, cS, eS, hcS⟩ := hx.sS
  obtain ⟨AR, cR, eR⟩ := Kd.V_slice hx.ro
  rw [List.length_map] at eF
  subst eF eS eR
  have HT := Aside0.mk h
  have HX := Aside0.mk hx
  have HS := Aside0.mk hs
  have B1 := Aside0.mk (below_alloc (Below.refl W.heap.size W) (.cells (tC r (.slice AF fs.length cF) (.slice AR row.length cR) (.slice AS st.length cS)).toArray 33 (0, 0)))
  have n1 := heap_alloc_new W (.cells (tC r (.slice AF fs.length cF) (.slice AR row.length cR) (.slice AS st.length cS)).toArray 33 (0, 0))
  clear h hx hs
  go_enter Try.func15, Try.ntmps15
  go_upto_region 1 with (fail)
  generalize W.alloc _ = W1 at B1 n1 ⊢
  have B1 : Aside0 (Below W.heap.size W W1.drew) := ⟨below_drew1 B1.out⟩
  have N1 := Aside0.mk (show W1.drew.heap[W.heap.size]? = _ from n1)
  generalize hxb : W.heap.size = xb at n1 N1 ⊢
  have a0 := (HT.out.below B1.out).rngR
  have a1 := rngX n1
  have a2 : W1.cell? ⟨xb, 12, none⟩ = some (.slice AF fs.length cF) := (blk_cell n1 12).trans rfl
  have a3 : W1.cell? ⟨xb, 13, none⟩ = some (.slice AR row.length cR) := (blk_cell n1 13).trans rfl
  have HXB := Aside0.mk hxb
  clear n1 hxb
  refine start_ (n := 27) (S := fun W' => W'.rangeAt b 0 (ws 12 r) ∧ W'.rangeAt xb 0 (ws 12 r) ∧ W'.cell? ⟨xb, 12, none⟩ = some (.slice AF fs.length cF) ∧ W'.cell? ⟨xb, 13, none⟩ = some (.slice AR row.length cR)) (ds := []) #[false, false, false, false, false, false, false, false, false, false, false, false, false, false, false, false, false, false, false, false, false, false, false, false, false, false, false] (by kernel_rfl) rfl rfl ⟨a0, a1, a2, a3⟩ (fun hHeld => ?_); refine with_tabW sm1_tab sm1_bits (fun HT_ HW_ => ?_)
  generalize W1.drew = wd_ at a0 a1 a2 a3 B1 N1 hHeld ⊢
  have hH0_ := hHeld; obtain ⟨c0_, c1_, c2_, c3_⟩ := hH0_
  have FR0 := Aside0.mk (OnlyB.mk (Below.refl wd_.heap.size wd_))
  refine pure_ (i := 0) (N := some 6) (v := ?_) (a' := ?_) #[true, false, false, false, false, false, false, false, false, false, false, false, false, false, false, false, false, false, false, false, false, false, false, false, false, false, false] rfl rfl (any_of HT_.out (by kernel_rfl)) (fun _ _ _ h => h) (Or.inl ⟨by rfl, ?_⟩) ?_ ?_
  rotate_left
  · intro w'
    go_simp
    with_reducible rfl
  rotate_left
  · simp only [Act.put, List.setIfInBounds_toArray, List.set_cons_zero, List.set_cons_succ, i64_w, i32_w]
    rfl
  refine pure_ (i := 1) (N := some 7) (v := ?_) (a' := ?_) #[true, true, false, false, false, false, false, false, false, false, false, false, false, false, false, false, false, false, false, false, false, false, false, false, false, false, false] rfl rfl (any_of HT_.out (by kernel_rfl)) (fun _ _ _ h => h) (Or.inl ⟨by rfl, ?_⟩) ?_ ?_
  rotate_left
  · intro w'
    go_simp
    with_reducible rfl
  rotate_left
  · simp only [Act.put, List.setIfInBounds_toArray, List.set_cons_zero, List.set_cons_succ, i64_w, i32_w]
    rfl
  refine pure_ (i := 2) (N := some 8) (v := ?_) (a' := ?_) #[true, true, true, false, false, false, false, false, false, false, false, false, false, false, false, false, false, false, false, false, false, false, false, false, false, false, false] rfl rfl (any_of HT_.out (by kernel_rfl)) (fun _ _ _ h => h) (Or.inl ⟨by rfl, ?_⟩) ?_ ?_
  rotate_left
  · intro w'
    go_simp
    with_reducible rfl
  rotate_left
  · simp only [Act.put, List.setIfInBounds_toArray, List.set_cons_zero, List.set_cons_succ, i64_w, i32_w]
    rfl
  refine pure_ (i := 3) (N := some 9) (v := ?_) (a' := ?_) #[true, true, true, true, false, false, false, false, false, false, false, false, false, false, false, false, false, false, false, false, false, false, false, false, false, false, false] rfl rfl (any_of HT_.out (by kernel_rfl)) (fun _ _ _ h => h) (Or.inl ⟨by rfl, ?_⟩) ?_ ?_
  rotate_left
  · intro w'
    go_simp
    with_reducible rfl
  rotate_left
  · simp only [Act.put, List.setIfInBounds_toArray, List.set_cons_zero, List.set_cons_succ, i64_w, i32_w]
    rfl
  refine pure_ (i := 4) (N := some 10) (v := ?_) (a' := ?_) #[true, true, true, true, true, false, false, false, false, false, false, false, false, false, false, false, false, false, false, false, false, false, false, false, false, false, false] rfl rfl (any_of HT_.out (by kernel_rfl)) (fun _ _ _ h => h) (Or.inl ⟨by rfl, ?_⟩) ?_ ?_
  rotate_left
  · intro w'
    go_simp
    with_reducible rfl
  rotate_left
  · simp only [Act.put, List.setIfInBounds_toArray, List.set_cons_zero, List.set_cons_succ, i64_w, i32_w]
    rfl
  refine pure_ (i := 5) (N := some 11) (v := ?_) (a' := ?_) #[true, true, true, true, true, true, false, false, false, false, false, false, false, false, false, false, false, false, false, false, false, false, false, false, false, false, false] rfl rfl (any_of HT_.out (by kernel_rfl)) (fun _ _ _ h => h) (Or.inl ⟨by rfl, ?_⟩) ?_ ?_
  rotate_left
  · intro w'
    go_simp
    with_reducible rfl
  rotate_left
  · simp only [Act.put, List.setIfInBounds_toArray, List.set_cons_zero, List.set_cons_succ, i64_w, i32_w]
    rfl
  refine pure_ (i := 7) (N := some 13) (v := ?_) (a' := ?_) #[true, true, true, true, true, true, false, true, false, false, false, false, false, false, false, false, false, false, false, false, false, false, false, false, false, false, false] rfl rfl (any_of HT_.out (by kernel_rfl)) (fun _ _ _ h => h) (Or.inl ⟨by rfl, ?_⟩) ?_ ?_
  rotate_left
  · intro w'
    go_simp
    with_reducible rfl
  rotate_left
  · simp only [Act.put, List.setIfInBounds_toArray, List.set_cons_zero, List.set_cons_succ, i64_w, i32_w]
    rfl
  refine take_ (i := 6) (N := some 12) (v := .agg (ws 12 r).toArray) (a' := ?_) #[true, true, true, true, true, true, true, true, false, false, false, false, false, false, false, false, false, false, false, false, false, false, false, false, false, false, false] rfl rfl (take_ofW HT_.out HW_.out (by kernel_rfl)) (fun _ _ _ h => h) ?hy hHeld ?_ ?_
  (case hy => exact yieldsIf_load_mid (by rfl) 28 _ rfl b 0 rfl (ws 12 r) _ (fun _ h => h.1) Try.underlying28 rfl (by kernel_rfl))
  rotate_left
  · simp only [Act.put, List.setIfInBounds_toArray, List.set_cons_zero, List.set_cons_succ, i64_w, i32_w]
    rfl
  refine take_ (i := 8) (N := some 14) (v := .agg (ws 12 r).toArray) (a' := ?_) #[true, true, true, true, true, true, true, true, true, false, false, false, false, false, false, false, false, false, false, false, false, false, false, false, false, false, false] rfl rfl (take_ofW HT_.out HW_.out (by kernel_rfl)) (fun _ _ _ h => h) ?hy hHeld ?_ ?_
  (case hy => exact yieldsIf_load_mid (by rfl) 28 _ rfl xb 0 rfl (ws 12 r) _ (fun _ h => h.2.1) Try.underlying28 rfl (by kernel_rfl))
  rotate_left
  · simp only [Act.put, List.setIfInBounds_toArray, List.set_cons_zero, List.set_cons_succ, i64_w, i32_w]
    rfl
  refine pure_ (i := 9) (N := some 15) (v := .bool false) (a' := ?_) #[true, true, true, true, true, true, true, true, true, true, false, false, false, false, false, false, false, false, false, false, false, false, false, false, false, false, false] rfl rfl (any_of HT_.out (by kernel_rfl)) (fun _ _ _ h => h) (Or.inl ⟨by rfl, ?hy⟩) ?_ ?_
  (case hy => exact fun w' => by have RS : (Op.equalIn 10000 28 (.agg (ws 12 r).toArray) (.agg (ws 12 r).toArray)).run Try.prog w' = .ok true w' := arr_same Try.underlying28 r 9998 w'; unfold execOp; go_simp; try rfl)
  rotate_left
  · simp only [Act.put, List.setIfInBounds_toArray, List.set_cons_zero, List.set_cons_succ, i64_w, i32_w]
    rfl
  refine pure_ (i := 10) (N := some 16) (v := ?_) (a' := ?_) #[true, true, true, true, true, true, true, true, true, true, true, false, false, false, false, false, false, false, false, false, false, false, false, false, false, false, false] rfl rfl (any_of HT_.out (by kernel_rfl)) (fun _ _ _ h => h) (Or.inl ⟨by rfl, ?_⟩) ?_ ?_
  rotate_left
  · intro w'
    go_simp
    with_reducible rfl
  rotate_left
  · simp only [Act.put, List.setIfInBounds_toArray, List.set_cons_zero, List.set_cons_succ, i64_w, i32_w]
    rfl
  refine pure_ (i := 11) (N := some 17) (v := ?_) (a' := ?_) #[true, true, true, true, true, true, true, true, true, true, true, true, false, false, false, false, false, false, false, false, false, false, false, false, false, false, false] rfl rfl (any_of HT_.out (by kernel_rfl)) (fun _ _ _ h => h) (Or.inl ⟨by rfl, ?_⟩) ?_ ?_
  rotate_left
  · intro w'
    go_simp
    with_reducible rfl
  rotate_left
  · simp only [Act.put, List.setIfInBounds_toArray, List.set_cons_zero, List.set_cons_succ, i64_w, i32_w]
    rfl
  refine pure_ (i := 12) (N := some 18) (v := ?_) (a' := ?_) #[true, true, true, true, true, true, true, true, true, true, true, true, true, false, false, false, false, false, false, false, false, false, false, false, false, false, false] rfl rfl (any_of HT_.out (by kernel_rfl)) (fun _ _ _ h => h) (Or.inl ⟨by rfl, ?_⟩) ?_ ?_
  rotate_left
  · intro w'
    go_simp
    with_reducible rfl
  rotate_left
  · simp only [Act.put, List.setIfInBounds_toArray, List.set_cons_zero, List.set_cons_succ, i64_w, i32_w]
    rfl
  refine pure_ (i := 14) (N := some 20) (v := ?_) (a' := ?_) #[true, true, true, true, true, true, true, true, true, true, true, true, true, false, true, false, false, false, false, false, false, false, false, false, false, false, false] rfl rfl (any_of HT_.out (by kernel_rfl)) (fun _ _ _ h => h) (Or.inl ⟨by rfl, ?_⟩) ?_ ?_
  rotate_left
  · intro w'
    go_simp
    with_reducible rfl
  rotate_left
  · simp only [Act.put, List.setIfInBounds_toArray, List.set_cons_zero, List.set_cons_succ, i64_w, i32_w]
    rfl
  refine take_ (i := 15) (N := some 21) (v := ?_) (a' := ?_) #[true, true, true, true, true, true, true, true, true, true, true, true, true, false, true, true, false, false, false, false, false, false, false, false, false, false, false] rfl rfl (take_ofW HT_.out HW_.out (by kernel_rfl)) (fun _ _ _ h => h) (Or.inl ⟨by rfl, ?_⟩) hHeld ?_ ?_
  rotate_left
  · rintro w' ⟨s0, s1, s2, s3⟩
    go_simp
    with_reducible rfl
  rotate_left
  · simp only [Act.put, List.setIfInBounds_toArray, List.set_cons_zero, List.set_cons_succ, i64_w, i32_w]
    rfl
  refine pure_ (i := 16) (N := some 22) (v := ?_) (a' := ?_) #[true, true, true, true, true, true, true, true, true, true, true, true, true, false, true, true, true, false, false, false, false, false, false, false, false, false, false] rfl rfl (any_of HT_.out (by kernel_rfl)) (fun _ _ _ h => h) (Or.inl ⟨by rfl, ?_⟩) ?_ ?_
  rotate_left
  · intro w'
    go_simp
    with_reducible rfl
  rotate_left
  · simp only [Act.put, List.setIfInBounds_toArray, List.set_cons_zero, List.set_cons_succ, i64_w, i32_w]
    rfl
  refine one_ (i := 13) (N := some 19) #[true, true, true, true, true, true, true, true, true, true, true, true, true, true, true, true, true, false, false, false, false, false, false, false, false, false, false] rfl rfl (one_of HT_.out (by kernel_rfl)) (by decide) (fun K hK => ?_)
  refine goes_ Try.func16 (by kernel_rfl) rfl #[.pointer (some ⟨b, 0, none⟩)] (by rfl) rfl rfl (by (try simp only [List.map_toArray, List.map_cons, List.map_nil]); first | done | rfl) ?_
  refine (depth_calls (HT.out.below (below_then B1.out B1.out.size FR0.out.b))).mono ?_
  rintro e_ wq ⟨rfl, hw⟩
  have FR1 : Aside0 (OnlyB wd_ wq) := ⟨⟨by rw [hw]; exact FR0.out.b⟩⟩
  clear hw
  refine ⟨_, rfl, ?_⟩
  refine hK.out _ _ ⟨(rng_below FR1.out.b c0_), (rng_below FR1.out.b c1_), (pw_cell_below FR1.out.b c2_), (pw_cell_below FR1.out.b c3_)⟩ (fun hHeld => ?_)
  clear hK K
  refine norm_ (a' := ?_) ?_ ?_
  rotate_left
  · show Act.put _ (some 19) _ = _
    simp only [Act.put, List.setIfInBounds_toArray, List.set_cons_zero, List.set_cons_succ, i64_w, i32_w]
    rfl
  refine pure_ (i := 17) (N := some 23) (v := ?_) (a' := ?_) #[true, true, true, true, true, true, true, true, true, true, true, true, true, true, true, true, true, true, false, false, false, false, false, false, false, false, false] rfl rfl (any_of HT_.out (by kernel_rfl)) (fun _ _ _ h => h) (Or.inl ⟨by rfl, ?_⟩) ?_ ?_
  rotate_left
  · intro w'
    go_simp
    with_reducible rfl
  rotate_left
  · simp only [Act.put, List.setIfInBounds_toArray, List.set_cons_zero, List.set_cons_succ, i64_w, i32_w]
    rfl
  refine pure_ (i := 18) (N := some 24) (v := ?_) (a' := ?_) #[true, true, true, true, true, true, true, true, true, true, true, true, true, true, true, true, true, true, true, false, false, false, false, false, false, false, false] rfl rfl (any_of HT_.out (by kernel_rfl)) (fun _ _ _ h => h) (Or.inl ⟨by rfl, ?_⟩) ?_ ?_
  rotate_left
  · intro w'
    go_simp
    with_reducible rfl
  rotate_left
  · simp only [Act.put, List.setIfInBounds_toArray, List.set_cons_zero, List.set_cons_succ, i64_w, i32_w]
    rfl
  refine pure_ (i := 19) (N := some 25) (v := ?_) (a' := ?_) #[true, true, true, true, true, true, true, true, true, true, true, true, true, true, true, true, true, true, true, true, false, false, false, false, false, false, false] rfl rfl (any_of HT_.out (by kernel_rfl)) (fun _ _ _ h => h) (Or.inl ⟨by rfl, ?_⟩) ?_ ?_
  rotate_left
  · intro w'
    go_simp
    with_reducible rfl
  rotate_left
  · simp only [Act.put, List.setIfInBounds_toArray, List.set_cons_zero, List.set_cons_succ, i64_w, i32_w]
    rfl
  refine pure_ (i := 20) (N := some 26) (v := ?_) (a' := ?_) #[true, true, true, true, true, true, true, true, true, true, true, true, true, true, true, true, true, true, true, true, true, false, false, false, false, false, false] rfl rfl (any_of HT_.out (by kernel_rfl)) (fun _ _ _ h => h) (Or.inl ⟨by rfl, ?_⟩) ?_ ?_
  rotate_left
  · intro w'
    go_simp
    with_reducible rfl
  rotate_left
  · simp only [Act.put, List.setIfInBounds_toArray, List.set_cons_zero, List.set_cons_succ, i64_w, i32_w]
    rfl
  refine pure_ (i := 22) (N := some 28) (v := ?_) (a' := ?_) #[true, true, true, true, true, true, true, true, true, true, true, true, true, true, true, true, true, true, true, true, true, false, true, false, false, false, false] rfl rfl (any_of HT_.out (by kernel_rfl)) (fun _ _ _ h => h) (Or.inl ⟨by rfl, ?_⟩) ?_ ?_
  rotate_left
  · intro w'
    go_simp
    with_reducible rfl
  rotate_left
  · simp only [Act.put, List.setIfInBounds_toArray, List.set_cons_zero, List.set_cons_succ, i64_w, i32_w]
    rfl
  refine take_ (i := 23) (N := some 29) (v := ?_) (a' := ?_) #[true, true, true, true, true, true, true, true, true, true, true, true, true, true, true, true, true, true, true, true, true, false, true, true, false, false, false] rfl rfl (take_ofW HT_.out HW_.out (by kernel_rfl)) (fun _ _ _ h => h) (Or.inl ⟨by rfl, ?_⟩) hHeld ?_ ?_
  rotate_left
  · rintro w' ⟨s0, s1, s2, s3⟩
    go_simp
    with_reducible rfl
  rotate_left
  · simp only [Act.put, List.setIfInBounds_toArray, List.set_cons_zero, List.set_cons_succ, i64_w, i32_w]
    rfl
  refine one_ (i := 21) (N := some 27) #[true, true, true, true, true, true, true, true, true, true, true, true, true, true, true, true, true, true, true, true, true, true, true, true, false, false, false] rfl rfl (one_of HT_.out (by kernel_rfl)) (by decide) (fun K hK => ?_)
  refine goes_ Try.func23 (by kernel_rfl) rfl #[.pointer (some ⟨b, 0, none⟩)] (by rfl) rfl rfl (by (try simp only [List.map_toArray, List.map_cons, List.map_nil]); first | done | rfl) ?_
  refine (row_calls (HT.out.below (below_then B1.out B1.out.size FR1.out.b)) hmr).mono ?_
  rintro e_ wq ⟨v27, rfl, hv, hb⟩
  obtain ⟨A7, c7, rfl⟩ := Kd.V_slice hv
  have HV := Aside0.mk hv
  have FR2 := Aside0.mk (OnlyB.mk (below_then FR1.out.b FR1.out.b.size hb))
  clear hv hb
  refine ⟨_, rfl, ?_⟩
  refine hK.out _ _ ⟨(rng_below FR2.out.b c0_), (rng_below FR2.out.b c1_), (pw_cell_below FR2.out.b c2_), (pw_cell_below FR2.out.b c3_)⟩ (fun hHeld => ?_)
  clear hK K
  refine norm_ (a' := ?_) ?_ ?_
  rotate_left
  · show Act.put _ (some 27) _ = _
    simp only [Act.put, List.setIfInBounds_toArray, List.set_cons_zero, List.set_cons_succ, i64_w, i32_w]
    rfl
  refine one_ (i := 24) (N := some 30) #[true, true, true, true, true, true, true, true, true, true, true, true, true, true, true, true, true, true, true, true, true, true, true, true, true, false, false] rfl rfl (one_of HT_.out (by kernel_rfl)) (by decide) (fun K hK => ?_)
  refine goes_ Try.func58 (by kernel_rfl) rfl #[.slice A7 row.length c7, .slice AR row.length cR] (by rfl) rfl rfl (by (try simp only [List.map_toArray, List.map_cons, List.map_nil]); first | done | rfl) ?_
  refine (deadwoodref08_Same.calls ks A7 c7 row AR cR row true _ (Kd.V_reads' HV.out).2.2 (Kd.V_reads' HV.out).2.1 (Kd.V_reads' (Kd.V_below HX.out.ro (below_then B1.out B1.out.size FR2.out.b))).2.2 (Kd.V_reads' HX.out.ro).2.1 HS.out).mono ?_
  rintro e_ wq ⟨rfl, nd, rfl⟩
  have FR3 := Aside0.mk (OnlyB.mk (pw_below_drewN FR2.out.b nd))
  refine ⟨_, rfl, ?_⟩
  refine hK.out _ _ ⟨(rng_below FR3.out.b c0_), (rng_below FR3.out.b c1_), (pw_cell_below FR3.out.b c2_), (pw_cell_below FR3.out.b c3_)⟩ (fun hHeld => ?_)
  clear hK K
  refine norm_ (a' := ?_) ?_ ?_
  rotate_left
  · show Act.put _ (some 30) _ = _
    simp only [Act.put, List.setIfInBounds_toArray, List.set_cons_zero, List.set_cons_succ, i64_w, i32_w]
    rfl
  refine pure_ (i := 25) (N := some 31) (v := ?_) (a' := ?_) #[true, true, true, true, true, true, true, true, true, true, true, true, true, true, true, true, true, true, true, true, true, true, true, true, true, true, false] rfl rfl (any_of HT_.out (by kernel_rfl)) (fun _ _ _ h => h) (Or.inl ⟨by rfl, ?_⟩) ?_ ?_
  rotate_left
  · intro w'
    go_simp
    with_reducible rfl
  rotate_left
  · simp only [Act.put, List.setIfInBounds_toArray, List.set_cons_zero, List.set_cons_succ, i64_w, i32_w]
    rfl
  refine pure_ (i := 26) (N := some 32) (v := ?_) (a' := ?_) #[true, true, true, true, true, true, true, true, true, true, true, true, true, true, true, true, true, true, true, true, true, true, true, true, true, true, true] rfl rfl (any_of HT_.out (by kernel_rfl)) (fun _ _ _ h => h) (Or.inl ⟨by rfl, ?_⟩) ?_ ?_
  rotate_left
  · intro w'
    go_simp
    with_reducible rfl
  rotate_left
  · simp only [Act.put, List.setIfInBounds_toArray, List.set_cons_zero, List.set_cons_succ, i64_w, i32_w]
    rfl
  refine done_ (done_of HT_.out (by kernel_rfl)) ?_
  go_upto_region 3 with (fail)
  refine gen2 (Φ := fun X => Below W.heap.size W X ∧ X.heap[xb]? = some (.cells (tC r (.slice AF fs.length cF) (.slice AR row.length cR) (.slice AS st.length cS)).toArray 33 (0, 0))) ⟨below_then B1.out B1.out.size FR3.out.b, blk_below N1.out FR3.out.b⟩ ?_
  intro X HXX
  have BX := Aside0.mk HXX.1
  have NX := Aside0.mk HXX.2
  clear HXX HV FR0 FR1 FR2 FR3 c0_ c1_ c2_ c3_ hHeld HT_ HW_ a0 a1 a2 a3 B1 N1
  by_cases hn : fs = []
  · subst hn
    go_wp2_with fail
    refine (top_none (HT.out.below BX.out)).mono ?_
    rintro e w5 ⟨rfl, rfl⟩
    have a2 : w5.cell? ⟨xb, 12, none⟩ = some (.slice AF 0 cF) := (blk_cell NX.out 12).trans rfl
    go_wp2
    go_ret
    exact ⟨rfl, BX.out⟩
  · have h0 : 0 < fs.length := List.length_pos_iff.2 hn
    have HN := Aside0.mk hn
    clear hn
    go_wp2_with fail
    refine (top_calls (HT.out.below BX.out) h0 hm1).mono ?_
    rintro e w5 ⟨rfl, hb⟩
    have B5 := Aside0.mk (below_then BX.out BX.out.size hb)
    have N5 := Aside0.mk (blk_below NX.out hb)
    clear hb NX BX
    have hlt : fs.length - 1 < fs.length := by omega
    obtain ⟨f, hf⟩ : ∃ f, f = fs[fs.length - 1]'(by omega) := ⟨_, rfl⟩
    have HF := Aside0.mk hf
    rw [← hf]
    clear hf
    have z1 : ((fs.length : Int) == 0) = false := by rw [beq_eq_false_iff_ne]; omega
    have hi : ((fs.length : Int) - 1) = ((fs.length - 1 : Nat) : Int) := by omega
    have a2 : w5.cell? ⟨xb, 12, none⟩ = some (.slice AF fs.length cF) := (blk_cell N5.out 12).trans rfl
    obtain ⟨g, eA, RG⟩ := HX.out.rngF hlt
    subst eA
    have RG := Aside0.mk (rng_below' B5.out RG)
    have RF := Aside0.mk (show w5.rangeAt f.bk 0 (gC f.core) from rng_frame ((HT.out.below B5.out).fb f (by rw [HF.out]; exact List.getElem_mem hlt)))
    rw [← HF.out] at RG
    go_upto_region 6 with (fail)
    have hw : wrap64 ((fs.length - 1 : Nat) : Int) = ((fs.length - 1 : Nat) : Int) := wrap64_of (by omega) (by omega)
    have hq1 : (0 : Int) ≤ ((fs.length - 1 : Nat) : Int) := by omega
    have hq2 : ((fs.length - 1 : Nat) : Int) < (fs.length : Int) := by omega
    have b0 := RF.out
    have b1 := RG.out
    have WD := Aside0.mk (below_drew1 B5.out)
    refine start_ (n := 17) (S := fun W' => W'.rangeAt f.bk 0 (gC f.core) ∧ W'.rangeAt g ((fs.length - 1) * 26) (gC f.core) ∧ W'.cell? ⟨xb, 12, none⟩ = some (.slice (some ⟨g, 0, none⟩) fs.length cF)) (ds := []) #[false, false, false, false, false, false, false, false, false, false, false, false, false, false, false, false, false] (by kernel_rfl) rfl rfl ⟨b0, b1, a2⟩ (fun hHeld => ?_); refine with_tabW sm6_tab sm6_bits (fun HT_ HW_ => ?_)
    generalize w5.drew = wd_ at b0 b1 a2 WD hHeld ⊢
    have hH0_ := hHeld; obtain ⟨c0_, c1_, c2_⟩ := hH0_
    refine pure_ (i := 0) (N := some 41) (v := ?_) (a' := ?_) #[true, false, false, false, false, false, false, false, false, false, false, false, false, false, false, false, false] rfl rfl (any_of HT_.out (by kernel_rfl)) (fun _ _ _ h => h) (Or.inl ⟨by rfl, ?_⟩) ?_ ?_
    rotate_left
    · intro w'
      go_simp
      with_reducible rfl
    rotate_left
    · simp only [Act.put, List.setIfInBounds_toArray, List.set_cons_zero, List.set_cons_succ, i64_w, i32_w]
      rfl
    refine pure_ (i := 1) (N := some 42) (v := ?_) (a' := ?_) #[true, true, false, false, false, false, false, false, false, false, false, false, false, false, false, false, false] rfl rfl (any_of HT_.out (by kernel_rfl)) (fun _ _ _ h => h) (Or.inl ⟨by rfl, ?_⟩) ?_ ?_
    rotate_left
    · intro w'
      go_simp
      with_reducible rfl
    rotate_left
    · simp only [Act.put, List.setIfInBounds_toArray, List.set_cons_zero, List.set_cons_succ, i64_w, i32_w]
      rfl
    refine pure_ (i := 2) (N := some 43) (v := ?_) (a' := ?_) #[true, true, true, false, false, false, false, false, false, false, false, false, false, false, false, false, false] rfl rfl (any_of HT_.out (by kernel_rfl)) (fun _ _ _ h => h) (Or.inl ⟨by rfl, ?_⟩) ?_ ?_
    rotate_left
    · intro w'
      go_simp
      with_reducible rfl
    rotate_left
    · simp only [Act.put, List.setIfInBounds_toArray, List.set_cons_zero, List.set_cons_succ, i64_w, i32_w]
      rfl
    refine pure_ (i := 3) (N := some 44) (v := ?_) (a' := ?_) #[true, true, true, true, false, false, false, false, false, false, false, false, false, false, false, false, false] rfl rfl (any_of HT_.out (by kernel_rfl)) (fun _ _ _ h => h) (Or.inl ⟨by rfl, ?_⟩) ?_ ?_
    rotate_left
    · intro w'
      go_simp
      with_reducible rfl
    rotate_left
    · simp only [Act.put, List.setIfInBounds_toArray, List.set_cons_zero, List.set_cons_succ, i64_w, i32_w]
      rfl
    refine pure_ (i := 4) (N := some 45) (v := ?_) (a' := ?_) #[true, true, true, true, true, false, false, false, false, false, false, false, false, false, false, false, false] rfl rfl (any_of HT_.out (by kernel_rfl)) (fun _ _ _ h => h) (Or.inl ⟨by rfl, ?_⟩) ?_ ?_
    rotate_left
    · intro w'
      go_simp
      with_reducible rfl
    rotate_left
    · simp only [Act.put, List.setIfInBounds_toArray, List.set_cons_zero, List.set_cons_succ, i64_w, i32_w]
      rfl
    refine pure_ (i := 6) (N := some 47) (v := ?_) (a' := ?_) #[true, true, true, true, true, false, true, false, false, false, false, false, false, false, false, false, false] rfl rfl (any_of HT_.out (by kernel_rfl)) (fun _ _ _ h => h) (Or.inl ⟨by rfl, ?_⟩) ?_ ?_
    rotate_left
    · intro w'
      go_simp
      with_reducible rfl
    rotate_left
    · simp only [Act.put, List.setIfInBounds_toArray, List.set_cons_zero, List.set_cons_succ, i64_w, i32_w]
      rfl
    refine pure_ (i := 8) (N := some 49) (v := ?_) (a' := ?_) #[true, true, true, true, true, false, true, false, true, false, false, false, false, false, false, false, false] rfl rfl (any_of HT_.out (by kernel_rfl)) (fun _ _ _ h => h) (Or.inl ⟨by rfl, ?_⟩) ?_ ?_
    rotate_left
    · intro w'
      go_simp
      with_reducible rfl
    rotate_left
    · simp only [Act.put, List.setIfInBounds_toArray, List.set_cons_zero, List.set_cons_succ, i64_w, i32_w]
      rfl
    refine take_ (i := 5) (N := some 46) (v := .agg (gC f.core).toArray) (a' := ?_) #[true, true, true, true, true, true, true, false, true, false, false, false, false, false, false, false, false] rfl rfl (take_ofW HT_.out HW_.out (by kernel_rfl)) (fun _ _ _ h => h) ?hy hHeld ?_ ?_
    (case hy => exact yieldsIf_load_mid (by rfl) 50 _ rfl f.bk 0 rfl (gC f.core) _ (fun _ h => h.1) Try.underlying50 rfl (by kernel_rfl))
    rotate_left
    · simp only [Act.put, List.setIfInBounds_toArray, List.set_cons_zero, List.set_cons_succ, i64_w, i32_w]
      rfl
    refine take_ (i := 7) (N := some 48) (v := ?_) (a' := ?_) #[true, true, true, true, true, true, true, true, true, false, false, false, false, false, false, false, false] rfl rfl (take_ofW HT_.out HW_.out (by kernel_rfl)) (fun _ _ _ h => h) (Or.inl ⟨by rfl, ?_⟩) hHeld ?_ ?_
    rotate_left
    · rintro w' ⟨s0, s1, s2⟩
      go_simp
      with_reducible rfl
    rotate_left
    · simp only [Act.put, List.setIfInBounds_toArray, List.set_cons_zero, List.set_cons_succ, i64_w, i32_w]
      rfl
    refine take_ (i := 9) (N := some 50) (v := ?_) (a' := ?_) #[true, true, true, true, true, true, true, true, true, true, false, false, false, false, false, false, false] rfl rfl (take_ofW HT_.out HW_.out (by kernel_rfl)) (fun _ _ _ h => h) (Or.inl ⟨by rfl, ?_⟩) hHeld ?_ ?_
    rotate_left
    · rintro w' ⟨s0, s1, s2⟩
      go_simp
      with_reducible rfl
    rotate_left
    · simp only [Act.put, List.setIfInBounds_toArray, List.set_cons_zero, List.set_cons_succ, i64_w, i32_w]
      rfl
    refine pure_ (i := 10) (N := some 51) (v := ?_) (a' := ?_) #[true, true, true, true, true, true, true, true, true, true, true, false, false, false, false, false, false] rfl rfl (any_of HT_.out (by kernel_rfl)) (fun _ _ _ h => h) (Or.inl ⟨by rfl, ?_⟩) ?_ ?_
    rotate_left
    · intro w'
      go_simp
      with_reducible rfl
    rotate_left
    · simp only [Act.put, List.setIfInBounds_toArray, List.set_cons_zero, List.set_cons_succ, i64_w, i32_w]
      rfl
    refine pure_ (i := 11) (N := some 52) (v := ?_) (a' := ?_) #[true, true, true, true, true, true, true, true, true, true, true, true, false, false, false, false, false] rfl rfl (any_of HT_.out (by kernel_rfl)) (fun _ _ _ h => h) (Or.inl ⟨by rfl, ?_⟩) ?_ ?_
    rotate_left
    · intro w'
      go_simp
      with_reducible rfl
    rotate_left
    · simp only [Act.put, List.setIfInBounds_toArray, List.set_cons_zero, List.set_cons_succ, i64_w, i32_w]
      rfl
    refine pure_ (i := 12) (N := some 53) (v := ?_) (a' := ?_) #[true, true, true, true, true, true, true, true, true, true, true, true, true, false, false, false, false] rfl rfl (any_of HT_.out (by kernel_rfl)) (fun _ _ _ h => h) (Or.inl ⟨by rfl, ?_⟩) ?_ ?_
    rotate_left
    · intro w'
      go_simp
      with_reducible rfl
    rotate_left
    · simp only [Act.put, List.setIfInBounds_toArray, List.set_cons_zero, List.set_cons_succ, i64_w, i32_w]
      rfl
    refine take_ (i := 13) (N := some 54) (v := .agg (gC f.core).toArray) (a' := ?_) #[true, true, true, true, true, true, true, true, true, true, true, true, true, true, false, false, false] rfl rfl (take_ofW HT_.out HW_.out (by kernel_rfl)) (fun _ _ _ h => h) ?hy hHeld ?_ ?_
    (case hy => exact yieldsIf_load_mid (by rfl) 113 _ rfl g ((fs.length - 1) * 26) rfl (gC f.core) _ (fun _ h => h.2.1) Try.underlying113 rfl (by kernel_rfl))
    rotate_left
    · simp only [Act.put, List.setIfInBounds_toArray, List.set_cons_zero, List.set_cons_succ, i64_w, i32_w]
      rfl
    refine pure_ (i := 14) (N := some 55) (v := .bool true) (a' := ?_) #[true, true, true, true, true, true, true, true, true, true, true, true, true, true, true, false, false] rfl rfl (any_of HT_.out (by kernel_rfl)) (fun _ _ _ h => h) (Or.inl ⟨by rfl, ?hy⟩) ?_ ?_
    (case hy => exact fun w' => exec_eql rfl rfl rfl (by kernel_rfl) (frame_eq f.core w'))
    rotate_left
    · simp only [Act.put, List.setIfInBounds_toArray, List.set_cons_zero, List.set_cons_succ, i64_w, i32_w]
      rfl
    refine pure_ (i := 15) (N := some 56) (v := ?_) (a' := ?_) #[true, true, true, true, true, true, true, true, true, true, true, true, true, true, true, true, false] rfl rfl (any_of HT_.out (by kernel_rfl)) (fun _ _ _ h => h) (Or.inl ⟨by rfl, ?_⟩) ?_ ?_
    rotate_left
    · intro w'
      go_simp
      with_reducible rfl
    rotate_left
    · simp only [Act.put, List.setIfInBounds_toArray, List.set_cons_zero, List.set_cons_succ, i64_w, i32_w]
      rfl
    refine pure_ (i := 16) (N := some 4) (v := ?_) (a' := ?_) #[true, true, true, true, true, true, true, true, true, true, true, true, true, true, true, true, true] rfl rfl (any_of HT_.out (by kernel_rfl)) (fun _ _ _ h => h) (Or.inl ⟨by rfl, ?_⟩) ?_ ?_
    rotate_left
    · intro w'
      go_simp
      with_reducible rfl
    rotate_left
    · simp only [Act.put, List.setIfInBounds_toArray, List.set_cons_zero, List.set_cons_succ, i64_w, i32_w]
      rfl
    refine done_ (done_of HT_.out (by kernel_rfl)) ?_
    go_wp2
    go_ret
    exact ⟨rfl, WD.out⟩
end
end Go.Proofs.Ytocmdcjbjhpooaa.FrW
