/- Frames come back in the other order, what is pushed is popped likewise, what is gathered rises: the walk of the law. -/
import Derived.Test.YtocmdcjbjhpooaaFrX
set_option linter.unusedVariables false
set_option linter.unusedSimpArgs false
namespace Go.Proofs.Ytocmdcjbjhpooaa.FrW
open Go Go.RowKit Go.Proofs.YtocmdcjbjhpooaaW.PrintWords Go.Proofs.YtocmdcjbjhpooaaW.PrintLast Go.Proofs.YtocmdcjbjhpooaaW.PrintMore Go.Proofs.Ytocmdcjbjhpooaa.PFrameOrders Go.Proofs.Ytocmdcjbjhpooaa.GRow Go.Proofs.Ytocmdcjbjhpooaa.Num Go.Proofs.Ytocmdcjbjhpooaa.Bxs Go.Proofs.Ytocmdcjbjhpooaa.InsW Go.Proofs.Ytocmdcjbjhpooaa.Pure
def fo24_T : Bool × List (List Nat × List Nat) := (true, [([], []), ([0], [0]), ([1], [1]), ([2], [2]), ([3, 2], [2, 3]), ([4, 2], [2, 4]), ([5, 2], [2, 5]), ([2], [2]), ([6, 7, 2], [2, 6, 7]), ([2, 8], [2, 8]), ([9, 2], [9]), ([10], [10]), ([11, 10], [10, 11]), ([12, 10], [10, 12]), ([13, 10], [10, 13]), ([10], [10]), ([15, 10], [10, 15]), ([14, 16, 10], [10, 14, 16]), ([10, 17], [10, 17]), ([18, 10], [18]), ([19], [19]), ([20, 19], [19, 20]), ([21, 19], [19, 21]), ([22, 19], [19, 22]), ([23, 19], [19, 23]), ([19], [19]), ([19], [19]), ([25, 26, 19], [19, 25, 26]), ([27, 19], [19, 27]), ([24, 28, 19], [19, 24, 28]), ([19, 29], [19, 29]), ([30, 19], [30]), ([31], [31]), ([31], [31]), ([31], [31]), ([33, 34, 31], [31, 33, 34]), ([35, 31], [31, 35]), ([32, 36, 31], [31, 32, 36]), ([31, 37], [31, 37]), ([38, 31], [38]), ([39], [39]), ([40, 39], [39, 40]), ([39, 41], [39, 41]), ([42, 39], [42]), ([43], [43]), ([44, 43, 43], [43, 44]), ([43], [43]), ([43], [43]), ([46, 47, 43], [43, 46, 47]), ([48, 43], [43, 48]), ([45, 49, 43], [43, 45, 49]), ([43, 50], [43, 50])])
def fo24_B : List Nat := [0, 1, 3, 7, 15, 31, 63, 7, 255, 511, 1023, 2047, 4095, 8191, 16383, 2047, 34815, 131071, 262143, 524287, 1048575, 2097151, 4194303, 8388607, 16777215, 1048575, 1048575, 101711871, 235929599, 536870911, 1073741823, 2147483647, 4294967295, 4294967295, 4294967295, 30064771071, 64424509439, 137438953471, 274877906943, 549755813887, 1099511627775, 2199023255551, 4398046511103, 8796093022207, 17592186044415, 35184372088831, 17592186044415, 17592186044415, 228698418577407, 510173395288063, 1125899906842623, 2251799813685247]
theorem fo24_tab : rtab .any (opsOf Try.f4 24) = fo24_T := by kernel_rfl
theorem fo24_bits : waitsOk fo24_T.2 fo24_B = true := by kernel_rfl
def fo32_T : Bool × List (List Nat × List Nat) := (true, [([], []), ([0], [0]), ([], []), ([], []), ([2, 3], [2, 3]), ([4], [4]), ([5], [5]), ([1, 6, 1], [1, 6]), ([7], [7]), ([8], [8]), ([8], [8]), ([9, 7, 0, 1, 2, 3, 4, 5, 6, 7, 8, 9], [9]), ([10, 11, 0, 1, 2, 3, 4, 5, 6, 7, 8, 9, 10, 11], [10])])
def fo32_B : List Nat := [0, 1, 0, 0, 12, 28, 60, 127, 255, 511, 511, 1023, 4095]
theorem fo32_tab : rtab .any (opsOf Try.f4 32) = fo32_T := by kernel_rfl
theorem fo32_bits : waitsOk fo32_T.2 fo32_B = true := by kernel_rfl
theorem find_eq (l : List S37) (a : Int) (hr : ris l = true) (hl : l.length ≤ 1000000) : pairs_Find.f 0 l a = some ((lessN l a : Int), isKey l a) := by
  unfold pairs_Find.f
  rw [if_pos ⟨hr, hl⟩]
theorem less_put (l : List S37) (a x : Int) : lessN l a ≤ (putP l a x).length := by
  have := lessN_le l a
  unfold putP
  split
  · exact this
  · simp; omega
/-- The frames that were put upon the others. -/
def FJ (ws : List Int) (m : Nat) : List Co := (List.range m).map fun (i : Nat) => ((i : Int), (i : Int) + 1, regs [ws.getD i 0])
theorem FJ_succ (ws : List Int) (m : Nat) : FJ ws (m + 1) = FJ ws m ++ [((m : Int), (m : Int) + 1, regs [ws.getD m 0])] := by
  unfold FJ
  rw [List.range_succ, List.map_append]
  rfl
theorem FJ_len (ws : List Int) (m : Nat) : (FJ ws m).length = m := by simp [FJ]
theorem last_of {α : Type} (l : List α) (a : α) {h : (l ++ [a]).length - 1 < (l ++ [a]).length} : (l ++ [a])[(l ++ [a]).length - 1]'h = a := by simp
theorem take_last {α : Type} (l : List α) (a : α) : (l ++ [a]).take ((l ++ [a]).length - 1) = l := by simp
theorem wrap_small {n : Int} (h0 : 0 ≤ n) (h1 : n ≤ 100000) : wrap64 n = n := wrap64_of (by omega) (by omega)
theorem wrap_i1 {i : Nat} (h : i ≤ 600) : wrap64 ((i : Int) + 1) = (i : Int) + 1 := wrap_small (by omega) (by omega)
theorem wrap_ab {a b : Nat} (h : a + b ≤ 600) : wrap64 ((a : Int) + (b : Int)) = (a : Int) + (b : Int) := wrap_small (by omega) (by omega)
theorem wrap_ab1 {a b : Nat} (h : a + b ≤ 600) : wrap64 ((a : Int) + (b : Int) + 1) = (a : Int) + (b : Int) + 1 := wrap_small (by omega) (by omega)
theorem set_last {α : Type} (l : List α) (a b : α) : (l ++ [a]).set ((l ++ [a]).length - 1) b = l ++ [b] := by simp
theorem word_at {w : World} {A : Option Addr} {l : List Int} (h : Kd.C (Kd.int .u64) w A l.length l) (i : Nat) (hi : i < l.length) : ∃ ad, A = some ad ∧ w.cell? (ad.add i) = some (.int .u64 l[i]) := by
  obtain ⟨ad, hA, hc⟩ := words_cells h (by omega)
  exact ⟨ad, hA, hc i _ (by rw [List.getElem?_map, List.getElem?_eq_getElem hi]; rfl)⟩
theorem pair_at {w : World} {A : Option Addr} {l : List S37} (h : Kd.C k37 w A l.length l) (i : Nat) (hi : i < l.length) : ∃ ad, A = some ad ∧ w.cell? (ad.add (i * 2)) = some (.int .i64 l[i].f0) ∧ w.cell? ⟨(ad.add (i * 2)).block, (ad.add (i * 2)).off + 1, none⟩ = some (.int .i64 l[i].f1) := by
  obtain ⟨ad, hA, h1, h2⟩ := at_T37 h (i : Int) (by omega) (by omega)
  rw [Int.toNat_natCast, rdp l i hi] at h1 h2
  exact ⟨ad, hA, h1, h2⟩
set_option maxHeartbeats 4000000 in
set_option maxRecDepth 100000 in
theorem ord8 {l0 : List S39} {A0 A1 A2 : Option Addr} {c0 c1 c2 b : Nat} {ws : List Int} {ps : List S37} {w X : World} (HW : Aside0 (Kd.C (Kd.int .u64) w A1 ws.length ws)) (HP : Aside0 (Kd.C k37 w A2 ps.length ps)) (hws : ws.length ≤ 60) (hps : ps.length ≤ 60) (hc1 : ws.length ≤ c1) (hc2 : ps.length ≤ c2) {r : Nat → Int} {F : List Co} {row0 : List S37} {st : List Int} (LX : Aside0 (LT w X b r F row0 st)) (RI : Aside0 (ris row0 = true)) (hr0 : row0.length ≤ 500) {m3 m4 m5 m6 m8 m10 m11 m12 m13 m14 m15 m16 m17 m18 m19 m20 m21 m22 m23 m24 m25 m26 m27 m28 m29 m30 m31 m32 m33 m34 m35 m36 m37 m38 m39 m40 m41 m42 m43 m44 m45 m46 m47 m48 m49 m50 m51 m52 m53 m54 m55 m56 m57 m58 m59 m60 m61 m62 m63 m64 m65 m66 m67 m68 m69 m70 m71 m72 m73 m74 m75 m76 m77 m78 m79 m80 m81 m82 m83 m84 m85 m86 m87 m88 m89 m90 m91 m92 m93 m94 m95 m96 m97 m98 m99 m100 m101 m102 m103 m104 m105 m106 m107 m108 m109 m110 m111 m112 m113 m114 m115 m116 m117 m118 m119 m120 m121 m122 m123 m124 m125 m126 m127 m128 m129 m130 m131 m132 m133 m134 m135 m136 m137 m138 m139 m140 m141 m142 m143 m144 m145 m146 m147 m148 m149 m150 m151 m152 m153 m154 m155 m156 m157 m158 m159 m160 m161 m162 m163 m164 m165 m166 m167 m168 m169 m170 m171 m172 m173 m174 m175 m176 m177 m178 m179 m180 m181 m182 m183 m184 m185 m186 m187 m188 m189 m190 m191 m192 m193 m194 m195 m196 m197 m198 m199 m200 m201 m202 m203 : Value} :
    Code.wp Try.prog (tl 8 (bodyC Try.f4)) (bodyPost Try.prog Try.f4 fun e w' => e = .returned (.bool true) ∧ Below w.heap.size w w') { tmps := List.toArray (.slice A0 l0.length c0 :: .slice A1 ws.length c1 :: .slice A2 ps.length c2 :: m3 :: m4 :: m5 :: m6 :: .pointer (some ⟨b, 0, none⟩) :: m8 :: .int .i64 F.length :: m10 :: m11 :: m12 :: m13 :: m14 :: m15 :: m16 :: m17 :: m18 :: m19 :: m20 :: m21 :: m22 :: m23 :: m24 :: m25 :: m26 :: m27 :: m28 :: m29 :: m30 :: m31 :: m32 :: m33 :: m34 :: m35 :: m36 :: m37 :: m38 :: m39 :: m40 :: m41 :: m42 :: m43 :: m44 :: m45 :: m46 :: m47 :: m48 :: m49 :: m50 :: m51 :: m52 :: m53 :: m54 :: m55 :: m56 :: m57 :: m58 :: m59 :: m60 :: m61 :: m62 :: m63 :: m64 :: m65 :: m66 :: m67 :: m68 :: m69 :: m70 :: m71 :: m72 :: m73 :: m74 :: m75 :: m76 :: m77 :: m78 :: m79 :: m80 :: m81 :: m82 :: m83 :: m84 :: m85 :: m86 :: m87 :: m88 :: m89 :: m90 :: m91 :: m92 :: m93 :: m94 :: m95 :: m96 :: m97 :: m98 :: m99 :: m100 :: m101 :: m102 :: m103 :: m104 :: m105 :: m106 :: m107 :: m108 :: m109 :: m110 :: m111 :: m112 :: m113 :: m114 :: m115 :: m116 :: m117 :: m118 :: m119 :: m120 :: m121 :: m122 :: m123 :: m124 :: m125 :: m126 :: m127 :: m128 :: m129 :: m130 :: m131 :: m132 :: m133 :: m134 :: m135 :: m136 :: m137 :: m138 :: m139 :: m140 :: m141 :: m142 :: m143 :: m144 :: m145 :: m146 :: m147 :: m148 :: m149 :: m150 :: m151 :: m152 :: m153 :: m154 :: m155 :: m156 :: m157 :: m158 :: m159 :: m160 :: m161 :: m162 :: m163 :: m164 :: m165 :: m166 :: m167 :: m168 :: m169 :: m170 :: m171 :: m172 :: m173 :: m174 :: m175 :: m176 :: m177 :: m178 :: m179 :: m180 :: m181 :: m182 :: m183 :: m184 :: m185 :: m186 :: m187 :: m188 :: m189 :: m190 :: m191 :: m192 :: m193 :: m194 :: m195 :: m196 :: m197 :: m198 :: m199 :: m200 :: m201 :: m202 :: m203 :: []), defers := [] } X := by
  have hup := Try.underlying37
  have huF := Try.underlying50
  have huT := Try.underlying57
  have hu24 := Try.underlying48
  have hu12 := Try.underlying28
  conv => arg 2; whnf
  go_wp2
  go_loopg [15] ps.length (fun kx s15 wr => ∃ (j : Nat) (row : List S37), s15 = .int .i64 j ∧ j + kx = ps.length ∧ row.length ≤ 500 + j ∧ Aside0 (LT w wr b r F row st) ∧ Aside0 (ris row = true))
  case atStart => exact ⟨0, row0, rfl, by omega, by omega, LX, RI⟩
  case round =>
    clear LX RI
    obtain ⟨j, row, rfl, hj, hrw, LX, RI⟩ := hrel
    by_cases hlt : j < ps.length
    · have q1 : (j : Int) < (ps.length : Int) := by omega
      have hrow : row.length ≤ 1000 := by omega
      obtain ⟨ad, hA, p0, p1⟩ := pair_at (Kd.C_below HP.out LX.out.bl) j hlt
      subst hA
      generalize ps[j] = p at p0 p1
      have PP := Aside0.mk (show wr.drew.cell? _ = _ from p1)
      clear p1
      have LW := Aside0.mk (show LT w wr.drew b r F row st from LX.out.below (below_drew1 (Below.refl _ _)))
      clear LX
      go_upto_region 32 with (fail)
      refine start_ (n := 13) (S := fun W' => W'.cell? (ad.add (j * 2)) = some (.int .i64 p.f0)) (ds := []) #[false, false, false, false, false, false, false, false, false, false, false, false, false] (by kernel_rfl) rfl rfl p0 (fun hHeld => ?_); refine with_tabW fo32_tab fo32_bits (fun HT_ HW_ => ?_)
      generalize wr.drew = wd_ at p0 LW PP hHeld ⊢
      have c0_ := hHeld
      refine pure_ (i := 0) (N := some 167) (v := ?_) (a' := ?_) #[true, false, false, false, false, false, false, false, false, false, false, false, false] rfl rfl (any_of HT_.out (by kernel_rfl)) (fun _ _ _ h => h) (Or.inl ⟨by rfl, ?_⟩) ?_ ?_
      rotate_left
      · intro w'
        go_simp
        with_reducible rfl
      rotate_left
      · simp only [Act.put, List.setIfInBounds_toArray, List.set_cons_zero, List.set_cons_succ, i64_w, i32_w]
        rfl
      refine pure_ (i := 2) (N := some 169) (v := ?_) (a' := ?_) #[true, false, true, false, false, false, false, false, false, false, false, false, false] rfl rfl (any_of HT_.out (by kernel_rfl)) (fun _ _ _ h => h) (Or.inl ⟨by rfl, ?_⟩) ?_ ?_
      rotate_left
      · intro w'
        go_simp
        with_reducible rfl
      rotate_left
      · simp only [Act.put, List.setIfInBounds_toArray, List.set_cons_zero, List.set_cons_succ, i64_w, i32_w]
        rfl
      refine pure_ (i := 3) (N := some 170) (v := ?_) (a' := ?_) #[true, false, true, true, false, false, false, false, false, false, false, false, false] rfl rfl (any_of HT_.out (by kernel_rfl)) (fun _ _ _ h => h) (Or.inl ⟨by rfl, ?_⟩) ?_ ?_
      rotate_left
      · intro w'
        go_simp
        with_reducible rfl
      rotate_left
      · simp only [Act.put, List.setIfInBounds_toArray, List.set_cons_zero, List.set_cons_succ, i64_w, i32_w]
        rfl
      refine pure_ (i := 4) (N := some 171) (v := ?_) (a' := ?_) #[true, false, true, true, true, false, false, false, false, false, false, false, false] rfl rfl (any_of HT_.out (by kernel_rfl)) (fun _ _ _ h => h) (Or.inl ⟨by rfl, ?_⟩) ?_ ?_
      rotate_left
      · intro w'
        go_simp
        with_reducible rfl
      rotate_left
      · simp only [Act.put, List.setIfInBounds_toArray, List.set_cons_zero, List.set_cons_succ, i64_w, i32_w]
        rfl
      refine pure_ (i := 5) (N := some 172) (v := ?_) (a' := ?_) #[true, false, true, true, true, true, false, false, false, false, false, false, false] rfl rfl (any_of HT_.out (by kernel_rfl)) (fun _ _ _ h => h) (Or.inl ⟨by rfl, ?_⟩) ?_ ?_
      rotate_left
      · intro w'
        go_simp
        with_reducible rfl
      rotate_left
      · simp only [Act.put, List.setIfInBounds_toArray, List.set_cons_zero, List.set_cons_succ, i64_w, i32_w]
        rfl
      refine take_ (i := 6) (N := some 173) (v := ?_) (a' := ?_) #[true, false, true, true, true, true, true, false, false, false, false, false, false] rfl rfl (take_ofW HT_.out HW_.out (by kernel_rfl)) (fun _ _ _ h => h) (Or.inl ⟨by rfl, ?_⟩) hHeld ?_ ?_
      rotate_left
      · intro w' s0
        go_simp
        with_reducible rfl
      rotate_left
      · simp only [Act.put, List.setIfInBounds_toArray, List.set_cons_zero, List.set_cons_succ, i64_w, i32_w]
        rfl
      refine one_ (i := 1) (N := some 168) #[true, true, true, true, true, true, true, false, false, false, false, false, false] rfl rfl (one_of HT_.out (by kernel_rfl)) (by decide) (fun K hK => ?_)
      refine goes_ Try.func23 (by kernel_rfl) rfl #[.pointer (some ⟨b, 0, none⟩)] (by rfl) rfl rfl (by (try simp only [List.map_toArray, List.map_cons, List.map_nil]); first | done | rfl) ?_
      refine (LW.out.rowC hrow).mono ?_
      rintro e_ wq ⟨v7, rfl, hv, hb⟩
      obtain ⟨A7, c7, rfl⟩ := Kd.V_slice hv
      have HV := Aside0.mk hv
      have FR1 := Aside0.mk (OnlyB.mk (wd := wd_) hb)
      clear hv
      refine ⟨_, rfl, ?_⟩
      refine hK.out _ _ (pw_cell_below FR1.out.b c0_) (fun hHeld => ?_)
      clear hK K
      refine norm_ (a' := ?_) ?_ ?_
      rotate_left
      · show Act.put _ (some 168) _ = _
        simp only [Act.put, List.setIfInBounds_toArray, List.set_cons_zero, List.set_cons_succ, i64_w, i32_w]
        rfl
      refine one_ (i := 7) (N := some 174) #[true, true, true, true, true, true, true, true, false, false, false, false, false] rfl rfl (one_of HT_.out (by kernel_rfl)) (by decide) (fun K hK => ?_)
      refine goes_ Try.func22 (by kernel_rfl) rfl #[.slice A7 row.length c7, .int .i64 p.f0] (by rfl) rfl rfl (by (try simp only [List.map_toArray, List.map_cons, List.map_nil]); first | done | rfl) ?_
      refine (pairs_Find.calls 0 A7 c7 row p.f0 _ _ _ (Kd.V_reads' HV.out).2.2 (Kd.V_reads' HV.out).2.1 (find_eq row p.f0 RI.out (by omega))).mono ?_
      rintro e_ wq2 ⟨rfl, hb2⟩
      have FR2 := Aside0.mk (OnlyB.mk (wd := wd_) (below_then FR1.out.b FR1.out.b.size hb2))
      refine ⟨_, rfl, ?_⟩
      refine hK.out _ _ (pw_cell_below FR2.out.b c0_) (fun hHeld => ?_)
      clear hK K
      refine norm_ (a' := ?_) ?_ ?_
      rotate_left
      · show Act.put _ (some 174) _ = _
        simp only [Act.put, List.setIfInBounds_toArray, List.set_cons_zero, List.set_cons_succ, i64_w, i32_w]
        rfl
      refine pure_ (i := 8) (N := some 166) (v := ?_) (a' := ?_) #[true, true, true, true, true, true, true, true, true, false, false, false, false] rfl rfl (any_of HT_.out (by kernel_rfl)) (fun _ _ _ h => h) (Or.inl ⟨by rfl, ?_⟩) ?_ ?_
      rotate_left
      · intro w'
        go_simp
        with_reducible rfl
      rotate_left
      · simp only [Act.put, List.setIfInBounds_toArray, List.set_cons_zero, List.set_cons_succ, i64_w, i32_w]
        rfl
      refine pure_ (i := 9) (N := some 175) (v := ?_) (a' := ?_) #[true, true, true, true, true, true, true, true, true, true, false, false, false] rfl rfl (any_of HT_.out (by kernel_rfl)) (fun _ _ _ h => h) (Or.inl ⟨by rfl, ?_⟩) ?_ ?_
      rotate_left
      · intro w'
        go_simp
        with_reducible rfl
      rotate_left
      · simp only [Act.put, List.setIfInBounds_toArray, List.set_cons_zero, List.set_cons_succ, i64_w, i32_w]
        rfl
      refine pure_ (i := 10) (N := some 176) (v := ?_) (a' := ?_) #[true, true, true, true, true, true, true, true, true, true, true, false, false] rfl rfl (any_of HT_.out (by kernel_rfl)) (fun _ _ _ h => h) (Or.inl ⟨by rfl, ?_⟩) ?_ ?_
      rotate_left
      · intro w'
        go_simp
        with_reducible rfl
      rotate_left
      · simp only [Act.put, List.setIfInBounds_toArray, List.set_cons_zero, List.set_cons_succ, i64_w, i32_w]
        rfl
      refine pure_ (i := 11) (N := some 16) (v := ?_) (a' := ?_) #[true, true, true, true, true, true, true, true, true, true, true, true, false] rfl rfl (any_of HT_.out (by kernel_rfl)) (fun _ _ _ h => h) (Or.inl ⟨by rfl, ?_⟩) ?_ ?_
      rotate_left
      · intro w'
        go_simp
        with_reducible rfl
      rotate_left
      · simp only [Act.put, List.setIfInBounds_toArray, List.set_cons_zero, List.set_cons_succ, i64_w, i32_w]
        rfl
      refine pure_ (i := 12) (N := some 17) (v := ?_) (a' := ?_) #[true, true, true, true, true, true, true, true, true, true, true, true, true] rfl rfl (any_of HT_.out (by kernel_rfl)) (fun _ _ _ h => h) (Or.inl ⟨by rfl, ?_⟩) ?_ ?_
      rotate_left
      · intro w'
        go_simp
        with_reducible rfl
      rotate_left
      · simp only [Act.put, List.setIfInBounds_toArray, List.set_cons_zero, List.set_cons_succ, i64_w, i32_w]
        rfl
      refine done_ (done_of HT_.out (by kernel_rfl)) ?_
      have LJ := Aside0.mk (LW.out.below FR2.out.b)
      have P1 := Aside0.mk (pw_cell_below FR2.out.b PP.out)
      have P0 := Aside0.mk (pw_cell_below FR2.out.b c0_)
      go_upto_region 33 with (fail)
      clear HV FR1 FR2 hHeld HT_ HW_ LW PP c0_ p0
      have p0 := P0.out
      have p1 := P1.out
      have nk : ((!isKey row p.f0) == isKey row p.f0) = false := by cases isKey row p.f0 <;> rfl
      go_wp2_with fail
      refine (LJ.out.gather (put_eq row (by omega) RI.out p.f0 p.f1 0)).mono ?_
      rintro e w5 ⟨rfl, hL5⟩
      have L5 := Aside0.mk hL5
      have hpl := putP_len row p.f0 p.f1
      clear hL5 p0 p1 P0 P1 LJ
      go_wp2_with fail
      refine (L5.out.rowC (by omega)).mono ?_
      rintro e w6 ⟨v8, rfl, hv, hb6⟩
      obtain ⟨A8, c8, rfl⟩ := Kd.V_slice hv
      have L6 := Aside0.mk (L5.out.below hb6)
      clear hv hb6 L5
      have nl : decide ((lessN row p.f0 : Int) > ((putP row p.f0 p.f1).length : Int)) = false := decide_eq_false (by have := less_put row p.f0 p.f1; omega)
      have nl2 : ¬ (putP row p.f0 p.f1).length < lessN row p.f0 := by have := less_put row p.f0 p.f1; omega
      go_wp2
      go_roundg (ps.length - (j + 1))
      rotate_left
      · exact (show ps.length - (j + 1) < _ by omega)
      · exact ⟨j + 1, _, by go_num, by omega, by omega, L6, ⟨ris_putP RI.out _ _⟩⟩
    · have q1 : ¬ (j : Int) < (ps.length : Int) := by omega
      have hrow : row.length ≤ 1000 := by omega
      go_wp2_with fail
      refine (LX.out.rowC hrow).mono ?_
      rintro e w5 ⟨v8, rfl, hv, hb5⟩
      obtain ⟨A8, c8, rfl⟩ := Kd.V_slice hv
      have L5 := Aside0.mk (LX.out.below hb5)
      have HV := Aside0.mk hv
      clear hv hb5 LX
      go_wp2_with fail
      refine (pairs_Rises.calls 2000 A8 c8 row true w5 (Kd.V_reads' HV.out).2.2 (Kd.V_reads' HV.out).2.1 ((rises_eq row (by omega) (by omega)).trans (congrArg some RI.out))).mono ?_
      rintro e w6 ⟨rfl, ⟨nd, rfl⟩⟩
      have L6 := Aside0.mk (L5.out.below (pw_below_drewN (Below.refl _ _) nd))
      clear HV L5
      go_wp2_with fail
      refine L6.out.depth.mono ?_
      rintro e w7 ⟨rfl, rfl⟩
      go_wp2_with fail
      refine (lives_calls _).mono ?_
      rintro e w8 ⟨rfl, hb8⟩
      have B8 := Aside0.mk (below_then L6.out.bl L6.out.bl.size hb8)
      clear hb8
      go_wp2
      go_ret
      exact ⟨rfl, B8.out⟩
set_option maxHeartbeats 4000000 in
set_option maxRecDepth 100000 in
theorem ord7 {l0 : List S39} {A0 A1 A2 : Option Addr} {c0 c1 c2 b : Nat} {ws : List Int} {ps : List S37} {w X : World} (HW : Aside0 (Kd.C (Kd.int .u64) w A1 ws.length ws)) (HP : Aside0 (Kd.C k37 w A2 ps.length ps)) (hws : ws.length ≤ 60) (hps : ps.length ≤ 60) (hc1 : ws.length ≤ c1) (hc2 : ps.length ≤ c2) {r0 : Nat → Int} {F0 : List Co} {row0 : List S37} {st0 : List Int} (LX : Aside0 (LT w X b r0 (F0 ++ FJ ws ws.length) row0 (st0 ++ ws))) (RI : Aside0 (ris row0 = true)) (hF : F0.length ≤ 500) (hr0 : row0.length ≤ 500) (hs0 : st0.length ≤ 500) {m3 m4 m5 m6 m8 m10 m11 m12 m13 m14 m15 m16 m17 m18 m19 m20 m21 m22 m23 m24 m25 m26 m27 m28 m29 m30 m31 m32 m33 m34 m35 m36 m37 m38 m39 m40 m41 m42 m43 m44 m45 m46 m47 m48 m49 m50 m51 m52 m53 m54 m55 m56 m57 m58 m59 m60 m61 m62 m63 m64 m65 m66 m67 m68 m69 m70 m71 m72 m73 m74 m75 m76 m77 m78 m79 m80 m81 m82 m83 m84 m85 m86 m87 m88 m89 m90 m91 m92 m93 m94 m95 m96 m97 m98 m99 m100 m101 m102 m103 m104 m105 m106 m107 m108 m109 m110 m111 m112 m113 m114 m115 m116 m117 m118 m119 m120 m121 m122 m123 m124 m125 m126 m127 m128 m129 m130 m131 m132 m133 m134 m135 m136 m137 m138 m139 m140 m141 m142 m143 m144 m145 m146 m147 m148 m149 m150 m151 m152 m153 m154 m155 m156 m157 m158 m159 m160 m161 m162 m163 m164 m165 m166 m167 m168 m169 m170 m171 m172 m173 m174 m175 m176 m177 m178 m179 m180 m181 m182 m183 m184 m185 m186 m187 m188 m189 m190 m191 m192 m193 m194 m195 m196 m197 m198 m199 m200 m201 m202 m203 : Value} :
    Code.wp Try.prog (tl 7 (bodyC Try.f4)) (bodyPost Try.prog Try.f4 fun e w' => e = .returned (.bool true) ∧ Below w.heap.size w w') { tmps := List.toArray (.slice A0 l0.length c0 :: .slice A1 ws.length c1 :: .slice A2 ps.length c2 :: m3 :: m4 :: m5 :: m6 :: .pointer (some ⟨b, 0, none⟩) :: m8 :: .int .i64 F0.length :: m10 :: m11 :: m12 :: m13 :: m14 :: m15 :: m16 :: m17 :: m18 :: m19 :: m20 :: m21 :: m22 :: m23 :: m24 :: m25 :: m26 :: m27 :: m28 :: m29 :: m30 :: m31 :: m32 :: m33 :: m34 :: m35 :: m36 :: m37 :: m38 :: m39 :: m40 :: m41 :: m42 :: m43 :: m44 :: m45 :: m46 :: m47 :: m48 :: m49 :: m50 :: m51 :: m52 :: m53 :: m54 :: m55 :: m56 :: m57 :: m58 :: m59 :: m60 :: m61 :: m62 :: m63 :: m64 :: m65 :: m66 :: m67 :: m68 :: m69 :: m70 :: m71 :: m72 :: m73 :: m74 :: m75 :: m76 :: m77 :: m78 :: m79 :: m80 :: m81 :: m82 :: m83 :: m84 :: m85 :: m86 :: m87 :: m88 :: m89 :: m90 :: m91 :: m92 :: m93 :: m94 :: m95 :: m96 :: m97 :: m98 :: m99 :: m100 :: m101 :: m102 :: m103 :: m104 :: m105 :: m106 :: m107 :: m108 :: m109 :: m110 :: m111 :: m112 :: m113 :: m114 :: m115 :: m116 :: m117 :: m118 :: m119 :: m120 :: m121 :: m122 :: m123 :: m124 :: m125 :: m126 :: m127 :: m128 :: m129 :: m130 :: m131 :: m132 :: m133 :: m134 :: m135 :: m136 :: m137 :: m138 :: m139 :: m140 :: m141 :: m142 :: m143 :: m144 :: m145 :: m146 :: m147 :: m148 :: m149 :: m150 :: m151 :: m152 :: m153 :: m154 :: m155 :: m156 :: m157 :: m158 :: m159 :: m160 :: m161 :: m162 :: m163 :: m164 :: m165 :: m166 :: m167 :: m168 :: m169 :: m170 :: m171 :: m172 :: m173 :: m174 :: m175 :: m176 :: m177 :: m178 :: m179 :: m180 :: m181 :: m182 :: m183 :: m184 :: m185 :: m186 :: m187 :: m188 :: m189 :: m190 :: m191 :: m192 :: m193 :: m194 :: m195 :: m196 :: m197 :: m198 :: m199 :: m200 :: m201 :: m202 :: m203 :: []), defers := [] } X := by
  have hup := Try.underlying37
  have huF := Try.underlying50
  have huT := Try.underlying57
  have hu24 := Try.underlying48
  have hu12 := Try.underlying28
  conv => arg 2; whnf
  go_upto_region 19 with (fail)
  rename_i KK hKK K2 hK2
  have HKK := Aside0.mk hKK
  clear hKK
  have LX : Aside0 (LT w X b r0 (F0 ++ FJ ws ws.length) row0 (st0 ++ ws.take ws.length)) := ⟨by rw [List.take_length]; exact LX.out⟩
  go_wp2
  go_loopg [11] ws.length (fun kx s11 wr => ∃ (m : Nat) (r : Nat → Int), s11 = .int .i64 ((m : Int) - 1) ∧ Aside0 (m = kx) ∧ m ≤ ws.length ∧ Aside0 (LT w wr b r (F0 ++ FJ ws m) row0 (st0 ++ ws.take m)))
  case atStart => exact ⟨ws.length, r0, by go_num, ⟨rfl⟩, Nat.le_refl _, LX⟩
  case round =>
    clear LX
    obtain ⟨m, r, rfl, hm, hml, LX⟩ := hrel
    cases m with
    | zero =>
      have q1 : ¬ ((0 : Nat) : Int) - 1 ≥ 0 := by omega
      go_wp2
      refine HKK.out _ _ ?_
      have L0 : Aside0 (LT w wr b r F0 row0 (st0 ++ ws.take 0)) := ⟨by have K := LX.out; rw [show FJ ws 0 = [] from rfl, List.append_nil] at K; exact K⟩
      exact ord8 HW HP hws hps hc1 hc2 L0 RI hr0
    | succ i =>
      have e1 : ((i + 1 : Nat) : Int) - 1 = (i : Int) := by omega
      have q1 : (i : Int) ≥ 0 := by omega
      rw [e1]
      have hil : i < ws.length := by omega
      obtain ⟨x, hx⟩ : ∃ x, ws[i] = x := ⟨_, rfl⟩
      have HX := Aside0.mk hx
      have hgx : ws.getD i 0 = x := by rw [List.getD_eq_getElem?_getD, List.getElem?_eq_getElem hil]; exact hx
      have HGX := Aside0.mk hgx
      clear hx hgx
      have LX : Aside0 (LT w wr b r ((F0 ++ FJ ws i) ++ [((i : Int), (i : Int) + 1, regs [x])]) row0 ((st0 ++ ws.take i) ++ [x])) := ⟨by have K := LX.out; rw [FJ_succ, HGX.out, List.take_succ_eq_append_getElem hil, HX.out, ← List.append_assoc, ← List.append_assoc] at K; exact K⟩
      have hlF : (F0 ++ FJ ws i).length = F0.length + i := by rw [List.length_append, FJ_len]
      have hlS : (st0 ++ ws.take i).length ≤ 600 := by rw [List.length_append, List.length_take]; omega
      have HLF := Aside0.mk hlF
      have TK := Aside0.mk (show F0.length + i ≤ 600 by omega)
      clear hlF
      generalize hF1 : F0 ++ FJ ws i = F1 at LX HLF
      generalize hS1 : st0 ++ ws.take i = S1 at LX hlS
      have HF1 := Aside0.mk hF1
      have HS1 := Aside0.mk hS1
      clear hF1 hS1
      go_wp2_with fail
      refine (LTop.below LX.out (by rw [List.length_append, HLF.out]; simp; have := TK.out; omega) (by simp) (f := ((i : Int), (i : Int) + 1, regs [x])) (last_of F1 _)).mono ?_
      rintro e w3 ⟨fb, rfl, hTop, hb3⟩
      have TT := Aside0.mk hTop
      clear hTop hb3 LX
      go_wp2_with fail
      refine (TT.out.pop (by rw [List.length_append]; simp; omega) (by simp)).mono ?_
      rintro e w5 ⟨rfl, hL, hfb⟩
      rw [take_last] at hL
      rw [last_of]
      have LW := Aside0.mk (show LT w w5.drew b r (F1 ++ [((i : Int), (i : Int) + 1, regs [x])]) row0 S1 from hL.below (below_drew1 (Below.refl _ _)))
      have f0 : w5.cell? ⟨fb, 0, none⟩ = some (.int .i64 (i : Int)) := (blk_cell hfb 0).trans rfl
      have f1 : w5.cell? ⟨fb, 1, none⟩ = some (.int .i64 ((i : Int) + 1)) := (blk_cell hfb 1).trans rfl
      have f2 : w5.cell? ⟨fb, 2, none⟩ = some (.int .u64 x) := (blk_cell hfb 2).trans rfl
      obtain ⟨ad, hA, lc⟩ := word_at (Kd.C_below HW.out hL.bl) i hil
      subst hA
      rw [HX.out] at lc
      clear hL hfb TT
      have HD : Aside0 (∀ Y, LT w Y b r (F1 ++ [((i : Int), (i : Int) + 1, regs [x])]) row0 S1 → Calls Try.prog 16 #[.pointer (some ⟨b, 0, none⟩)] Y fun e W' => e = .returned (.int .i64 ((F0.length : Int) + (i : Int) + 1)) ∧ W' = Y) := ⟨fun Y hY => hY.depth.mono fun e W' he => ⟨he.1.trans (by rw [List.length_append, HLF.out]; rfl), he.2⟩⟩
      have hw1 : wrap64 ((i : Int) + 1) = (i : Int) + 1 := wrap_i1 (Nat.le_trans (Nat.le_add_left _ _) TK.out)
      have hw2 : wrap64 ((F0.length : Int) + (i : Int)) = (F0.length : Int) + (i : Int) := wrap_ab TK.out
      have hw3 : wrap64 ((F0.length : Int) + (i : Int) + 1) = (F0.length : Int) + (i : Int) + 1 := wrap_ab1 TK.out
      go_upto_region 24 with (fail)
      refine start_ (n := 52) (S := fun W' => W'.cell? ⟨fb, 0, none⟩ = some (.int .i64 (i : Int)) ∧ W'.cell? ⟨fb, 1, none⟩ = some (.int .i64 ((i : Int) + 1)) ∧ W'.cell? ⟨fb, 2, none⟩ = some (.int .u64 x) ∧ W'.cell? (ad.add i) = some (.int .u64 x)) (ds := []) #[false, false, false, false, false, false, false, false, false, false, false, false, false, false, false, false, false, false, false, false, false, false, false, false, false, false, false, false, false, false, false, false, false, false, false, false, false, false, false, false, false, false, false, false, false, false, false, false, false, false, false, false] (by kernel_rfl) rfl rfl ⟨f0, f1, f2, lc⟩ (fun hHeld => ?_); refine with_tabW fo24_tab fo24_bits (fun HT_ HW_ => ?_)
      generalize w5.drew = wd_ at f0 f1 f2 lc LW hHeld ⊢
      have hH0_ := hHeld; obtain ⟨c0_, c1_, c2_, c3_⟩ := hH0_
      refine pure_ (i := 0) (N := some 91) (v := ?_) (a' := ?_) #[true, false, false, false, false, false, false, false, false, false, false, false, false, false, false, false, false, false, false, false, false, false, false, false, false, false, false, false, false, false, false, false, false, false, false, false, false, false, false, false, false, false, false, false, false, false, false, false, false, false, false, false] rfl rfl (any_of HT_.out (by kernel_rfl)) (fun _ _ _ h => h) (Or.inl ⟨by rfl, ?_⟩) ?_ ?_
      rotate_left
      · intro w'
        go_simp
        with_reducible rfl
      rotate_left
      · simp only [Act.put, List.setIfInBounds_toArray, List.set_cons_zero, List.set_cons_succ, i64_w, i32_w]
        rfl
      refine pure_ (i := 1) (N := some 92) (v := ?_) (a' := ?_) #[true, true, false, false, false, false, false, false, false, false, false, false, false, false, false, false, false, false, false, false, false, false, false, false, false, false, false, false, false, false, false, false, false, false, false, false, false, false, false, false, false, false, false, false, false, false, false, false, false, false, false, false] rfl rfl (any_of HT_.out (by kernel_rfl)) (fun _ _ _ h => h) (Or.inl ⟨by rfl, ?_⟩) ?_ ?_
      rotate_left
      · intro w'
        go_simp
        with_reducible rfl
      rotate_left
      · simp only [Act.put, List.setIfInBounds_toArray, List.set_cons_zero, List.set_cons_succ, i64_w, i32_w]
        rfl
      refine pure_ (i := 2) (N := some 93) (v := ?_) (a' := ?_) #[true, true, true, false, false, false, false, false, false, false, false, false, false, false, false, false, false, false, false, false, false, false, false, false, false, false, false, false, false, false, false, false, false, false, false, false, false, false, false, false, false, false, false, false, false, false, false, false, false, false, false, false] rfl rfl (any_of HT_.out (by kernel_rfl)) (fun _ _ _ h => h) (Or.inl ⟨by rfl, ?_⟩) ?_ ?_
      rotate_left
      · intro w'
        go_simp
        with_reducible rfl
      rotate_left
      · simp only [Act.put, List.setIfInBounds_toArray, List.set_cons_zero, List.set_cons_succ, i64_w, i32_w]
        rfl
      refine pure_ (i := 3) (N := some 94) (v := ?_) (a' := ?_) #[true, true, true, true, false, false, false, false, false, false, false, false, false, false, false, false, false, false, false, false, false, false, false, false, false, false, false, false, false, false, false, false, false, false, false, false, false, false, false, false, false, false, false, false, false, false, false, false, false, false, false, false] rfl rfl (any_of HT_.out (by kernel_rfl)) (fun _ _ _ h => h) (Or.inl ⟨by rfl, ?_⟩) ?_ ?_
      rotate_left
      · intro w'
        go_simp
        with_reducible rfl
      rotate_left
      · simp only [Act.put, List.setIfInBounds_toArray, List.set_cons_zero, List.set_cons_succ, i64_w, i32_w]
        rfl
      refine pure_ (i := 4) (N := some 95) (v := ?_) (a' := ?_) #[true, true, true, true, true, false, false, false, false, false, false, false, false, false, false, false, false, false, false, false, false, false, false, false, false, false, false, false, false, false, false, false, false, false, false, false, false, false, false, false, false, false, false, false, false, false, false, false, false, false, false, false] rfl rfl (any_of HT_.out (by kernel_rfl)) (fun _ _ _ h => h) (Or.inl ⟨by rfl, ?_⟩) ?_ ?_
      rotate_left
      · intro w'
        go_simp
        with_reducible rfl
      rotate_left
      · simp only [Act.put, List.setIfInBounds_toArray, List.set_cons_zero, List.set_cons_succ, i64_w, i32_w]
        rfl
      refine pure_ (i := 5) (N := some 96) (v := ?_) (a' := ?_) #[true, true, true, true, true, true, false, false, false, false, false, false, false, false, false, false, false, false, false, false, false, false, false, false, false, false, false, false, false, false, false, false, false, false, false, false, false, false, false, false, false, false, false, false, false, false, false, false, false, false, false, false] rfl rfl (any_of HT_.out (by kernel_rfl)) (fun _ _ _ h => h) (Or.inl ⟨by rfl, ?_⟩) ?_ ?_
      rotate_left
      · intro w'
        go_simp
        with_reducible rfl
      rotate_left
      · simp only [Act.put, List.setIfInBounds_toArray, List.set_cons_zero, List.set_cons_succ, i64_w, i32_w]
        rfl
      refine pure_ (i := 7) (N := some 98) (v := ?_) (a' := ?_) #[true, true, true, true, true, true, false, true, false, false, false, false, false, false, false, false, false, false, false, false, false, false, false, false, false, false, false, false, false, false, false, false, false, false, false, false, false, false, false, false, false, false, false, false, false, false, false, false, false, false, false, false] rfl rfl (any_of HT_.out (by kernel_rfl)) (fun _ _ _ h => h) (Or.inl ⟨by rfl, ?_⟩) ?_ ?_
      rotate_left
      · intro w'
        go_simp
        with_reducible rfl
      rotate_left
      · simp only [Act.put, List.setIfInBounds_toArray, List.set_cons_zero, List.set_cons_succ, i64_w, i32_w]
        rfl
      refine take_ (i := 6) (N := some 97) (v := ?_) (a' := ?_) #[true, true, true, true, true, true, true, true, false, false, false, false, false, false, false, false, false, false, false, false, false, false, false, false, false, false, false, false, false, false, false, false, false, false, false, false, false, false, false, false, false, false, false, false, false, false, false, false, false, false, false, false] rfl rfl (take_ofW HT_.out HW_.out (by kernel_rfl)) (fun _ _ _ h => h) (Or.inl ⟨by rfl, ?_⟩) hHeld ?_ ?_
      rotate_left
      · rintro w' ⟨s0, s1, s2, s3⟩
        go_simp
        with_reducible rfl
      rotate_left
      · simp only [Act.put, List.setIfInBounds_toArray, List.set_cons_zero, List.set_cons_succ, i64_w, i32_w]
        rfl
      refine pure_ (i := 8) (N := some 99) (v := ?_) (a' := ?_) #[true, true, true, true, true, true, true, true, true, false, false, false, false, false, false, false, false, false, false, false, false, false, false, false, false, false, false, false, false, false, false, false, false, false, false, false, false, false, false, false, false, false, false, false, false, false, false, false, false, false, false, false] rfl rfl (any_of HT_.out (by kernel_rfl)) (fun _ _ _ h => h) (Or.inl ⟨by rfl, ?_⟩) ?_ ?_
      rotate_left
      · intro w'
        go_simp
        with_reducible rfl
      rotate_left
      · simp only [Act.put, List.setIfInBounds_toArray, List.set_cons_zero, List.set_cons_succ, i64_w, i32_w]
        rfl
      refine pure_ (i := 9) (N := some 100) (v := ?_) (a' := ?_) #[true, true, true, true, true, true, true, true, true, true, false, false, false, false, false, false, false, false, false, false, false, false, false, false, false, false, false, false, false, false, false, false, false, false, false, false, false, false, false, false, false, false, false, false, false, false, false, false, false, false, false, false] rfl rfl (any_of HT_.out (by kernel_rfl)) (fun _ _ _ h => h) (Or.inl ⟨by rfl, ?_⟩) ?_ ?_
      rotate_left
      · intro w'
        go_simp
        with_reducible rfl
      rotate_left
      · simp only [Act.put, List.setIfInBounds_toArray, List.set_cons_zero, List.set_cons_succ, i64_w, i32_w]
        rfl
      refine pure_ (i := 10) (N := some 101) (v := ?_) (a' := ?_) #[true, true, true, true, true, true, true, true, true, true, true, false, false, false, false, false, false, false, false, false, false, false, false, false, false, false, false, false, false, false, false, false, false, false, false, false, false, false, false, false, false, false, false, false, false, false, false, false, false, false, false, false] rfl rfl (any_of HT_.out (by kernel_rfl)) (fun _ _ _ h => h) (Or.inl ⟨by rfl, ?_⟩) ?_ ?_
      rotate_left
      · intro w'
        go_simp
        with_reducible rfl
      rotate_left
      · simp only [Act.put, List.setIfInBounds_toArray, List.set_cons_zero, List.set_cons_succ, i64_w, i32_w]
        rfl
      refine pure_ (i := 11) (N := some 102) (v := ?_) (a' := ?_) #[true, true, true, true, true, true, true, true, true, true, true, true, false, false, false, false, false, false, false, false, false, false, false, false, false, false, false, false, false, false, false, false, false, false, false, false, false, false, false, false, false, false, false, false, false, false, false, false, false, false, false, false] rfl rfl (any_of HT_.out (by kernel_rfl)) (fun _ _ _ h => h) (Or.inl ⟨by rfl, ?_⟩) ?_ ?_
      rotate_left
      · intro w'
        go_simp
        with_reducible rfl
      rotate_left
      · simp only [Act.put, List.setIfInBounds_toArray, List.set_cons_zero, List.set_cons_succ, i64_w, i32_w]
        rfl
      refine pure_ (i := 12) (N := some 103) (v := ?_) (a' := ?_) #[true, true, true, true, true, true, true, true, true, true, true, true, true, false, false, false, false, false, false, false, false, false, false, false, false, false, false, false, false, false, false, false, false, false, false, false, false, false, false, false, false, false, false, false, false, false, false, false, false, false, false, false] rfl rfl (any_of HT_.out (by kernel_rfl)) (fun _ _ _ h => h) (Or.inl ⟨by rfl, ?_⟩) ?_ ?_
      rotate_left
      · intro w'
        go_simp
        with_reducible rfl
      rotate_left
      · simp only [Act.put, List.setIfInBounds_toArray, List.set_cons_zero, List.set_cons_succ, i64_w, i32_w]
        rfl
      refine pure_ (i := 13) (N := some 104) (v := ?_) (a' := ?_) #[true, true, true, true, true, true, true, true, true, true, true, true, true, true, false, false, false, false, false, false, false, false, false, false, false, false, false, false, false, false, false, false, false, false, false, false, false, false, false, false, false, false, false, false, false, false, false, false, false, false, false, false] rfl rfl (any_of HT_.out (by kernel_rfl)) (fun _ _ _ h => h) (Or.inl ⟨by rfl, ?_⟩) ?_ ?_
      rotate_left
      · intro w'
        go_simp
        with_reducible rfl
      rotate_left
      · simp only [Act.put, List.setIfInBounds_toArray, List.set_cons_zero, List.set_cons_succ, i64_w, i32_w]
        rfl
      refine pure_ (i := 15) (N := some 106) (v := ?_) (a' := ?_) #[true, true, true, true, true, true, true, true, true, true, true, true, true, true, false, true, false, false, false, false, false, false, false, false, false, false, false, false, false, false, false, false, false, false, false, false, false, false, false, false, false, false, false, false, false, false, false, false, false, false, false, false] rfl rfl (any_of HT_.out (by kernel_rfl)) (fun _ _ _ h => h) (Or.inl ⟨by rfl, ?_⟩) ?_ ?_
      rotate_left
      · intro w'
        go_simp
        with_reducible rfl
      rotate_left
      · simp only [Act.put, List.setIfInBounds_toArray, List.set_cons_zero, List.set_cons_succ, i64_w, i32_w]
        rfl
      refine pure_ (i := 16) (N := some 107) (v := ?_) (a' := ?_) #[true, true, true, true, true, true, true, true, true, true, true, true, true, true, false, true, true, false, false, false, false, false, false, false, false, false, false, false, false, false, false, false, false, false, false, false, false, false, false, false, false, false, false, false, false, false, false, false, false, false, false, false] rfl rfl (any_of HT_.out (by kernel_rfl)) (fun _ _ _ h => h) (Or.inl ⟨by rfl, ?_⟩) ?_ ?_
      rotate_left
      · intro w'
        go_simp
        with_reducible rfl
      rotate_left
      · simp only [Act.put, List.setIfInBounds_toArray, List.set_cons_zero, List.set_cons_succ, i64_w, i32_w]
        rfl
      refine take_ (i := 14) (N := some 105) (v := ?_) (a' := ?_) #[true, true, true, true, true, true, true, true, true, true, true, true, true, true, true, true, true, false, false, false, false, false, false, false, false, false, false, false, false, false, false, false, false, false, false, false, false, false, false, false, false, false, false, false, false, false, false, false, false, false, false, false] rfl rfl (take_ofW HT_.out HW_.out (by kernel_rfl)) (fun _ _ _ h => h) (Or.inl ⟨by rfl, ?_⟩) hHeld ?_ ?_
      rotate_left
      · rintro w' ⟨s0, s1, s2, s3⟩
        go_simp
        with_reducible rfl
      rotate_left
      · simp only [Act.put, List.setIfInBounds_toArray, List.set_cons_zero, List.set_cons_succ, i64_w, i32_w]
        rfl
      refine pure_ (i := 17) (N := some 108) (v := ?_) (a' := ?_) #[true, true, true, true, true, true, true, true, true, true, true, true, true, true, true, true, true, true, false, false, false, false, false, false, false, false, false, false, false, false, false, false, false, false, false, false, false, false, false, false, false, false, false, false, false, false, false, false, false, false, false, false] rfl rfl (any_of HT_.out (by kernel_rfl)) (fun _ _ _ h => h) (Or.inl ⟨by rfl, ?_⟩) ?_ ?_
      rotate_left
      · intro w'
        go_simp
        with_reducible rfl
      rotate_left
      · simp only [Act.put, List.setIfInBounds_toArray, List.set_cons_zero, List.set_cons_succ, i64_w, i32_w]
        rfl
      refine pure_ (i := 18) (N := some 109) (v := ?_) (a' := ?_) #[true, true, true, true, true, true, true, true, true, true, true, true, true, true, true, true, true, true, true, false, false, false, false, false, false, false, false, false, false, false, false, false, false, false, false, false, false, false, false, false, false, false, false, false, false, false, false, false, false, false, false, false] rfl rfl (any_of HT_.out (by kernel_rfl)) (fun _ _ _ h => h) (Or.inl ⟨by rfl, ?_⟩) ?_ ?_
      rotate_left
      · intro w'
        go_simp
        with_reducible rfl
      rotate_left
      · simp only [Act.put, List.setIfInBounds_toArray, List.set_cons_zero, List.set_cons_succ, i64_w, i32_w]
        rfl
      refine pure_ (i := 19) (N := some 110) (v := ?_) (a' := ?_) #[true, true, true, true, true, true, true, true, true, true, true, true, true, true, true, true, true, true, true, true, false, false, false, false, false, false, false, false, false, false, false, false, false, false, false, false, false, false, false, false, false, false, false, false, false, false, false, false, false, false, false, false] rfl rfl (any_of HT_.out (by kernel_rfl)) (fun _ _ _ h => h) (Or.inl ⟨by rfl, ?_⟩) ?_ ?_
      rotate_left
      · intro w'
        go_simp
        with_reducible rfl
      rotate_left
      · simp only [Act.put, List.setIfInBounds_toArray, List.set_cons_zero, List.set_cons_succ, i64_w, i32_w]
        rfl
      refine pure_ (i := 20) (N := some 111) (v := ?_) (a' := ?_) #[true, true, true, true, true, true, true, true, true, true, true, true, true, true, true, true, true, true, true, true, true, false, false, false, false, false, false, false, false, false, false, false, false, false, false, false, false, false, false, false, false, false, false, false, false, false, false, false, false, false, false, false] rfl rfl (any_of HT_.out (by kernel_rfl)) (fun _ _ _ h => h) (Or.inl ⟨by rfl, ?_⟩) ?_ ?_
      rotate_left
      · intro w'
        go_simp
        with_reducible rfl
      rotate_left
      · simp only [Act.put, List.setIfInBounds_toArray, List.set_cons_zero, List.set_cons_succ, i64_w, i32_w]
        rfl
      refine pure_ (i := 21) (N := some 112) (v := ?_) (a' := ?_) #[true, true, true, true, true, true, true, true, true, true, true, true, true, true, true, true, true, true, true, true, true, true, false, false, false, false, false, false, false, false, false, false, false, false, false, false, false, false, false, false, false, false, false, false, false, false, false, false, false, false, false, false] rfl rfl (any_of HT_.out (by kernel_rfl)) (fun _ _ _ h => h) (Or.inl ⟨by rfl, ?_⟩) ?_ ?_
      rotate_left
      · intro w'
        go_simp
        with_reducible rfl
      rotate_left
      · simp only [Act.put, List.setIfInBounds_toArray, List.set_cons_zero, List.set_cons_succ, i64_w, i32_w]
        rfl
      refine pure_ (i := 22) (N := some 113) (v := ?_) (a' := ?_) #[true, true, true, true, true, true, true, true, true, true, true, true, true, true, true, true, true, true, true, true, true, true, true, false, false, false, false, false, false, false, false, false, false, false, false, false, false, false, false, false, false, false, false, false, false, false, false, false, false, false, false, false] rfl rfl (any_of HT_.out (by kernel_rfl)) (fun _ _ _ h => h) (Or.inl ⟨by rfl, ?_⟩) ?_ ?_
      rotate_left
      · intro w'
        go_simp
        with_reducible rfl
      rotate_left
      · simp only [Act.put, List.setIfInBounds_toArray, List.set_cons_zero, List.set_cons_succ, i64_w, i32_w]
        rfl
      refine pure_ (i := 23) (N := some 114) (v := ?_) (a' := ?_) #[true, true, true, true, true, true, true, true, true, true, true, true, true, true, true, true, true, true, true, true, true, true, true, true, false, false, false, false, false, false, false, false, false, false, false, false, false, false, false, false, false, false, false, false, false, false, false, false, false, false, false, false] rfl rfl (any_of HT_.out (by kernel_rfl)) (fun _ _ _ h => h) (Or.inl ⟨by rfl, ?_⟩) ?_ ?_
      rotate_left
      · intro w'
        go_simp
        with_reducible rfl
      rotate_left
      · simp only [Act.put, List.setIfInBounds_toArray, List.set_cons_zero, List.set_cons_succ, i64_w, i32_w]
        rfl
      refine pure_ (i := 25) (N := some 116) (v := ?_) (a' := ?_) #[true, true, true, true, true, true, true, true, true, true, true, true, true, true, true, true, true, true, true, true, true, true, true, true, false, true, false, false, false, false, false, false, false, false, false, false, false, false, false, false, false, false, false, false, false, false, false, false, false, false, false, false] rfl rfl (any_of HT_.out (by kernel_rfl)) (fun _ _ _ h => h) (Or.inl ⟨by rfl, ?_⟩) ?_ ?_
      rotate_left
      · intro w'
        go_simp
        with_reducible rfl
      rotate_left
      · simp only [Act.put, List.setIfInBounds_toArray, List.set_cons_zero, List.set_cons_succ, i64_w, i32_w]
        rfl
      refine pure_ (i := 26) (N := some 117) (v := ?_) (a' := ?_) #[true, true, true, true, true, true, true, true, true, true, true, true, true, true, true, true, true, true, true, true, true, true, true, true, false, true, true, false, false, false, false, false, false, false, false, false, false, false, false, false, false, false, false, false, false, false, false, false, false, false, false, false] rfl rfl (any_of HT_.out (by kernel_rfl)) (fun _ _ _ h => h) (Or.inl ⟨by rfl, ?_⟩) ?_ ?_
      rotate_left
      · intro w'
        go_simp
        with_reducible rfl
      rotate_left
      · simp only [Act.put, List.setIfInBounds_toArray, List.set_cons_zero, List.set_cons_succ, i64_w, i32_w]
        rfl
      refine pure_ (i := 27) (N := some 118) (v := ?_) (a' := ?_) #[true, true, true, true, true, true, true, true, true, true, true, true, true, true, true, true, true, true, true, true, true, true, true, true, false, true, true, true, false, false, false, false, false, false, false, false, false, false, false, false, false, false, false, false, false, false, false, false, false, false, false, false] rfl rfl (any_of HT_.out (by kernel_rfl)) (fun _ _ _ h => h) (Or.inl ⟨by rfl, ?_⟩) ?_ ?_
      rotate_left
      · intro w'
        go_simp
        with_reducible rfl
      rotate_left
      · simp only [Act.put, List.setIfInBounds_toArray, List.set_cons_zero, List.set_cons_succ, i64_w, i32_w]
        rfl
      refine take_ (i := 24) (N := some 115) (v := ?_) (a' := ?_) #[true, true, true, true, true, true, true, true, true, true, true, true, true, true, true, true, true, true, true, true, true, true, true, true, true, true, true, true, false, false, false, false, false, false, false, false, false, false, false, false, false, false, false, false, false, false, false, false, false, false, false, false] rfl rfl (take_ofW HT_.out HW_.out (by kernel_rfl)) (fun _ _ _ h => h) (Or.inl ⟨by rfl, ?_⟩) hHeld ?_ ?_
      rotate_left
      · rintro w' ⟨s0, s1, s2, s3⟩
        go_simp
        with_reducible rfl
      rotate_left
      · simp only [Act.put, List.setIfInBounds_toArray, List.set_cons_zero, List.set_cons_succ, i64_w, i32_w]
        rfl
      refine take_ (i := 28) (N := some 119) (v := ?_) (a' := ?_) #[true, true, true, true, true, true, true, true, true, true, true, true, true, true, true, true, true, true, true, true, true, true, true, true, true, true, true, true, true, false, false, false, false, false, false, false, false, false, false, false, false, false, false, false, false, false, false, false, false, false, false, false] rfl rfl (take_ofW HT_.out HW_.out (by kernel_rfl)) (fun _ _ _ h => h) (Or.inl ⟨by rfl, ?_⟩) hHeld ?_ ?_
      rotate_left
      · rintro w' ⟨s0, s1, s2, s3⟩
        go_simp
        with_reducible rfl
      rotate_left
      · simp only [Act.put, List.setIfInBounds_toArray, List.set_cons_zero, List.set_cons_succ, i64_w, i32_w]
        rfl
      refine pure_ (i := 29) (N := some 120) (v := ?_) (a' := ?_) #[true, true, true, true, true, true, true, true, true, true, true, true, true, true, true, true, true, true, true, true, true, true, true, true, true, true, true, true, true, true, false, false, false, false, false, false, false, false, false, false, false, false, false, false, false, false, false, false, false, false, false, false] rfl rfl (any_of HT_.out (by kernel_rfl)) (fun _ _ _ h => h) (Or.inl ⟨by rfl, ?_⟩) ?_ ?_
      rotate_left
      · intro w'
        go_simp
        with_reducible rfl
      rotate_left
      · simp only [Act.put, List.setIfInBounds_toArray, List.set_cons_zero, List.set_cons_succ, i64_w, i32_w]
        rfl
      refine pure_ (i := 30) (N := some 121) (v := ?_) (a' := ?_) #[true, true, true, true, true, true, true, true, true, true, true, true, true, true, true, true, true, true, true, true, true, true, true, true, true, true, true, true, true, true, true, false, false, false, false, false, false, false, false, false, false, false, false, false, false, false, false, false, false, false, false, false] rfl rfl (any_of HT_.out (by kernel_rfl)) (fun _ _ _ h => h) (Or.inl ⟨by rfl, ?_⟩) ?_ ?_
      rotate_left
      · intro w'
        go_simp
        with_reducible rfl
      rotate_left
      · simp only [Act.put, List.setIfInBounds_toArray, List.set_cons_zero, List.set_cons_succ, i64_w, i32_w]
        rfl
      refine pure_ (i := 31) (N := some 122) (v := ?_) (a' := ?_) #[true, true, true, true, true, true, true, true, true, true, true, true, true, true, true, true, true, true, true, true, true, true, true, true, true, true, true, true, true, true, true, true, false, false, false, false, false, false, false, false, false, false, false, false, false, false, false, false, false, false, false, false] rfl rfl (any_of HT_.out (by kernel_rfl)) (fun _ _ _ h => h) (Or.inl ⟨by rfl, ?_⟩) ?_ ?_
      rotate_left
      · intro w'
        go_simp
        with_reducible rfl
      rotate_left
      · simp only [Act.put, List.setIfInBounds_toArray, List.set_cons_zero, List.set_cons_succ, i64_w, i32_w]
        rfl
      refine pure_ (i := 32) (N := some 123) (v := ?_) (a' := ?_) #[true, true, true, true, true, true, true, true, true, true, true, true, true, true, true, true, true, true, true, true, true, true, true, true, true, true, true, true, true, true, true, true, true, false, false, false, false, false, false, false, false, false, false, false, false, false, false, false, false, false, false, false] rfl rfl (any_of HT_.out (by kernel_rfl)) (fun _ _ _ h => h) (Or.inl ⟨by rfl, ?_⟩) ?_ ?_
      rotate_left
      · intro w'
        go_simp
        with_reducible rfl
      rotate_left
      · simp only [Act.put, List.setIfInBounds_toArray, List.set_cons_zero, List.set_cons_succ, i64_w, i32_w]
        rfl
      refine pure_ (i := 33) (N := some 124) (v := ?_) (a' := ?_) #[true, true, true, true, true, true, true, true, true, true, true, true, true, true, true, true, true, true, true, true, true, true, true, true, true, true, true, true, true, true, true, true, true, true, false, false, false, false, false, false, false, false, false, false, false, false, false, false, false, false, false, false] rfl rfl (any_of HT_.out (by kernel_rfl)) (fun _ _ _ h => h) (Or.inl ⟨by rfl, ?_⟩) ?_ ?_
      rotate_left
      · intro w'
        go_simp
        with_reducible rfl
      rotate_left
      · simp only [Act.put, List.setIfInBounds_toArray, List.set_cons_zero, List.set_cons_succ, i64_w, i32_w]
        rfl
      refine pure_ (i := 34) (N := some 125) (v := ?_) (a' := ?_) #[true, true, true, true, true, true, true, true, true, true, true, true, true, true, true, true, true, true, true, true, true, true, true, true, true, true, true, true, true, true, true, true, true, true, true, false, false, false, false, false, false, false, false, false, false, false, false, false, false, false, false, false] rfl rfl (any_of HT_.out (by kernel_rfl)) (fun _ _ _ h => h) (Or.inl ⟨by rfl, ?_⟩) ?_ ?_
      rotate_left
      · intro w'
        go_simp
        with_reducible rfl
      rotate_left
      · simp only [Act.put, List.setIfInBounds_toArray, List.set_cons_zero, List.set_cons_succ, i64_w, i32_w]
        rfl
      refine pure_ (i := 35) (N := some 126) (v := ?_) (a' := ?_) #[true, true, true, true, true, true, true, true, true, true, true, true, true, true, true, true, true, true, true, true, true, true, true, true, true, true, true, true, true, true, true, true, true, true, true, true, false, false, false, false, false, false, false, false, false, false, false, false, false, false, false, false] rfl rfl (any_of HT_.out (by kernel_rfl)) (fun _ _ _ h => h) (Or.inl ⟨by rfl, ?_⟩) ?_ ?_
      rotate_left
      · intro w'
        go_simp
        with_reducible rfl
      rotate_left
      · simp only [Act.put, List.setIfInBounds_toArray, List.set_cons_zero, List.set_cons_succ, i64_w, i32_w]
        rfl
      refine take_ (i := 36) (N := some 127) (v := ?_) (a' := ?_) #[true, true, true, true, true, true, true, true, true, true, true, true, true, true, true, true, true, true, true, true, true, true, true, true, true, true, true, true, true, true, true, true, true, true, true, true, true, false, false, false, false, false, false, false, false, false, false, false, false, false, false, false] rfl rfl (take_ofW HT_.out HW_.out (by kernel_rfl)) (fun _ _ _ h => h) (Or.inl ⟨by rfl, ?_⟩) hHeld ?_ ?_
      rotate_left
      · rintro w' ⟨s0, s1, s2, s3⟩
        go_simp
        with_reducible rfl
      rotate_left
      · simp only [Act.put, List.setIfInBounds_toArray, List.set_cons_zero, List.set_cons_succ, i64_w, i32_w]
        rfl
      refine pure_ (i := 37) (N := some 128) (v := ?_) (a' := ?_) #[true, true, true, true, true, true, true, true, true, true, true, true, true, true, true, true, true, true, true, true, true, true, true, true, true, true, true, true, true, true, true, true, true, true, true, true, true, true, false, false, false, false, false, false, false, false, false, false, false, false, false, false] rfl rfl (any_of HT_.out (by kernel_rfl)) (fun _ _ _ h => h) (Or.inl ⟨by rfl, ?_⟩) ?_ ?_
      rotate_left
      · intro w'
        go_simp
        with_reducible rfl
      rotate_left
      · simp only [Act.put, List.setIfInBounds_toArray, List.set_cons_zero, List.set_cons_succ, i64_w, i32_w]
        rfl
      refine pure_ (i := 38) (N := some 129) (v := ?_) (a' := ?_) #[true, true, true, true, true, true, true, true, true, true, true, true, true, true, true, true, true, true, true, true, true, true, true, true, true, true, true, true, true, true, true, true, true, true, true, true, true, true, true, false, false, false, false, false, false, false, false, false, false, false, false, false] rfl rfl (any_of HT_.out (by kernel_rfl)) (fun _ _ _ h => h) (Or.inl ⟨by rfl, ?_⟩) ?_ ?_
      rotate_left
      · intro w'
        go_simp
        with_reducible rfl
      rotate_left
      · simp only [Act.put, List.setIfInBounds_toArray, List.set_cons_zero, List.set_cons_succ, i64_w, i32_w]
        rfl
      refine pure_ (i := 39) (N := some 130) (v := ?_) (a' := ?_) #[true, true, true, true, true, true, true, true, true, true, true, true, true, true, true, true, true, true, true, true, true, true, true, true, true, true, true, true, true, true, true, true, true, true, true, true, true, true, true, true, false, false, false, false, false, false, false, false, false, false, false, false] rfl rfl (any_of HT_.out (by kernel_rfl)) (fun _ _ _ h => h) (Or.inl ⟨by rfl, ?_⟩) ?_ ?_
      rotate_left
      · intro w'
        go_simp
        with_reducible rfl
      rotate_left
      · simp only [Act.put, List.setIfInBounds_toArray, List.set_cons_zero, List.set_cons_succ, i64_w, i32_w]
        rfl
      refine pure_ (i := 40) (N := some 131) (v := ?_) (a' := ?_) #[true, true, true, true, true, true, true, true, true, true, true, true, true, true, true, true, true, true, true, true, true, true, true, true, true, true, true, true, true, true, true, true, true, true, true, true, true, true, true, true, true, false, false, false, false, false, false, false, false, false, false, false] rfl rfl (any_of HT_.out (by kernel_rfl)) (fun _ _ _ h => h) (Or.inl ⟨by rfl, ?_⟩) ?_ ?_
      rotate_left
      · intro w'
        go_simp
        with_reducible rfl
      rotate_left
      · simp only [Act.put, List.setIfInBounds_toArray, List.set_cons_zero, List.set_cons_succ, i64_w, i32_w]
        rfl
      refine pure_ (i := 41) (N := some 132) (v := ?_) (a' := ?_) #[true, true, true, true, true, true, true, true, true, true, true, true, true, true, true, true, true, true, true, true, true, true, true, true, true, true, true, true, true, true, true, true, true, true, true, true, true, true, true, true, true, true, false, false, false, false, false, false, false, false, false, false] rfl rfl (any_of HT_.out (by kernel_rfl)) (fun _ _ _ h => h) (Or.inl ⟨by rfl, ?_⟩) ?_ ?_
      rotate_left
      · intro w'
        go_simp
        with_reducible rfl
      rotate_left
      · simp only [Act.put, List.setIfInBounds_toArray, List.set_cons_zero, List.set_cons_succ, i64_w, i32_w]
        rfl
      refine pure_ (i := 42) (N := some 133) (v := ?_) (a' := ?_) #[true, true, true, true, true, true, true, true, true, true, true, true, true, true, true, true, true, true, true, true, true, true, true, true, true, true, true, true, true, true, true, true, true, true, true, true, true, true, true, true, true, true, true, false, false, false, false, false, false, false, false, false] rfl rfl (any_of HT_.out (by kernel_rfl)) (fun _ _ _ h => h) (Or.inl ⟨by rfl, ?_⟩) ?_ ?_
      rotate_left
      · intro w'
        go_simp
        with_reducible rfl
      rotate_left
      · simp only [Act.put, List.setIfInBounds_toArray, List.set_cons_zero, List.set_cons_succ, i64_w, i32_w]
        rfl
      refine pure_ (i := 43) (N := some 134) (v := ?_) (a' := ?_) #[true, true, true, true, true, true, true, true, true, true, true, true, true, true, true, true, true, true, true, true, true, true, true, true, true, true, true, true, true, true, true, true, true, true, true, true, true, true, true, true, true, true, true, true, false, false, false, false, false, false, false, false] rfl rfl (any_of HT_.out (by kernel_rfl)) (fun _ _ _ h => h) (Or.inl ⟨by rfl, ?_⟩) ?_ ?_
      rotate_left
      · intro w'
        go_simp
        with_reducible rfl
      rotate_left
      · simp only [Act.put, List.setIfInBounds_toArray, List.set_cons_zero, List.set_cons_succ, i64_w, i32_w]
        rfl
      refine pure_ (i := 44) (N := some 135) (v := ?_) (a' := ?_) #[true, true, true, true, true, true, true, true, true, true, true, true, true, true, true, true, true, true, true, true, true, true, true, true, true, true, true, true, true, true, true, true, true, true, true, true, true, true, true, true, true, true, true, true, true, false, false, false, false, false, false, false] rfl rfl (any_of HT_.out (by kernel_rfl)) (fun _ _ _ h => h) (Or.inl ⟨by rfl, ?_⟩) ?_ ?_
      rotate_left
      · intro w'
        go_simp
        with_reducible rfl
      rotate_left
      · simp only [Act.put, List.setIfInBounds_toArray, List.set_cons_zero, List.set_cons_succ, i64_w, i32_w]
        rfl
      refine pure_ (i := 46) (N := some 137) (v := ?_) (a' := ?_) #[true, true, true, true, true, true, true, true, true, true, true, true, true, true, true, true, true, true, true, true, true, true, true, true, true, true, true, true, true, true, true, true, true, true, true, true, true, true, true, true, true, true, true, true, true, false, true, false, false, false, false, false] rfl rfl (any_of HT_.out (by kernel_rfl)) (fun _ _ _ h => h) (Or.inl ⟨by rfl, ?_⟩) ?_ ?_
      rotate_left
      · intro w'
        go_simp
        with_reducible rfl
      rotate_left
      · simp only [Act.put, List.setIfInBounds_toArray, List.set_cons_zero, List.set_cons_succ, i64_w, i32_w]
        rfl
      refine pure_ (i := 47) (N := some 138) (v := ?_) (a' := ?_) #[true, true, true, true, true, true, true, true, true, true, true, true, true, true, true, true, true, true, true, true, true, true, true, true, true, true, true, true, true, true, true, true, true, true, true, true, true, true, true, true, true, true, true, true, true, false, true, true, false, false, false, false] rfl rfl (any_of HT_.out (by kernel_rfl)) (fun _ _ _ h => h) (Or.inl ⟨by rfl, ?_⟩) ?_ ?_
      rotate_left
      · intro w'
        go_simp
        with_reducible rfl
      rotate_left
      · simp only [Act.put, List.setIfInBounds_toArray, List.set_cons_zero, List.set_cons_succ, i64_w, i32_w]
        rfl
      refine pure_ (i := 48) (N := some 139) (v := ?_) (a' := ?_) #[true, true, true, true, true, true, true, true, true, true, true, true, true, true, true, true, true, true, true, true, true, true, true, true, true, true, true, true, true, true, true, true, true, true, true, true, true, true, true, true, true, true, true, true, true, false, true, true, true, false, false, false] rfl rfl (any_of HT_.out (by kernel_rfl)) (fun _ _ _ h => h) (Or.inl ⟨by rfl, ?_⟩) ?_ ?_
      rotate_left
      · intro w'
        go_simp
        with_reducible rfl
      rotate_left
      · simp only [Act.put, List.setIfInBounds_toArray, List.set_cons_zero, List.set_cons_succ, i64_w, i32_w]
        rfl
      refine pure_ (i := 49) (N := some 140) (v := ?_) (a' := ?_) #[true, true, true, true, true, true, true, true, true, true, true, true, true, true, true, true, true, true, true, true, true, true, true, true, true, true, true, true, true, true, true, true, true, true, true, true, true, true, true, true, true, true, true, true, true, false, true, true, true, true, false, false] rfl rfl (any_of HT_.out (by kernel_rfl)) (fun _ _ _ h => h) (Or.inl ⟨by rfl, ?_⟩) ?_ ?_
      rotate_left
      · intro w'
        go_simp
        with_reducible rfl
      rotate_left
      · simp only [Act.put, List.setIfInBounds_toArray, List.set_cons_zero, List.set_cons_succ, i64_w, i32_w]
        rfl
      refine one_ (i := 45) (N := some 136) #[true, true, true, true, true, true, true, true, true, true, true, true, true, true, true, true, true, true, true, true, true, true, true, true, true, true, true, true, true, true, true, true, true, true, true, true, true, true, true, true, true, true, true, true, true, true, true, true, true, true, false, false] rfl rfl (one_of HT_.out (by kernel_rfl)) (by decide) (fun K hK => ?_)
      refine goes_ Try.func16 (by kernel_rfl) rfl #[.pointer (some ⟨b, 0, none⟩)] (by rfl) rfl rfl (by (try simp only [List.map_toArray, List.map_cons, List.map_nil]); first | done | rfl) ?_
      refine (HD.out _ LW.out).mono ?_
      rintro e_ wq ⟨rfl, hw⟩
      have FR1 : Aside0 (OnlyB wd_ wq) := ⟨⟨by rw [hw]; exact Below.refl _ _⟩⟩
      clear hw
      refine ⟨_, rfl, ?_⟩
      refine hK.out _ _ ⟨(pw_cell_below FR1.out.b c0_), (pw_cell_below FR1.out.b c1_), (pw_cell_below FR1.out.b c2_), (pw_cell_below FR1.out.b c3_)⟩ (fun hHeld => ?_)
      clear hK K
      refine norm_ (a' := ?_) ?_ ?_
      rotate_left
      · show Act.put _ (some 136) _ = _
        simp only [Act.put, List.setIfInBounds_toArray, List.set_cons_zero, List.set_cons_succ, i64_w, i32_w]
        rfl
      refine pure_ (i := 50) (N := some 141) (v := ?_) (a' := ?_) #[true, true, true, true, true, true, true, true, true, true, true, true, true, true, true, true, true, true, true, true, true, true, true, true, true, true, true, true, true, true, true, true, true, true, true, true, true, true, true, true, true, true, true, true, true, true, true, true, true, true, true, false] rfl rfl (any_of HT_.out (by kernel_rfl)) (fun _ _ _ h => h) (Or.inl ⟨by rfl, ?_⟩) ?_ ?_
      rotate_left
      · intro w'
        go_simp
        with_reducible rfl
      rotate_left
      · simp only [Act.put, List.setIfInBounds_toArray, List.set_cons_zero, List.set_cons_succ, i64_w, i32_w]
        rfl
      refine pure_ (i := 51) (N := some 142) (v := ?_) (a' := ?_) #[true, true, true, true, true, true, true, true, true, true, true, true, true, true, true, true, true, true, true, true, true, true, true, true, true, true, true, true, true, true, true, true, true, true, true, true, true, true, true, true, true, true, true, true, true, true, true, true, true, true, true, true] rfl rfl (any_of HT_.out (by kernel_rfl)) (fun _ _ _ h => h) (Or.inl ⟨by rfl, ?_⟩) ?_ ?_
      rotate_left
      · intro w'
        go_simp
        with_reducible rfl
      rotate_left
      · simp only [Act.put, List.setIfInBounds_toArray, List.set_cons_zero, List.set_cons_succ, i64_w, i32_w]
        rfl
      refine done_ (done_of HT_.out (by kernel_rfl)) ?_
      have L6 := Aside0.mk (LW.out.below FR1.out.b)
      have lc6 := pw_cell_below FR1.out.b c3_
      clear hHeld HT_ HW_ c0_ c1_ c2_ c3_ f0 f1 f2 lc LW HD FR1 hw1 hw2 hw3
      have hl6 : (F1 ++ [((i : Int), (i : Int) + 1, regs [x])]).length ≤ 1000 := by rw [List.length_append, HLF.out]; exact Nat.le_trans (Nat.add_le_add_right TK.out _) (Nat.le_of_ble_eq_true rfl)
      have HL6 := Aside0.mk hl6
      clear hl6
      go_wp2_with fail
      refine (L6.out.back HL6.out (by simp) x).mono ?_
      rintro e w7 ⟨rfl, hL7⟩
      rw [take_last] at hL7
      have L7 := Aside0.mk hL7
      have r0 : w7.cell? ⟨b, 0, none⟩ = some (.int .u64 x) := hL7.ret0
      obtain ⟨ad2, e2, lc7⟩ := word_at (Kd.C_below HW.out hL7.bl) i hil
      injection e2 with e2
      subst e2
      rw [HX.out] at lc7
      clear hL7 L6 lc6
      go_upto_region 27 with (fail)
      go_region
      go_wp2
      go_roundg i
      rotate_left
      · exact (show i < _ by have := hm.out; omega)
      · refine ⟨i, regs [x], by go_num, ⟨rfl⟩, by omega, ⟨?_⟩⟩
        rw [HF1.out, HS1.out]
        exact L7.out.below (below_drew1 (Below.refl _ _))
set_option maxHeartbeats 4000000 in
set_option maxRecDepth 100000 in
theorem ord6 {l0 : List S39} {A0 A1 A2 : Option Addr} {c0 c1 c2 b : Nat} {ws : List Int} {ps : List S37} {w X : World} (HW : Aside0 (Kd.C (Kd.int .u64) w A1 ws.length ws)) (HP : Aside0 (Kd.C k37 w A2 ps.length ps)) (hws : ws.length ≤ 60) (hps : ps.length ≤ 60) (hc1 : ws.length ≤ c1) (hc2 : ps.length ≤ c2) {r0 : Nat → Int} {F0 : List Co} {row0 : List S37} {st0 : List Int} (LX : Aside0 (LT w X b r0 F0 row0 st0)) (RI : Aside0 (ris row0 = true)) (hF : F0.length ≤ 400) (hr0 : row0.length ≤ 500) (hs0 : st0.length ≤ 400) {m3 m4 m5 m6 m8 m10 m11 m12 m13 m14 m15 m16 m17 m18 m19 m20 m21 m22 m23 m24 m25 m26 m27 m28 m29 m30 m31 m32 m33 m34 m35 m36 m37 m38 m39 m40 m41 m42 m43 m44 m45 m46 m47 m48 m49 m50 m51 m52 m53 m54 m55 m56 m57 m58 m59 m60 m61 m62 m63 m64 m65 m66 m67 m68 m69 m70 m71 m72 m73 m74 m75 m76 m77 m78 m79 m80 m81 m82 m83 m84 m85 m86 m87 m88 m89 m90 m91 m92 m93 m94 m95 m96 m97 m98 m99 m100 m101 m102 m103 m104 m105 m106 m107 m108 m109 m110 m111 m112 m113 m114 m115 m116 m117 m118 m119 m120 m121 m122 m123 m124 m125 m126 m127 m128 m129 m130 m131 m132 m133 m134 m135 m136 m137 m138 m139 m140 m141 m142 m143 m144 m145 m146 m147 m148 m149 m150 m151 m152 m153 m154 m155 m156 m157 m158 m159 m160 m161 m162 m163 m164 m165 m166 m167 m168 m169 m170 m171 m172 m173 m174 m175 m176 m177 m178 m179 m180 m181 m182 m183 m184 m185 m186 m187 m188 m189 m190 m191 m192 m193 m194 m195 m196 m197 m198 m199 m200 m201 m202 m203 : Value} :
    Code.wp Try.prog (tl 6 (bodyC Try.f4)) (bodyPost Try.prog Try.f4 fun e w' => e = .returned (.bool true) ∧ Below w.heap.size w w') { tmps := List.toArray (.slice A0 l0.length c0 :: .slice A1 ws.length c1 :: .slice A2 ps.length c2 :: m3 :: m4 :: m5 :: m6 :: .pointer (some ⟨b, 0, none⟩) :: m8 :: .int .i64 F0.length :: m10 :: m11 :: m12 :: m13 :: m14 :: m15 :: m16 :: m17 :: m18 :: m19 :: m20 :: m21 :: m22 :: m23 :: m24 :: m25 :: m26 :: m27 :: m28 :: m29 :: m30 :: m31 :: m32 :: m33 :: m34 :: m35 :: m36 :: m37 :: m38 :: m39 :: m40 :: m41 :: m42 :: m43 :: m44 :: m45 :: m46 :: m47 :: m48 :: m49 :: m50 :: m51 :: m52 :: m53 :: m54 :: m55 :: m56 :: m57 :: m58 :: m59 :: m60 :: m61 :: m62 :: m63 :: m64 :: m65 :: m66 :: m67 :: m68 :: m69 :: m70 :: m71 :: m72 :: m73 :: m74 :: m75 :: m76 :: m77 :: m78 :: m79 :: m80 :: m81 :: m82 :: m83 :: m84 :: m85 :: m86 :: m87 :: m88 :: m89 :: m90 :: m91 :: m92 :: m93 :: m94 :: m95 :: m96 :: m97 :: m98 :: m99 :: m100 :: m101 :: m102 :: m103 :: m104 :: m105 :: m106 :: m107 :: m108 :: m109 :: m110 :: m111 :: m112 :: m113 :: m114 :: m115 :: m116 :: m117 :: m118 :: m119 :: m120 :: m121 :: m122 :: m123 :: m124 :: m125 :: m126 :: m127 :: m128 :: m129 :: m130 :: m131 :: m132 :: m133 :: m134 :: m135 :: m136 :: m137 :: m138 :: m139 :: m140 :: m141 :: m142 :: m143 :: m144 :: m145 :: m146 :: m147 :: m148 :: m149 :: m150 :: m151 :: m152 :: m153 :: m154 :: m155 :: m156 :: m157 :: m158 :: m159 :: m160 :: m161 :: m162 :: m163 :: m164 :: m165 :: m166 :: m167 :: m168 :: m169 :: m170 :: m171 :: m172 :: m173 :: m174 :: m175 :: m176 :: m177 :: m178 :: m179 :: m180 :: m181 :: m182 :: m183 :: m184 :: m185 :: m186 :: m187 :: m188 :: m189 :: m190 :: m191 :: m192 :: m193 :: m194 :: m195 :: m196 :: m197 :: m198 :: m199 :: m200 :: m201 :: m202 :: m203 :: []), defers := [] } X := by
  have hup := Try.underlying37
  have huF := Try.underlying50
  have huT := Try.underlying57
  have hu24 := Try.underlying48
  have hu12 := Try.underlying28
  conv => arg 2; whnf
  go_upto_region 11 with (fail)
  rename_i KK hKK K2 hK2
  have HKK := Aside0.mk hKK
  clear hKK
  have LX : Aside0 (LT w X b r0 (F0 ++ FJ ws 0) row0 (st0 ++ ws.take 0)) := ⟨by rw [show FJ ws 0 = [] from rfl, List.append_nil, List.take_zero, List.append_nil]; exact LX.out⟩
  go_wp2
  go_loopg [10] ws.length (fun kx s10 wr => ∃ (i : Nat), s10 = .int .i64 i ∧ Aside0 (i + kx = ws.length) ∧ i ≤ ws.length ∧ Aside0 (LT w wr b r0 (F0 ++ FJ ws i) row0 (st0 ++ ws.take i)))
  case atStart => exact ⟨0, rfl, ⟨Nat.zero_add _⟩, Nat.zero_le _, LX⟩
  case round =>
    clear LX
    obtain ⟨i, rfl, hi, hml, LX⟩ := hrel
    by_cases hil : i < ws.length
    · have q1 : (i : Int) < (ws.length : Int) := by omega
      obtain ⟨x, hx⟩ : ∃ x, ws[i] = x := ⟨_, rfl⟩
      have HX := Aside0.mk hx
      have hgx : ws.getD i 0 = x := by rw [List.getD_eq_getElem?_getD, List.getElem?_eq_getElem hil]; exact hx
      have HGX := Aside0.mk hgx
      clear hx hgx
      have HNX : Aside0 ((F0 ++ FJ ws i) ++ [((i : Int), (i : Int) + 1, regs [x])] = F0 ++ FJ ws (i + 1) ∧ (st0 ++ ws.take i) ++ [x] = st0 ++ ws.take (i + 1)) := ⟨by rw [FJ_succ, HGX.out, List.take_succ_eq_append_getElem hil, HX.out, List.append_assoc, List.append_assoc]; exact ⟨rfl, rfl⟩⟩
      have hlF : (F0 ++ FJ ws i).length ≤ 600 := by rw [List.length_append, FJ_len]; omega
      have hlS : (st0 ++ ws.take i).length ≤ 600 := by rw [List.length_append, List.length_take]; omega
      have hi6 : i ≤ 600 := by omega
      generalize F0 ++ FJ ws i = F1 at LX hlF HNX
      generalize st0 ++ ws.take i = S1 at LX hlS HNX
      have HLF := Aside0.mk hlF
      have HLS := Aside0.mk hlS
      have hw1 : wrap64 ((i : Int) + 1) = (i : Int) + 1 := wrap_i1 hi6
      clear hlF hlS hi6
      obtain ⟨ad, hA, lc⟩ := word_at (Kd.C_below HW.out LX.out.bl) i hil
      subst hA
      rw [HX.out] at lc
      have BA := Aside0.mk (below_alloc (Below.refl wr.heap.size wr) (.cells #[.int .u64 x] 27 (0, 0)))
      have CA := Aside0.mk (lit_C (w := wr.alloc (.cells #[.int .u64 x] 27 (0, 0))) [x] (Nat.le_of_ble_eq_true rfl) (heap_alloc_new wr (.cells #[.int .u64 x] 27 (0, 0))))
      have LA := Aside0.mk (LX.out.below BA.out)
      clear LX BA
      go_wp2_with fail
      refine (LA.out.call (Nat.le_trans HLF.out (by decide)) (i : Int) (c := 1) CA.out).mono ?_
      rintro e w2 ⟨rfl, hL2⟩
      have L2 := Aside0.mk hL2
      obtain ⟨ad2, e2, lc2⟩ := word_at (Kd.C_below HW.out hL2.bl) i hil
      injection e2 with e2
      subst e2
      rw [HX.out] at lc2
      clear hL2 LA CA lc
      go_wp2_with fail
      refine (L2.out.push (Nat.le_trans HLS.out (by decide)) x).mono ?_
      rintro e w3 ⟨rfl, hL3⟩
      have L3 := Aside0.mk hL3
      have hl3 := Aside0.mk (show (F1 ++ [((i : Int), (0 : Int), regs [x])]).length ≤ 1000 by rw [List.length_append]; exact Nat.le_trans (Nat.add_le_add_right HLF.out _) (Nat.le_of_ble_eq_true rfl))
      clear hL3 L2 lc2
      go_wp2_with fail
      refine (LTop.below L3.out hl3.out (by simp) (f := ((i : Int), (0 : Int), regs [x])) (last_of F1 _)).mono ?_
      rintro e w4 ⟨fb, rfl, hT4, hb4⟩
      have L4 := Aside0.mk hT4.lt
      clear hT4 hb4 L3
      go_wp2_with fail
      refine (LTop.below L4.out hl3.out (by simp) (f := ((i : Int), (0 : Int), regs [x])) (last_of F1 _)).mono ?_
      rintro e w5 ⟨fb5, rfl, hT5, hb5⟩
      have P5 := Aside0.mk (hT5.pc ((i : Int) + 1))
      have g1 : w5.cell? ⟨fb5, 1, none⟩ = some (.int .i64 0) := (blk_cell hT5.hb 1).trans rfl
      have z1 := blk_frozen hT5.hb 1
      clear hT5 hb5 L4
      go_wp2
      go_roundg (ws.length - (i + 1))
      rotate_left
      · exact (show ws.length - (i + 1) < _ by have := hi.out; omega)
      · refine ⟨i + 1, by go_num, ⟨by omega⟩, by omega, ⟨?_⟩⟩
        have K := P5.out
        rw [set_last] at K
        rw [← HNX.out.1, ← HNX.out.2]
        exact K
    · have q1 : ¬ (i : Int) < (ws.length : Int) := by omega
      obtain rfl : i = ws.length := by omega
      rw [List.take_length] at LX
      go_wp2
      refine HKK.out _ _ ?_
      exact ord7 HW HP hws hps hc1 hc2 LX RI (Nat.le_trans hF (by decide)) hr0 (Nat.le_trans hs0 (by decide))
set_option maxHeartbeats 4000000 in
set_option maxRecDepth 100000 in
theorem ord5 {l0 : List S39} {A0 A1 A2 : Option Addr} {c0 c1 c2 b : Nat} {ws : List Int} {ps : List S37} {w X : World} (HW : Aside0 (Kd.C (Kd.int .u64) w A1 ws.length ws)) (HP : Aside0 (Kd.C k37 w A2 ps.length ps)) (hws : ws.length ≤ 60) (hps : ps.length ≤ 60) (hc1 : ws.length ≤ c1) (hc2 : ps.length ≤ c2) {r0 : Nat → Int} {F0 : List Co} {row0 : List S37} {st0 : List Int} (LX : Aside0 (LT w X b r0 F0 row0 st0)) (RI : Aside0 (ris row0 = true)) (hF : F0.length ≤ 400) (hr0 : row0.length ≤ 500) (hs0 : st0.length ≤ 400) {m3 m4 m5 m6 m8 m9 m10 m11 m12 m13 m14 m15 m16 m17 m18 m19 m20 m21 m22 m23 m24 m25 m26 m27 m28 m29 m30 m31 m32 m33 m34 m35 m36 m37 m38 m39 m40 m41 m42 m43 m44 m45 m46 m47 m48 m49 m50 m51 m52 m53 m54 m55 m56 m57 m58 m59 m60 m61 m62 m63 m64 m65 m66 m67 m68 m69 m70 m71 m72 m73 m74 m75 m76 m77 m78 m79 m80 m81 m82 m83 m84 m85 m86 m87 m88 m89 m90 m91 m92 m93 m94 m95 m96 m97 m98 m99 m100 m101 m102 m103 m104 m105 m106 m107 m108 m109 m110 m111 m112 m113 m114 m115 m116 m117 m118 m119 m120 m121 m122 m123 m124 m125 m126 m127 m128 m129 m130 m131 m132 m133 m134 m135 m136 m137 m138 m139 m140 m141 m142 m143 m144 m145 m146 m147 m148 m149 m150 m151 m152 m153 m154 m155 m156 m157 m158 m159 m160 m161 m162 m163 m164 m165 m166 m167 m168 m169 m170 m171 m172 m173 m174 m175 m176 m177 m178 m179 m180 m181 m182 m183 m184 m185 m186 m187 m188 m189 m190 m191 m192 m193 m194 m195 m196 m197 m198 m199 m200 m201 m202 m203 : Value} :
    Code.wp Try.prog (tl 5 (bodyC Try.f4)) (bodyPost Try.prog Try.f4 fun e w' => e = .returned (.bool true) ∧ Below w.heap.size w w') { tmps := List.toArray (.slice A0 l0.length c0 :: .slice A1 ws.length c1 :: .slice A2 ps.length c2 :: m3 :: m4 :: m5 :: m6 :: .pointer (some ⟨b, 0, none⟩) :: m8 :: m9 :: m10 :: m11 :: m12 :: m13 :: m14 :: m15 :: m16 :: m17 :: m18 :: m19 :: m20 :: m21 :: m22 :: m23 :: m24 :: m25 :: m26 :: m27 :: m28 :: m29 :: m30 :: m31 :: m32 :: m33 :: m34 :: m35 :: m36 :: m37 :: m38 :: m39 :: m40 :: m41 :: m42 :: m43 :: m44 :: m45 :: m46 :: m47 :: m48 :: m49 :: m50 :: m51 :: m52 :: m53 :: m54 :: m55 :: m56 :: m57 :: m58 :: m59 :: m60 :: m61 :: m62 :: m63 :: m64 :: m65 :: m66 :: m67 :: m68 :: m69 :: m70 :: m71 :: m72 :: m73 :: m74 :: m75 :: m76 :: m77 :: m78 :: m79 :: m80 :: m81 :: m82 :: m83 :: m84 :: m85 :: m86 :: m87 :: m88 :: m89 :: m90 :: m91 :: m92 :: m93 :: m94 :: m95 :: m96 :: m97 :: m98 :: m99 :: m100 :: m101 :: m102 :: m103 :: m104 :: m105 :: m106 :: m107 :: m108 :: m109 :: m110 :: m111 :: m112 :: m113 :: m114 :: m115 :: m116 :: m117 :: m118 :: m119 :: m120 :: m121 :: m122 :: m123 :: m124 :: m125 :: m126 :: m127 :: m128 :: m129 :: m130 :: m131 :: m132 :: m133 :: m134 :: m135 :: m136 :: m137 :: m138 :: m139 :: m140 :: m141 :: m142 :: m143 :: m144 :: m145 :: m146 :: m147 :: m148 :: m149 :: m150 :: m151 :: m152 :: m153 :: m154 :: m155 :: m156 :: m157 :: m158 :: m159 :: m160 :: m161 :: m162 :: m163 :: m164 :: m165 :: m166 :: m167 :: m168 :: m169 :: m170 :: m171 :: m172 :: m173 :: m174 :: m175 :: m176 :: m177 :: m178 :: m179 :: m180 :: m181 :: m182 :: m183 :: m184 :: m185 :: m186 :: m187 :: m188 :: m189 :: m190 :: m191 :: m192 :: m193 :: m194 :: m195 :: m196 :: m197 :: m198 :: m199 :: m200 :: m201 :: m202 :: m203 :: []), defers := [] } X := by
  have hup := Try.underlying37
  have huF := Try.underlying50
  have huT := Try.underlying57
  have hu24 := Try.underlying48
  have hu12 := Try.underlying28
  conv => arg 2; whnf
  go_upto_region 10 with (fail)
  rename_i KK hKK
  have HKK := Aside0.mk hKK
  clear hKK
  go_wp2_with fail
  refine LX.out.depth.mono ?_
  rintro e w7 ⟨rfl, rfl⟩
  go_wp2
  refine HKK.out _ _ ?_
  exact ord6 HW HP hws hps hc1 hc2 LX RI hF hr0 hs0
theorem LT.moves {w X : World} {b n : Nat} {t : TS} (h : LT w X b t.r t.fs t.row t.st) (iv : Inv n t) (hn : n ≤ 1000) {AL : Option Addr} {cL : Nat} (o : S39) (hF : Kd.F (Kd.int .u64) w (fun k => k < w.heap.size) AL o.f2.length o.f2) :
    Calls Try.prog 13 #[.pointer (some ⟨b, 0, none⟩), .agg #[.int .i64 o.f0, .int .i64 o.f1, .slice AL o.f2.length cL, .int .i64 o.f3.f0, .int .i64 o.f3.f1]] X fun e W' => e = .returned (.tuple #[.int .u64 (stepT t o).2.1, .bool (stepT t o).2.2]) ∧ LT w W' b (stepT t o).1.r (stepT t o).1.fs (stepT t o).1.row (stepT t o).1.st := by
  obtain ⟨⟨P, vF, vR, vS, fs, h1, h2, h3⟩, bl, bs⟩ := h
  refine (do_step h1 h2 h3 bs.2 (iv.le (by omega)) o (fun X hX => Kd.F_now (Kd.F_step hF (fun k hk hl => (hX k (by omega)).trans (bl.block k hk))))).mono ?_
  rintro e W2 ⟨rfl, ⟨P2, vF2, vR2, vS2, gs, T2, c2, p1, p2, p3⟩, M2⟩
  have hs := M2.b.size
  exact ⟨rfl, ⟨P2, vF2, vR2, vS2, gs, T2, c2, p3⟩, ⟨M2.b.os.trans bl.os, M2.b.tape.trans bl.tape, M2.b.output.trans bl.output, Nat.le_trans bl.size hs, fun k hk => (M2.b.block k (by omega)).trans (bl.block k hk)⟩, bs.1, by omega⟩
set_option maxHeartbeats 4000000 in
set_option maxRecDepth 100000 in
theorem ord_lives (l0 : List S39) (A0 : Option Addr) (c0 : Nat) (ws : List Int) (A1 : Option Addr) (c1 : Nat) (ps : List S37) (A2 : Option Addr) (c2 : Nat) (w : World) (hr0 : Kd.C k39 w A0 l0.length l0) (hc0 : l0.length ≤ c0) (k : Nat) (bb : Bool) (hg : deadwoodlaw15_great.f k l0 = some bb) (hh : bb = true ∨ 60 < ws.length ∨ 60 < ps.length) :
    Calls Try.prog 4 #[.slice A0 l0.length c0, .slice A1 ws.length c1, .slice A2 ps.length c2] w fun e w' => e = .returned (.bool true) ∧ Below w.heap.size w w' := by
  have G := Aside0.mk (deadwoodlaw15_great.calls k A0 c0 l0 bb w hr0 hc0 hg)
  have HH := Aside0.mk hh
  clear hg hr0 hh
  go_enter Try.func4, Try.ntmps4
  go_wp2_with fail
  refine G.out.mono ?_
  rintro e w2 ⟨rfl, ⟨nd, rfl⟩⟩
  have B1 := Aside0.mk (pw_below_drewN (Below.refl w.heap.size w) nd)
  generalize w.drewN nd = w1 at B1 ⊢
  cases bb with
  | true =>
    go_wp2_with fail
    refine (lives_calls _).mono ?_
    rintro e w3 ⟨rfl, hb⟩
    have HB := Aside0.mk (below_then B1.out B1.out.size hb)
    clear hb
    go_wp2
    go_ret
    exact ⟨rfl, HB.out⟩
  | false =>
    by_cases h1 : 60 < ws.length
    · have d1 : decide ((ws.length : Int) > 60) = true := decide_eq_true (by omega)
      go_wp2_with fail
      refine (lives_calls _).mono ?_
      rintro e w3 ⟨rfl, hb⟩
      have HB := Aside0.mk (below_then B1.out B1.out.size hb)
      clear hb
      go_wp2
      go_ret
      exact ⟨rfl, HB.out⟩
    · have d1 : decide ((ws.length : Int) > 60) = false := decide_eq_false (by omega)
      have h2 : 60 < ps.length := by rcases HH.out with q | q | q; cases q; omega; exact q
      have d2 : decide ((ps.length : Int) > 60) = true := decide_eq_true (by omega)
      go_wp2_with fail
      refine (lives_calls _).mono ?_
      rintro e w3 ⟨rfl, hb⟩
      have HB := Aside0.mk (below_then B1.out B1.out.size hb)
      clear hb
      go_wp2
      go_ret
      exact ⟨rfl, HB.out⟩
set_option maxHeartbeats 4000000 in
set_option maxRecDepth 100000 in
theorem ord_in (l0 : List S39) (A0 : Option Addr) (c0 : Nat) (ws : List Int) (A1 : Option Addr) (c1 : Nat) (ps : List S37) (A2 : Option Addr) (c2 : Nat) (w : World) (hr0 : Kd.C k39 w A0 l0.length l0) (hc0 : l0.length ≤ c0) (hr1 : Kd.C (Kd.int .u64) w A1 ws.length ws) (hc1 : ws.length ≤ c1) (hr2 : Kd.C k37 w A2 ps.length ps) (hc2 : ps.length ≤ c2)
    (k : Nat) (hg : deadwoodlaw15_great.f k l0 = some false) (hl : l0.length ≤ 80) (hws : ws.length ≤ 60) (hps : ps.length ≤ 60) :
    Calls Try.prog 4 #[.slice A0 l0.length c0, .slice A1 ws.length c1, .slice A2 ps.length c2] w fun e w' => e = .returned (.bool true) ∧ Below w.heap.size w w' := by
  have huO := Try.underlying39
  have G := Aside0.mk (deadwoodlaw15_great.calls k A0 c0 l0 false w hr0 hc0 hg)
  have FO := Aside0.mk (Kd.C_F k39_heap hr0)
  have HW := Aside0.mk hr1
  have HP := Aside0.mk hr2
  clear hg hr0 hr1 hr2
  go_enter Try.func4, Try.ntmps4
  go_wp2_with fail
  refine G.out.mono ?_
  rintro e w2 ⟨rfl, ⟨nd, rfl⟩⟩
  have B1 := Aside0.mk (pw_below_drewN (Below.refl w.heap.size w) nd)
  generalize w.drewN nd = w1 at B1 ⊢
  have d1 : decide ((ws.length : Int) > 60) = false := decide_eq_false (by omega)
  have d2 : decide ((ps.length : Int) > 60) = false := decide_eq_false (by omega)
  have d3 : ¬ 60 < ws.length := by omega
  have d4 : ¬ 60 < ps.length := by omega
  go_wp2_with fail
  refine (LT.new B1.out).mono ?_
  rintro e w2 ⟨rfl, hL⟩
  have L0 := Aside0.mk hL
  clear hL G B1
  generalize w1.heap.size = b at L0 ⊢
  go_upto_region 6 with (fail)
  rename_i KK hKK K2 hK2
  have HKK := Aside0.mk hKK
  clear hKK
  go_wp2
  go_loopg [8] l0.length (fun kx s8 wr => ∃ (i : Nat) (t : TS), s8 = .int .i64 i ∧ i + kx = l0.length ∧ Aside0 (LT w wr b t.r t.fs t.row t.st) ∧ Aside0 (Inv i t))
  case atStart => exact ⟨0, ⟨fun _ => 0, [], [], []⟩, rfl, by omega, L0, ⟨Nat.le_refl 0, Nat.le_refl 0, Nat.le_refl 0, rfl⟩⟩
  case round =>
    clear L0
    obtain ⟨i, t, rfl, hi, LX, IV⟩ := hrel
    by_cases hlt : i < l0.length
    · have q1 : (i : Int) < (l0.length : Int) := by omega
      obtain ⟨ad, A3, c3, hA, hC, hl2, hF2⟩ := op_at FO.out i hlt
      subst hA
      generalize l0[i] = o at hC hl2 hF2
      have HF2 := Aside0.mk hF2
      obtain ⟨p0, p1, p2, p3, p4⟩ := hC.below LX.out.bl
      clear hl2 hF2 hC
      go_wp2_with fail
      refine (LX.out.moves IV.out (by omega) (cL := c3) o HF2.out).mono ?_
      rintro e w2 ⟨rfl, hM⟩
      have MX := Aside0.mk hM
      clear p0 p1 p2 p3 p4 hM LX
      go_wp2
      go_roundg (l0.length - (i + 1))
      rotate_left
      · exact (show l0.length - (i + 1) < _ by omega)
      · exact ⟨i + 1, _, by go_num, by omega, MX, ⟨step_inv IV.out o⟩⟩
    · have q1 : ¬ (i : Int) < (l0.length : Int) := by omega
      go_wp2
      refine HKK.out _ _ ?_
      exact ord5 HW HP hws hps hc1 hc2 LX ⟨IV.out.ri⟩ (Nat.le_trans IV.out.l1 (by omega)) (Nat.le_trans IV.out.l2 (by omega)) (Nat.le_trans IV.out.l3 (by omega))
/-- The law, walked. -/
theorem ord_walk (l0 : List S39) (A0 : Option Addr) (c0 : Nat) (ws : List Int) (A1 : Option Addr) (c1 : Nat) (ps : List S37) (A2 : Option Addr) (c2 : Nat) (w : World) (hr0 : Kd.C k39 w A0 l0.length l0) (hc0 : l0.length ≤ c0) (hr1 : Kd.C (Kd.int .u64) w A1 ws.length ws) (hc1 : ws.length ≤ c1) (hr2 : Kd.C k37 w A2 ps.length ps) (hc2 : ps.length ≤ c2) :
    Calls Try.prog 4 #[.slice A0 l0.length c0, .slice A1 ws.length c1, .slice A2 ps.length c2] w fun e w' => e = .returned (.bool true) ∧ Below w.heap.size w w' := by
  obtain ⟨k, bb, h1, h2⟩ := great_some l0
  cases bb with
  | true => exact ord_lives l0 A0 c0 ws A1 c1 ps A2 c2 w hr0 hc0 k true h1 (.inl rfl)
  | false =>
    by_cases h3 : 60 < ws.length ∨ 60 < ps.length
    · exact ord_lives l0 A0 c0 ws A1 c1 ps A2 c2 w hr0 hc0 k false h1 (.inr h3)
    · exact ord_in l0 A0 c0 ws A1 c1 ps A2 c2 w hr0 hc0 hr1 hc1 hr2 hc2 k h1 (h2 rfl).1 (by omega) (by omega)
end Go.Proofs.Ytocmdcjbjhpooaa.FrW
