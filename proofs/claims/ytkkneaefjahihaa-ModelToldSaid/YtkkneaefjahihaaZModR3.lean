/- A state of the map's, as the document's. -/
import Derived.Test.YtkkneaefjahihaaZModR2
set_option linter.unusedVariables false
set_option linter.unusedSimpArgs false
namespace Go.Proofs.Ytkkneaefjahihaa.ModR
open Go Go.RowKit Go.Proofs.YtkkneaefjahihaaW.PrintWords Go.Proofs.YtkkneaefjahihaaW.PrintLast Go.Proofs.YtkkneaefjahihaaW.PrintMore Go.Proofs.Ytkkneaefjahihaa.PModelTold Go.Proofs.Ytkkneaefjahihaa.GRow Go.Proofs.Ytkkneaefjahihaa.ModRec Go.Proofs.Ytkkneaefjahihaa.Num Go.Proofs.Ytkkneaefjahihaa.Bxs Go.Proofs.Ytkkneaefjahihaa.ModW
theorem cell_below {w W : World} {a : Addr} {v : Value} (hb : Below w.heap.size w W) (h : w.cell? a = some v) : W.cell? a = some v := (hb.cell (block_lt_of_cell h)).trans h
theorem map_take_snoc {α β : Type} (f : α → β) (l : List α) (j : Nat) (h : j < l.length) : (l.take (j + 1)).map f = (l.take j).map f ++ [f l[j]] := by rw [List.take_succ_eq_append_getElem h, List.map_append]; rfl
def toX (s : S62) : S61 := ⟨s.f0, s.f1, s.f2, s.f3⟩
theorem fk_toX {W : World} {ok : Nat → Prop} {s : S62} {A2 : Option Addr} {c2 : Nat} (hl : s.f2.length ≤ c2) (hf : Kd.F k49 W ok A2 s.f2.length s.f2) : Kd.FK k61 W ok (toX s) [.bool s.f0, .bool s.f1, .slice A2 s.f2.length c2, .int .i64 s.f3] := k61_mkF W ok (toX s) hl hf
set_option maxHeartbeats 4000000 in
set_option maxRecDepth 100000 in
theorem as_calls (P0 : Nat → Prop) (A0 : Option Addr) (c0 : Nat) (l0 : List S49) (P1 : Nat → Prop) (A1 : Option Addr) (c1 : Nat) (l1 : List S62) (w : World) (h0 : Kd.V k49 49 w w.heap.size P0 (.slice A0 l0.length c0) l0) (h1 : Kd.V k62 62 w w.heap.size P1 (.slice A1 l1.length c1) l1) (hl : l1.length ≤ 1000000) :
    Calls Try.prog 14 #[.agg #[.slice A0 l0.length c0, .slice A1 l1.length c1]] w fun e w' => ∃ v0_ v1_ : Value, e = .returned (.agg #[v0_, v1_]) ∧ Kd.V k49 49 w' w.heap.size (fun k_ => (P0 k_ ∨ P1 k_) ∨ w.heap.size ≤ k_) v0_ l0 ∧ Kd.V k61 61 w' w.heap.size (fun k_ => (P0 k_ ∨ P1 k_) ∨ w.heap.size ≤ k_) v1_ (l1.map toX) ∧ Below w.heap.size w w' := by
  have hu27 := Try.underlying27
  have hu31 := Try.underlying31
  have hu62 := Try.underlying62
  have hu61 := Try.underlying61
  have H0 := Aside0.mk (Kd.V_bound h0)
  have H1 := Aside0.mk (Kd.V_bound h1)
  obtain ⟨i0, hi0, hz1, hz2, hz0⟩ := info_x
  have hzs : (Value.agg #[.bool false, .bool false, .slice none 0 0, .int .i64 0]).cells.size = 4 := by decide
  clear h0 h1
  go_enter Try.func14, Try.ntmps14
  go_upto_region 2 with (fail)
  refine gen2 (Φ := fun W => ∃ v, v = .slice none 0 0 ∧ Bxs w W ([(w.heap.size + 1 + 1, #[.slice A0 l0.length c0, v], 31), (w.heap.size + 1, #[.slice none 0 0, .slice none 0 0], 31), (w.heap.size, #[.slice A0 l0.length c0, .slice A1 l1.length c1], 27)] : List Box)) ⟨_, rfl, ?_⟩ ?_
  · exact ((((Bxs.nil w).box _ 27 rfl).box _ 31 (by simp)).box _ 31 (by simp))
  rintro W0 ⟨v, hv, M0⟩
  subst hv
  have B0 := Aside0.mk M0
  clear M0
  go_wp2
  go_loopg [4] l1.length (fun kx s4 wr => ∃ (j : Nat) (v : Value) (recs : List (List Value)), s4 = .int .i64 j ∧ j + kx = l1.length ∧ Aside0 (Bxs w wr ([(w.heap.size + 1 + 1, #[.slice A0 l0.length c0, v], 31), (w.heap.size + 1, #[.slice none 0 0, .slice none 0 0], 31), (w.heap.size, #[.slice A0 l0.length c0, .slice A1 l1.length c1], 27)] : List Box)) ∧ Aside0 (OV 61 4 wr (w.heap.size + 3) v recs) ∧ Aside0 (Recs k61 w (fun k => P1 k ∧ k < w.heap.size) ((l1.take j).map toX) recs) ∧ Aside0 (recs.length = j))
  case atStart => exact ⟨0, .slice none 0 0, [], rfl, by omega, B0, ⟨OV.nil _ _ _ _⟩, ⟨rfl, fun j h1 => by simp at h1⟩, ⟨rfl⟩⟩
  case round =>
    clear B0
    obtain ⟨j, v, recs, rfl, hj, BX, OVV, RC, RL⟩ := hrel
    obtain ⟨Av, cv, rfl, hcv⟩ := OVV.out.slice
    have M := BX.out
    have s0 := (M.cell 2 0 rfl).trans rfl
    have s1 := (M.cell 2 1 rfl).trans rfl
    have x0 := (M.cell 0 0 rfl).trans rfl
    have x1 := (M.cell 0 1 rfl).trans rfl
    have z0 := (M.cell 1 0 rfl).trans rfl
    have z1 := (M.cell 1 1 rfl).trans rfl
    have zf0 := M.frz 1 0 rfl
    have zf1 := M.frz 1 1 rfl
    have q63 : l1.length ≤ 9223372036854775807 := by omega
    by_cases hlt : j < l1.length
    · have q1 : (j : Int) < (l1.length : Int) := by omega
      obtain ⟨ad, A2, c2, rfl, e0, e1, e2, e3, hl2, hF2⟩ := OwnWalk.at_F (Kd.V_F H1.out) j hlt
      have erd : rd_T62 l1 (j : Int) = l1[j] := by unfold rd_T62; rw [Int.toNat_natCast]; simp [List.getD, hlt]
      rw [erd] at e0 e1 e2 e3 hl2 hF2
      have HM := Aside0.mk (map_take_snoc toX l1 j hlt)
      generalize l1[j] = y at e0 e1 e2 e3 hl2 hF2 HM
      have FK := Aside0.mk (fk_toX hl2 hF2)
      have p0 := cell_below M.b e0
      have p1 := cell_below M.b e1
      have p2 := cell_below M.b e2
      have p3 := cell_below M.b e3
      have BX5 := Aside0.mk M.drew
      have OV5 := Aside0.mk (OVV.out.move (w' := wr.drew) (fun _ _ _ _ => rfl))
      have BX6 := Aside0.mk (M.drew.alloc (.cells #[.bool y.f0, .bool y.f1, .slice A2 y.f2.length c2, .int .i64 y.f3] 61 (0, 0)))
      have OV6 := Aside0.mk (OV5.out.alloc (.cells #[.bool y.f0, .bool y.f1, .slice A2 y.f2.length c2, .int .i64 y.f3] 61 (0, 0)))
      have OWN := Aside0.mk (OV6.out.own (by decide))
      have NEWS := Aside0.mk (heap_alloc_new wr.drew (.cells #[.bool y.f0, .bool y.f1, .slice A2 y.f2.length c2, .int .i64 y.f3] 61 (0, 0)))
      have WID := Aside0.mk OV5.out.wide
      have hrl := Nat.le_of_eq RL.out
      have NW := Aside0.mk (show ∀ j u, ([.bool y.f0, .bool y.f1, .slice A2 y.f2.length c2, .int .i64 y.f3] : List Value)[j]? = some u → (wr.drew.alloc (.cells #[.bool y.f0, .bool y.f1, .slice A2 y.f2.length c2, .int .i64 y.f3] 61 (0, 0))).cell? ((⟨wr.heap.size, 0, none⟩ : Addr).add j) = some u from by
        intro j u hu
        rw [add_at, Nat.zero_add]
        exact (blk_cell NEWS.out j).trans (by rw [List.getElem?_toArray]; exact hu))
      have ONE := Aside0.mk (show ∀ u ∈ ([.bool y.f0, .bool y.f1, .slice A2 y.f2.length c2, .int .i64 y.f3] : List Value), u.oneCell' = true from by simp [Value.oneCell'])
      have LT := Aside0.mk (M.lt 0 rfl)
      have BS6 := Aside0.mk (show w.heap.size + 3 ≤ (wr.drew.alloc (.cells #[.bool y.f0, .bool y.f1, .slice A2 y.f2.length c2, .int .i64 y.f3] 61 (0, 0))).heap.size from by have := LT.out; simp; omega)
      have x6 : (wr.alloc (.cells #[.bool y.f0, .bool y.f1, .slice A2 y.f2.length c2, .int .i64 y.f3] 61 (0, 0))).cell? ⟨w.heap.size + 1 + 1, 1, none⟩ = some (.slice Av recs.length cv) := ((M.alloc (.cells #[.bool y.f0, .bool y.f1, .slice A2 y.f2.length c2, .int .i64 y.f3] 61 (0, 0))).cell 0 1 rfl).trans rfl
      have HNB := Aside0.mk (show ∀ x ∈ ([(w.heap.size + 1 + 1, #[.slice A0 l0.length c0, .slice Av recs.length cv], 31), (w.heap.size + 1, #[.slice none 0 0, .slice none 0 0], 31), (w.heap.size, #[.slice A0 l0.length c0, .slice (some ad) l1.length c1], 27)] : List Box), some x.1 ≠ (Value.slice Av recs.length cv).ownBlock from fun x hx h => by
        rcases OV5.out with ⟨h1, _⟩ | ⟨g, c1, h1, hg, G⟩
        · rw [h1] at h; cases h
        · rw [h1] at h
          have hgx := Option.some.inj h
          simp only [List.mem_cons, List.not_mem_nil, or_false] at hx
          rcases hx with rfl | rfl | rfl <;> (simp at hgx; omega))
      clear e0 e1 e2 e3 hl2 hF2 erd M
      go_upto_region 5 with (fail)
      go_region_law (refine step_append_lies _ rfl _ _ 29 rfl (w.heap.size + 3) 61 i0 (.agg #[.bool false, .bool false, .slice none 0 0, .int .i64 0]) 4 40 Try.underlying29 hi0 hz0 hz1 hz2 hzs (by decide) _ _ _ rfl OWN.out ⟨wr.heap.size, 0, none⟩ 1 1 [.bool y.f0, .bool y.f1, .slice A2 y.f2.length c2, .int .i64 y.f3] rfl rfl NW.out ONE.out (by decide) (by unfold maxLen; omega) (by omega) BS6.out _ rfl ?_; intro g7 c7 w6 hown hgrow hat7 hlt7; have OV7 := Aside0.mk (OV.snoc hown rfl WID.out rfl); have M7 : Bxs w w6 ([(w.heap.size + 1 + 1, #[.slice A0 l0.length c0, .slice Av recs.length cv], 31), (w.heap.size + 1, #[.slice none 0 0, .slice none 0 0], 31), (w.heap.size, #[.slice A0 l0.length c0, .slice (some ad) l1.length c1], 27)] : List Box) := ⟨fun x hx => (hgrow.block _ (Array.getElem?_eq_some_iff.1 (BX6.out.at_ x hx)).1 (HNB.out x hx)).trans (BX6.out.at_ x hx), BX6.out.ne, BX6.out.ge, BX6.out.b.grown hgrow (by have := BS6.out; omega) (fun k hk => by have := (OWN.out.lt k hk).1; omega)⟩; have BX7 := Aside0.mk M7; have x7 : w6.cell? ⟨w.heap.size + 1 + 1, 1, none⟩ = some (.slice Av recs.length cv) := (M7.cell 0 1 rfl).trans rfl; have z7 := M7.frz 0 1 rfl; clear hown hgrow hat7 hlt7 M7)
      all_goals go_wp2
      all_goals go_roundg (l1.length - (j + 1))
      all_goals try (exact (show l1.length - (j + 1) < _ by omega))
      all_goals refine ⟨j + 1, _, recs ++ [[.bool y.f0, .bool y.f1, .slice A2 y.f2.length c2, .int .i64 y.f3]], by go_num, by omega, ⟨BX7.out.set 0 1 _ rfl rfl⟩, ⟨OV7.out.move (fun k hk _ _ => Below.heap_setCell w6 ⟨w.heap.size + 1 + 1, 1, none⟩ _ k (by show k ≠ w.heap.size + 1 + 1; omega))⟩, ⟨by rw [HM.out]; exact RC.out.snoc rfl FK.out⟩, ⟨by rw [List.length_append, List.length_singleton, RL.out]⟩⟩
    · obtain rfl : j = l1.length := by omega
      have q1 : ¬ (l1.length : Int) < (l1.length : Int) := by omega
      have OF := Aside0.mk (show Out (w.heap.size + 1) (w.heap.size + 1 + 1) wr _ from ((Out.refl _ _ _).set (p := ⟨w.heap.size + 1, 0, none⟩) (.slice A0 l0.length c0) (Nat.le_refl _) (by show w.heap.size + 1 < w.heap.size + 1 + 1; omega)).set (p := ⟨w.heap.size + 1, 1, none⟩) (.slice Av recs.length cv) (Nat.le_refl _) (by show w.heap.size + 1 < w.heap.size + 1 + 1; omega))
      have BF := Aside0.mk ((M.set 1 0 (.slice A0 l0.length c0) rfl rfl).set 1 1 (.slice Av recs.length cv) rfl rfl)
      clear M
      go_wp2
      refine bodyPost_ret (results_cell_row rfl _ _ (w.heap.size + 1) 31 #[.slice A0 l0.length c0, .slice Av recs.length cv] (0, 0) _ rfl (BF.out.get 1 rfl) Try.underlying31 rfl (by kernel_rfl)) rfl ?_
      have RC2 := RC.out
      rw [List.take_length] at RC2
      have RV := recs_V OVV.out (Recs.step (w' := wr) RC2 (fun k hk hl => BX.out.b.block k hl))
      exact ⟨_, _, rfl, Kd.V_mono (OF.out.V (Kd.V_below H0.out BX.out.b) (fun k hk => .inl (by have := hk.2; omega))) (fun k hk => .inl (.inl hk.1)), Kd.V_mono (OF.out.V RV (fun k hk => by rcases hk with h | h; exact .inl (by have := h.2; omega); exact .inr (by omega))) (fun k hk => by rcases hk with h | h; exact .inl (.inr h.1); exact .inr (by omega)), BF.out.b⟩
end Go.Proofs.Ytkkneaefjahihaa.ModR
