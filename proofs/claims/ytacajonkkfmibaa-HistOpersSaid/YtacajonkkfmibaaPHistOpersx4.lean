-- Printed by a program of this session (mkprint.py) out of the translation; Lean checks it.
import Derived.Test.YtacajonkkfmibaaPHistOpersx3
import Derived.Test.YtacajonkkfmibaaPHistOpersx1
import Derived.Deep.RegionHeld3
import Derived.Deep.DeepMust
import Derived.Test.YtacajonkkfmibaaGRow
import Derived.Test.YtacajonkkfmibaaPHistOpersx0
import Derived.Test.YtacajonkkfmibaaPHistOpersx2
namespace Go.Proofs.Ytacajonkkfmibaa.PHistOpers
open Go.RowKit Go.Proofs.YtacajonkkfmibaaW.PrintWords Go.Proofs.YtacajonkkfmibaaW.PrintLast Go.Proofs.YtacajonkkfmibaaW.PrintMore
attribute [local go_sem] max2_int min2_int max_two min_two max_three min_three max_four min_four   -- for this text's walks alone
set_option linter.unusedVariables false
set_option linter.unusedSimpArgs false

attribute [local go_sem high] eqA104
/-! ### hist_May: function 14 : a hand text -/
namespace HistW
open Go.Proofs.Ytacajonkkfmibaa.GRow
abbrev Ev := S33
abbrev Opr := S35
def okE (st : List Bool) (e : Ev) : Bool := decide (0 ≤ e.f0) && (decide (e.f0 < 6) && (st.getD e.f0.toNat false == e.f1))
def mrun : List Bool → List Ev → Bool
  | _, [] => true
  | st, e :: l => okE st e && mrun (st.set e.f0.toNat (!e.f1)) l
def st0 : List Bool := List.replicate 6 false
def mayF (l : List Ev) : Bool := mrun st0 l
theorem mrun_drop (st : List Bool) (l : List Ev) (i : Nat) (hi : i < l.length) : mrun st (l.drop i) = (okE st l[i] && mrun (st.set l[i].f0.toNat (!l[i].f1)) (l.drop (i + 1))) := by
  rw [List.drop_eq_getElem_cons hi]; rfl
theorem rd_ev (l : List Ev) (i : Nat) (hi : i < l.length) : rd_T33 l (i : Int) = l[i] := by unfold rd_T33; rw [Int.toNat_natCast]; simp [List.getD, hi]
/-- An event's cells, as memory has them. -/
def evCells (e : Ev) (A : Option Addr) (c : Nat) : List Value := [.int .i64 e.f0, .bool e.f1, .int .i64 e.f2.f0, .int .i64 e.f2.f1, .int .i64 e.f2.f2, .int .i64 e.f2.f3, .int .i64 e.f2.f4, .int .i64 e.f3.f0, .int .i64 e.f3.f1, .int .i64 e.f3.f2, .int .i64 e.f3.f3, .slice A e.f3.f4.length c]
theorem ev_at {w : World} {A : Option Addr} {l : List Ev} (h : Kd.C k33 w A l.length l) (i : Nat) (hi : i < l.length) : ∃ ad A11 c11, A = some ad ∧
    (w.cell? (ad.add (i * 12)) = some (.int .i64 l[i].f0) ∧ w.cell? ⟨(ad.add (i * 12)).block, (ad.add (i * 12)).off + 1, none⟩ = some (.bool l[i].f1) ∧ w.cell? ⟨(ad.add (i * 12)).block, (ad.add (i * 12)).off + 2, none⟩ = some (.int .i64 l[i].f2.f0) ∧ w.cell? ⟨(ad.add (i * 12)).block, (ad.add (i * 12)).off + 3, none⟩ = some (.int .i64 l[i].f2.f1) ∧ w.cell? ⟨(ad.add (i * 12)).block, (ad.add (i * 12)).off + 4, none⟩ = some (.int .i64 l[i].f2.f2) ∧ w.cell? ⟨(ad.add (i * 12)).block, (ad.add (i * 12)).off + 5, none⟩ = some (.int .i64 l[i].f2.f3) ∧ w.cell? ⟨(ad.add (i * 12)).block, (ad.add (i * 12)).off + 6, none⟩ = some (.int .i64 l[i].f2.f4) ∧
    w.cell? ⟨(ad.add (i * 12)).block, (ad.add (i * 12)).off + 7, none⟩ = some (.int .i64 l[i].f3.f0) ∧ w.cell? ⟨(ad.add (i * 12)).block, (ad.add (i * 12)).off + 8, none⟩ = some (.int .i64 l[i].f3.f1) ∧ w.cell? ⟨(ad.add (i * 12)).block, (ad.add (i * 12)).off + 9, none⟩ = some (.int .i64 l[i].f3.f2) ∧ w.cell? ⟨(ad.add (i * 12)).block, (ad.add (i * 12)).off + 10, none⟩ = some (.int .i64 l[i].f3.f3) ∧ w.cell? ⟨(ad.add (i * 12)).block, (ad.add (i * 12)).off + 11, none⟩ = some (.slice A11 l[i].f3.f4.length c11)) ∧ l[i].f3.f4.length ≤ c11 ∧ Kd.C k104 w A11 l[i].f3.f4.length l[i].f3.f4 := by
  have h2 := at_T33 h (i : Int) (by omega) (by omega)
  rw [rd_ev l i hi, Int.toNat_natCast] at h2
  obtain ⟨ad, A11, c11, hA, h0, h1, h2, h3, h4, h5, h6, h7, h8, h9, h10, h11, h12, h13⟩ := h2
  exact ⟨ad, A11, c11, hA, ⟨h0, h1, h2, h3, h4, h5, h6, h7, h8, h9, h10, h11⟩, h12, h13⟩
/-- An event's cells, where what it leads to lies in ok. -/
theorem ev_foot {w : World} {ok : Nat → Prop} {A : Option Addr} {l : List Ev} (h : Kd.F k33 w ok A l.length l) (i : Nat) (hi : i < l.length) : ∃ ad A11 c11, A = some ad ∧
    (w.cell? (ad.add (i * 12)) = some (.int .i64 l[i].f0) ∧ w.cell? ⟨(ad.add (i * 12)).block, (ad.add (i * 12)).off + 1, none⟩ = some (.bool l[i].f1) ∧ w.cell? ⟨(ad.add (i * 12)).block, (ad.add (i * 12)).off + 2, none⟩ = some (.int .i64 l[i].f2.f0) ∧ w.cell? ⟨(ad.add (i * 12)).block, (ad.add (i * 12)).off + 3, none⟩ = some (.int .i64 l[i].f2.f1) ∧ w.cell? ⟨(ad.add (i * 12)).block, (ad.add (i * 12)).off + 4, none⟩ = some (.int .i64 l[i].f2.f2) ∧ w.cell? ⟨(ad.add (i * 12)).block, (ad.add (i * 12)).off + 5, none⟩ = some (.int .i64 l[i].f2.f3) ∧ w.cell? ⟨(ad.add (i * 12)).block, (ad.add (i * 12)).off + 6, none⟩ = some (.int .i64 l[i].f2.f4) ∧
    w.cell? ⟨(ad.add (i * 12)).block, (ad.add (i * 12)).off + 7, none⟩ = some (.int .i64 l[i].f3.f0) ∧ w.cell? ⟨(ad.add (i * 12)).block, (ad.add (i * 12)).off + 8, none⟩ = some (.int .i64 l[i].f3.f1) ∧ w.cell? ⟨(ad.add (i * 12)).block, (ad.add (i * 12)).off + 9, none⟩ = some (.int .i64 l[i].f3.f2) ∧ w.cell? ⟨(ad.add (i * 12)).block, (ad.add (i * 12)).off + 10, none⟩ = some (.int .i64 l[i].f3.f3) ∧ w.cell? ⟨(ad.add (i * 12)).block, (ad.add (i * 12)).off + 11, none⟩ = some (.slice A11 l[i].f3.f4.length c11)) ∧ l[i].f3.f4.length ≤ c11 ∧ Kd.F k104 w ok A11 l[i].f3.f4.length l[i].f3.f4 := by
  obtain ⟨hl, hm, hr⟩ := Kd.F_rows h
  obtain ⟨ad, hA, hr2⟩ := hr (by omega)
  obtain ⟨c, hc, hK, hcell⟩ := hr2 i l[i] (List.getElem?_eq_getElem hi)
  obtain ⟨A11, c11, rfl, l11, g11⟩ := k33_openF hK
  have hc2 : ∀ j u, _ → w.cell? (ad.add (i * 12 + j)) = some u := hcell
  exact ⟨ad, A11, c11, hA, ⟨hc2 0 _ rfl, by rw [← add_field _ _ 1 (by omega)]; exact hc2 1 _ rfl, by rw [← add_field _ _ 2 (by omega)]; exact hc2 2 _ rfl, by rw [← add_field _ _ 3 (by omega)]; exact hc2 3 _ rfl, by rw [← add_field _ _ 4 (by omega)]; exact hc2 4 _ rfl, by rw [← add_field _ _ 5 (by omega)]; exact hc2 5 _ rfl, by rw [← add_field _ _ 6 (by omega)]; exact hc2 6 _ rfl, by rw [← add_field _ _ 7 (by omega)]; exact hc2 7 _ rfl, by rw [← add_field _ _ 8 (by omega)]; exact hc2 8 _ rfl, by rw [← add_field _ _ 9 (by omega)]; exact hc2 9 _ rfl, by rw [← add_field _ _ 10 (by omega)]; exact hc2 10 _ rfl, by rw [← add_field _ _ 11 (by omega)]; exact hc2 11 _ rfl⟩, l11, g11⟩
/-- The same, at a later world: what it leads to is told of the first one. -/
theorem ev_footl {w wr : World} {ok : Nat → Prop} {A : Option Addr} {l : List Ev} (h : Kd.F k33 w ok A l.length l) (hb : Below w.heap.size w wr) (i : Nat) (hi : i < l.length) : ∃ ad A11 c11, A = some ad ∧
    (wr.cell? (ad.add (i * 12)) = some (.int .i64 l[i].f0) ∧ wr.cell? ⟨(ad.add (i * 12)).block, (ad.add (i * 12)).off + 1, none⟩ = some (.bool l[i].f1) ∧ wr.cell? ⟨(ad.add (i * 12)).block, (ad.add (i * 12)).off + 2, none⟩ = some (.int .i64 l[i].f2.f0) ∧ wr.cell? ⟨(ad.add (i * 12)).block, (ad.add (i * 12)).off + 3, none⟩ = some (.int .i64 l[i].f2.f1) ∧ wr.cell? ⟨(ad.add (i * 12)).block, (ad.add (i * 12)).off + 4, none⟩ = some (.int .i64 l[i].f2.f2) ∧ wr.cell? ⟨(ad.add (i * 12)).block, (ad.add (i * 12)).off + 5, none⟩ = some (.int .i64 l[i].f2.f3) ∧ wr.cell? ⟨(ad.add (i * 12)).block, (ad.add (i * 12)).off + 6, none⟩ = some (.int .i64 l[i].f2.f4) ∧
    wr.cell? ⟨(ad.add (i * 12)).block, (ad.add (i * 12)).off + 7, none⟩ = some (.int .i64 l[i].f3.f0) ∧ wr.cell? ⟨(ad.add (i * 12)).block, (ad.add (i * 12)).off + 8, none⟩ = some (.int .i64 l[i].f3.f1) ∧ wr.cell? ⟨(ad.add (i * 12)).block, (ad.add (i * 12)).off + 9, none⟩ = some (.int .i64 l[i].f3.f2) ∧ wr.cell? ⟨(ad.add (i * 12)).block, (ad.add (i * 12)).off + 10, none⟩ = some (.int .i64 l[i].f3.f3) ∧ wr.cell? ⟨(ad.add (i * 12)).block, (ad.add (i * 12)).off + 11, none⟩ = some (.slice A11 l[i].f3.f4.length c11)) ∧ l[i].f3.f4.length ≤ c11 ∧ Kd.F k104 w ok A11 l[i].f3.f4.length l[i].f3.f4 := by
  obtain ⟨ad, A11, c11, hA, ⟨h0, h1, h2, h3, h4, h5, h6, h7, h8, h9, h10, h11⟩, h12, h13⟩ := ev_foot h i hi
  exact ⟨ad, A11, c11, hA, ⟨pw_cell_below hb h0, pw_cell_below hb h1, pw_cell_below hb h2, pw_cell_below hb h3, pw_cell_below hb h4, pw_cell_below hb h5, pw_cell_below hb h6, pw_cell_below hb h7, pw_cell_below hb h8, pw_cell_below hb h9, pw_cell_below hb h10, pw_cell_below hb h11⟩, h12, h13⟩
theorem cells12 {w : World} {b T : Nat} {x0 x1 x2 x3 x4 x5 x6 x7 x8 x9 x10 x11 : Value} (h : w.heap[b]? = some (.cells #[x0, x1, x2, x3, x4, x5, x6, x7, x8, x9, x10, x11] T (0, 0))) : w.cell? ⟨b, 0, none⟩ = some x0 ∧ w.cell? ⟨b, 1, none⟩ = some x1 ∧ w.cell? ⟨b, 2, none⟩ = some x2 ∧ w.cell? ⟨b, 3, none⟩ = some x3 ∧ w.cell? ⟨b, 4, none⟩ = some x4 ∧ w.cell? ⟨b, 5, none⟩ = some x5 ∧ w.cell? ⟨b, 6, none⟩ = some x6 ∧ w.cell? ⟨b, 7, none⟩ = some x7 ∧ w.cell? ⟨b, 8, none⟩ = some x8 ∧ w.cell? ⟨b, 9, none⟩ = some x9 ∧ w.cell? ⟨b, 10, none⟩ = some x10 ∧ w.cell? ⟨b, 11, none⟩ = some x11 :=
  ⟨(blk_cell h 0).trans rfl, (blk_cell h 1).trans rfl, (blk_cell h 2).trans rfl, (blk_cell h 3).trans rfl, (blk_cell h 4).trans rfl, (blk_cell h 5).trans rfl, (blk_cell h 6).trans rfl, (blk_cell h 7).trans rfl, (blk_cell h 8).trans rfl, (blk_cell h 9).trans rfl, (blk_cell h 10).trans rfl, (blk_cell h 11).trans rfl⟩
/-- A block of Booleans. -/
def Bools (T : Nat) (w : World) (g : Nat) (st : List Bool) : Prop := w.heap[g]? = some (.cells (st.map Value.bool).toArray T (0, 0))
theorem Bools.cell {T : Nat} {w : World} {g : Nat} {st : List Bool} (h : Bools T w g st) (i : Nat) (hi : i < st.length) : w.cell? ⟨g, i, none⟩ = some (.bool (st.getD i false)) ∧ w.frozen? ⟨g, i, none⟩ = false := by
  refine ⟨(blk_cell h i).trans ?_, blk_frozen h i⟩
  rw [List.getElem?_toArray, List.getElem?_map, List.getElem?_eq_getElem hi]
  simp [List.getD, hi]
theorem Bools.set {T : Nat} {w : World} {g : Nat} {st : List Bool} (h : Bools T w g st) (i : Nat) (b : Bool) : Bools T (w.setCell ⟨g, i, none⟩ (.bool b)) g (st.set i b) := by
  unfold Bools
  rw [blk_set h i _]
  congr 2
  simp
theorem Bools.alloc {T : Nat} {w : World} {g : Nat} {st : List Bool} (h : Bools T w g st) (o : Obj) : Bools T (w.alloc o) g st := blk_alloc h o
theorem Bools.below {T : Nat} {w w' : World} {g : Nat} {st : List Bool} (h : Bools T w g st) (hb : Below w.heap.size w w') : Bools T w' g st := blk_below h hb
set_option maxHeartbeats 1000000 in
set_option maxRecDepth 100000 in
theorem may_calls (l : List Ev) (A : Option Addr) (c : Nat) (w : World) (hr : Kd.C k33 w A l.length l) (hc : l.length ≤ c) (hl : l.length ≤ 1000000) (b : Bool) (hb : mayF l = b) :
    Calls Try.prog 14 #[.slice A l.length c] w fun e w' => e = .returned (.bool b) ∧ Below w.heap.size w w' := by
  have hu := Try.underlying33
  have hu2 := Try.underlying84
  have hu3 := Try.underlying31
  have hu4 := Try.underlying28
  have HR := Aside0.mk hr
  have HB := Aside0.mk hb
  clear hr hb hc
  go_enter Try.func14, Try.ntmps14
  go_wp2
  go_loopg [8] l.length (fun kx s8 wr => ∃ (i : Nat) (st : List Bool), s8 = .int .i64 i ∧ i + kx = l.length ∧ Aside0 (st.length = 6) ∧ Aside0 (Bools 84 wr w.heap.size st) ∧ Aside0 (mrun st (l.drop i) = b) ∧ Aside0 (Below w.heap.size w wr))
  case atStart => exact ⟨0, st0, rfl, by omega, ⟨rfl⟩, ⟨heap_alloc_new w _⟩, ⟨by rw [List.drop_zero]; exact HB.out⟩, ⟨below_alloc (Below.refl _ _) _⟩⟩
  case round =>
    clear HB
    obtain ⟨i, st, rfl, hi, S6, BS, MR, B1⟩ := hrel
    by_cases hlt : i < l.length
    · obtain ⟨ad, A11, c11, hA, ⟨h0, h1, h2, h3, h4, h5, h6, h7, h8, h9, h10, h11⟩, h12, h13⟩ := ev_at (Kd.C_below HR.out B1.out) i hlt
      subst hA
      have MR2 := MR.out
      rw [mrun_drop st l i hlt] at MR2
      generalize l[i] = e at h0 h1 h2 h3 h4 h5 h6 h7 h8 h9 h10 h11 h12 h13 MR2
      have ML := Aside0.mk MR2
      clear MR MR2 h12 h13
      obtain ⟨f0, f1, ⟨q0, q1, q2, q3, q4⟩, ⟨a0, a1, a2, a3, a4⟩⟩ := e
      dsimp only at h0 h1 h2 h3 h4 h5 h6 h7 h8 h9 h10 h11
      have QI : (i : Int) < (l.length : Int) := by omega
      by_cases n0 : f0 < 0
      · have BF := Aside0.mk (show b = false by rw [← ML.out]; unfold okE; rw [decide_eq_false (by show ¬ 0 ≤ f0; omega)]; rfl)
        clear ML
        go_wp2_with fail
        go_quiet (fail)
        go_wp2
        go_ret
        exact ⟨by rw [BF.out] <;> rfl, pw_below_drewN (below_alloc B1.out _) _⟩
      by_cases n6 : f0 < 6
      · obtain ⟨t, rfl⟩ : ∃ t : Nat, f0 = t := ⟨f0.toNat, by omega⟩
        have ht : t < st.length := by rw [S6.out]; omega
        have bc := (BS.out.cell t ht).1
        have bc2 := ((BS.out.alloc (.cells #[.int .i64 t, .bool f1, .int .i64 q0, .int .i64 q1, .int .i64 q2, .int .i64 q3, .int .i64 q4, .int .i64 a0, .int .i64 a1, .int .i64 a2, .int .i64 a3, .slice A11 a4.length c11] 33 (0, 0))).cell t ht)
        have bs2 := Aside0.mk ((BS.out.alloc (.cells #[.int .i64 t, .bool f1, .int .i64 q0, .int .i64 q1, .int .i64 q2, .int .i64 q3, .int .i64 q4, .int .i64 a0, .int .i64 a1, .int .i64 a2, .int .i64 a3, .slice A11 a4.length c11] 33 (0, 0))).set t (!f1))
        have OK := Aside0.mk (show okE st ⟨t, f1, ⟨q0, q1, q2, q3, q4⟩, ⟨a0, a1, a2, a3, a4⟩⟩ = (st.getD t false == f1) by unfold okE; rw [decide_eq_true (by show (0 : Int) ≤ (t : Int); omega), decide_eq_true (by exact n6)]; rfl)
        have w6 : ¬ (6 : Int) ≤ (t : Int) := by omega
        have p0 : (0 : Int) ≤ (t : Int) := by omega
        obtain ⟨sb, hsb⟩ : ∃ sb, st.getD t false = sb := ⟨_, rfl⟩
        rw [hsb] at bc bc2 OK
        have HSB := Aside0.mk hsb
        clear hsb n0
        by_cases hsf : sb = f1
        · subst hsf
          have ML2 : Aside0 (mrun (st.set t (!sb)) (l.drop (i + 1)) = b) := ⟨by have := ML.out; rw [OK.out] at this; simpa using this⟩
          clear ML OK
          have bc21 := bc2.1
          have bc22 := bc2.2
          clear bc2
          go_wp2_with fail
          go_quiet (fail)
          go_wp2
          go_roundg (l.length - (i + 1))
          case measure => omega
          case rel => exact ⟨i + 1, st.set t (!sb), by go_num, by omega, ⟨by rw [List.length_set]; exact S6.out⟩, ⟨bs2.out⟩, ML2, ⟨(pw_below_drewN (below_alloc B1.out _) _).setCell (Nat.le_refl _) _⟩⟩
        · have hsf2 : (sb == f1) = false := by cases sb <;> cases f1 <;> simp_all
          have BF := Aside0.mk (show b = false by rw [← ML.out, OK.out, hsf2]; rfl)
          have hsf3 : (sb != f1) = true := by cases sb <;> cases f1 <;> simp_all
          clear ML OK
          have bc21 := bc2.1
          clear bc2
          go_wp2_with fail
          go_quiet (fail)
          go_wp2
          go_ret
          exact ⟨by rw [BF.out] <;> rfl, pw_below_drewN (below_alloc B1.out _) _⟩
      · have w6 : (6 : Int) ≤ f0 := by omega
        have BF := Aside0.mk (show b = false by rw [← ML.out]; unfold okE; rw [decide_eq_false (show ¬ f0 < 6 by omega), Bool.false_and, Bool.and_false]; rfl)
        have d6 : decide ((6 : Int) ≤ f0) = true := decide_eq_true w6
        have d0 : decide (f0 < 0) = false := decide_eq_false n0
        clear ML n6 n0 w6
        go_wp2_with fail
        go_quiet (fail)
        go_wp2
        go_ret
        exact ⟨by rw [BF.out] <;> rfl, pw_below_drewN (below_alloc B1.out _) _⟩
    · have BF := Aside0.mk (show b = true by rw [← MR.out, List.drop_of_length_le (by omega)]; rfl)
      have QI : ¬ (i : Int) < (l.length : Int) := by omega
      clear MR
      go_wp2
      go_ret
      exact ⟨by rw [BF.out] <;> rfl, B1.out⟩
end HistW
def hist_May.f (_k : Nat) (l0 : List (S33)) : Option (Bool) := if l0.length ≤ 1000000 then some (HistW.mayF l0) else none
theorem hist_May.mono : ∀ a0 k, LeO (hist_May.f k a0) (hist_May.f (k + 1) a0) := fun _ _ _ h => h
theorem hist_May.calls (k : Nat) (A0 : Option Addr) (c0 : Nat) (l0 : List (S33)) (r : Bool) (w : World) (hr0 : Kd.C k33 w A0 l0.length l0) (hc0 : l0.length ≤ c0) (h : hist_May.f k l0 = some r) :
    Calls Try.prog 14 #[.slice A0 l0.length c0] w fun e w' => e = .returned (.bool r) ∧ Below w.heap.size w w' := by
  unfold hist_May.f at h
  by_cases hl : l0.length ≤ 1000000
  · rw [if_pos hl] at h
    exact HistW.may_calls l0 A0 c0 w hr0 hc0 hl r (Option.some.inj h)
  · rw [if_neg hl] at h
    cases h

/-! ### hist_Opers: function 16 : a hand text -/
namespace HistW
open Go.Proofs.Ytacajonkkfmibaa.GRow
abbrev kO : Kd Opr := k35
def oprNew (e : Ev) (i : Nat) : Opr := ⟨e.f0, e.f2, z31, (i : Int), -1⟩
def oprBack (o : Opr) (e : Ev) (i : Nat) : Opr := ⟨o.f0, o.f1, e.f3, o.f3, (i : Int)⟩
def zO : Opr := z35
def orun : List Nat → List Opr → Nat → List Ev → List Opr
  | _, out, _, [] => out
  | last, out, i, e :: l => if e.f1 = true then orun last (out.set (last.getD e.f0.toNat 0) (oprBack (out.getD (last.getD e.f0.toNat 0) zO) e i)) (i + 1) l else orun (last.set e.f0.toNat out.length) (out ++ [oprNew e i]) (i + 1) l
def opersF (l : List Ev) : List Opr := if mayF l = true then orun (List.replicate 6 0) [] 0 l else []
theorem orun_drop (last : List Nat) (out : List Opr) (l : List Ev) (i : Nat) (hi : i < l.length) : orun last out i (l.drop i) = if l[i].f1 = true then orun last (out.set (last.getD l[i].f0.toNat 0) (oprBack (out.getD (last.getD l[i].f0.toNat 0) zO) l[i] i)) (i + 1) (l.drop (i + 1)) else orun (last.set l[i].f0.toNat out.length) (out ++ [oprNew l[i] i]) (i + 1) (l.drop (i + 1)) := by
  rw [List.drop_eq_getElem_cons hi]; rfl
theorem st0_get (t : Nat) : st0.getD t false = false := by
  unfold st0
  rw [List.getD_eq_getElem?_getD, List.getElem?_replicate]
  split <;> rfl
theorem okE_true {st : List Bool} {e : Ev} (h : okE st e = true) : 0 ≤ e.f0 ∧ e.f0 < 6 ∧ st.getD e.f0.toNat false = e.f1 := by
  unfold okE at h
  simp only [Bool.and_eq_true, decide_eq_true_eq, beq_iff_eq] at h
  exact h
/-- A block of whole numbers. -/
def Nats (T : Nat) (w : World) (g : Nat) (st : List Nat) : Prop := w.heap[g]? = some (.cells (st.map (fun n : Nat => Value.int .i64 (n : Int))).toArray T (0, 0))
theorem Nats.cell {T : Nat} {w : World} {g : Nat} {st : List Nat} (h : Nats T w g st) (i : Nat) (hi : i < st.length) : w.cell? ⟨g, i, none⟩ = some (.int .i64 ((st.getD i 0 : Nat) : Int)) ∧ w.frozen? ⟨g, i, none⟩ = false := by
  refine ⟨(blk_cell h i).trans ?_, blk_frozen h i⟩
  rw [List.getElem?_toArray, List.getElem?_map, List.getElem?_eq_getElem hi]
  simp [List.getD, hi]
theorem Nats.set {T : Nat} {w : World} {g : Nat} {st : List Nat} (h : Nats T w g st) (i n : Nat) : Nats T (w.setCell ⟨g, i, none⟩ (.int .i64 (n : Int))) g (st.set i n) := by
  unfold Nats
  rw [blk_set h i _]
  congr 2
  simp
theorem Nats.move {T : Nat} {w w' : World} {g : Nat} {st : List Nat} (h : Nats T w g st) (hm : w'.heap[g]? = w.heap[g]?) : Nats T w' g st := hm.trans h
theorem Nats.alloc {T : Nat} {w : World} {g : Nat} {st : List Nat} (h : Nats T w g st) (o : Obj) : Nats T (w.alloc o) g st := blk_alloc h o
theorem Nats.below {T : Nat} {w w' : World} {g : Nat} {st : List Nat} (h : Nats T w g st) (hb : Below w.heap.size w w') : Nats T w' g st := blk_below h hb
/-- Each record is an oper's. -/
def Recs (w : World) (ok : Nat → Prop) (xs : List Opr) (recs : List (List Value)) : Prop := xs.length = recs.length ∧ ∀ j (h1 : j < xs.length) (h2 : j < recs.length), Kd.FK kO w ok xs[j] recs[j]
theorem Recs.snoc {w : World} {ok : Nat → Prop} {xs : List Opr} {recs : List (List Value)} (h : Recs w ok xs recs) {x : Opr} {r : List Value} (hr : Kd.FK kO w ok x r) : Recs w ok (xs ++ [x]) (recs ++ [r]) := by
  refine ⟨by simp [h.1], fun j h1 h2 => ?_⟩
  by_cases hj : j < xs.length
  · rw [List.getElem_append_left hj, List.getElem_append_left (by rw [← h.1]; exact hj)]
    exact h.2 j hj _
  · have e : j = xs.length := by simp at h1; omega
    subst e
    rw [List.getElem_append_right (Nat.le_refl _), List.getElem_append_right (by rw [h.1]; exact Nat.le_refl _)]
    simp only [Nat.sub_self, h.1]
    exact hr
theorem Recs.set {w : World} {ok : Nat → Prop} {xs : List Opr} {recs : List (List Value)} (h : Recs w ok xs recs) (i : Nat) {x : Opr} {r : List Value} (hr : Kd.FK kO w ok x r) : Recs w ok (xs.set i x) (recs.set i r) := by
  refine ⟨by simp [h.1], fun j h1 h2 => ?_⟩
  rw [List.getElem_set, List.getElem_set]
  by_cases e : i = j
  · rw [if_pos e, if_pos e]; exact hr
  · rw [if_neg e, if_neg e]
    exact h.2 j (by simpa using h1) (by simpa using h2)
/-- What an answer's writing turns in a record. -/
def ans (r : List Value) (u6 u7 u8 u9 u10 u12 : Value) : List Value := (((((r.set 6 u6).set 7 u7).set 8 u8).set 9 u9).set 10 u10).set 12 u12
theorem gset_again {T sz : Nat} {w : World} {g c j : Nat} {recs : List (List Value)} {r : List Value} (hj : j < recs.length) (h : GRow T sz w g c (recs.set j r)) (k : Nat) (hk : k < sz) (u : Value) : GRow T sz (w.setCell ⟨g, j * sz + k, none⟩ u) g c (recs.set j (r.set k u)) := by
  have h2 := h.set j k (by simpa using hj) hk u
  rw [List.set_set, List.getElem_set_self] at h2
  exact h2
theorem gset_ans {T : Nat} {w : World} {g c j : Nat} {recs : List (List Value)} (h : GRow T 13 w g c recs) (hj : j < recs.length) (u6 u7 u8 u9 u10 u12 : Value) :
    GRow T 13 ((((((w.setCell ⟨g, j * 13 + 6, none⟩ u6).setCell ⟨g, j * 13 + 6 + 1, none⟩ u7).setCell ⟨g, j * 13 + 6 + 2, none⟩ u8).setCell ⟨g, j * 13 + 6 + 3, none⟩ u9).setCell ⟨g, j * 13 + 6 + 4, none⟩ u10).setCell ⟨g, j * 13 + 12, none⟩ u12) g c (recs.set j (ans recs[j] u6 u7 u8 u9 u10 u12)) :=
  gset_again hj (gset_again hj (gset_again hj (gset_again hj (gset_again hj (h.set j 6 hj (by decide) u6) 7 (by decide) u7) 8 (by decide) u8) 9 (by decide) u9) 10 (by decide) u10) 12 (by decide) u12
theorem gslot {T sz : Nat} {w : World} {g c j : Nat} {recs : List (List Value)} (h : GRow T sz w g c recs) (hj : j < recs.length) (k : Nat) (hk : k < sz) : ∃ x, w.cell? ⟨g, j * sz + k, none⟩ = some x ∧ w.frozen? ⟨g, j * sz + k, none⟩ = false := by
  have h1 := h.cell j k hj hk
  have hw := h.wide j hj
  exact ⟨_, h1.1.trans (List.getElem?_eq_getElem (by omega)), h1.2⟩
theorem blk_at_far {w : World} {k g i : Nat} {u : Value} (h : k ≠ g) : (w.setCell ⟨g, i, none⟩ u).heap[k]? = w.heap[k]? := Below.heap_setCell w ⟨g, i, none⟩ u k h
/-- A row of such records, told as what is shared. -/
theorem recs_V {w w' : World} {ok : Nat → Prop} {v : Value} {xs : List Opr} {recs : List (List Value)} (h : OV 35 13 w' w.heap.size v recs) (hr : Recs w ok xs recs) (hb : Below w.heap.size w w') : Kd.V kO 35 w' w.heap.size (fun k_ => ok k_ ∨ w.heap.size ≤ k_) v xs := by
  obtain ⟨A, c, hv, hlc⟩ := h.slice
  refine ⟨A, c, by rw [hv, hr.1], by rw [hr.1]; exact hlc, fun W' hW => ?_⟩
  have h2 : OV 35 13 W' w.heap.size v recs := h.move (fun k hk hlt _ => hW k (.inr hk) hlt)
  have ag : ∀ k, ok k → k < w.heap.size → W'.heap[k]? = w.heap[k]? := fun k hk hlt => (hW k (.inl hk) (Nat.lt_of_lt_of_le hlt hb.size)).trans (hb.block k hlt)
  obtain ⟨A8, c8, e8, hl8, hr8⟩ := h2.reads (d := kO) rfl hr.1 (fun j h1 h3 => hr.2 j h1 h3 W' ag)
  rw [hv] at e8
  injection e8 with e1 e2 e3
  subst e1
  exact hr8
theorem info_opr : ∃ i0, Try.prog.info? 35 = some i0 ∧ i0.size = 13 ∧ i0.bytes = 120 ∧ ∃ z, i0.zero = some z ∧ z.cells.size = 13 := by
  have h : (Try.prog.info? 35).map (fun i => (i.size, i.bytes, i.zero.map (fun z => z.cells.size))) = some (13, 120, some 13) := by kernel_rfl
  obtain ⟨i, hi, he⟩ := Option.map_eq_some_iff.1 h
  simp only [Prod.mk.injEq] at he
  obtain ⟨z, hz, hz2⟩ := Option.map_eq_some_iff.1 he.2.2
  exact ⟨i, hi, he.1, he.2.1, z, hz, hz2⟩
set_option maxHeartbeats 1000000 in
set_option maxRecDepth 100000 in
theorem opers_own (l : List Ev) (A : Option Addr) (c : Nat) (w : World) (ok : Nat → Prop) (hf : Kd.F k33 w ok A l.length l) (hc : l.length ≤ c) (hl : l.length ≤ 1000000) :
    Calls Try.prog 16 #[.slice A l.length c] w fun e w' => ∃ v0 recs, e = .returned v0 ∧ OV 35 13 w' w.heap.size v0 recs ∧ Recs w ok (opersF l) recs ∧ Below w.heap.size w w' := by
  have hu := Try.underlying33
  have hu2 := Try.underlying85
  have hu3 := Try.underlying31
  have hu4 := Try.underlying28
  have hu5 := Try.underlying35
  have hr := Kd.F_now hf
  have HR := Aside0.mk hr
  have HF := Aside0.mk hf
  have HC := Aside0.mk hc
  obtain ⟨i0, hi0, hz1, hz2, zz, hz0, hzs⟩ := info_opr
  have mixed : Try.prog.follows Departure.mixedOrders = true := by kernel_rfl
  clear hr hc hf
  cases hm : mayF l with
  | false =>
    have HM := Aside0.mk (may_calls l A c w HR.out HC.out hl false hm)
    have OF : opersF l = [] := by unfold opersF; rw [hm, if_neg (by decide)]
    rw [OF]
    clear hm OF
    go_enter Try.func16, Try.ntmps16
    go_wp2_with fail
    refine HM.out.mono ?_
    rintro e w2 ⟨rfl, hb⟩
    have HB := Aside0.mk hb
    clear hb
    go_wp2
    go_ret
    first | exact ⟨_, [], rfl, OV.nil _ _ _ _, ⟨rfl, fun j h1 => by simp at h1⟩, HB.out⟩ | exact ⟨_, rfl, [], OV.nil _ _ _ _, ⟨rfl, fun j h1 => by simp at h1⟩, HB.out⟩
  | true =>
    have HM := Aside0.mk (may_calls l A c w HR.out HC.out hl true hm)
    have MR := Aside0.mk (show mrun st0 l = true from hm)
    have OF := Aside0.mk (show orun (List.replicate 6 0) [] 0 l = opersF l from by unfold opersF; rw [hm, if_pos rfl])
    generalize opersF l = res at OF ⊢
    clear hm
    go_enter Try.func16, Try.ntmps16
    go_wp2_with fail
    refine HM.out.mono ?_
    rintro e w2 ⟨rfl, hb⟩
    have HB := Aside0.mk hb
    have LB := Aside0.mk hb.size
    clear hb HM
    go_wp2
    go_loopg [3, 13] l.length (fun kx s3 s13 wr => ∃ (i : Nat) (st : List Bool) (last : List Nat) (xs : List Opr) (recs : List (List Value)), s13 = .int .i64 i ∧ i + kx = l.length ∧ Aside0 (st.length = 6 ∧ last.length = 6) ∧ Aside0 (mrun st (l.drop i) = true) ∧ Aside0 (∀ t, st.getD t false = true → last.getD t 0 < recs.length) ∧
      Aside0 (Nats 85 wr w2.heap.size last) ∧ Aside0 (OV 35 13 wr w.heap.size s3 recs) ∧ Aside0 (Recs w ok xs recs) ∧ Aside0 (recs.length ≤ i) ∧ Aside0 (orun last xs i (l.drop i) = res) ∧ Aside0 (Below w.heap.size w wr))
    case atStart => exact ⟨0, st0, List.replicate 6 0, [], [], rfl, by omega, ⟨rfl, rfl⟩, ⟨by rw [List.drop_zero]; exact MR.out⟩, ⟨fun t h => by rw [st0_get] at h; cases h⟩, ⟨heap_alloc_new w2 _⟩, ⟨OV.nil _ _ _ _⟩, ⟨rfl, fun j h1 => by simp at h1⟩, ⟨Nat.le_refl _⟩, ⟨by rw [List.drop_zero]; exact OF.out⟩, ⟨below_alloc HB.out _⟩⟩
    case round =>
      clear HB OF MR
      obtain ⟨i, st, last, xs, recs, rfl, hi, S6, MR, VL, NS, OVV, RC, RL, OR, B1⟩ := hrel
      by_cases hlt : i < l.length
      · obtain ⟨ad, A11, c11, hA, ⟨h0, h1, h2, h3, h4, h5, h6, h7, h8, h9, h10, h11⟩, h12, h13⟩ := ev_footl HF.out B1.out i hlt
        subst hA
        have MR2 := MR.out
        have OR2 := OR.out
        rw [mrun_drop st l i hlt, Bool.and_eq_true] at MR2
        rw [orun_drop last xs l i hlt] at OR2
        generalize l[i] = e at h0 h1 h2 h3 h4 h5 h6 h7 h8 h9 h10 h11 h12 h13 MR2 OR2
        obtain ⟨f0, f1, ⟨q0, q1, q2, q3, q4⟩, ⟨a0, a1, a2, a3, a4⟩⟩ := e
        obtain ⟨hok, hmr⟩ := MR2
        obtain ⟨n0, n6, hst⟩ := okE_true hok
        dsimp only at h0 h1 h2 h3 h4 h5 h6 h7 h8 h9 h10 h11 h12 h13 n0 n6 hst hmr OR2
        obtain ⟨t, rfl⟩ : ∃ t : Nat, f0 = t := ⟨f0.toNat, by omega⟩
        rw [Int.toNat_natCast] at hst hmr OR2
        have QI : (i : Int) < (l.length : Int) := by omega
        have ht : t < last.length := by rw [S6.out.2]; omega
        have QT : (t : Int) < 6 := n6
        have QT0 : (0 : Int) ≤ (t : Int) := by omega
        have KE := Aside0.mk (And.intro h12 h13)
        have MR3 := Aside0.mk hmr
        clear MR OR hok hmr n0 n6 h12 h13
        cases f1 with
        | true =>
          have hj := VL.out t hst
          rw [if_pos rfl] at OR2
          have lc := ((NS.out.alloc (.cells #[.int .i64 t, .bool true, .int .i64 q0, .int .i64 q1, .int .i64 q2, .int .i64 q3, .int .i64 q4, .int .i64 a0, .int .i64 a1, .int .i64 a2, .int .i64 a3, .slice A11 a4.length c11] 33 (0, 0))).cell t ht).1
          generalize hjj : last.getD t 0 = j at hj OR2 lc
          have HJ := Aside0.mk hjj
          have OR3 := Aside0.mk OR2
          clear hst hjj OR2
          rcases OVV.out with ⟨_, hz⟩ | ⟨g, cg, rfl, hg, G⟩
          · subst hz; simp at hj
          have G1 := G.alloc (.cells #[.int .i64 t, .bool true, .int .i64 q0, .int .i64 q1, .int .i64 q2, .int .i64 q3, .int .i64 q4, .int .i64 a0, .int .i64 a1, .int .i64 a2, .int .i64 a3, .slice A11 a4.length c11] 33 (0, 0))
          have G0 := Aside0.mk G1
          have QJ : (j : Int) < (recs.length : Int) := by omega
          have QJ0 : (0 : Int) ≤ (j : Int) := by omega
          obtain ⟨x6, g6, z6⟩ := gslot G1 hj 6 (by decide)
          obtain ⟨x7, g7, z7⟩ : ∃ x, _ = some x ∧ _ = false := gslot G1 hj (6 + 1) (by decide)
          obtain ⟨x8, g8, z8⟩ := gslot G1 hj (6 + 2) (by decide)
          obtain ⟨x9, g9, z9⟩ := gslot G1 hj (6 + 3) (by decide)
          obtain ⟨x10, g10, z10⟩ := gslot G1 hj (6 + 4) (by decide)
          obtain ⟨x12, g12, z12⟩ := gslot G1 hj 12 (by decide)
          rw [← Nat.add_assoc] at g7 z7 g8 z8 g9 z9 g10 z10
          clear G G1
          go_wp2
          go_roundg (l.length - (i + 1))
          case measure => omega
          case rel =>
            have hjx : j < xs.length := by rw [RC.out.1]; exact hj
            have hK := RC.out.2 j hjx hj
            obtain ⟨A10, c10, hrec, hl10, hr10⟩ := k35_openF hK
            have hlb : g ≠ w2.heap.size := by
              obtain ⟨cur, hcur⟩ := G0.out.typed
              exact blk_ne hcur (NS.out.alloc _) (by decide)
            refine ⟨i + 1, st.set t false, last, xs.set j (oprBack xs[j] ⟨t, true, ⟨q0, q1, q2, q3, q4⟩, ⟨a0, a1, a2, a3, a4⟩⟩ i), recs.set j (ans recs[j] (.int .i64 a0) (.int .i64 a1) (.int .i64 a2) (.int .i64 a3) (.slice A11 a4.length c11) (.int .i64 i)), by go_num, by omega, ⟨by rw [List.length_set]; exact S6.out.1, S6.out.2⟩, ⟨MR3.out⟩, ⟨fun t2 h2 => ?_⟩, ⟨?_⟩, ⟨.inr ⟨g, cg, by rw [List.length_set], hg, gset_ans G0.out hj _ _ _ _ _ _⟩⟩, ⟨?_⟩, ⟨by rw [List.length_set]; have := RL.out; omega⟩, ⟨?_⟩, ⟨?_⟩⟩
            · rw [List.length_set]
              refine VL.out t2 ?_
              rw [List.getD_eq_getElem?_getD, List.getElem?_set] at h2
              by_cases e : t = t2
              · rw [if_pos e] at h2
                split at h2 <;> simp at h2
              · rw [if_neg e, ← List.getD_eq_getElem?_getD] at h2
                exact h2
            · exact (NS.out.alloc (.cells #[.int .i64 t, .bool true, .int .i64 q0, .int .i64 q1, .int .i64 q2, .int .i64 q3, .int .i64 q4, .int .i64 a0, .int .i64 a1, .int .i64 a2, .int .i64 a3, .slice A11 a4.length c11] 33 (0, 0))).move ((((((blk_at_far hlb.symm).trans (blk_at_far hlb.symm)).trans (blk_at_far hlb.symm)).trans (blk_at_far hlb.symm)).trans (blk_at_far hlb.symm)).trans (blk_at_far hlb.symm))
            · refine RC.out.set j ?_
              rw [hrec]
              exact k35_mkF w ok (oprBack xs[j] ⟨t, true, ⟨q0, q1, q2, q3, q4⟩, ⟨a0, a1, a2, a3, a4⟩⟩ i) KE.out.1 KE.out.2
            · rw [show xs[j] = xs.getD j zO from by simp [List.getD, hjx]]
              exact OR3.out
            · exact ((((((below_alloc B1.out _).setCell hg _).setCell hg _).setCell hg _).setCell hg _).setCell hg _).setCell hg _
        | false =>
          rw [if_neg (by decide)] at OR2
          have OR3 := Aside0.mk OR2
          have HST := Aside0.mk hst
          clear OR2 hst
          obtain ⟨Av, cv, hs3, hcv⟩ := OVV.out.slice
          subst hs3
          have lc := ((NS.out.alloc (.cells #[.int .i64 t, .bool false, .int .i64 q0, .int .i64 q1, .int .i64 q2, .int .i64 q3, .int .i64 q4, .int .i64 a0, .int .i64 a1, .int .i64 a2, .int .i64 a3, .slice A11 a4.length c11] 33 (0, 0))).cell t ht)
          have lc1 := lc.1
          have lc2 := lc.2
          clear lc
          have N2 := Aside0.mk ((NS.out.alloc (.cells #[.int .i64 t, .bool false, .int .i64 q0, .int .i64 q1, .int .i64 q2, .int .i64 q3, .int .i64 q4, .int .i64 a0, .int .i64 a1, .int .i64 a2, .int .i64 a3, .slice A11 a4.length c11] 33 (0, 0))).set t recs.length)
          have B2 := Aside0.mk ((below_alloc B1.out (.cells #[.int .i64 t, .bool false, .int .i64 q0, .int .i64 q1, .int .i64 q2, .int .i64 q3, .int .i64 q4, .int .i64 a0, .int .i64 a1, .int .i64 a2, .int .i64 a3, .slice A11 a4.length c11] 33 (0, 0))).setCell (show w.heap.size ≤ w2.heap.size from LB.out) (.int .i64 recs.length) (p := ⟨w2.heap.size, t, none⟩))
          have hnb : ∀ k, (Value.slice Av recs.length cv).ownBlock = some k → k ≠ w2.heap.size := by
            rcases OVV.out with ⟨hz, _⟩ | ⟨g, cg, hz, hg, G⟩
            · injection hz with e1 e2 e3
              subst e1
              intro k hk; cases hk
            · injection hz with e1 e2 e3
              subst e1
              intro k hk
              obtain rfl : g = k := Option.some.inj hk
              obtain ⟨cur, hcur⟩ := G.typed
              exact blk_ne hcur NS.out (by decide)
          have OV2 := Aside0.mk (((OVV.out.alloc (.cells #[.int .i64 t, .bool false, .int .i64 q0, .int .i64 q1, .int .i64 q2, .int .i64 q3, .int .i64 q4, .int .i64 a0, .int .i64 a1, .int .i64 a2, .int .i64 a3, .slice A11 a4.length c11] 33 (0, 0))).move (w' := (wr.alloc (.cells #[.int .i64 t, .bool false, .int .i64 q0, .int .i64 q1, .int .i64 q2, .int .i64 q3, .int .i64 q4, .int .i64 a0, .int .i64 a1, .int .i64 a2, .int .i64 a3, .slice A11 a4.length c11] 33 (0, 0))).setCell ⟨w2.heap.size, t, none⟩ (.int .i64 recs.length)) (fun k _ _ hk => blk_at_far (hnb k hk))).alloc (.cells #[.int .i64 t, .int .i64 q0, .int .i64 q1, .int .i64 q2, .int .i64 q3, .int .i64 q4, .int .i64 0, .int .i64 0, .int .i64 0, .int .i64 0, .slice none 0 0, .int .i64 i, .int .i64 (-1)] 35 (0, 0)))
          have OWN := Aside0.mk (OV2.out.own (by decide))
          have NEWS := Aside0.mk (heap_alloc_new ((wr.alloc (.cells #[.int .i64 t, .bool false, .int .i64 q0, .int .i64 q1, .int .i64 q2, .int .i64 q3, .int .i64 q4, .int .i64 a0, .int .i64 a1, .int .i64 a2, .int .i64 a3, .slice A11 a4.length c11] 33 (0, 0))).setCell ⟨w2.heap.size, t, none⟩ (.int .i64 recs.length)) (.cells #[.int .i64 t, .int .i64 q0, .int .i64 q1, .int .i64 q2, .int .i64 q3, .int .i64 q4, .int .i64 0, .int .i64 0, .int .i64 0, .int .i64 0, .slice none 0 0, .int .i64 i, .int .i64 (-1)] 35 (0, 0)))
          have hne1 : w2.heap.size ≠ wr.heap.size := Nat.ne_of_lt (Array.getElem?_eq_some_iff.1 NS.out).1
          have hne2 : wr.heap.size ≠ w2.heap.size := Ne.symm hne1
          have hrl := RL.out
          have WID := Aside0.mk OVV.out.wide
          have HNB := Aside0.mk (show some w2.heap.size ≠ (Value.slice Av recs.length cv).ownBlock from fun h => hnb _ h.symm rfl)
          have NW := Aside0.mk (show ∀ j u, ([.int .i64 t, .int .i64 q0, .int .i64 q1, .int .i64 q2, .int .i64 q3, .int .i64 q4, .int .i64 0, .int .i64 0, .int .i64 0, .int .i64 0, .slice none 0 0, .int .i64 i, .int .i64 (-1)] : List Value)[j]? = some u → (((wr.alloc (.cells #[.int .i64 t, .bool false, .int .i64 q0, .int .i64 q1, .int .i64 q2, .int .i64 q3, .int .i64 q4, .int .i64 a0, .int .i64 a1, .int .i64 a2, .int .i64 a3, .slice A11 a4.length c11] 33 (0, 0))).setCell ⟨w2.heap.size, t, none⟩ (.int .i64 recs.length)).alloc (.cells #[.int .i64 t, .int .i64 q0, .int .i64 q1, .int .i64 q2, .int .i64 q3, .int .i64 q4, .int .i64 0, .int .i64 0, .int .i64 0, .int .i64 0, .slice none 0 0, .int .i64 i, .int .i64 (-1)] 35 (0, 0))).cell? ((⟨wr.heap.size + 1, 0, none⟩ : Addr).add j) = some u from by
            intro j u hu
            have hz : ((wr.alloc (.cells #[.int .i64 t, .bool false, .int .i64 q0, .int .i64 q1, .int .i64 q2, .int .i64 q3, .int .i64 q4, .int .i64 a0, .int .i64 a1, .int .i64 a2, .int .i64 a3, .slice A11 a4.length c11] 33 (0, 0))).setCell ⟨w2.heap.size, t, none⟩ (.int .i64 recs.length)).heap.size = wr.heap.size + 1 := by simp
            rw [add_at, Nat.zero_add, ← hz]
            exact (blk_cell NEWS.out j).trans (by rw [List.getElem?_toArray]; exact hu))
          have ONE := Aside0.mk (show ∀ u ∈ ([.int .i64 t, .int .i64 q0, .int .i64 q1, .int .i64 q2, .int .i64 q3, .int .i64 q4, .int .i64 0, .int .i64 0, .int .i64 0, .int .i64 0, .slice none 0 0, .int .i64 i, .int .i64 (-1)] : List Value), u.oneCell' = true from (List.forall_mem_cons.2 ⟨rfl, (List.forall_mem_cons.2 ⟨rfl, (List.forall_mem_cons.2 ⟨rfl, (List.forall_mem_cons.2 ⟨rfl, (List.forall_mem_cons.2 ⟨rfl, (List.forall_mem_cons.2 ⟨rfl, (List.forall_mem_cons.2 ⟨rfl, (List.forall_mem_cons.2 ⟨rfl, (List.forall_mem_cons.2 ⟨rfl, (List.forall_mem_cons.2 ⟨rfl, (List.forall_mem_cons.2 ⟨rfl, (List.forall_mem_cons.2 ⟨rfl, (List.forall_mem_cons.2 ⟨rfl, (fun _ h => nomatch h)⟩)⟩)⟩)⟩)⟩)⟩)⟩)⟩)⟩)⟩)⟩)⟩)⟩))
          have N3 := Aside0.mk (N2.out.alloc (.cells #[.int .i64 t, .int .i64 q0, .int .i64 q1, .int .i64 q2, .int .i64 q3, .int .i64 q4, .int .i64 0, .int .i64 0, .int .i64 0, .int .i64 0, .slice none 0 0, .int .i64 i, .int .i64 (-1)] 35 (0, 0)))
          have B3 := Aside0.mk (below_alloc B2.out (.cells #[.int .i64 t, .int .i64 q0, .int .i64 q1, .int .i64 q2, .int .i64 q3, .int .i64 q4, .int .i64 0, .int .i64 0, .int .i64 0, .int .i64 0, .slice none 0 0, .int .i64 i, .int .i64 (-1)] 35 (0, 0)))
          have LT3 := Aside0.mk (show w2.heap.size < (((wr.alloc (.cells #[.int .i64 t, .bool false, .int .i64 q0, .int .i64 q1, .int .i64 q2, .int .i64 q3, .int .i64 q4, .int .i64 a0, .int .i64 a1, .int .i64 a2, .int .i64 a3, .slice A11 a4.length c11] 33 (0, 0))).setCell ⟨w2.heap.size, t, none⟩ (.int .i64 recs.length)).alloc (.cells #[.int .i64 t, .int .i64 q0, .int .i64 q1, .int .i64 q2, .int .i64 q3, .int .i64 q4, .int .i64 0, .int .i64 0, .int .i64 0, .int .i64 0, .slice none 0 0, .int .i64 i, .int .i64 (-1)] 35 (0, 0))).heap.size from (Array.getElem?_eq_some_iff.1 N3.out).1)
          have BS3 := Aside0.mk (show w.heap.size ≤ (((wr.alloc (.cells #[.int .i64 t, .bool false, .int .i64 q0, .int .i64 q1, .int .i64 q2, .int .i64 q3, .int .i64 q4, .int .i64 a0, .int .i64 a1, .int .i64 a2, .int .i64 a3, .slice A11 a4.length c11] 33 (0, 0))).setCell ⟨w2.heap.size, t, none⟩ (.int .i64 recs.length)).alloc (.cells #[.int .i64 t, .int .i64 q0, .int .i64 q1, .int .i64 q2, .int .i64 q3, .int .i64 q4, .int .i64 0, .int .i64 0, .int .i64 0, .int .i64 0, .slice none 0 0, .int .i64 i, .int .i64 (-1)] 35 (0, 0))).heap.size from B3.out.size)
          clear hnb
          go_wp2_with (at_builtin; go_must (refine wpList_append_own _ rfl _ _ 25 rfl w.heap.size 35 i0 zz 13 120 Try.underlying25 hi0 hz0 hz1 hz2 hzs (by decide) _ _ _ rfl OWN.out ⟨wr.heap.size + 1, 0, none⟩ 1 1 [.int .i64 t, .int .i64 q0, .int .i64 q1, .int .i64 q2, .int .i64 q3, .int .i64 q4, .int .i64 0, .int .i64 0, .int .i64 0, .int .i64 0, .slice none 0 0, .int .i64 i, .int .i64 (-1)] rfl rfl NW.out ONE.out (by unfold maxLen; omega) (by omega) BS3.out ?_; intro v' w3 hown hgrow hnil; have X3 := Aside0.mk hown; have Y3 := Aside0.mk hgrow; clear hown hgrow hnil))
          go_roundg (l.length - (i + 1))
          case measure => omega
          case rel =>
            have OV3 := Aside0.mk (OV.snoc X3.out rfl WID.out rfl)
            have N4 := Aside0.mk (N3.out.move (Y3.out.block _ LT3.out HNB.out))
            have B4 := Aside0.mk (B3.out.grown Y3.out BS3.out (fun k hk => (OWN.out.lt k hk).1))
            refine ⟨i + 1, st.set t true, last.set t recs.length, xs ++ [oprNew ⟨t, false, ⟨q0, q1, q2, q3, q4⟩, ⟨a0, a1, a2, a3, a4⟩⟩ i], recs ++ [[.int .i64 t, .int .i64 q0, .int .i64 q1, .int .i64 q2, .int .i64 q3, .int .i64 q4, .int .i64 0, .int .i64 0, .int .i64 0, .int .i64 0, .slice none 0 0, .int .i64 i, .int .i64 (-1)]], by go_num, by omega, ⟨by rw [List.length_set]; exact S6.out.1, by rw [List.length_set]; exact S6.out.2⟩, ⟨MR3.out⟩, ⟨fun t2 h2 => ?_⟩, ⟨N4.out⟩, ⟨OV3.out⟩, ⟨RC.out.snoc ?_⟩, ⟨by rw [List.length_append, List.length_singleton]; omega⟩, ⟨?_⟩, ⟨B4.out⟩⟩
            · rw [List.length_append, List.length_singleton]
              rw [List.getD_eq_getElem?_getD, List.getElem?_set] at h2 ⊢
              by_cases e : t = t2
              · rw [if_pos e, if_pos (by have := S6.out.2; omega)]
                simp
              · rw [if_neg e, ← List.getD_eq_getElem?_getD] at h2 ⊢
                have := VL.out t2 h2
                omega
            · exact k35_mkF w ok (oprNew ⟨t, false, ⟨q0, q1, q2, q3, q4⟩, ⟨a0, a1, a2, a3, a4⟩⟩ i) (c10 := 0) (Nat.le_refl _) (Kd.F_nil _ w ok)
            · rw [← RC.out.1]; exact OR3.out
      · have QI : ¬ (i : Int) < (l.length : Int) := by omega
        have OR2 := OR.out
        rw [List.drop_of_length_le (by omega)] at OR2
        have OR3 := Aside0.mk (show xs = res from OR2)
        obtain ⟨A9, c9, hs, hc9⟩ := OVV.out.slice
        subst hs
        clear OR OR2 MR hlt
        go_wp2
        go_ret
        have OR4 := OR3.out
        subst OR4
        first | exact ⟨_, rfl, _, OVV.out, RC.out, B1.out⟩ | exact ⟨_, _, rfl, OVV.out, RC.out, B1.out⟩
theorem opers_calls (l : List Ev) (A : Option Addr) (c : Nat) (w : World) (ok : Nat → Prop) (hf : Kd.F k33 w ok A l.length l) (hc : l.length ≤ c) (hl : l.length ≤ 1000000) :
    Calls Try.prog 16 #[.slice A l.length c] w fun e w' => ∃ v0, e = .returned v0 ∧ Kd.V kO 35 w' w.heap.size (fun k_ => ok k_ ∨ w.heap.size ≤ k_) v0 (opersF l) ∧ Below w.heap.size w w' :=
  (opers_own l A c w ok hf hc hl).mono fun e w' ⟨v0, recs, h1, h2, h3, h4⟩ => ⟨v0, h1, recs_V h2 h3 h4, h4⟩
end HistW
def hist_Opers.f (l0 : List (S33)) : Option ((List (S35))) := if l0.length ≤ 1000000 then some (HistW.opersF l0) else none
theorem hist_Opers.calls (P0_ : Nat → Prop) (A0 : Option Addr) (c0 : Nat) (l0 : List (S33)) (r : List (S35)) (w : World) (hs0 : Kd.V k33 33 w w.heap.size (fun k_ => P0_ k_) (.slice A0 l0.length c0) l0) (h : hist_Opers.f l0 = some r) :
    Calls Try.prog 16 #[.slice A0 l0.length c0] w fun e w' => ∃ v0_ : Value, e = .returned (v0_) ∧ Kd.V k35 35 w' w.heap.size (fun k_ => (P0_ k_ ∨ w.heap.size ≤ k_)) v0_ r ∧ Below w.heap.size w w' := by
  unfold hist_Opers.f at h
  by_cases hl : l0.length ≤ 1000000
  · rw [if_pos hl] at h
    obtain rfl := Option.some.inj h
    exact HistW.opers_calls l0 A0 c0 w P0_ (Kd.V_F hs0) (Kd.V_at hs0).2.1 hl
  · rw [if_neg hl] at h
    cases h

/-! ### hist_Ahead: function 17 -/
def hist_Ahead.f (a0_0 : Int) (a0_1 : Int) (a0_2 : Int) (a0_3 : Int) (a0_4 : Int) (a0_5 : Int) (a0_6 : Int) (a0_7 : Int) (a0_8 : Int) (a0_9 : Int) (l0_10 : List (S104)) (a0_11 : Int) (a0_12 : Int) (a1_0 : Int) (a1_1 : Int) (a1_2 : Int) (a1_3 : Int) (a1_4 : Int) (a1_5 : Int) (a1_6 : Int) (a1_7 : Int) (a1_8 : Int) (a1_9 : Int) (l1_10 : List (S104)) (a1_11 : Int) (a1_12 : Int) : Option (Bool) := if a0_12 ≥ 0 then (some (decide (a0_12 < a1_11))) else (some false)
set_option maxHeartbeats 8000000 in
set_option maxRecDepth 100000 in
theorem hist_Ahead.calls (a0_0 : Int) (a0_1 : Int) (a0_2 : Int) (a0_3 : Int) (a0_4 : Int) (a0_5 : Int) (a0_6 : Int) (a0_7 : Int) (a0_8 : Int) (a0_9 : Int) (A0_10 : Option Addr) (c0_10 : Nat) (l0_10 : List (S104)) (a0_11 : Int) (a0_12 : Int) (a1_0 : Int) (a1_1 : Int) (a1_2 : Int) (a1_3 : Int) (a1_4 : Int) (a1_5 : Int) (a1_6 : Int) (a1_7 : Int) (a1_8 : Int) (a1_9 : Int) (A1_10 : Option Addr) (c1_10 : Nat) (l1_10 : List (S104)) (a1_11 : Int) (a1_12 : Int) (r : Bool) (w : World) (hr0_10 : Kd.C k104 w A0_10 l0_10.length l0_10) (hc0_10 : l0_10.length ≤ c0_10) (hr1_10 : Kd.C k104 w A1_10 l1_10.length l1_10) (hc1_10 : l1_10.length ≤ c1_10) (h : hist_Ahead.f a0_0 a0_1 a0_2 a0_3 a0_4 a0_5 a0_6 a0_7 a0_8 a0_9 l0_10 a0_11 a0_12 a1_0 a1_1 a1_2 a1_3 a1_4 a1_5 a1_6 a1_7 a1_8 a1_9 l1_10 a1_11 a1_12 = some r) :
    Calls Try.prog 17 #[.agg #[.int .i64 a0_0, .int .i64 a0_1, .int .i64 a0_2, .int .i64 a0_3, .int .i64 a0_4, .int .i64 a0_5, .int .i64 a0_6, .int .i64 a0_7, .int .i64 a0_8, .int .i64 a0_9, .slice A0_10 l0_10.length c0_10, .int .i64 a0_11, .int .i64 a0_12], .agg #[.int .i64 a1_0, .int .i64 a1_1, .int .i64 a1_2, .int .i64 a1_3, .int .i64 a1_4, .int .i64 a1_5, .int .i64 a1_6, .int .i64 a1_7, .int .i64 a1_8, .int .i64 a1_9, .slice A1_10 l1_10.length c1_10, .int .i64 a1_11, .int .i64 a1_12]] w fun e w' => e = .returned (.bool r) ∧ Below w.heap.size w w' := by
  have hu35 := Try.underlying35
  have HR0_10 := Aside0.mk hr0_10
  have HC0_10 := Aside0.mk hc0_10
  clear hr0_10 hc0_10
  have HR1_10 := Aside0.mk hr1_10
  have HC1_10 := Aside0.mk hc1_10
  clear hr1_10 hc1_10
  have HB := Aside0.mk (Below.refl w.heap.size w)
  have H : (if a0_12 ≥ 0 then (some (decide (a0_12 < a1_11))) else (some false)) = some r := h
  clear h
  by_cases c3 : a0_12 ≥ 0
  · rw [if_pos c3] at H
    have c3b0 : decide (0 ≤ a0_12) = true := decide_eq_true c3
    clear c3
    obtain rfl := Option.some.inj H
    go_enter Try.func17, Try.ntmps17
    go_wp2_with (first | ((with_reducible refine gate_dst (N := 2) rfl ?_); refine box_event ?hg (N := 2) ?hd (cs := #[.int .i64 a0_0, .int .i64 a0_1, .int .i64 a0_2, .int .i64 a0_3, .int .i64 a0_4, .int .i64 a0_5, .int .i64 a0_6, .int .i64 a0_7, .int .i64 a0_8, .int .i64 a0_9, .slice A0_10 l0_10.length c0_10, .int .i64 a0_11, .int .i64 a0_12]) (t := 35) ?hr ?_; (case hd => rfl); (case hg => rfl); (case hr => first | (go_simp; done) | (go_simp; rfl)); intro gb112 hg w4 hbox hb; have n0_ := Aside0.mk (below_step (by repeat (first | (with_reducible first | exact HB.out | apply below_alloc | apply pw_below_drewN | apply below_drew1) | exact HB.out)) hb); have n1_ := Aside0.mk (hbox); have n2_ := Aside0.mk ((by rw [hg]; exact (below_size (by repeat (first | (with_reducible first | exact HB.out | apply below_alloc | apply pw_below_drewN | apply below_drew1) | exact HB.out))) : w.heap.size ≤ gb112)); have n3_ := Aside0.mk ((by rw [hg]; exact (below_size (by repeat (first | (with_reducible first | exact HB.out | apply below_alloc | apply pw_below_drewN | apply below_drew1) | exact HB.out))) : w.heap.size ≤ gb112)); clear HB; have HB := n0_; have BK112 := n1_; have GW112 := n2_; have GE112 := n3_; clear n0_ n1_ n2_ n3_; clear hb hbox hg) | ((with_reducible refine gate_dst (N := 3) rfl ?_); refine box_event ?hg (N := 3) ?hd (cs := #[.int .i64 a1_0, .int .i64 a1_1, .int .i64 a1_2, .int .i64 a1_3, .int .i64 a1_4, .int .i64 a1_5, .int .i64 a1_6, .int .i64 a1_7, .int .i64 a1_8, .int .i64 a1_9, .slice A1_10 l1_10.length c1_10, .int .i64 a1_11, .int .i64 a1_12]) (t := 35) ?hr ?_; (case hd => rfl); (case hg => rfl); (case hr => first | (go_simp; done) | (go_simp; rfl)); intro gb113 hg w5 hbox hb; have n0_ := Aside0.mk (blk_below (g := gb112) (o := .cells #[.int .i64 a0_0, .int .i64 a0_1, .int .i64 a0_2, .int .i64 a0_3, .int .i64 a0_4, .int .i64 a0_5, .int .i64 a0_6, .int .i64 a0_7, .int .i64 a0_8, .int .i64 a0_9, .slice A0_10 l0_10.length c0_10, .int .i64 a0_11, .int .i64 a0_12] 35 (0, 0)) (by (with_reducible repeat (first | refine blk_drewN ?_ _ | refine blk_drew ?_ | refine blk_alloc ?_ _)); exact BK112.out) hb); have n1_ := Aside0.mk (below_step (by repeat (first | (with_reducible first | exact HB.out | apply below_alloc | apply pw_below_drewN | apply below_drew1 | refine below_set ?_ GE112.out) | exact HB.out)) hb); have n2_ := Aside0.mk (hbox); have n3_ := Aside0.mk ((by rw [hg]; exact (below_size (by repeat (first | (with_reducible first | exact HB.out | apply below_alloc | apply pw_below_drewN | apply below_drew1 | refine below_set ?_ GE112.out) | exact HB.out))) : w.heap.size ≤ gb113)); have n4_ := Aside0.mk ((by rw [hg]; exact (below_size (by repeat (first | (with_reducible first | exact HB.out | apply below_alloc | apply pw_below_drewN | apply below_drew1 | refine below_set ?_ GE112.out) | exact HB.out))) : w.heap.size ≤ gb113)); have n5_ := Aside0.mk ((by rw [hg]; exact Nat.ne_of_lt (blk_lt (g := gb112) (o := .cells #[.int .i64 a0_0, .int .i64 a0_1, .int .i64 a0_2, .int .i64 a0_3, .int .i64 a0_4, .int .i64 a0_5, .int .i64 a0_6, .int .i64 a0_7, .int .i64 a0_8, .int .i64 a0_9, .slice A0_10 l0_10.length c0_10, .int .i64 a0_11, .int .i64 a0_12] 35 (0, 0)) (by (with_reducible repeat (first | refine blk_drewN ?_ _ | refine blk_drew ?_ | refine blk_alloc ?_ _)); exact BK112.out)) : gb112 ≠ gb113)); have n6_ := Aside0.mk ((by rw [hg]; exact Nat.ne_of_gt (blk_lt (g := gb112) (o := .cells #[.int .i64 a0_0, .int .i64 a0_1, .int .i64 a0_2, .int .i64 a0_3, .int .i64 a0_4, .int .i64 a0_5, .int .i64 a0_6, .int .i64 a0_7, .int .i64 a0_8, .int .i64 a0_9, .slice A0_10 l0_10.length c0_10, .int .i64 a0_11, .int .i64 a0_12] 35 (0, 0)) (by (with_reducible repeat (first | refine blk_drewN ?_ _ | refine blk_drew ?_ | refine blk_alloc ?_ _)); exact BK112.out)) : gb113 ≠ gb112)); clear BK112; clear HB; have BK112 := n0_; have HB := n1_; have BK113 := n2_; have GW113 := n3_; have GE113 := n4_; have NB112_113 := n5_; have NB113_112 := n6_; clear n0_ n1_ n2_ n3_ n4_ n5_ n6_; clear hb hbox hg; have hnb6 := NB112_113.out; have hnc6 := NB113_112.out; have hcz7_0 : w5.cell? ⟨gb112, 0, none⟩ = some (.int .i64 a0_0) := (blk_cell BK112.out 0).trans rfl; have hcz7_1 : w5.cell? ⟨gb112, 1, none⟩ = some (.int .i64 a0_1) := (blk_cell BK112.out 1).trans rfl; have hcz7_2 : w5.cell? ⟨gb112, 2, none⟩ = some (.int .i64 a0_2) := (blk_cell BK112.out 2).trans rfl; have hcz7_3 : w5.cell? ⟨gb112, 3, none⟩ = some (.int .i64 a0_3) := (blk_cell BK112.out 3).trans rfl; have hcz7_4 : w5.cell? ⟨gb112, 4, none⟩ = some (.int .i64 a0_4) := (blk_cell BK112.out 4).trans rfl; have hcz7_5 : w5.cell? ⟨gb112, 5, none⟩ = some (.int .i64 a0_5) := (blk_cell BK112.out 5).trans rfl; have hcz7_6 : w5.cell? ⟨gb112, 6, none⟩ = some (.int .i64 a0_6) := (blk_cell BK112.out 6).trans rfl; have hcz7_7 : w5.cell? ⟨gb112, 7, none⟩ = some (.int .i64 a0_7) := (blk_cell BK112.out 7).trans rfl; have hcz7_8 : w5.cell? ⟨gb112, 8, none⟩ = some (.int .i64 a0_8) := (blk_cell BK112.out 8).trans rfl; have hcz7_9 : w5.cell? ⟨gb112, 9, none⟩ = some (.int .i64 a0_9) := (blk_cell BK112.out 9).trans rfl; have hcz7_10 : w5.cell? ⟨gb112, 10, none⟩ = some (.slice A0_10 l0_10.length c0_10) := (blk_cell BK112.out 10).trans rfl; have hcz7_11 : w5.cell? ⟨gb112, 11, none⟩ = some (.int .i64 a0_11) := (blk_cell BK112.out 11).trans rfl; have hcz7_12 : w5.cell? ⟨gb112, 12, none⟩ = some (.int .i64 a0_12) := (blk_cell BK112.out 12).trans rfl; have hfz7_0 := blk_frozen BK112.out 0; have hfz7_1 := blk_frozen BK112.out 1; have hfz7_2 := blk_frozen BK112.out 2; have hfz7_3 := blk_frozen BK112.out 3; have hfz7_4 := blk_frozen BK112.out 4; have hfz7_5 := blk_frozen BK112.out 5; have hfz7_6 := blk_frozen BK112.out 6; have hfz7_7 := blk_frozen BK112.out 7; have hfz7_8 := blk_frozen BK112.out 8; have hfz7_9 := blk_frozen BK112.out 9; have hfz7_10 := blk_frozen BK112.out 10; have hfz7_11 := blk_frozen BK112.out 11; have hfz7_12 := blk_frozen BK112.out 12; have hcz8_0 : w5.cell? ⟨gb113, 0, none⟩ = some (.int .i64 a1_0) := (blk_cell BK113.out 0).trans rfl; have hcz8_1 : w5.cell? ⟨gb113, 1, none⟩ = some (.int .i64 a1_1) := (blk_cell BK113.out 1).trans rfl; have hcz8_2 : w5.cell? ⟨gb113, 2, none⟩ = some (.int .i64 a1_2) := (blk_cell BK113.out 2).trans rfl; have hcz8_3 : w5.cell? ⟨gb113, 3, none⟩ = some (.int .i64 a1_3) := (blk_cell BK113.out 3).trans rfl; have hcz8_4 : w5.cell? ⟨gb113, 4, none⟩ = some (.int .i64 a1_4) := (blk_cell BK113.out 4).trans rfl; have hcz8_5 : w5.cell? ⟨gb113, 5, none⟩ = some (.int .i64 a1_5) := (blk_cell BK113.out 5).trans rfl; have hcz8_6 : w5.cell? ⟨gb113, 6, none⟩ = some (.int .i64 a1_6) := (blk_cell BK113.out 6).trans rfl; have hcz8_7 : w5.cell? ⟨gb113, 7, none⟩ = some (.int .i64 a1_7) := (blk_cell BK113.out 7).trans rfl; have hcz8_8 : w5.cell? ⟨gb113, 8, none⟩ = some (.int .i64 a1_8) := (blk_cell BK113.out 8).trans rfl; have hcz8_9 : w5.cell? ⟨gb113, 9, none⟩ = some (.int .i64 a1_9) := (blk_cell BK113.out 9).trans rfl; have hcz8_10 : w5.cell? ⟨gb113, 10, none⟩ = some (.slice A1_10 l1_10.length c1_10) := (blk_cell BK113.out 10).trans rfl; have hcz8_11 : w5.cell? ⟨gb113, 11, none⟩ = some (.int .i64 a1_11) := (blk_cell BK113.out 11).trans rfl; have hcz8_12 : w5.cell? ⟨gb113, 12, none⟩ = some (.int .i64 a1_12) := (blk_cell BK113.out 12).trans rfl; have hfz8_0 := blk_frozen BK113.out 0; have hfz8_1 := blk_frozen BK113.out 1; have hfz8_2 := blk_frozen BK113.out 2; have hfz8_3 := blk_frozen BK113.out 3; have hfz8_4 := blk_frozen BK113.out 4; have hfz8_5 := blk_frozen BK113.out 5; have hfz8_6 := blk_frozen BK113.out 6; have hfz8_7 := blk_frozen BK113.out 7; have hfz8_8 := blk_frozen BK113.out 8; have hfz8_9 := blk_frozen BK113.out 9; have hfz8_10 := blk_frozen BK113.out 10; have hfz8_11 := blk_frozen BK113.out 11; have hfz8_12 := blk_frozen BK113.out 12))
    go_ret
    exact ⟨by first | rfl | (simp [errW_none, errW_some] <;> rfl) | (simp [*, errW_none, errW_some] <;> rfl), by repeat (first | (with_reducible first | exact HB.out | apply below_alloc | apply pw_below_drewN | apply below_drew1 | refine below_set ?_ GE112.out | refine below_set ?_ GE113.out) | exact HB.out)⟩
  · rw [if_neg c3] at H
    have c3b0 : decide (0 ≤ a0_12) = false := decide_eq_false c3
    clear c3
    obtain rfl := Option.some.inj H
    go_enter Try.func17, Try.ntmps17
    go_wp2_with (first | ((with_reducible refine gate_dst (N := 2) rfl ?_); refine box_event ?hg (N := 2) ?hd (cs := #[.int .i64 a0_0, .int .i64 a0_1, .int .i64 a0_2, .int .i64 a0_3, .int .i64 a0_4, .int .i64 a0_5, .int .i64 a0_6, .int .i64 a0_7, .int .i64 a0_8, .int .i64 a0_9, .slice A0_10 l0_10.length c0_10, .int .i64 a0_11, .int .i64 a0_12]) (t := 35) ?hr ?_; (case hd => rfl); (case hg => rfl); (case hr => first | (go_simp; done) | (go_simp; rfl)); intro gb112 hg w9 hbox hb; have n0_ := Aside0.mk (below_step (by repeat (first | (with_reducible first | exact HB.out | apply below_alloc | apply pw_below_drewN | apply below_drew1) | exact HB.out)) hb); have n1_ := Aside0.mk (hbox); have n2_ := Aside0.mk ((by rw [hg]; exact (below_size (by repeat (first | (with_reducible first | exact HB.out | apply below_alloc | apply pw_below_drewN | apply below_drew1) | exact HB.out))) : w.heap.size ≤ gb112)); have n3_ := Aside0.mk ((by rw [hg]; exact (below_size (by repeat (first | (with_reducible first | exact HB.out | apply below_alloc | apply pw_below_drewN | apply below_drew1) | exact HB.out))) : w.heap.size ≤ gb112)); clear HB; have HB := n0_; have BK112 := n1_; have GW112 := n2_; have GE112 := n3_; clear n0_ n1_ n2_ n3_; clear hb hbox hg) | ((with_reducible refine gate_dst (N := 3) rfl ?_); refine box_event ?hg (N := 3) ?hd (cs := #[.int .i64 a1_0, .int .i64 a1_1, .int .i64 a1_2, .int .i64 a1_3, .int .i64 a1_4, .int .i64 a1_5, .int .i64 a1_6, .int .i64 a1_7, .int .i64 a1_8, .int .i64 a1_9, .slice A1_10 l1_10.length c1_10, .int .i64 a1_11, .int .i64 a1_12]) (t := 35) ?hr ?_; (case hd => rfl); (case hg => rfl); (case hr => first | (go_simp; done) | (go_simp; rfl)); intro gb113 hg w10 hbox hb; have n0_ := Aside0.mk (blk_below (g := gb112) (o := .cells #[.int .i64 a0_0, .int .i64 a0_1, .int .i64 a0_2, .int .i64 a0_3, .int .i64 a0_4, .int .i64 a0_5, .int .i64 a0_6, .int .i64 a0_7, .int .i64 a0_8, .int .i64 a0_9, .slice A0_10 l0_10.length c0_10, .int .i64 a0_11, .int .i64 a0_12] 35 (0, 0)) (by (with_reducible repeat (first | refine blk_drewN ?_ _ | refine blk_drew ?_ | refine blk_alloc ?_ _)); exact BK112.out) hb); have n1_ := Aside0.mk (below_step (by repeat (first | (with_reducible first | exact HB.out | apply below_alloc | apply pw_below_drewN | apply below_drew1 | refine below_set ?_ GE112.out) | exact HB.out)) hb); have n2_ := Aside0.mk (hbox); have n3_ := Aside0.mk ((by rw [hg]; exact (below_size (by repeat (first | (with_reducible first | exact HB.out | apply below_alloc | apply pw_below_drewN | apply below_drew1 | refine below_set ?_ GE112.out) | exact HB.out))) : w.heap.size ≤ gb113)); have n4_ := Aside0.mk ((by rw [hg]; exact (below_size (by repeat (first | (with_reducible first | exact HB.out | apply below_alloc | apply pw_below_drewN | apply below_drew1 | refine below_set ?_ GE112.out) | exact HB.out))) : w.heap.size ≤ gb113)); have n5_ := Aside0.mk ((by rw [hg]; exact Nat.ne_of_lt (blk_lt (g := gb112) (o := .cells #[.int .i64 a0_0, .int .i64 a0_1, .int .i64 a0_2, .int .i64 a0_3, .int .i64 a0_4, .int .i64 a0_5, .int .i64 a0_6, .int .i64 a0_7, .int .i64 a0_8, .int .i64 a0_9, .slice A0_10 l0_10.length c0_10, .int .i64 a0_11, .int .i64 a0_12] 35 (0, 0)) (by (with_reducible repeat (first | refine blk_drewN ?_ _ | refine blk_drew ?_ | refine blk_alloc ?_ _)); exact BK112.out)) : gb112 ≠ gb113)); have n6_ := Aside0.mk ((by rw [hg]; exact Nat.ne_of_gt (blk_lt (g := gb112) (o := .cells #[.int .i64 a0_0, .int .i64 a0_1, .int .i64 a0_2, .int .i64 a0_3, .int .i64 a0_4, .int .i64 a0_5, .int .i64 a0_6, .int .i64 a0_7, .int .i64 a0_8, .int .i64 a0_9, .slice A0_10 l0_10.length c0_10, .int .i64 a0_11, .int .i64 a0_12] 35 (0, 0)) (by (with_reducible repeat (first | refine blk_drewN ?_ _ | refine blk_drew ?_ | refine blk_alloc ?_ _)); exact BK112.out)) : gb113 ≠ gb112)); clear BK112; clear HB; have BK112 := n0_; have HB := n1_; have BK113 := n2_; have GW113 := n3_; have GE113 := n4_; have NB112_113 := n5_; have NB113_112 := n6_; clear n0_ n1_ n2_ n3_ n4_ n5_ n6_; clear hb hbox hg; have hnb11 := NB112_113.out; have hnc11 := NB113_112.out; have hcz12_0 : w10.cell? ⟨gb112, 0, none⟩ = some (.int .i64 a0_0) := (blk_cell BK112.out 0).trans rfl; have hcz12_1 : w10.cell? ⟨gb112, 1, none⟩ = some (.int .i64 a0_1) := (blk_cell BK112.out 1).trans rfl; have hcz12_2 : w10.cell? ⟨gb112, 2, none⟩ = some (.int .i64 a0_2) := (blk_cell BK112.out 2).trans rfl; have hcz12_3 : w10.cell? ⟨gb112, 3, none⟩ = some (.int .i64 a0_3) := (blk_cell BK112.out 3).trans rfl; have hcz12_4 : w10.cell? ⟨gb112, 4, none⟩ = some (.int .i64 a0_4) := (blk_cell BK112.out 4).trans rfl; have hcz12_5 : w10.cell? ⟨gb112, 5, none⟩ = some (.int .i64 a0_5) := (blk_cell BK112.out 5).trans rfl; have hcz12_6 : w10.cell? ⟨gb112, 6, none⟩ = some (.int .i64 a0_6) := (blk_cell BK112.out 6).trans rfl; have hcz12_7 : w10.cell? ⟨gb112, 7, none⟩ = some (.int .i64 a0_7) := (blk_cell BK112.out 7).trans rfl; have hcz12_8 : w10.cell? ⟨gb112, 8, none⟩ = some (.int .i64 a0_8) := (blk_cell BK112.out 8).trans rfl; have hcz12_9 : w10.cell? ⟨gb112, 9, none⟩ = some (.int .i64 a0_9) := (blk_cell BK112.out 9).trans rfl; have hcz12_10 : w10.cell? ⟨gb112, 10, none⟩ = some (.slice A0_10 l0_10.length c0_10) := (blk_cell BK112.out 10).trans rfl; have hcz12_11 : w10.cell? ⟨gb112, 11, none⟩ = some (.int .i64 a0_11) := (blk_cell BK112.out 11).trans rfl; have hcz12_12 : w10.cell? ⟨gb112, 12, none⟩ = some (.int .i64 a0_12) := (blk_cell BK112.out 12).trans rfl; have hfz12_0 := blk_frozen BK112.out 0; have hfz12_1 := blk_frozen BK112.out 1; have hfz12_2 := blk_frozen BK112.out 2; have hfz12_3 := blk_frozen BK112.out 3; have hfz12_4 := blk_frozen BK112.out 4; have hfz12_5 := blk_frozen BK112.out 5; have hfz12_6 := blk_frozen BK112.out 6; have hfz12_7 := blk_frozen BK112.out 7; have hfz12_8 := blk_frozen BK112.out 8; have hfz12_9 := blk_frozen BK112.out 9; have hfz12_10 := blk_frozen BK112.out 10; have hfz12_11 := blk_frozen BK112.out 11; have hfz12_12 := blk_frozen BK112.out 12))
    go_ret
    exact ⟨by first | rfl | (simp [errW_none, errW_some] <;> rfl) | (simp [*, errW_none, errW_some] <;> rfl), by repeat (first | (with_reducible first | exact HB.out | apply below_alloc | apply pw_below_drewN | apply below_drew1 | refine below_set ?_ GE112.out | refine below_set ?_ GE113.out) | exact HB.out)⟩

/-! ### deadwoodlaw11_lives: function 15 : a hand text -/
namespace HistW
open Go.Proofs.Ytacajonkkfmibaa.GRow
def aheadB (x y : Opr) : Bool := decide (0 ≤ x.f4) && decide (x.f4 < y.f3)
set_option maxHeartbeats 1000000 in
set_option maxRecDepth 100000 in
theorem ahead_calls (x0 x1 x2 x3 x4 x5 x6 x7 x8 x9 x10 y0 y1 y2 y3 y4 y5 y6 y7 y8 y9 y10 : Value) (xf xt yf yt : Int) (w : World) :
    Calls Try.prog 17 #[.agg #[x0, x1, x2, x3, x4, x5, x6, x7, x8, x9, x10, .int .i64 xf, .int .i64 xt], .agg #[y0, y1, y2, y3, y4, y5, y6, y7, y8, y9, y10, .int .i64 yf, .int .i64 yt]] w fun e w' => e = .returned (.bool (decide (0 ≤ xt) && decide (xt < yf))) ∧ Below w.heap.size w w' := by
  have hu5 := Try.underlying35
  by_cases h : 0 ≤ xt
  · have hd : decide (0 ≤ xt) = true := decide_eq_true h
    rw [hd, Bool.true_and]
    go_enter Try.func17, Try.ntmps17
    go_wp2
    go_ret
    exact ⟨rfl, below_alloc (below_alloc (Below.refl w.heap.size w) _) _⟩
  · have hd : decide (0 ≤ xt) = false := decide_eq_false h
    rw [hd, Bool.false_and]
    go_enter Try.func17, Try.ntmps17
    go_wp2
    go_ret
    exact ⟨rfl, below_alloc (below_alloc (Below.refl w.heap.size w) _) _⟩
def zE (t : Int) (b : Bool) : Ev := ⟨t, b, z28, z31⟩
def live3 : List Ev := [zE 0 false, zE 0 true, zE 1 false]
theorem live3_ops : opersF live3 = [⟨0, z28, z31, 0, 1⟩, ⟨1, z28, z31, 2, -1⟩] := by rfl
theorem rd_op (l : List Opr) (i : Nat) (hi : i < l.length) : rd_T35 l (i : Int) = l[i] := by unfold rd_T35; rw [Int.toNat_natCast]; simp [List.getD, hi]
/-- An oper's cells. -/
def C13 (W : World) (a : Addr) (x : Opr) (A : Option Addr) (c : Nat) : Prop :=
  W.cell? a = some (.int .i64 x.f0) ∧ W.cell? ⟨a.block, a.off + 1, none⟩ = some (.int .i64 x.f1.f0) ∧ W.cell? ⟨a.block, a.off + 2, none⟩ = some (.int .i64 x.f1.f1) ∧ W.cell? ⟨a.block, a.off + 3, none⟩ = some (.int .i64 x.f1.f2) ∧ W.cell? ⟨a.block, a.off + 4, none⟩ = some (.int .i64 x.f1.f3) ∧ W.cell? ⟨a.block, a.off + 5, none⟩ = some (.int .i64 x.f1.f4) ∧ W.cell? ⟨a.block, a.off + 6, none⟩ = some (.int .i64 x.f2.f0) ∧ W.cell? ⟨a.block, a.off + 7, none⟩ = some (.int .i64 x.f2.f1) ∧ W.cell? ⟨a.block, a.off + 8, none⟩ = some (.int .i64 x.f2.f2) ∧ W.cell? ⟨a.block, a.off + 9, none⟩ = some (.int .i64 x.f2.f3) ∧ W.cell? ⟨a.block, a.off + 10, none⟩ = some (.slice A x.f2.f4.length c) ∧ W.cell? ⟨a.block, a.off + 11, none⟩ = some (.int .i64 x.f3) ∧ W.cell? ⟨a.block, a.off + 12, none⟩ = some (.int .i64 x.f4)
theorem C13.below {W W' : World} {a : Addr} {x : Opr} {A : Option Addr} {c : Nat} (h : C13 W a x A c) (hb : Below W.heap.size W W') : C13 W' a x A c := by
  obtain ⟨h0, h1, h2, h3, h4, h5, h6, h7, h8, h9, h10, h11, h12⟩ := h
  exact ⟨pw_cell_below hb h0, pw_cell_below hb h1, pw_cell_below hb h2, pw_cell_below hb h3, pw_cell_below hb h4, pw_cell_below hb h5, pw_cell_below hb h6, pw_cell_below hb h7, pw_cell_below hb h8, pw_cell_below hb h9, pw_cell_below hb h10, pw_cell_below hb h11, pw_cell_below hb h12⟩
theorem op_at {w : World} {A : Option Addr} {l : List Opr} {n : Nat} (h : Kd.C kO w A n l) (i : Nat) (hi : i < l.length) : ∃ ad A10 c10, A = some ad ∧ C13 w (ad.add (i * 13)) l[i] A10 c10 ∧ l[i].f2.f4.length ≤ c10 ∧ Kd.C k104 w A10 l[i].f2.f4.length l[i].f2.f4 := by
  have hn : l.length = n := h.1
  have h2 := at_T35 h (i : Int) (by omega) (by omega)
  rw [rd_op l i hi, Int.toNat_natCast] at h2
  obtain ⟨ad, A10, c10, hA, h0, h1, h2, h3, h4, h5, h6, h7, h8, h9, h10, h11, h12, h13, h14⟩ := h2
  exact ⟨ad, A10, c10, hA, ⟨h0, h1, h2, h3, h4, h5, h6, h7, h8, h9, h10, h11, h12⟩, h13, h14⟩
theorem keep26 {w0 W W' : World} {a0 : Addr} {x0 : Value} {a1 : Addr} {x1 : Value} {a2 : Addr} {x2 : Value} {a3 : Addr} {x3 : Value} {a4 : Addr} {x4 : Value} {a5 : Addr} {x5 : Value} {a6 : Addr} {x6 : Value} {a7 : Addr} {x7 : Value} {a8 : Addr} {x8 : Value} {a9 : Addr} {x9 : Value} {a10 : Addr} {x10 : Value} {a11 : Addr} {x11 : Value} {a12 : Addr} {x12 : Value} {a13 : Addr} {x13 : Value} {a14 : Addr} {x14 : Value} {a15 : Addr} {x15 : Value} {a16 : Addr} {x16 : Value} {a17 : Addr} {x17 : Value} {a18 : Addr} {x18 : Value} {a19 : Addr} {x19 : Value} {a20 : Addr} {x20 : Value} {a21 : Addr} {x21 : Value} {a22 : Addr} {x22 : Value} {a23 : Addr} {x23 : Value} {a24 : Addr} {x24 : Value} {a25 : Addr} {x25 : Value} (h : W.cell? a0 = some x0 ∧ W.cell? a1 = some x1 ∧ W.cell? a2 = some x2 ∧ W.cell? a3 = some x3 ∧ W.cell? a4 = some x4 ∧ W.cell? a5 = some x5 ∧ W.cell? a6 = some x6 ∧ W.cell? a7 = some x7 ∧ W.cell? a8 = some x8 ∧ W.cell? a9 = some x9 ∧ W.cell? a10 = some x10 ∧ W.cell? a11 = some x11 ∧ W.cell? a12 = some x12 ∧ W.cell? a13 = some x13 ∧ W.cell? a14 = some x14 ∧ W.cell? a15 = some x15 ∧ W.cell? a16 = some x16 ∧ W.cell? a17 = some x17 ∧ W.cell? a18 = some x18 ∧ W.cell? a19 = some x19 ∧ W.cell? a20 = some x20 ∧ W.cell? a21 = some x21 ∧ W.cell? a22 = some x22 ∧ W.cell? a23 = some x23 ∧ W.cell? a24 = some x24 ∧ W.cell? a25 = some x25 ∧ Below w0.heap.size w0 W) (hb : Below W.heap.size W W') : W'.cell? a0 = some x0 ∧ W'.cell? a1 = some x1 ∧ W'.cell? a2 = some x2 ∧ W'.cell? a3 = some x3 ∧ W'.cell? a4 = some x4 ∧ W'.cell? a5 = some x5 ∧ W'.cell? a6 = some x6 ∧ W'.cell? a7 = some x7 ∧ W'.cell? a8 = some x8 ∧ W'.cell? a9 = some x9 ∧ W'.cell? a10 = some x10 ∧ W'.cell? a11 = some x11 ∧ W'.cell? a12 = some x12 ∧ W'.cell? a13 = some x13 ∧ W'.cell? a14 = some x14 ∧ W'.cell? a15 = some x15 ∧ W'.cell? a16 = some x16 ∧ W'.cell? a17 = some x17 ∧ W'.cell? a18 = some x18 ∧ W'.cell? a19 = some x19 ∧ W'.cell? a20 = some x20 ∧ W'.cell? a21 = some x21 ∧ W'.cell? a22 = some x22 ∧ W'.cell? a23 = some x23 ∧ W'.cell? a24 = some x24 ∧ W'.cell? a25 = some x25 ∧ Below w0.heap.size w0 W' := by
  obtain ⟨h0, h1, h2, h3, h4, h5, h6, h7, h8, h9, h10, h11, h12, h13, h14, h15, h16, h17, h18, h19, h20, h21, h22, h23, h24, h25, h26⟩ := h
  exact ⟨pw_cell_below hb h0, pw_cell_below hb h1, pw_cell_below hb h2, pw_cell_below hb h3, pw_cell_below hb h4, pw_cell_below hb h5, pw_cell_below hb h6, pw_cell_below hb h7, pw_cell_below hb h8, pw_cell_below hb h9, pw_cell_below hb h10, pw_cell_below hb h11, pw_cell_below hb h12, pw_cell_below hb h13, pw_cell_below hb h14, pw_cell_below hb h15, pw_cell_below hb h16, pw_cell_below hb h17, pw_cell_below hb h18, pw_cell_below hb h19, pw_cell_below hb h20, pw_cell_below hb h21, pw_cell_below hb h22, pw_cell_below hb h23, pw_cell_below hb h24, pw_cell_below hb h25, below_then h26 h26.size hb⟩
theorem bel26 {w0 W : World} {a0 : Addr} {x0 : Value} {a1 : Addr} {x1 : Value} {a2 : Addr} {x2 : Value} {a3 : Addr} {x3 : Value} {a4 : Addr} {x4 : Value} {a5 : Addr} {x5 : Value} {a6 : Addr} {x6 : Value} {a7 : Addr} {x7 : Value} {a8 : Addr} {x8 : Value} {a9 : Addr} {x9 : Value} {a10 : Addr} {x10 : Value} {a11 : Addr} {x11 : Value} {a12 : Addr} {x12 : Value} {a13 : Addr} {x13 : Value} {a14 : Addr} {x14 : Value} {a15 : Addr} {x15 : Value} {a16 : Addr} {x16 : Value} {a17 : Addr} {x17 : Value} {a18 : Addr} {x18 : Value} {a19 : Addr} {x19 : Value} {a20 : Addr} {x20 : Value} {a21 : Addr} {x21 : Value} {a22 : Addr} {x22 : Value} {a23 : Addr} {x23 : Value} {a24 : Addr} {x24 : Value} {a25 : Addr} {x25 : Value} (h : W.cell? a0 = some x0 ∧ W.cell? a1 = some x1 ∧ W.cell? a2 = some x2 ∧ W.cell? a3 = some x3 ∧ W.cell? a4 = some x4 ∧ W.cell? a5 = some x5 ∧ W.cell? a6 = some x6 ∧ W.cell? a7 = some x7 ∧ W.cell? a8 = some x8 ∧ W.cell? a9 = some x9 ∧ W.cell? a10 = some x10 ∧ W.cell? a11 = some x11 ∧ W.cell? a12 = some x12 ∧ W.cell? a13 = some x13 ∧ W.cell? a14 = some x14 ∧ W.cell? a15 = some x15 ∧ W.cell? a16 = some x16 ∧ W.cell? a17 = some x17 ∧ W.cell? a18 = some x18 ∧ W.cell? a19 = some x19 ∧ W.cell? a20 = some x20 ∧ W.cell? a21 = some x21 ∧ W.cell? a22 = some x22 ∧ W.cell? a23 = some x23 ∧ W.cell? a24 = some x24 ∧ W.cell? a25 = some x25 ∧ Below w0.heap.size w0 W) : Below w0.heap.size w0 W := by
  obtain ⟨h0, h1, h2, h3, h4, h5, h6, h7, h8, h9, h10, h11, h12, h13, h14, h15, h16, h17, h18, h19, h20, h21, h22, h23, h24, h25, h26⟩ := h
  exact h26
set_option maxHeartbeats 1000000 in
set_option maxRecDepth 100000 in
theorem lives_calls (w : World) : Calls Try.prog 15 #[] w fun e w' => e = .returned (.bool true) ∧ Below w.heap.size w w' := by
  have hu := Try.underlying33
  have hu3 := Try.underlying31
  have hu4 := Try.underlying28
  have hu5 := Try.underlying35
  have hw : (w.alloc (.cells #[.int .i64 0, .bool false, .int .i64 0, .int .i64 0, .int .i64 0, .int .i64 0, .int .i64 0, .int .i64 0, .int .i64 0, .int .i64 0, .int .i64 0, .slice none 0 0, .int .i64 0, .bool true, .int .i64 0, .int .i64 0, .int .i64 0, .int .i64 0, .int .i64 0, .int .i64 0, .int .i64 0, .int .i64 0, .int .i64 0, .slice none 0 0, .int .i64 1, .bool false, .int .i64 0, .int .i64 0, .int .i64 0, .int .i64 0, .int .i64 0, .int .i64 0, .int .i64 0, .int .i64 0, .int .i64 0, .slice none 0 0] 33 (0, 0))).ownsRow w.heap.size 33 12 (.slice (some ⟨w.heap.size, 0, none⟩) 3 3) 3 ([[.int .i64 0, .bool false, .int .i64 0, .int .i64 0, .int .i64 0, .int .i64 0, .int .i64 0, .int .i64 0, .int .i64 0, .int .i64 0, .int .i64 0, .slice none 0 0], [.int .i64 0, .bool true, .int .i64 0, .int .i64 0, .int .i64 0, .int .i64 0, .int .i64 0, .int .i64 0, .int .i64 0, .int .i64 0, .int .i64 0, .slice none 0 0], [.int .i64 1, .bool false, .int .i64 0, .int .i64 0, .int .i64 0, .int .i64 0, .int .i64 0, .int .i64 0, .int .i64 0, .int .i64 0, .int .i64 0, .slice none 0 0]] : List (List Value)).flatten := World.ownsRow_lit (base := w.heap.size) (e := 33) (size := 12) w #[.int .i64 0, .bool false, .int .i64 0, .int .i64 0, .int .i64 0, .int .i64 0, .int .i64 0, .int .i64 0, .int .i64 0, .int .i64 0, .int .i64 0, .slice none 0 0, .int .i64 0, .bool true, .int .i64 0, .int .i64 0, .int .i64 0, .int .i64 0, .int .i64 0, .int .i64 0, .int .i64 0, .int .i64 0, .int .i64 0, .slice none 0 0, .int .i64 1, .bool false, .int .i64 0, .int .i64 0, .int .i64 0, .int .i64 0, .int .i64 0, .int .i64 0, .int .i64 0, .int .i64 0, .int .i64 0, .slice none 0 0] 3 (Nat.le_refl _) (by decide) rfl
  obtain ⟨g, c, hv, hbg, G⟩ := GRow.of_own hw rfl (by intro r hr; simp only [List.mem_cons, List.not_mem_nil, or_false] at hr; rcases hr with rfl | rfl | rfl <;> rfl) (by decide)
  injection hv with e1 e2 e3
  injection e1 with e1
  injection e1 with e4 e5 e6
  subst e4
  have hC : Kd.C k33 (w.alloc (.cells #[.int .i64 0, .bool false, .int .i64 0, .int .i64 0, .int .i64 0, .int .i64 0, .int .i64 0, .int .i64 0, .int .i64 0, .int .i64 0, .int .i64 0, .slice none 0 0, .int .i64 0, .bool true, .int .i64 0, .int .i64 0, .int .i64 0, .int .i64 0, .int .i64 0, .int .i64 0, .int .i64 0, .int .i64 0, .int .i64 0, .slice none 0 0, .int .i64 1, .bool false, .int .i64 0, .int .i64 0, .int .i64 0, .int .i64 0, .int .i64 0, .int .i64 0, .int .i64 0, .int .i64 0, .int .i64 0, .slice none 0 0] 33 (0, 0))) (some ⟨w.heap.size, 0, none⟩) live3.length live3 := G.reads rfl rfl (fun j h1 h2 => by
    have : j = 0 ∨ j = 1 ∨ j = 2 := by simp [live3] at h1; omega
    rcases this with rfl | rfl | rfl
    · exact k33_mk _ (zE 0 false) (c11 := 0) (Nat.le_refl _) (Kd.C_nil _ _)
    · exact k33_mk _ (zE 0 true) (c11 := 0) (Nat.le_refl _) (Kd.C_nil _ _)
    · exact k33_mk _ (zE 1 false) (c11 := 0) (Nat.le_refl _) (Kd.C_nil _ _))
  have OC := Aside0.mk (opers_calls live3 (some ⟨w.heap.size, 0, none⟩) 3 (w.alloc (.cells #[.int .i64 0, .bool false, .int .i64 0, .int .i64 0, .int .i64 0, .int .i64 0, .int .i64 0, .int .i64 0, .int .i64 0, .int .i64 0, .int .i64 0, .slice none 0 0, .int .i64 0, .bool true, .int .i64 0, .int .i64 0, .int .i64 0, .int .i64 0, .int .i64 0, .int .i64 0, .int .i64 0, .int .i64 0, .int .i64 0, .slice none 0 0, .int .i64 1, .bool false, .int .i64 0, .int .i64 0, .int .i64 0, .int .i64 0, .int .i64 0, .int .i64 0, .int .i64 0, .int .i64 0, .int .i64 0, .slice none 0 0] 33 (0, 0))) (fun k => k < (w.alloc (.cells #[.int .i64 0, .bool false, .int .i64 0, .int .i64 0, .int .i64 0, .int .i64 0, .int .i64 0, .int .i64 0, .int .i64 0, .int .i64 0, .int .i64 0, .slice none 0 0, .int .i64 0, .bool true, .int .i64 0, .int .i64 0, .int .i64 0, .int .i64 0, .int .i64 0, .int .i64 0, .int .i64 0, .int .i64 0, .int .i64 0, .slice none 0 0, .int .i64 1, .bool false, .int .i64 0, .int .i64 0, .int .i64 0, .int .i64 0, .int .i64 0, .int .i64 0, .int .i64 0, .int .i64 0, .int .i64 0, .slice none 0 0] 33 (0, 0))).heap.size) (Kd.C_F (by exact k33_heap) hC) (by decide) (by decide))
  clear hw G hC hbg
  try clear e2
  try clear e3
  try clear e5
  try clear e6
  go_enter Try.func15, Try.ntmps15
  go_wp2_with fail
  refine OC.out.mono ?_
  rintro e w2 ⟨v0, rfl, hV, hb⟩
  rw [live3_ops] at hV
  obtain ⟨A2, c2, rfl⟩ := Kd.V_slice hV
  have hC2 := (Kd.V_reads' hV).2.2
  have B2 := Aside0.mk (below_then (below_alloc (Below.refl w.heap.size w) _) (Below.size (below_alloc (Below.refl w.heap.size w) _)) hb)
  obtain ⟨ad, A10, c10, rfl, hp, _, _⟩ := op_at hC2 0 (by decide)
  obtain ⟨ad', A11, c11, hA, hq, _, _⟩ := op_at hC2 1 (by decide)
  obtain rfl : ad = ad' := Option.some.inj hA
  have hp2 : C13 w2 ad ⟨0, z28, z31, 0, 1⟩ A10 c10 := hp
  have hq2 : C13 w2 ⟨ad.block, ad.off + 13, none⟩ ⟨1, z28, z31, 2, -1⟩ A11 c11 := hq
  obtain ⟨p0, p1, p2, p3, p4, p5, p6, p7, p8, p9, p10, p11, p12⟩ := hp2
  obtain ⟨q0, q1, q2, q3, q4, q5, q6, q7, q8, q9, q10, q11, q12⟩ := hq2
  clear hp hq
  clear OC hV hC2 hb hA
  simp only [z28, z31, List.length_nil] at p0 p1 p2 p3 p4 p5 p6 p7 p8 p9 p10 p11 p12 q0 q1 q2 q3 q4 q5 q6 q7 q8 q9 q10 q11 q12
  go_wp2_with fail
  go_region_held3 (fun W' => W'.cell? ad = some (.int .i64 0) ∧ W'.cell? ⟨ad.block, ad.off + 1, none⟩ = some (.int .i64 0) ∧ W'.cell? ⟨ad.block, ad.off + 2, none⟩ = some (.int .i64 0) ∧ W'.cell? ⟨ad.block, ad.off + 3, none⟩ = some (.int .i64 0) ∧ W'.cell? ⟨ad.block, ad.off + 4, none⟩ = some (.int .i64 0) ∧ W'.cell? ⟨ad.block, ad.off + 5, none⟩ = some (.int .i64 0) ∧ W'.cell? ⟨ad.block, ad.off + 6, none⟩ = some (.int .i64 0) ∧ W'.cell? ⟨ad.block, ad.off + 7, none⟩ = some (.int .i64 0) ∧ W'.cell? ⟨ad.block, ad.off + 8, none⟩ = some (.int .i64 0) ∧ W'.cell? ⟨ad.block, ad.off + 9, none⟩ = some (.int .i64 0) ∧ W'.cell? ⟨ad.block, ad.off + 10, none⟩ = some (.slice A10 0 c10) ∧ W'.cell? ⟨ad.block, ad.off + 11, none⟩ = some (.int .i64 0) ∧ W'.cell? ⟨ad.block, ad.off + 12, none⟩ = some (.int .i64 1) ∧ W'.cell? ⟨ad.block, ad.off + 13, none⟩ = some (.int .i64 1) ∧ W'.cell? ⟨ad.block, ad.off + 13 + 1, none⟩ = some (.int .i64 0) ∧ W'.cell? ⟨ad.block, ad.off + 13 + 2, none⟩ = some (.int .i64 0) ∧ W'.cell? ⟨ad.block, ad.off + 13 + 3, none⟩ = some (.int .i64 0) ∧ W'.cell? ⟨ad.block, ad.off + 13 + 4, none⟩ = some (.int .i64 0) ∧ W'.cell? ⟨ad.block, ad.off + 13 + 5, none⟩ = some (.int .i64 0) ∧ W'.cell? ⟨ad.block, ad.off + 13 + 6, none⟩ = some (.int .i64 0) ∧ W'.cell? ⟨ad.block, ad.off + 13 + 7, none⟩ = some (.int .i64 0) ∧ W'.cell? ⟨ad.block, ad.off + 13 + 8, none⟩ = some (.int .i64 0) ∧ W'.cell? ⟨ad.block, ad.off + 13 + 9, none⟩ = some (.int .i64 0) ∧ W'.cell? ⟨ad.block, ad.off + 13 + 10, none⟩ = some (.slice A11 0 c11) ∧ W'.cell? ⟨ad.block, ad.off + 13 + 11, none⟩ = some (.int .i64 2) ∧ W'.cell? ⟨ad.block, ad.off + 13 + 12, none⟩ = some (.int .i64 (-1)) ∧ Below w.heap.size w W')
    (first
      | exact ⟨p0, p1, p2, p3, p4, p5, p6, p7, p8, p9, p10, p11, p12, q0, q1, q2, q3, q4, q5, q6, q7, q8, q9, q10, q11, q12, B2.out⟩
      | exact ⟨p0, p1, p2, p3, p4, p5, p6, p7, p8, p9, p10, p11, p12, q0, q1, q2, q3, q4, q5, q6, q7, q8, q9, q10, q11, q12, below_drew1 B2.out⟩
      | assumption
      | exact keep26 (by assumption) (by assumption))
    (first
      | (go_at_call 17; refine (ahead_calls _ _ _ _ _ _ _ _ _ _ _ _ _ _ _ _ _ _ _ _ _ _ _ _ _ _ _).mono ?_; rintro e w' ⟨rfl, hb⟩))
  go_wp2
  go_ret
  exact ⟨rfl, bel26 (by assumption)⟩
end HistW
def deadwoodlaw11_lives.f : Option (Bool) := some true
theorem deadwoodlaw11_lives.calls  (r : Bool) (w : World) (h : deadwoodlaw11_lives.f  = some r) :
    Calls Try.prog 15 #[] w fun e w' => e = .returned (.bool r) ∧ Below w.heap.size w w' := by
  obtain rfl := Option.some.inj h
  exact HistW.lives_calls w

/-! ### deadwoodref11_Opers: function 18 : a hand text -/
namespace HistW
open Go.Proofs.Ytacajonkkfmibaa.GRow
/-- The first answer of a thread from place k on. -/
def fb (t : Int) : Nat → List Ev → Option (Nat × Ev)
  | _, [] => none
  | k, e :: l => if e.f0 = t ∧ e.f1 = true then some (k, e) else fb t (k + 1) l
def shut (o : Opr) : Option (Nat × Ev) → Opr
  | none => o
  | some (k, e) => oprBack o e k
/-- The calls that begin in a list, from place i on. -/
def refs : Nat → List Ev → List Opr
  | _, [] => []
  | i, e :: l => if e.f1 = true then refs (i + 1) l else shut (oprNew e i) (fb e.f0 (i + 1) l) :: refs (i + 1) l
def fin (o : Opr) (i : Nat) (l : List Ev) : Opr := if o.f4 = -1 then shut o (fb o.f0 i l) else o
theorem fb_drop (t : Int) (l : List Ev) (k : Nat) (hk : k < l.length) : fb t k (l.drop k) = if l[k].f0 = t ∧ l[k].f1 = true then some (k, l[k]) else fb t (k + 1) (l.drop (k + 1)) := by
  rw [List.drop_eq_getElem_cons hk]; rfl
theorem cells13 {w : World} {b T : Nat} {x0 x1 x2 x3 x4 x5 x6 x7 x8 x9 x10 x11 x12 : Value} (h : w.heap[b]? = some (.cells #[x0, x1, x2, x3, x4, x5, x6, x7, x8, x9, x10, x11, x12] T (0, 0))) : w.cell? ⟨b, 0, none⟩ = some x0 ∧ w.cell? ⟨b, 1, none⟩ = some x1 ∧ w.cell? ⟨b, 2, none⟩ = some x2 ∧ w.cell? ⟨b, 3, none⟩ = some x3 ∧ w.cell? ⟨b, 4, none⟩ = some x4 ∧ w.cell? ⟨b, 5, none⟩ = some x5 ∧ w.cell? ⟨b, 6, none⟩ = some x6 ∧ w.cell? ⟨b, 7, none⟩ = some x7 ∧ w.cell? ⟨b, 8, none⟩ = some x8 ∧ w.cell? ⟨b, 9, none⟩ = some x9 ∧ w.cell? ⟨b, 10, none⟩ = some x10 ∧ w.cell? ⟨b, 11, none⟩ = some x11 ∧ w.cell? ⟨b, 12, none⟩ = some x12 :=
  ⟨(blk_cell h 0).trans rfl, (blk_cell h 1).trans rfl, (blk_cell h 2).trans rfl, (blk_cell h 3).trans rfl, (blk_cell h 4).trans rfl, (blk_cell h 5).trans rfl, (blk_cell h 6).trans rfl, (blk_cell h 7).trans rfl, (blk_cell h 8).trans rfl, (blk_cell h 9).trans rfl, (blk_cell h 10).trans rfl, (blk_cell h 11).trans rfl, (blk_cell h 12).trans rfl⟩
theorem shut_twice (o : Opr) (x : Option (Nat × Ev)) (e : Ev) (k : Nat) : oprBack (shut o x) e k = oprBack o e k := by
  cases x with
  | none => rfl
  | some p => rfl
structure InvR (st : List Bool) (last : List Nat) (out : List Opr) : Prop where
  sl : st.length = 6
  ll : last.length = 6
  c : ∀ t : Nat, st[t]? = some true → ∃ o, out[last.getD t 0]? = some o ∧ o.f0 = t ∧ o.f4 = -1 ∧ ∀ (j : Nat) (p : Opr), last.getD t 0 ≠ j → out[j]? = some p → p.f0 = t → p.f4 ≠ -1
  d : ∀ t : Nat, st[t]? = some false → ∀ (j : Nat) (o : Opr), out[j]? = some o → o.f0 = t → o.f4 ≠ -1
theorem getD_is {st : List Bool} {t : Nat} (h : t < st.length) {b : Bool} (hb : st.getD t false = b) : st[t]? = some b := by
  rw [List.getD_eq_getElem?_getD, List.getElem?_eq_getElem h] at hb
  rw [List.getElem?_eq_getElem h]
  exact congrArg some hb
theorem InvR.start : InvR st0 (List.replicate 6 0) [] := by
  refine ⟨rfl, rfl, fun t h => ?_, fun t _ j o h => by simp at h⟩
  unfold st0 at h
  rw [List.getElem?_replicate] at h
  split at h <;> simp at h
theorem InvR.begin {st : List Bool} {last : List Nat} {out : List Opr} {i : Nat} (h : InvR st last out) {e : Ev} {t : Nat} (ht : e.f0 = t) (h6 : t < 6) (hs : st.getD t false = false) : InvR (st.set t true) (last.set t out.length) (out ++ [oprNew e i]) := by
  have hst := getD_is (by rw [h.sl]; exact h6) hs
  have get : ∀ (j : Nat) (o : Opr), (out ++ [oprNew e i])[j]? = some o → (j < out.length ∧ out[j]? = some o) ∨ (j = out.length ∧ o = oprNew e i) := by
    intro j o ho
    by_cases hj : j < out.length
    · rw [List.getElem?_append_left hj] at ho; exact .inl ⟨hj, ho⟩
    · rw [List.getElem?_append_right (by omega)] at ho
      have : j - out.length = 0 := by
        have := (List.getElem?_eq_some_iff.1 ho).1
        simp at this; omega
      rw [this] at ho
      simp at ho
      exact .inr ⟨by omega, ho.symm⟩
  refine ⟨by rw [List.length_set]; exact h.sl, by rw [List.length_set]; exact h.ll, fun t2 h2 => ?_, fun t2 h2 j o ho hf => ?_⟩
  · rw [List.getElem?_set] at h2
    by_cases e2 : t = t2
    · subst e2
      have e3 : (last.set t out.length).getD t 0 = out.length := by
        rw [List.getD_eq_getElem?_getD, List.getElem?_set, if_pos rfl, if_pos (by rw [h.ll]; exact h6)]
        rfl
      rw [e3]
      refine ⟨oprNew e i, by simp, ht, rfl, fun j p hj hp hf => ?_⟩
      rcases get j p hp with ⟨hj2, hp2⟩ | ⟨rfl, _⟩
      · exact h.d t hst j p hp2 hf
      · exact absurd rfl hj
    · rw [if_neg e2] at h2
      obtain ⟨o, ho, hf, h4, hn⟩ := h.c t2 h2
      have e3 : (last.set t out.length).getD t2 0 = last.getD t2 0 := by rw [List.getD_eq_getElem?_getD, List.getElem?_set, if_neg e2, ← List.getD_eq_getElem?_getD]
      rw [e3]
      have hlt := (List.getElem?_eq_some_iff.1 ho).1
      refine ⟨o, by rw [List.getElem?_append_left hlt]; exact ho, hf, h4, fun j p hj hp hf2 => ?_⟩
      rcases get j p hp with ⟨hj2, hp2⟩ | ⟨rfl, rfl⟩
      · exact hn j p hj hp2 hf2
      · exfalso; have : e.f0 = t2 := hf2; omega
  · rw [List.getElem?_set] at h2
    by_cases e2 : t = t2
    · rw [if_pos e2] at h2; split at h2 <;> simp at h2
    · rw [if_neg e2] at h2
      rcases get j o ho with ⟨hj, ho2⟩ | ⟨rfl, rfl⟩
      · exact h.d t2 h2 j o ho2 hf
      · exfalso; have : e.f0 = t2 := hf; omega
theorem InvR.back {st : List Bool} {last : List Nat} {out : List Opr} {i : Nat} (h : InvR st last out) {e : Ev} {t : Nat} (h6 : t < 6) (hs : st.getD t false = true) {o0 : Opr} (ho0 : out[last.getD t 0]? = some o0) : InvR (st.set t false) last (out.set (last.getD t 0) (oprBack o0 e i)) := by
  have hst := getD_is (by rw [h.sl]; exact h6) hs
  obtain ⟨o1, ho1, hf0, h40, hn0⟩ := h.c t hst
  obtain rfl : o0 = o1 := Option.some.inj (ho0.symm.trans ho1)
  generalize last.getD t 0 = j0 at ho0 hn0
  have hlt := (List.getElem?_eq_some_iff.1 ho0).1
  have get : ∀ (j : Nat) (o : Opr), (out.set j0 (oprBack o0 e i))[j]? = some o → (j = j0 ∧ o = oprBack o0 e i) ∨ (j ≠ j0 ∧ out[j]? = some o) := by
    intro j o ho
    rw [List.getElem?_set] at ho
    by_cases e2 : j0 = j
    · rw [if_pos e2, if_pos hlt] at ho
      exact .inl ⟨e2.symm, (Option.some.inj ho).symm⟩
    · rw [if_neg e2] at ho
      exact .inr ⟨fun e3 => e2 e3.symm, ho⟩
  refine ⟨by rw [List.length_set]; exact h.sl, h.ll, fun t2 h2 => ?_, fun t2 h2 j o ho hf => ?_⟩
  · rw [List.getElem?_set] at h2
    by_cases e2 : t = t2
    · rw [if_pos e2] at h2; split at h2 <;> simp at h2
    · rw [if_neg e2] at h2
      obtain ⟨o, ho, hf, h4, hn⟩ := h.c t2 h2
      have hj2 : last.getD t2 0 ≠ j0 := fun e3 => by
        rw [e3, ho0] at ho
        obtain rfl := Option.some.inj ho
        omega
      refine ⟨o, by rw [List.getElem?_set, if_neg (fun e3 => hj2 e3.symm)]; exact ho, hf, h4, fun j p hj hp hf2 => ?_⟩
      rcases get j p hp with ⟨rfl, rfl⟩ | ⟨_, hp2⟩
      · exfalso; have : o0.f0 = t2 := hf2; omega
      · exact hn j p hj hp2 hf2
  · rcases get j o ho with ⟨rfl, rfl⟩ | ⟨hj, ho2⟩
    · show ¬ ((i : Int) = -1)
      omega
    · rw [List.getElem?_set] at h2
      by_cases e2 : t = t2
      · subst e2
        exact hn0 j o (fun e3 => hj e3.symm) ho2 hf
      · rw [if_neg e2] at h2
        exact h.d t2 h2 j o ho2 hf
theorem orun_refs (l : List Ev) : ∀ (st : List Bool) (last : List Nat) (out : List Opr) (i : Nat), InvR st last out → mrun st l = true → orun last out i l = out.map (fun o => fin o i l) ++ refs i l := by
  induction l with
  | nil =>
    intro st last out i h _
    have : ∀ o : Opr, fin o i [] = o := fun o => by unfold fin fb; split <;> rfl
    simp [orun, refs, this]
  | cons e l ih =>
    intro st last out i h hm
    rw [mrun, Bool.and_eq_true] at hm
    obtain ⟨n0, n6, hst⟩ := okE_true hm.1
    obtain ⟨t, ht⟩ : ∃ t : Nat, e.f0 = t := ⟨e.f0.toNat, by omega⟩
    have et : e.f0.toNat = t := by omega
    have hm2 := hm.2
    rw [et] at hst hm2
    cases hf : e.f1 with
    | false =>
      rw [hf] at hst hm2
      have hb := h.begin (i := i) ht (by omega) hst
      have hfin : ∀ o : Opr, fin o i (e :: l) = fin o (i + 1) l := fun o => by
        unfold fin
        by_cases h4 : o.f4 = -1
        · rw [if_pos h4, if_pos h4, fb, if_neg (fun hh => by rw [hf] at hh; exact absurd hh.2 (by decide))]
        · rw [if_neg h4, if_neg h4]
      rw [orun, if_neg (by rw [hf]; decide), et, ih _ _ _ _ hb hm2, refs, if_neg (by rw [hf]; decide), List.map_append, List.append_assoc]
      congr 1
      exact List.map_congr_left (fun o _ => (hfin o).symm)
    | true =>
      rw [hf] at hst hm2
      obtain ⟨o0, ho0, hf0, h40, hn0⟩ := h.c t (getD_is (by rw [h.sl]; omega) hst)
      have hb := h.back (e := e) (i := i) (by omega) hst ho0
      have eo : out.getD (last.getD t 0) zO = o0 := by rw [List.getD_eq_getElem?_getD, ho0]; rfl
      rw [orun, if_pos hf, et, eo, ih _ _ _ _ hb hm2, refs, if_pos hf]
      congr 1
      apply List.ext_getElem?
      intro j
      rw [List.getElem?_map, List.getElem?_map, List.getElem?_set]
      by_cases ej : last.getD t 0 = j
      · subst ej
        rw [if_pos rfl, if_pos (List.getElem?_eq_some_iff.1 ho0).1, ho0]
        simp only [Option.map_some, Option.some.injEq]
        have e1 : fin (oprBack o0 e i) (i + 1) l = oprBack o0 e i := by unfold fin; rw [if_neg (by show ¬ ((i : Int) = -1); omega)]
        rw [e1]
        unfold fin
        rw [if_pos h40, fb, if_pos ⟨by rw [hf0]; exact ht, hf⟩]
        rfl
      · rw [if_neg ej]
        cases hj : out[j]? with
        | none => rfl
        | some o =>
          simp only [Option.map_some, Option.some.injEq]
          unfold fin
          by_cases h4 : o.f4 = -1
          · rw [if_pos h4, if_pos h4, fb, if_neg (fun hh => hn0 j o ej hj (by rw [← hh.1]; exact ht) h4)]
          · rw [if_neg h4, if_neg h4]
theorem opers_refs {l : List Ev} (hm : mayF l = true) : opersF l = refs 0 l := by
  unfold opersF
  rw [hm, if_pos rfl, orun_refs l st0 _ _ 0 InvR.start hm]
  rfl
end HistW
def fuelR : Nat := 1000000
def deadwoodref11_Opers.f (l0 : List (S33)) : Option ((List (S35))) := if l0.length ≤ 1000000 then (deadwoodref11_May.f fuelR l0).map (fun b => if b = true then HistW.refs 0 l0 else []) else none
namespace HistW
open Go.Proofs.Ytacajonkkfmibaa.GRow
set_option maxHeartbeats 1000000 in
set_option maxRecDepth 100000 in
theorem rop_calls (l : List Ev) (A : Option Addr) (c : Nat) (w : World) (ok : Nat → Prop) (hf : Kd.F k33 w ok A l.length l) (hc : l.length ≤ c) (hl : l.length ≤ 1000000) (b : Bool) (hm : deadwoodref11_May.f fuelR l = some b) :
    Calls Try.prog 18 #[.slice A l.length c] w fun e w' => ∃ v0, e = .returned v0 ∧ Kd.V kO 35 w' w.heap.size (fun k_ => ok k_ ∨ w.heap.size ≤ k_) v0 (if b = true then refs 0 l else []) ∧ Below w.heap.size w w' := by
  have hu := Try.underlying33
  have hu3 := Try.underlying31
  have hu4 := Try.underlying28
  have hu5 := Try.underlying35
  have hr := Kd.F_now hf
  have HR := Aside0.mk hr
  have HF := Aside0.mk hf
  have HC := Aside0.mk hc
  obtain ⟨i0, hi0, hz1, hz2, zz, hz0, hzs⟩ := info_opr
  have mixed : Try.prog.follows Departure.mixedOrders = true := by kernel_rfl
  have HM := Aside0.mk (deadwoodref11_May.calls fuelR A c l b w hr hc hm)
  clear hr hc hf hm
  cases b with
  | false =>
    rw [if_neg (by decide)]
    go_enter Try.func18, Try.ntmps18
    go_wp2_with fail
    refine HM.out.mono ?_
    rintro e w2 ⟨rfl, ⟨nd, rfl⟩⟩
    go_wp2
    go_ret
    exact ⟨_, rfl, Kd.V_nil _ _ _ _ _, pw_below_drewN (Below.refl _ _) nd⟩
  | true =>
    rw [if_pos rfl]
    go_enter Try.func18, Try.ntmps18
    go_wp2_with fail
    refine HM.out.mono ?_
    rintro e w2 ⟨rfl, ⟨nd, rfl⟩⟩
    have HB := Aside0.mk (pw_below_drewN (Below.refl w.heap.size w) nd)
    clear HM
    generalize w.drewN nd = w2 at HB ⊢
    go_wp2
    go_loopg [3, 4] l.length (fun kx s3 s4 wr => ∃ (i : Nat) (xs : List Opr) (recs : List (List Value)), s4 = .int .i64 i ∧ i + kx = l.length ∧ Aside0 (OV 35 13 wr w.heap.size s3 recs) ∧ Aside0 (Recs w ok xs recs) ∧ Aside0 (recs.length ≤ i) ∧ Aside0 (xs ++ refs i (l.drop i) = refs 0 l) ∧ Aside0 (Below w.heap.size w wr))
    case atStart => exact ⟨0, [], [], rfl, by omega, ⟨OV.nil _ _ _ _⟩, ⟨rfl, fun j h1 => by simp at h1⟩, ⟨Nat.le_refl _⟩, ⟨by rw [List.drop_zero, List.nil_append]⟩, HB⟩
    case round =>
      clear HB
      obtain ⟨i, xs, recs, rfl, hi, OVV, RC, RL, RF, B1⟩ := hrel
      by_cases hlt : i < l.length
      · obtain ⟨ad, A11, c11, hA, ⟨h0, h1, h2, h3, h4, h5, h6, h7, h8, h9, h10, h11⟩, _, _⟩ := ev_footl HF.out B1.out i hlt
        subst hA
        have RF2 := RF.out
        rw [List.drop_eq_getElem_cons hlt, refs] at RF2
        have QI : (i : Int) < (l.length : Int) := by omega
        generalize l[i] = e at h0 h1 h2 h3 h4 h5 h6 h7 h8 h9 h10 h11 RF2
        obtain ⟨f0, f1, ⟨q0, q1, q2, q3, q4⟩, ⟨a0, a1, a2, a3, a4⟩⟩ := e
        dsimp only at h0 h1 h2 h3 h4 h5 h6 h7 h8 h9 h10 h11 RF2
        clear RF h7 h8 h9 h10 h11
        cases f1 with
        | true =>
          rw [if_pos rfl] at RF2
          have RF3 := Aside0.mk RF2
          clear RF2
          go_wp2
          go_roundg (l.length - (i + 1))
          case measure => omega
          case rel => exact ⟨i + 1, xs, recs, by go_num, by omega, OVV, RC, ⟨by have := RL.out; omega⟩, RF3, B1⟩
        | false =>
          rw [if_neg (by decide)] at RF2
          have RF3 := Aside0.mk RF2
          clear RF2
          go_upto_region 8 with (fail)
          go_cut [5] (fun v5 wc => ∃ ob : Nat, v5 = .pointer (some ⟨ob, 0, none⟩) ∧ Aside0 (wc.heap[ob]? = some (.cells #[.int .i64 f0, .int .i64 q0, .int .i64 q1, .int .i64 q2, .int .i64 q3, .int .i64 q4, .int .i64 0, .int .i64 0, .int .i64 0, .int .i64 0, .slice none 0 0, .int .i64 i, .int .i64 (-1)] 35 (0, 0))) ∧ Aside0 (wr.heap.size ≤ ob) ∧ Aside0 (Below wr.heap.size wr wc))
          case first =>
            have h3p : wr.cell? ⟨(ad.add (i * 12)).block, (ad.add (i * 12)).off + 2 + 1, none⟩ = some (.int .i64 q1) := h3
            have h4p : wr.cell? ⟨(ad.add (i * 12)).block, (ad.add (i * 12)).off + 2 + 2, none⟩ = some (.int .i64 q2) := h4
            have h5p : wr.cell? ⟨(ad.add (i * 12)).block, (ad.add (i * 12)).off + 2 + 3, none⟩ = some (.int .i64 q3) := h5
            have h6p : wr.cell? ⟨(ad.add (i * 12)).block, (ad.add (i * 12)).off + 2 + 4, none⟩ = some (.int .i64 q4) := h6
            have h0a := pw_cell_below (below_alloc (Below.refl wr.heap.size wr) (.cells #[.int .i64 0, .int .i64 0, .int .i64 0, .int .i64 0, .int .i64 0, .int .i64 0, .int .i64 0, .int .i64 0, .int .i64 0, .int .i64 0, .slice none 0 0, .int .i64 0, .int .i64 0] 35 (0, 0))) h0
            have h2a := pw_cell_below (below_alloc (Below.refl wr.heap.size wr) (.cells #[.int .i64 0, .int .i64 0, .int .i64 0, .int .i64 0, .int .i64 0, .int .i64 0, .int .i64 0, .int .i64 0, .int .i64 0, .int .i64 0, .slice none 0 0, .int .i64 0, .int .i64 0] 35 (0, 0))) h2
            have h3pa := pw_cell_below (below_alloc (Below.refl wr.heap.size wr) (.cells #[.int .i64 0, .int .i64 0, .int .i64 0, .int .i64 0, .int .i64 0, .int .i64 0, .int .i64 0, .int .i64 0, .int .i64 0, .int .i64 0, .slice none 0 0, .int .i64 0, .int .i64 0] 35 (0, 0))) h3p
            have h4pa := pw_cell_below (below_alloc (Below.refl wr.heap.size wr) (.cells #[.int .i64 0, .int .i64 0, .int .i64 0, .int .i64 0, .int .i64 0, .int .i64 0, .int .i64 0, .int .i64 0, .int .i64 0, .int .i64 0, .slice none 0 0, .int .i64 0, .int .i64 0] 35 (0, 0))) h4p
            have h5pa := pw_cell_below (below_alloc (Below.refl wr.heap.size wr) (.cells #[.int .i64 0, .int .i64 0, .int .i64 0, .int .i64 0, .int .i64 0, .int .i64 0, .int .i64 0, .int .i64 0, .int .i64 0, .int .i64 0, .slice none 0 0, .int .i64 0, .int .i64 0] 35 (0, 0))) h5p
            have h6pa := pw_cell_below (below_alloc (Below.refl wr.heap.size wr) (.cells #[.int .i64 0, .int .i64 0, .int .i64 0, .int .i64 0, .int .i64 0, .int .i64 0, .int .i64 0, .int .i64 0, .int .i64 0, .int .i64 0, .slice none 0 0, .int .i64 0, .int .i64 0] 35 (0, 0))) h6p
            go_region
            all_goals go_wp2
            all_goals go_meet
            all_goals exact ⟨wr.heap.size, rfl, ⟨heap_alloc_new wr _⟩, ⟨Nat.le_refl _⟩, ⟨below_drew1 (below_alloc (Below.refl _ _) _)⟩⟩
          case rest =>
            obtain ⟨ob, rfl, OB, OG, BC⟩ := hcut
            have OV2 := Aside0.mk (OVV.out.below BC.out)
            have B2 := Aside0.mk (below_then B1.out B1.out.size BC.out)
            have HOB := Aside0.mk (show w.heap.size ≤ ob from Nat.le_trans B1.out.size OG.out)
            have NOB := Aside0.mk (show ∀ k, (u3 : Value).ownBlock = some k → k ≠ ob from fun k hk => by
              have hlt := ((OVV.out.own (by decide)).lt k hk).2
              have := OG.out
              omega)
            clear h0 h1 h2 h3 h4 h5 h6
            go_wp2
            go_loopg [6] (l.length - 1 - i) (fun kx s6 wd => ∃ (an : S31) (tz : Int) (A10 : Option Addr) (c10 : Nat), s6 = .int .i64 ((i : Int) + (kx : Int)) ∧ i + kx < l.length ∧ Aside0 (wd.heap[ob]? = some (.cells #[.int .i64 f0, .int .i64 q0, .int .i64 q1, .int .i64 q2, .int .i64 q3, .int .i64 q4, .int .i64 an.f0, .int .i64 an.f1, .int .i64 an.f2, .int .i64 an.f3, .slice A10 an.f4.length c10, .int .i64 i, .int .i64 tz] 35 (0, 0))) ∧ Aside0 ((⟨f0, ⟨q0, q1, q2, q3, q4⟩, an, (i : Int), tz⟩ : Opr) = shut (oprNew (⟨f0, false, ⟨q0, q1, q2, q3, q4⟩, ⟨a0, a1, a2, a3, a4⟩⟩ : Ev) i) (fb f0 (i + kx + 1) (l.drop (i + kx + 1)))) ∧ Aside0 (an.f4.length ≤ c10 ∧ Kd.F k104 w ok A10 an.f4.length an.f4) ∧ Aside0 (OV 35 13 wd w.heap.size u3 recs) ∧ Aside0 (Below w.heap.size w wd))
            case atStart =>
              refine ⟨z31, -1, none, 0, ?_, by omega, OB, ⟨?_⟩, ⟨Nat.le_refl _, Kd.F_nil _ w ok⟩, OV2, B2⟩
              · rw [show (i : Int) + ((l.length - 1 - i : Nat) : Int) = (l.length : Int) - 1 by omega]
              · rw [show i + (l.length - 1 - i) + 1 = l.length by omega, List.drop_length]
                rfl
            case round =>
              clear OB OV2 B2 OVV B1 BC
              obtain ⟨an, tz, A10, c10, rfl, hk, OB, OE, AF, OVD, BD⟩ := hrel
              obtain ⟨r0, r1, r2, r3, r4, r5, r6, r7, r8, r9, r10, r11, r12⟩ := cells13 OB.out
              by_cases hz : gk = 0
              · subst hz
                have qk : ¬ (i : Int) < (i : Int) + ((0 : Nat) : Int) := by omega
                obtain ⟨Av, cv, hs3, hcv⟩ := OVD.out.slice
                subst hs3
                have OV3 := Aside0.mk (OVD.out.alloc (.cells #[.int .i64 f0, .int .i64 q0, .int .i64 q1, .int .i64 q2, .int .i64 q3, .int .i64 q4, .int .i64 an.f0, .int .i64 an.f1, .int .i64 an.f2, .int .i64 an.f3, .slice A10 an.f4.length c10, .int .i64 i, .int .i64 tz] 35 (0, 0)))
                have OWN := Aside0.mk (OV3.out.own (by decide))
                have NEWS := Aside0.mk (heap_alloc_new wr (.cells #[.int .i64 f0, .int .i64 q0, .int .i64 q1, .int .i64 q2, .int .i64 q3, .int .i64 q4, .int .i64 an.f0, .int .i64 an.f1, .int .i64 an.f2, .int .i64 an.f3, .slice A10 an.f4.length c10, .int .i64 i, .int .i64 tz] 35 (0, 0)))
                have WID := Aside0.mk OVD.out.wide
                have hrl := RL.out
                have NW := Aside0.mk (show ∀ j u, ([.int .i64 f0, .int .i64 q0, .int .i64 q1, .int .i64 q2, .int .i64 q3, .int .i64 q4, .int .i64 an.f0, .int .i64 an.f1, .int .i64 an.f2, .int .i64 an.f3, .slice A10 an.f4.length c10, .int .i64 i, .int .i64 tz] : List Value)[j]? = some u → (wr.alloc (.cells #[.int .i64 f0, .int .i64 q0, .int .i64 q1, .int .i64 q2, .int .i64 q3, .int .i64 q4, .int .i64 an.f0, .int .i64 an.f1, .int .i64 an.f2, .int .i64 an.f3, .slice A10 an.f4.length c10, .int .i64 i, .int .i64 tz] 35 (0, 0))).cell? ((⟨wr.heap.size, 0, none⟩ : Addr).add j) = some u from by
                  intro j u hu
                  rw [add_at, Nat.zero_add]
                  exact (blk_cell NEWS.out j).trans (by rw [List.getElem?_toArray]; exact hu))
                have ONE := Aside0.mk (show ∀ u ∈ ([.int .i64 f0, .int .i64 q0, .int .i64 q1, .int .i64 q2, .int .i64 q3, .int .i64 q4, .int .i64 an.f0, .int .i64 an.f1, .int .i64 an.f2, .int .i64 an.f3, .slice A10 an.f4.length c10, .int .i64 i, .int .i64 tz] : List Value), u.oneCell' = true from (List.forall_mem_cons.2 ⟨rfl, (List.forall_mem_cons.2 ⟨rfl, (List.forall_mem_cons.2 ⟨rfl, (List.forall_mem_cons.2 ⟨rfl, (List.forall_mem_cons.2 ⟨rfl, (List.forall_mem_cons.2 ⟨rfl, (List.forall_mem_cons.2 ⟨rfl, (List.forall_mem_cons.2 ⟨rfl, (List.forall_mem_cons.2 ⟨rfl, (List.forall_mem_cons.2 ⟨rfl, (List.forall_mem_cons.2 ⟨rfl, (List.forall_mem_cons.2 ⟨rfl, (List.forall_mem_cons.2 ⟨rfl, (fun _ h => nomatch h)⟩)⟩)⟩)⟩)⟩)⟩)⟩)⟩)⟩)⟩)⟩)⟩)⟩))
                have B3 := Aside0.mk (below_alloc BD.out (.cells #[.int .i64 f0, .int .i64 q0, .int .i64 q1, .int .i64 q2, .int .i64 q3, .int .i64 q4, .int .i64 an.f0, .int .i64 an.f1, .int .i64 an.f2, .int .i64 an.f3, .slice A10 an.f4.length c10, .int .i64 i, .int .i64 tz] 35 (0, 0)))
                have BS3 := Aside0.mk (show w.heap.size ≤ (wr.alloc (.cells #[.int .i64 f0, .int .i64 q0, .int .i64 q1, .int .i64 q2, .int .i64 q3, .int .i64 q4, .int .i64 an.f0, .int .i64 an.f1, .int .i64 an.f2, .int .i64 an.f3, .slice A10 an.f4.length c10, .int .i64 i, .int .i64 tz] 35 (0, 0))).heap.size from B3.out.size)
                go_wp2_with (at_builtin; go_must (refine wpList_append_own _ rfl _ _ 25 rfl w.heap.size 35 i0 zz 13 120 Try.underlying25 hi0 hz0 hz1 hz2 hzs (by decide) _ _ _ rfl OWN.out ⟨wr.heap.size, 0, none⟩ 1 1 [.int .i64 f0, .int .i64 q0, .int .i64 q1, .int .i64 q2, .int .i64 q3, .int .i64 q4, .int .i64 an.f0, .int .i64 an.f1, .int .i64 an.f2, .int .i64 an.f3, .slice A10 an.f4.length c10, .int .i64 i, .int .i64 tz] rfl rfl NW.out ONE.out (by unfold maxLen; omega) (by omega) BS3.out ?_; intro v' w3 hown hgrow hnil; have X3 := Aside0.mk hown; have Y3 := Aside0.mk hgrow; clear hown hgrow hnil))
                go_roundg (l.length - (i + 1))
                case measure => omega
                case rel =>
                  have OV4 := Aside0.mk (OV.snoc X3.out rfl WID.out rfl)
                  have B4 := Aside0.mk (B3.out.grown Y3.out BS3.out (fun k hk => (OWN.out.lt k hk).1))
                  refine ⟨i + 1, xs ++ [⟨f0, ⟨q0, q1, q2, q3, q4⟩, an, (i : Int), tz⟩], recs ++ [[.int .i64 f0, .int .i64 q0, .int .i64 q1, .int .i64 q2, .int .i64 q3, .int .i64 q4, .int .i64 an.f0, .int .i64 an.f1, .int .i64 an.f2, .int .i64 an.f3, .slice A10 an.f4.length c10, .int .i64 i, .int .i64 tz]], by go_num, by omega, OV4, ⟨RC.out.snoc ?_⟩, ⟨by rw [List.length_append, List.length_singleton]; omega⟩, ⟨?_⟩, B4⟩
                  · exact k35_mkF w ok ⟨f0, ⟨q0, q1, q2, q3, q4⟩, an, (i : Int), tz⟩ AF.out.1 AF.out.2
                  · rw [List.append_assoc, List.singleton_append, OE.out]
                    exact RF3.out
              · obtain ⟨m, rfl⟩ : ∃ m, gk = m + 1 := ⟨gk - 1, by omega⟩
                have hkl : i + (m + 1) < l.length := hk
                obtain ⟨ad2, A12, c12, hA2, ⟨y0, y1, y2, y3, y4, y5, y6, y7, y8, y9, y10, y11⟩, y12, y13⟩ := ev_footl HF.out BD.out (i + (m + 1)) hkl
                obtain rfl : ad = ad2 := Option.some.inj hA2
                have FB := fb_drop f0 l (i + (m + 1)) hkl
                have ne1 : (ad.add ((i + (m + 1)) * 12)).block ≠ ob := by
                  obtain ⟨ad3, _, _, hA3, ⟨v0, _⟩, _⟩ := ev_foot HF.out (i + (m + 1)) hkl
                  obtain rfl : ad = ad3 := Option.some.inj hA3
                  have := block_lt_of_cell v0
                  have := HOB.out
                  omega
                have ne2 := ne1.symm
                generalize l[i + (m + 1)] = g at y0 y1 y2 y3 y4 y5 y6 y7 y8 y9 y10 y11 y12 y13 FB
                have ek : (i : Int) + ((m + 1 : Nat) : Int) = ((i + (m + 1) : Nat) : Int) := by omega
                rw [ek]
                have qk : (i : Int) < ((i + (m + 1) : Nat) : Int) := by omega
                have qkl : ((i + (m + 1) : Nat) : Int) < (l.length : Int) := by omega
                have qk0 : (0 : Int) ≤ ((i + (m + 1) : Nat) : Int) := by omega
                generalize hkk : i + (m + 1) = kk at y0 y1 y2 y3 y4 y5 y6 y7 y8 y9 y10 y11 FB ne1 ne2 qk qkl qk0 ⊢
                have HKK := Aside0.mk hkk
                have HFB := Aside0.mk FB
                have Y12 := Aside0.mk (And.intro y12 y13)
                clear ek hA2 FB hkk y12 y13
                have y8p : wr.cell? ⟨(ad.add (kk * 12)).block, (ad.add (kk * 12)).off + 7 + 1, none⟩ = some (.int .i64 g.f3.f1) := y8
                have y9p : wr.cell? ⟨(ad.add (kk * 12)).block, (ad.add (kk * 12)).off + 7 + 2, none⟩ = some (.int .i64 g.f3.f2) := y9
                have y10p : wr.cell? ⟨(ad.add (kk * 12)).block, (ad.add (kk * 12)).off + 7 + 3, none⟩ = some (.int .i64 g.f3.f3) := y10
                have y11p : wr.cell? ⟨(ad.add (kk * 12)).block, (ad.add (kk * 12)).off + 7 + 4, none⟩ = some (.slice A12 g.f3.f4.length c12) := y11
                have z6 := blk_frozen OB.out 6
                have z7 := blk_frozen OB.out 7
                have z8 := blk_frozen OB.out 8
                have z9 := blk_frozen OB.out 9
                have z10 := blk_frozen OB.out 10
                have z12 := blk_frozen OB.out 12
                by_cases hth : g.f0 = f0 ∧ g.f1 = true
                · have HT := Aside0.mk hth
                  have dth : (g.f0 == f0) = true := beq_iff_eq.2 hth.1
                  rw [hth.2] at y1
                  clear hth
                  go_wp2_with fail
                  go_quiet (fail)
                  go_wp2
                  go_roundg m
                  case measure => omega
                  case rel =>
                    refine ⟨g.f3, (kk : Int), A12, c12, ?_, by omega, ⟨?_⟩, ⟨?_⟩, Y12, ⟨?_⟩, ⟨?_⟩⟩
                    · rw [show (kk : Int) - 1 = (i : Int) + (m : Int) by have := HKK.out; omega]
                    · exact blk_set (blk_set (blk_set (blk_set (blk_set (blk_set (show (wr.drewN _).heap[ob]? = _ from OB.out) 12 _) 6 _) 7 _) 8 _) 9 _) 10 _
                    · have e : i + m + 1 = kk := by have := HKK.out; omega
                      rw [e, HFB.out, if_pos HT.out]
                      rfl
                    · exact OVD.out.move (fun k _ _ hk => (((((blk_at_far (NOB.out k hk)).trans (blk_at_far (NOB.out k hk))).trans (blk_at_far (NOB.out k hk))).trans (blk_at_far (NOB.out k hk))).trans (blk_at_far (NOB.out k hk))).trans (blk_at_far (NOB.out k hk)))
                    · exact ((((((pw_below_drewN BD.out _).setCell HOB.out _).setCell HOB.out _).setCell HOB.out _).setCell HOB.out _).setCell HOB.out _).setCell HOB.out _
                · have HT := Aside0.mk hth
                  by_cases ht : g.f0 = f0
                  · have hb : g.f1 = false := by cases h : g.f1 with | false => rfl | true => exact absurd ⟨ht, h⟩ hth
                    have dth : (g.f0 == f0) = true := beq_iff_eq.2 ht
                    rw [hb] at y1
                    clear hth ht hb
                    go_wp2_with fail
                    go_quiet (fail)
                    go_wp2
                    go_roundg m
                    case measure => omega
                    case rel =>
                      refine ⟨an, tz, A10, c10, ?_, by omega, ⟨OB.out⟩, ⟨?_⟩, AF, ⟨OVD.out.move (fun k _ _ _ => rfl)⟩, ⟨pw_below_drewN BD.out _⟩⟩
                      · rw [show (kk : Int) - 1 = (i : Int) + (m : Int) by have := HKK.out; omega]
                      · have e : i + m + 1 = kk := by have := HKK.out; omega
                        rw [e, HFB.out, if_neg HT.out, ← HKK.out]
                        exact OE.out
                  · have dth : (g.f0 == f0) = false := by rw [beq_eq_false_iff_ne]; exact ht
                    clear hth ht
                    go_wp2_with fail
                    go_quiet (fail)
                    go_wp2
                    go_roundg m
                    case measure => omega
                    case rel =>
                      refine ⟨an, tz, A10, c10, ?_, by omega, ⟨OB.out⟩, ⟨?_⟩, AF, ⟨OVD.out.move (fun k _ _ _ => rfl)⟩, ⟨pw_below_drewN BD.out _⟩⟩
                      · rw [show (kk : Int) - 1 = (i : Int) + (m : Int) by have := HKK.out; omega]
                      · have e : i + m + 1 = kk := by have := HKK.out; omega
                        rw [e, HFB.out, if_neg HT.out, ← HKK.out]
                        exact OE.out
      · have QI : ¬ (i : Int) < (l.length : Int) := by omega
        have RF2 := RF.out
        rw [List.drop_of_length_le (by omega), refs, List.append_nil] at RF2
        have RF3 := Aside0.mk RF2
        obtain ⟨A9, c9, hs, hc9⟩ := OVV.out.slice
        subst hs
        clear RF RF2 hlt
        go_wp2
        go_ret
        exact ⟨_, rfl, by rw [← RF3.out]; exact recs_V OVV.out RC.out B1.out, B1.out⟩
end HistW
theorem deadwoodref11_Opers.calls (P0_ : Nat → Prop) (A0 : Option Addr) (c0 : Nat) (l0 : List (S33)) (r : List (S35)) (w : World) (hs0 : Kd.V k33 33 w w.heap.size (fun k_ => P0_ k_) (.slice A0 l0.length c0) l0) (h : deadwoodref11_Opers.f l0 = some r) :
    Calls Try.prog 18 #[.slice A0 l0.length c0] w fun e w' => ∃ v0_ : Value, e = .returned (v0_) ∧ Kd.V k35 35 w' w.heap.size (fun k_ => (P0_ k_ ∨ w.heap.size ≤ k_)) v0_ r ∧ Below w.heap.size w w' := by
  unfold deadwoodref11_Opers.f at h
  by_cases hl : l0.length ≤ 1000000
  · rw [if_pos hl] at h
    obtain ⟨b, hm, hb⟩ := Option.map_eq_some_iff.1 h
    subst hb
    exact HistW.rop_calls l0 A0 c0 w P0_ (Kd.V_F hs0) (Kd.V_at hs0).2.1 hl b hm
  · rw [if_neg hl] at h
    cases h

/-! ### deadwoodref08_Same: function 66 -/
def deadwoodref08_Same.l0 : Nat → List (S104) → List (S104) → Int → Option (Bool)
  | 0, _, _, _ => none
  | k + 1, x0, x1, x5 => if x5 < (x0.length : Int) then (if 0 ≤ x5 then (if x5 < (x1.length : Int) then (if (!(((rd_T104 x0 x5).f0) == ((rd_T104 x1 x5).f0)) || (!(((rd_T104 x0 x5).f1) == ((rd_T104 x1 x5).f1)))) = true then (some false) else (deadwoodref08_Same.l0 k x0 x1 (wrap64 (x5 + 1)))) else (none)) else (none)) else (some true)
def deadwoodref08_Same.f (k : Nat) (l0 : List (S104)) (l1 : List (S104)) : Option (Bool) := if (l0.length : Int) = (l1.length : Int) then (deadwoodref08_Same.l0 k l0 l1 0) else (some false)
theorem deadwoodref08_Same.mono_l : ∀ k, (∀ y0 y1 y2, LeO (deadwoodref08_Same.l0 k y0 y1 y2) (deadwoodref08_Same.l0 (k + 1) y0 y1 y2))
  | 0 => fun _ _ _ r h => by simp [deadwoodref08_Same.l0] at h
  | k + 1 => by
    have ih0 := deadwoodref08_Same.mono_l k
    · intro y0 y1 y2
      unfold deadwoodref08_Same.l0
      repeat' first
      | (with_reducible exact ih0 _ _ _)
      | (with_reducible exact LeO.refl _)
      | (with_reducible exact LeO.none _)
      | (with_reducible refine LeO.ite ?_ ?_)
      | (with_reducible refine LeO.bind ?_ (fun _ => ?_))
      | exact ih0 _ _ _
      | exact LeO.none _
      | refine LeO.ite ?_ ?_
      | refine LeO.bind ?_ (fun _ => ?_)
theorem deadwoodref08_Same.mono : ∀ a0 a1 k, LeO (deadwoodref08_Same.f k a0 a1) (deadwoodref08_Same.f (k + 1) a0 a1) := by
  intro a0 a1 k
  have ih0 := deadwoodref08_Same.mono_l k
  unfold deadwoodref08_Same.f
  repeat' first
      | (with_reducible exact ih0 _ _ _)
      | (with_reducible exact LeO.refl _)
      | (with_reducible exact LeO.none _)
      | (with_reducible refine LeO.ite ?_ ?_)
      | (with_reducible refine LeO.bind ?_ (fun _ => ?_))
      | exact ih0 _ _ _
      | exact LeO.none _
      | refine LeO.ite ?_ ?_
      | refine LeO.bind ?_ (fun _ => ?_)
set_option maxHeartbeats 8000000 in
set_option maxRecDepth 100000 in
theorem deadwoodref08_Same.calls (k : Nat) (A0 : Option Addr) (c0 : Nat) (l0 : List (S104)) (A1 : Option Addr) (c1 : Nat) (l1 : List (S104)) (r : Bool) (w : World) (hr0 : Kd.C k104 w A0 l0.length l0) (hc0 : l0.length ≤ c0) (hr1 : Kd.C k104 w A1 l1.length l1) (hc1 : l1.length ≤ c1) (h : deadwoodref08_Same.f k l0 l1 = some r) :
    Calls Try.prog 66 #[.slice A0 l0.length c0, .slice A1 l1.length c1] w fun e w' => e = .returned (.bool r) ∧ Drawn0 w w' := by
  have hu104 := Try.underlying104
  have HR0 := Aside0.mk hr0
  have HC0 := Aside0.mk hc0
  clear hr0 hc0
  have HR1 := Aside0.mk hr1
  have HC1 := Aside0.mk hc1
  clear hr1 hc1
  have H : (if (l0.length : Int) = (l1.length : Int) then (deadwoodref08_Same.l0 k l0 l1 0) else (some false)) = some r := h
  clear h
  by_cases c3 : (l0.length : Int) = (l1.length : Int)
  · rw [if_pos c3] at H
    have c3b0 : ((l0.length : Int) == (l1.length : Int)) = true := beq_iff_eq.mpr c3
    have c3b1 : ((l0.length : Int) != (l1.length : Int)) = false := bne_eq_false_iff_eq.mpr c3
    have c3b2 : (l0.length == l1.length) = true := by first | simpa using c3 | (simp at c3 ⊢; omega)
    clear c3
    have H' := Aside0.mk H
    clear H
    go_enter Try.func66, Try.ntmps66
    go_wp2
    repeat (go_quiet (fail); try go_wp2)
    go_loopg [5] k (fun kq v5 w' => ∃ (x5_1 : Int), v5 = .int .i64 x5_1 ∧ Aside0 (deadwoodref08_Same.l0 kq l0 l1 x5_1 = some r) ∧ Aside0 (kq ≤ k) ∧ Drawn0 w w')
    case atStart => exact ⟨(0), (by first | rfl | (simp; done) | (simp [*]; done)), H', ⟨Nat.le_refl _⟩, by repeat (first | exact Drawn0.refl _ | apply Drawn0.step)⟩
    case round =>
      clear H'
      try clear c1
      try clear p2
      try clear c3
      try clear c3b0
      try clear c3b1
      try clear c3b2
      obtain ⟨x5_1, rfl, HA, HK1, ⟨m1, rfl⟩⟩ := hrel
      cases gk with
      | zero => exact absurd HA.out (by simp [deadwoodref08_Same.l0])
      | succ k1 =>
        have H := HA.out
        clear HA
        simp only [deadwoodref08_Same.l0] at H
        by_cases c4 : x5_1 < (l0.length : Int)
        · rw [if_pos c4] at H
          have c4b0 : decide (x5_1 < (l0.length : Int)) = true := decide_eq_true c4
          clear c4
          by_cases c5 : 0 ≤ x5_1
          · rw [if_pos c5] at H
            have c5b0 : decide (0 ≤ x5_1) = true := decide_eq_true c5
            clear c5
            by_cases c6 : x5_1 < (l1.length : Int)
            · rw [if_pos c6] at H
              have c6b0 : decide (x5_1 < (l1.length : Int)) = true := decide_eq_true c6
              clear c6
              by_cases c7 : (!(((rd_T104 l0 x5_1).f0) == ((rd_T104 l1 x5_1).f0)) || (!(((rd_T104 l0 x5_1).f1) == ((rd_T104 l1 x5_1).f1)))) = true
              · rw [if_pos c7] at H
                have c7b0 : (!(((rd_T104 l0 x5_1).f0) == ((rd_T104 l1 x5_1).f0)) || (!(((rd_T104 l0 x5_1).f1) == ((rd_T104 l1 x5_1).f1)))) = true := c7
                clear c7
                obtain rfl := Option.some.inj H
                have p114 : 0 ≤ (x5_1 : Int) := of_decide_eq_true (by first | (with_reducible assumption) | assumption)
                have q114 : x5_1 < (l0.length : Int) := of_decide_eq_true (by first | (with_reducible assumption) | assumption)
                obtain ⟨ad114, e114, hx114_0, hx114_1⟩ := at_T104 HR0.out x5_1 p114 q114
                cases e114
                replace p114 := eq_true p114
                replace q114 := eq_true q114
                have p115 : 0 ≤ (x5_1 : Int) := of_decide_eq_true (by first | (with_reducible assumption) | assumption)
                have q115 : x5_1 < (l1.length : Int) := of_decide_eq_true (by first | (with_reducible assumption) | assumption)
                obtain ⟨ad115, e115, hx115_0, hx115_1⟩ := at_T104 HR1.out x5_1 p115 q115
                cases e115
                replace p115 := eq_true p115
                replace q115 := eq_true q115
                go_wp2
                repeat (go_quiet (fail); try go_wp2)
                go_ret
                exact ⟨by first | rfl | (simp; done) | (simp [*]; done), by repeat (first | exact Drawn0.refl _ | apply Drawn0.step)⟩
              · rw [if_neg c7] at H
                have c7b0 : (!(((rd_T104 l0 x5_1).f0) == ((rd_T104 l1 x5_1).f0)) || (!(((rd_T104 l0 x5_1).f1) == ((rd_T104 l1 x5_1).f1)))) = false := by simpa using c7
                clear c7
                have H' := Aside0.mk H
                clear H
                have p114 : 0 ≤ (x5_1 : Int) := of_decide_eq_true (by first | (with_reducible assumption) | assumption)
                have q114 : x5_1 < (l0.length : Int) := of_decide_eq_true (by first | (with_reducible assumption) | assumption)
                obtain ⟨ad114, e114, hx114_0, hx114_1⟩ := at_T104 HR0.out x5_1 p114 q114
                cases e114
                replace p114 := eq_true p114
                replace q114 := eq_true q114
                have p115 : 0 ≤ (x5_1 : Int) := of_decide_eq_true (by first | (with_reducible assumption) | assumption)
                have q115 : x5_1 < (l1.length : Int) := of_decide_eq_true (by first | (with_reducible assumption) | assumption)
                obtain ⟨ad115, e115, hx115_0, hx115_1⟩ := at_T104 HR1.out x5_1 p115 q115
                cases e115
                replace p115 := eq_true p115
                replace q115 := eq_true q115
                go_wp2
                repeat (go_quiet (fail); try go_wp2)
                go_roundg k1
                case measure => have := HK1.out; omega
                case rel => exact ⟨(wrap64 (x5_1 + 1)), (by first | rfl | (simp; done) | (simp [*]; done)), H', ⟨by have := HK1.out; omega⟩, by repeat (first | exact Drawn0.refl _ | apply Drawn0.step)⟩
            · rw [if_neg c6] at H
              exact absurd H (by simp)
          · rw [if_neg c5] at H
            exact absurd H (by simp)
        · rw [if_neg c4] at H
          have c4b0 : decide (x5_1 < (l0.length : Int)) = false := decide_eq_false c4
          clear c4
          obtain rfl := Option.some.inj H
          go_wp2
          repeat (go_quiet (fail); try go_wp2)
          go_ret
          exact ⟨by first | rfl | (simp; done) | (simp [*]; done), by repeat (first | exact Drawn0.refl _ | apply Drawn0.step)⟩
  · rw [if_neg c3] at H
    have c3b0 : ((l0.length : Int) == (l1.length : Int)) = false := beq_eq_false_iff_ne.mpr c3
    have c3b1 : ((l0.length : Int) != (l1.length : Int)) = true := bne_iff_ne.mpr c3
    have c3b2 : (l0.length == l1.length) = false := by first | simpa using c3 | (simp at c3 ⊢; omega)
    obtain rfl := Option.some.inj H
    go_enter Try.func66, Try.ntmps66
    go_wp2
    repeat (go_quiet (fail); try go_wp2)
    go_ret
    exact ⟨by first | rfl | (simp; done) | (simp [*]; done), by repeat (first | exact Drawn0.refl _ | apply Drawn0.step)⟩

/-! ### deadwoodref09_Same: function 55 -/
def deadwoodref09_Same.f (k : Nat) (a0_0 : Int) (a0_1 : Int) (a0_2 : Int) (a0_3 : Int) (l0_4 : List (S104)) (a1_0 : Int) (a1_1 : Int) (a1_2 : Int) (a1_3 : Int) (l1_4 : List (S104)) : Option (Bool) := if a0_0 = a1_0 then (if a0_1 = a1_1 then (if a0_2 = a1_2 then (if a0_3 = a1_3 then ((deadwoodref08_Same.f k l0_4 l1_4).bind fun t118 => (some t118)) else (some false)) else (some false)) else (some false)) else (some false)
theorem deadwoodref09_Same.mono : ∀ a0 a1 a2 a3 a4 a5 a6 a7 a8 a9 k, LeO (deadwoodref09_Same.f k a0 a1 a2 a3 a4 a5 a6 a7 a8 a9) (deadwoodref09_Same.f (k + 1) a0 a1 a2 a3 a4 a5 a6 a7 a8 a9) := by
  intro a0 a1 a2 a3 a4 a5 a6 a7 a8 a9 k
  unfold deadwoodref09_Same.f
  repeat' first
      | (with_reducible exact deadwoodref08_Same.mono _ _ _)
      | (with_reducible exact LeO.refl _)
      | (with_reducible exact LeO.none _)
      | (with_reducible refine LeO.ite ?_ ?_)
      | (with_reducible refine LeO.bind ?_ (fun _ => ?_))
      | exact deadwoodref08_Same.mono _ _ _
      | exact LeO.none _
      | refine LeO.ite ?_ ?_
      | refine LeO.bind ?_ (fun _ => ?_)
set_option maxHeartbeats 8000000 in
set_option maxRecDepth 100000 in
theorem deadwoodref09_Same.calls (k : Nat) (a0_0 : Int) (a0_1 : Int) (a0_2 : Int) (a0_3 : Int) (A0_4 : Option Addr) (c0_4 : Nat) (l0_4 : List (S104)) (a1_0 : Int) (a1_1 : Int) (a1_2 : Int) (a1_3 : Int) (A1_4 : Option Addr) (c1_4 : Nat) (l1_4 : List (S104)) (r : Bool) (w : World) (hr0_4 : Kd.C k104 w A0_4 l0_4.length l0_4) (hc0_4 : l0_4.length ≤ c0_4) (hr1_4 : Kd.C k104 w A1_4 l1_4.length l1_4) (hc1_4 : l1_4.length ≤ c1_4) (h : deadwoodref09_Same.f k a0_0 a0_1 a0_2 a0_3 l0_4 a1_0 a1_1 a1_2 a1_3 l1_4 = some r) :
    Calls Try.prog 55 #[.agg #[.int .i64 a0_0, .int .i64 a0_1, .int .i64 a0_2, .int .i64 a0_3, .slice A0_4 l0_4.length c0_4], .agg #[.int .i64 a1_0, .int .i64 a1_1, .int .i64 a1_2, .int .i64 a1_3, .slice A1_4 l1_4.length c1_4]] w fun e w' => e = .returned (.bool r) ∧ Below w.heap.size w w' := by
  have hu31 := Try.underlying31
  have HR0_4 := Aside0.mk hr0_4
  have HC0_4 := Aside0.mk hc0_4
  clear hr0_4 hc0_4
  have HR1_4 := Aside0.mk hr1_4
  have HC1_4 := Aside0.mk hc1_4
  clear hr1_4 hc1_4
  have HB := Aside0.mk (Below.refl w.heap.size w)
  have H : (if a0_0 = a1_0 then (if a0_1 = a1_1 then (if a0_2 = a1_2 then (if a0_3 = a1_3 then ((deadwoodref08_Same.f k l0_4 l1_4).bind fun t118 => (some t118)) else (some false)) else (some false)) else (some false)) else (some false)) = some r := h
  clear h
  by_cases c3 : a0_0 = a1_0
  · rw [if_pos c3] at H
    have c3b0 : (a0_0 == a1_0) = true := beq_iff_eq.mpr c3
    have c3b1 : (a0_0 != a1_0) = false := bne_eq_false_iff_eq.mpr c3
    clear c3
    by_cases c4 : a0_1 = a1_1
    · rw [if_pos c4] at H
      have c4b0 : (a0_1 == a1_1) = true := beq_iff_eq.mpr c4
      have c4b1 : (a0_1 != a1_1) = false := bne_eq_false_iff_eq.mpr c4
      clear c4
      by_cases c5 : a0_2 = a1_2
      · rw [if_pos c5] at H
        have c5b0 : (a0_2 == a1_2) = true := beq_iff_eq.mpr c5
        have c5b1 : (a0_2 != a1_2) = false := bne_eq_false_iff_eq.mpr c5
        clear c5
        by_cases c6 : a0_3 = a1_3
        · rw [if_pos c6] at H
          have c6b0 : (a0_3 == a1_3) = true := beq_iff_eq.mpr c6
          have c6b1 : (a0_3 != a1_3) = false := bne_eq_false_iff_eq.mpr c6
          clear c6
          replace H := Option.bind_eq_some_iff.mp H
          obtain ⟨t118, A70, H⟩ := H
          replace H : (some t118) = some r := H
          have A7 := Aside0.mk A70
          clear A70
          obtain rfl := Option.some.inj H
          go_enter Try.func55, Try.ntmps55
          go_wp2_with (first | ((with_reducible refine gate_dst (N := 2) rfl ?_); refine box_event ?hg (N := 2) ?hd (cs := #[.int .i64 a0_0, .int .i64 a0_1, .int .i64 a0_2, .int .i64 a0_3, .slice A0_4 l0_4.length c0_4]) (t := 31) ?hr ?_; (case hd => rfl); (case hg => rfl); (case hr => first | (go_simp; done) | (go_simp; rfl)); intro gb116 hg w8 hbox hb; have n0_ := Aside0.mk (below_step (by repeat (first | (with_reducible first | exact HB.out | apply below_alloc | apply pw_below_drewN | apply below_drew1) | exact HB.out)) hb); have n1_ := Aside0.mk (hbox); have n2_ := Aside0.mk ((by rw [hg]; exact (below_size (by repeat (first | (with_reducible first | exact HB.out | apply below_alloc | apply pw_below_drewN | apply below_drew1) | exact HB.out))) : w.heap.size ≤ gb116)); have n3_ := Aside0.mk ((by rw [hg]; exact (below_size (by repeat (first | (with_reducible first | exact HB.out | apply below_alloc | apply pw_below_drewN | apply below_drew1) | exact HB.out))) : w.heap.size ≤ gb116)); clear HB; have HB := n0_; have BK116 := n1_; have GW116 := n2_; have GE116 := n3_; clear n0_ n1_ n2_ n3_; clear hb hbox hg) | ((with_reducible refine gate_dst (N := 3) rfl ?_); refine box_event ?hg (N := 3) ?hd (cs := #[.int .i64 a1_0, .int .i64 a1_1, .int .i64 a1_2, .int .i64 a1_3, .slice A1_4 l1_4.length c1_4]) (t := 31) ?hr ?_; (case hd => rfl); (case hg => rfl); (case hr => first | (go_simp; done) | (go_simp; rfl)); intro gb117 hg w9 hbox hb; have n0_ := Aside0.mk (blk_below (g := gb116) (o := .cells #[.int .i64 a0_0, .int .i64 a0_1, .int .i64 a0_2, .int .i64 a0_3, .slice A0_4 l0_4.length c0_4] 31 (0, 0)) (by (with_reducible repeat (first | refine blk_drewN ?_ _ | refine blk_drew ?_ | refine blk_alloc ?_ _)); exact BK116.out) hb); have n1_ := Aside0.mk (below_step (by repeat (first | (with_reducible first | exact HB.out | apply below_alloc | apply pw_below_drewN | apply below_drew1 | refine below_set ?_ GE116.out) | exact HB.out)) hb); have n2_ := Aside0.mk (hbox); have n3_ := Aside0.mk ((by rw [hg]; exact (below_size (by repeat (first | (with_reducible first | exact HB.out | apply below_alloc | apply pw_below_drewN | apply below_drew1 | refine below_set ?_ GE116.out) | exact HB.out))) : w.heap.size ≤ gb117)); have n4_ := Aside0.mk ((by rw [hg]; exact (below_size (by repeat (first | (with_reducible first | exact HB.out | apply below_alloc | apply pw_below_drewN | apply below_drew1 | refine below_set ?_ GE116.out) | exact HB.out))) : w.heap.size ≤ gb117)); have n5_ := Aside0.mk ((by rw [hg]; exact Nat.ne_of_lt (blk_lt (g := gb116) (o := .cells #[.int .i64 a0_0, .int .i64 a0_1, .int .i64 a0_2, .int .i64 a0_3, .slice A0_4 l0_4.length c0_4] 31 (0, 0)) (by (with_reducible repeat (first | refine blk_drewN ?_ _ | refine blk_drew ?_ | refine blk_alloc ?_ _)); exact BK116.out)) : gb116 ≠ gb117)); have n6_ := Aside0.mk ((by rw [hg]; exact Nat.ne_of_gt (blk_lt (g := gb116) (o := .cells #[.int .i64 a0_0, .int .i64 a0_1, .int .i64 a0_2, .int .i64 a0_3, .slice A0_4 l0_4.length c0_4] 31 (0, 0)) (by (with_reducible repeat (first | refine blk_drewN ?_ _ | refine blk_drew ?_ | refine blk_alloc ?_ _)); exact BK116.out)) : gb117 ≠ gb116)); clear BK116; clear HB; have BK116 := n0_; have HB := n1_; have BK117 := n2_; have GW117 := n3_; have GE117 := n4_; have NB116_117 := n5_; have NB117_116 := n6_; clear n0_ n1_ n2_ n3_ n4_ n5_ n6_; clear hb hbox hg; have hnb10 := NB116_117.out; have hnc10 := NB117_116.out; have hcz11_0 : w9.cell? ⟨gb116, 0, none⟩ = some (.int .i64 a0_0) := (blk_cell BK116.out 0).trans rfl; have hcz11_1 : w9.cell? ⟨gb116, 1, none⟩ = some (.int .i64 a0_1) := (blk_cell BK116.out 1).trans rfl; have hcz11_2 : w9.cell? ⟨gb116, 2, none⟩ = some (.int .i64 a0_2) := (blk_cell BK116.out 2).trans rfl; have hcz11_3 : w9.cell? ⟨gb116, 3, none⟩ = some (.int .i64 a0_3) := (blk_cell BK116.out 3).trans rfl; have hcz11_4 : w9.cell? ⟨gb116, 4, none⟩ = some (.slice A0_4 l0_4.length c0_4) := (blk_cell BK116.out 4).trans rfl; have hfz11_0 := blk_frozen BK116.out 0; have hfz11_1 := blk_frozen BK116.out 1; have hfz11_2 := blk_frozen BK116.out 2; have hfz11_3 := blk_frozen BK116.out 3; have hfz11_4 := blk_frozen BK116.out 4; have hcz12_0 : w9.cell? ⟨gb117, 0, none⟩ = some (.int .i64 a1_0) := (blk_cell BK117.out 0).trans rfl; have hcz12_1 : w9.cell? ⟨gb117, 1, none⟩ = some (.int .i64 a1_1) := (blk_cell BK117.out 1).trans rfl; have hcz12_2 : w9.cell? ⟨gb117, 2, none⟩ = some (.int .i64 a1_2) := (blk_cell BK117.out 2).trans rfl; have hcz12_3 : w9.cell? ⟨gb117, 3, none⟩ = some (.int .i64 a1_3) := (blk_cell BK117.out 3).trans rfl; have hcz12_4 : w9.cell? ⟨gb117, 4, none⟩ = some (.slice A1_4 l1_4.length c1_4) := (blk_cell BK117.out 4).trans rfl; have hfz12_0 := blk_frozen BK117.out 0; have hfz12_1 := blk_frozen BK117.out 1; have hfz12_2 := blk_frozen BK117.out 2; have hfz12_3 := blk_frozen BK117.out 3; have hfz12_4 := blk_frozen BK117.out 4) | (go_at_call 66; (with_reducible refine (deadwoodref08_Same.calls k _ _ l0_4 _ _ l1_4 t118 _ ?side1 ?side2 ?side3 ?side4 A7.out).mono ?_); (case side1 => repeat (first | exact (Kd.C_below HR0_4.out HB.out) | (with_reducible refine Kd.C_alloc ?_ _) | (with_reducible refine Kd.C_drewN ?_ _) | (with_reducible refine Kd.C_drew ?_))); (case side2 => exact HC0_4.out); (case side3 => repeat (first | exact (Kd.C_below HR1_4.out HB.out) | (with_reducible refine Kd.C_alloc ?_ _) | (with_reducible refine Kd.C_drewN ?_ _) | (with_reducible refine Kd.C_drew ?_))); (case side4 => exact HC1_4.out); rintro e w' ⟨rfl, ⟨nd, rfl⟩⟩))
          go_ret
          exact ⟨by first | rfl | (simp [errW_none, errW_some] <;> rfl) | (simp [*, errW_none, errW_some] <;> rfl), by repeat (first | (with_reducible first | exact HB.out | apply below_alloc | apply pw_below_drewN | apply below_drew1 | refine below_set ?_ GE116.out | refine below_set ?_ GE117.out) | exact HB.out)⟩
        · rw [if_neg c6] at H
          have c6b0 : (a0_3 == a1_3) = false := beq_eq_false_iff_ne.mpr c6
          have c6b1 : (a0_3 != a1_3) = true := bne_iff_ne.mpr c6
          obtain rfl := Option.some.inj H
          go_enter Try.func55, Try.ntmps55
          go_wp2_with (first | ((with_reducible refine gate_dst (N := 2) rfl ?_); refine box_event ?hg (N := 2) ?hd (cs := #[.int .i64 a0_0, .int .i64 a0_1, .int .i64 a0_2, .int .i64 a0_3, .slice A0_4 l0_4.length c0_4]) (t := 31) ?hr ?_; (case hd => rfl); (case hg => rfl); (case hr => first | (go_simp; done) | (go_simp; rfl)); intro gb116 hg w13 hbox hb; have n0_ := Aside0.mk (below_step (by repeat (first | (with_reducible first | exact HB.out | apply below_alloc | apply pw_below_drewN | apply below_drew1) | exact HB.out)) hb); have n1_ := Aside0.mk (hbox); have n2_ := Aside0.mk ((by rw [hg]; exact (below_size (by repeat (first | (with_reducible first | exact HB.out | apply below_alloc | apply pw_below_drewN | apply below_drew1) | exact HB.out))) : w.heap.size ≤ gb116)); have n3_ := Aside0.mk ((by rw [hg]; exact (below_size (by repeat (first | (with_reducible first | exact HB.out | apply below_alloc | apply pw_below_drewN | apply below_drew1) | exact HB.out))) : w.heap.size ≤ gb116)); clear HB; have HB := n0_; have BK116 := n1_; have GW116 := n2_; have GE116 := n3_; clear n0_ n1_ n2_ n3_; clear hb hbox hg) | ((with_reducible refine gate_dst (N := 3) rfl ?_); refine box_event ?hg (N := 3) ?hd (cs := #[.int .i64 a1_0, .int .i64 a1_1, .int .i64 a1_2, .int .i64 a1_3, .slice A1_4 l1_4.length c1_4]) (t := 31) ?hr ?_; (case hd => rfl); (case hg => rfl); (case hr => first | (go_simp; done) | (go_simp; rfl)); intro gb117 hg w14 hbox hb; have n0_ := Aside0.mk (blk_below (g := gb116) (o := .cells #[.int .i64 a0_0, .int .i64 a0_1, .int .i64 a0_2, .int .i64 a0_3, .slice A0_4 l0_4.length c0_4] 31 (0, 0)) (by (with_reducible repeat (first | refine blk_drewN ?_ _ | refine blk_drew ?_ | refine blk_alloc ?_ _)); exact BK116.out) hb); have n1_ := Aside0.mk (below_step (by repeat (first | (with_reducible first | exact HB.out | apply below_alloc | apply pw_below_drewN | apply below_drew1 | refine below_set ?_ GE116.out) | exact HB.out)) hb); have n2_ := Aside0.mk (hbox); have n3_ := Aside0.mk ((by rw [hg]; exact (below_size (by repeat (first | (with_reducible first | exact HB.out | apply below_alloc | apply pw_below_drewN | apply below_drew1 | refine below_set ?_ GE116.out) | exact HB.out))) : w.heap.size ≤ gb117)); have n4_ := Aside0.mk ((by rw [hg]; exact (below_size (by repeat (first | (with_reducible first | exact HB.out | apply below_alloc | apply pw_below_drewN | apply below_drew1 | refine below_set ?_ GE116.out) | exact HB.out))) : w.heap.size ≤ gb117)); have n5_ := Aside0.mk ((by rw [hg]; exact Nat.ne_of_lt (blk_lt (g := gb116) (o := .cells #[.int .i64 a0_0, .int .i64 a0_1, .int .i64 a0_2, .int .i64 a0_3, .slice A0_4 l0_4.length c0_4] 31 (0, 0)) (by (with_reducible repeat (first | refine blk_drewN ?_ _ | refine blk_drew ?_ | refine blk_alloc ?_ _)); exact BK116.out)) : gb116 ≠ gb117)); have n6_ := Aside0.mk ((by rw [hg]; exact Nat.ne_of_gt (blk_lt (g := gb116) (o := .cells #[.int .i64 a0_0, .int .i64 a0_1, .int .i64 a0_2, .int .i64 a0_3, .slice A0_4 l0_4.length c0_4] 31 (0, 0)) (by (with_reducible repeat (first | refine blk_drewN ?_ _ | refine blk_drew ?_ | refine blk_alloc ?_ _)); exact BK116.out)) : gb117 ≠ gb116)); clear BK116; clear HB; have BK116 := n0_; have HB := n1_; have BK117 := n2_; have GW117 := n3_; have GE117 := n4_; have NB116_117 := n5_; have NB117_116 := n6_; clear n0_ n1_ n2_ n3_ n4_ n5_ n6_; clear hb hbox hg; have hnb15 := NB116_117.out; have hnc15 := NB117_116.out; have hcz16_0 : w14.cell? ⟨gb116, 0, none⟩ = some (.int .i64 a0_0) := (blk_cell BK116.out 0).trans rfl; have hcz16_1 : w14.cell? ⟨gb116, 1, none⟩ = some (.int .i64 a0_1) := (blk_cell BK116.out 1).trans rfl; have hcz16_2 : w14.cell? ⟨gb116, 2, none⟩ = some (.int .i64 a0_2) := (blk_cell BK116.out 2).trans rfl; have hcz16_3 : w14.cell? ⟨gb116, 3, none⟩ = some (.int .i64 a0_3) := (blk_cell BK116.out 3).trans rfl; have hcz16_4 : w14.cell? ⟨gb116, 4, none⟩ = some (.slice A0_4 l0_4.length c0_4) := (blk_cell BK116.out 4).trans rfl; have hfz16_0 := blk_frozen BK116.out 0; have hfz16_1 := blk_frozen BK116.out 1; have hfz16_2 := blk_frozen BK116.out 2; have hfz16_3 := blk_frozen BK116.out 3; have hfz16_4 := blk_frozen BK116.out 4; have hcz17_0 : w14.cell? ⟨gb117, 0, none⟩ = some (.int .i64 a1_0) := (blk_cell BK117.out 0).trans rfl; have hcz17_1 : w14.cell? ⟨gb117, 1, none⟩ = some (.int .i64 a1_1) := (blk_cell BK117.out 1).trans rfl; have hcz17_2 : w14.cell? ⟨gb117, 2, none⟩ = some (.int .i64 a1_2) := (blk_cell BK117.out 2).trans rfl; have hcz17_3 : w14.cell? ⟨gb117, 3, none⟩ = some (.int .i64 a1_3) := (blk_cell BK117.out 3).trans rfl; have hcz17_4 : w14.cell? ⟨gb117, 4, none⟩ = some (.slice A1_4 l1_4.length c1_4) := (blk_cell BK117.out 4).trans rfl; have hfz17_0 := blk_frozen BK117.out 0; have hfz17_1 := blk_frozen BK117.out 1; have hfz17_2 := blk_frozen BK117.out 2; have hfz17_3 := blk_frozen BK117.out 3; have hfz17_4 := blk_frozen BK117.out 4))
          go_ret
          exact ⟨by first | rfl | (simp [errW_none, errW_some] <;> rfl) | (simp [*, errW_none, errW_some] <;> rfl), by repeat (first | (with_reducible first | exact HB.out | apply below_alloc | apply pw_below_drewN | apply below_drew1 | refine below_set ?_ GE116.out | refine below_set ?_ GE117.out) | exact HB.out)⟩
      · rw [if_neg c5] at H
        have c5b0 : (a0_2 == a1_2) = false := beq_eq_false_iff_ne.mpr c5
        have c5b1 : (a0_2 != a1_2) = true := bne_iff_ne.mpr c5
        obtain rfl := Option.some.inj H
        go_enter Try.func55, Try.ntmps55
        go_wp2_with (first | ((with_reducible refine gate_dst (N := 2) rfl ?_); refine box_event ?hg (N := 2) ?hd (cs := #[.int .i64 a0_0, .int .i64 a0_1, .int .i64 a0_2, .int .i64 a0_3, .slice A0_4 l0_4.length c0_4]) (t := 31) ?hr ?_; (case hd => rfl); (case hg => rfl); (case hr => first | (go_simp; done) | (go_simp; rfl)); intro gb116 hg w18 hbox hb; have n0_ := Aside0.mk (below_step (by repeat (first | (with_reducible first | exact HB.out | apply below_alloc | apply pw_below_drewN | apply below_drew1) | exact HB.out)) hb); have n1_ := Aside0.mk (hbox); have n2_ := Aside0.mk ((by rw [hg]; exact (below_size (by repeat (first | (with_reducible first | exact HB.out | apply below_alloc | apply pw_below_drewN | apply below_drew1) | exact HB.out))) : w.heap.size ≤ gb116)); have n3_ := Aside0.mk ((by rw [hg]; exact (below_size (by repeat (first | (with_reducible first | exact HB.out | apply below_alloc | apply pw_below_drewN | apply below_drew1) | exact HB.out))) : w.heap.size ≤ gb116)); clear HB; have HB := n0_; have BK116 := n1_; have GW116 := n2_; have GE116 := n3_; clear n0_ n1_ n2_ n3_; clear hb hbox hg) | ((with_reducible refine gate_dst (N := 3) rfl ?_); refine box_event ?hg (N := 3) ?hd (cs := #[.int .i64 a1_0, .int .i64 a1_1, .int .i64 a1_2, .int .i64 a1_3, .slice A1_4 l1_4.length c1_4]) (t := 31) ?hr ?_; (case hd => rfl); (case hg => rfl); (case hr => first | (go_simp; done) | (go_simp; rfl)); intro gb117 hg w19 hbox hb; have n0_ := Aside0.mk (blk_below (g := gb116) (o := .cells #[.int .i64 a0_0, .int .i64 a0_1, .int .i64 a0_2, .int .i64 a0_3, .slice A0_4 l0_4.length c0_4] 31 (0, 0)) (by (with_reducible repeat (first | refine blk_drewN ?_ _ | refine blk_drew ?_ | refine blk_alloc ?_ _)); exact BK116.out) hb); have n1_ := Aside0.mk (below_step (by repeat (first | (with_reducible first | exact HB.out | apply below_alloc | apply pw_below_drewN | apply below_drew1 | refine below_set ?_ GE116.out) | exact HB.out)) hb); have n2_ := Aside0.mk (hbox); have n3_ := Aside0.mk ((by rw [hg]; exact (below_size (by repeat (first | (with_reducible first | exact HB.out | apply below_alloc | apply pw_below_drewN | apply below_drew1 | refine below_set ?_ GE116.out) | exact HB.out))) : w.heap.size ≤ gb117)); have n4_ := Aside0.mk ((by rw [hg]; exact (below_size (by repeat (first | (with_reducible first | exact HB.out | apply below_alloc | apply pw_below_drewN | apply below_drew1 | refine below_set ?_ GE116.out) | exact HB.out))) : w.heap.size ≤ gb117)); have n5_ := Aside0.mk ((by rw [hg]; exact Nat.ne_of_lt (blk_lt (g := gb116) (o := .cells #[.int .i64 a0_0, .int .i64 a0_1, .int .i64 a0_2, .int .i64 a0_3, .slice A0_4 l0_4.length c0_4] 31 (0, 0)) (by (with_reducible repeat (first | refine blk_drewN ?_ _ | refine blk_drew ?_ | refine blk_alloc ?_ _)); exact BK116.out)) : gb116 ≠ gb117)); have n6_ := Aside0.mk ((by rw [hg]; exact Nat.ne_of_gt (blk_lt (g := gb116) (o := .cells #[.int .i64 a0_0, .int .i64 a0_1, .int .i64 a0_2, .int .i64 a0_3, .slice A0_4 l0_4.length c0_4] 31 (0, 0)) (by (with_reducible repeat (first | refine blk_drewN ?_ _ | refine blk_drew ?_ | refine blk_alloc ?_ _)); exact BK116.out)) : gb117 ≠ gb116)); clear BK116; clear HB; have BK116 := n0_; have HB := n1_; have BK117 := n2_; have GW117 := n3_; have GE117 := n4_; have NB116_117 := n5_; have NB117_116 := n6_; clear n0_ n1_ n2_ n3_ n4_ n5_ n6_; clear hb hbox hg; have hnb20 := NB116_117.out; have hnc20 := NB117_116.out; have hcz21_0 : w19.cell? ⟨gb116, 0, none⟩ = some (.int .i64 a0_0) := (blk_cell BK116.out 0).trans rfl; have hcz21_1 : w19.cell? ⟨gb116, 1, none⟩ = some (.int .i64 a0_1) := (blk_cell BK116.out 1).trans rfl; have hcz21_2 : w19.cell? ⟨gb116, 2, none⟩ = some (.int .i64 a0_2) := (blk_cell BK116.out 2).trans rfl; have hcz21_3 : w19.cell? ⟨gb116, 3, none⟩ = some (.int .i64 a0_3) := (blk_cell BK116.out 3).trans rfl; have hcz21_4 : w19.cell? ⟨gb116, 4, none⟩ = some (.slice A0_4 l0_4.length c0_4) := (blk_cell BK116.out 4).trans rfl; have hfz21_0 := blk_frozen BK116.out 0; have hfz21_1 := blk_frozen BK116.out 1; have hfz21_2 := blk_frozen BK116.out 2; have hfz21_3 := blk_frozen BK116.out 3; have hfz21_4 := blk_frozen BK116.out 4; have hcz22_0 : w19.cell? ⟨gb117, 0, none⟩ = some (.int .i64 a1_0) := (blk_cell BK117.out 0).trans rfl; have hcz22_1 : w19.cell? ⟨gb117, 1, none⟩ = some (.int .i64 a1_1) := (blk_cell BK117.out 1).trans rfl; have hcz22_2 : w19.cell? ⟨gb117, 2, none⟩ = some (.int .i64 a1_2) := (blk_cell BK117.out 2).trans rfl; have hcz22_3 : w19.cell? ⟨gb117, 3, none⟩ = some (.int .i64 a1_3) := (blk_cell BK117.out 3).trans rfl; have hcz22_4 : w19.cell? ⟨gb117, 4, none⟩ = some (.slice A1_4 l1_4.length c1_4) := (blk_cell BK117.out 4).trans rfl; have hfz22_0 := blk_frozen BK117.out 0; have hfz22_1 := blk_frozen BK117.out 1; have hfz22_2 := blk_frozen BK117.out 2; have hfz22_3 := blk_frozen BK117.out 3; have hfz22_4 := blk_frozen BK117.out 4))
        go_ret
        exact ⟨by first | rfl | (simp [errW_none, errW_some] <;> rfl) | (simp [*, errW_none, errW_some] <;> rfl), by repeat (first | (with_reducible first | exact HB.out | apply below_alloc | apply pw_below_drewN | apply below_drew1 | refine below_set ?_ GE116.out | refine below_set ?_ GE117.out) | exact HB.out)⟩
    · rw [if_neg c4] at H
      have c4b0 : (a0_1 == a1_1) = false := beq_eq_false_iff_ne.mpr c4
      have c4b1 : (a0_1 != a1_1) = true := bne_iff_ne.mpr c4
      obtain rfl := Option.some.inj H
      go_enter Try.func55, Try.ntmps55
      go_wp2_with (first | ((with_reducible refine gate_dst (N := 2) rfl ?_); refine box_event ?hg (N := 2) ?hd (cs := #[.int .i64 a0_0, .int .i64 a0_1, .int .i64 a0_2, .int .i64 a0_3, .slice A0_4 l0_4.length c0_4]) (t := 31) ?hr ?_; (case hd => rfl); (case hg => rfl); (case hr => first | (go_simp; done) | (go_simp; rfl)); intro gb116 hg w23 hbox hb; have n0_ := Aside0.mk (below_step (by repeat (first | (with_reducible first | exact HB.out | apply below_alloc | apply pw_below_drewN | apply below_drew1) | exact HB.out)) hb); have n1_ := Aside0.mk (hbox); have n2_ := Aside0.mk ((by rw [hg]; exact (below_size (by repeat (first | (with_reducible first | exact HB.out | apply below_alloc | apply pw_below_drewN | apply below_drew1) | exact HB.out))) : w.heap.size ≤ gb116)); have n3_ := Aside0.mk ((by rw [hg]; exact (below_size (by repeat (first | (with_reducible first | exact HB.out | apply below_alloc | apply pw_below_drewN | apply below_drew1) | exact HB.out))) : w.heap.size ≤ gb116)); clear HB; have HB := n0_; have BK116 := n1_; have GW116 := n2_; have GE116 := n3_; clear n0_ n1_ n2_ n3_; clear hb hbox hg) | ((with_reducible refine gate_dst (N := 3) rfl ?_); refine box_event ?hg (N := 3) ?hd (cs := #[.int .i64 a1_0, .int .i64 a1_1, .int .i64 a1_2, .int .i64 a1_3, .slice A1_4 l1_4.length c1_4]) (t := 31) ?hr ?_; (case hd => rfl); (case hg => rfl); (case hr => first | (go_simp; done) | (go_simp; rfl)); intro gb117 hg w24 hbox hb; have n0_ := Aside0.mk (blk_below (g := gb116) (o := .cells #[.int .i64 a0_0, .int .i64 a0_1, .int .i64 a0_2, .int .i64 a0_3, .slice A0_4 l0_4.length c0_4] 31 (0, 0)) (by (with_reducible repeat (first | refine blk_drewN ?_ _ | refine blk_drew ?_ | refine blk_alloc ?_ _)); exact BK116.out) hb); have n1_ := Aside0.mk (below_step (by repeat (first | (with_reducible first | exact HB.out | apply below_alloc | apply pw_below_drewN | apply below_drew1 | refine below_set ?_ GE116.out) | exact HB.out)) hb); have n2_ := Aside0.mk (hbox); have n3_ := Aside0.mk ((by rw [hg]; exact (below_size (by repeat (first | (with_reducible first | exact HB.out | apply below_alloc | apply pw_below_drewN | apply below_drew1 | refine below_set ?_ GE116.out) | exact HB.out))) : w.heap.size ≤ gb117)); have n4_ := Aside0.mk ((by rw [hg]; exact (below_size (by repeat (first | (with_reducible first | exact HB.out | apply below_alloc | apply pw_below_drewN | apply below_drew1 | refine below_set ?_ GE116.out) | exact HB.out))) : w.heap.size ≤ gb117)); have n5_ := Aside0.mk ((by rw [hg]; exact Nat.ne_of_lt (blk_lt (g := gb116) (o := .cells #[.int .i64 a0_0, .int .i64 a0_1, .int .i64 a0_2, .int .i64 a0_3, .slice A0_4 l0_4.length c0_4] 31 (0, 0)) (by (with_reducible repeat (first | refine blk_drewN ?_ _ | refine blk_drew ?_ | refine blk_alloc ?_ _)); exact BK116.out)) : gb116 ≠ gb117)); have n6_ := Aside0.mk ((by rw [hg]; exact Nat.ne_of_gt (blk_lt (g := gb116) (o := .cells #[.int .i64 a0_0, .int .i64 a0_1, .int .i64 a0_2, .int .i64 a0_3, .slice A0_4 l0_4.length c0_4] 31 (0, 0)) (by (with_reducible repeat (first | refine blk_drewN ?_ _ | refine blk_drew ?_ | refine blk_alloc ?_ _)); exact BK116.out)) : gb117 ≠ gb116)); clear BK116; clear HB; have BK116 := n0_; have HB := n1_; have BK117 := n2_; have GW117 := n3_; have GE117 := n4_; have NB116_117 := n5_; have NB117_116 := n6_; clear n0_ n1_ n2_ n3_ n4_ n5_ n6_; clear hb hbox hg; have hnb25 := NB116_117.out; have hnc25 := NB117_116.out; have hcz26_0 : w24.cell? ⟨gb116, 0, none⟩ = some (.int .i64 a0_0) := (blk_cell BK116.out 0).trans rfl; have hcz26_1 : w24.cell? ⟨gb116, 1, none⟩ = some (.int .i64 a0_1) := (blk_cell BK116.out 1).trans rfl; have hcz26_2 : w24.cell? ⟨gb116, 2, none⟩ = some (.int .i64 a0_2) := (blk_cell BK116.out 2).trans rfl; have hcz26_3 : w24.cell? ⟨gb116, 3, none⟩ = some (.int .i64 a0_3) := (blk_cell BK116.out 3).trans rfl; have hcz26_4 : w24.cell? ⟨gb116, 4, none⟩ = some (.slice A0_4 l0_4.length c0_4) := (blk_cell BK116.out 4).trans rfl; have hfz26_0 := blk_frozen BK116.out 0; have hfz26_1 := blk_frozen BK116.out 1; have hfz26_2 := blk_frozen BK116.out 2; have hfz26_3 := blk_frozen BK116.out 3; have hfz26_4 := blk_frozen BK116.out 4; have hcz27_0 : w24.cell? ⟨gb117, 0, none⟩ = some (.int .i64 a1_0) := (blk_cell BK117.out 0).trans rfl; have hcz27_1 : w24.cell? ⟨gb117, 1, none⟩ = some (.int .i64 a1_1) := (blk_cell BK117.out 1).trans rfl; have hcz27_2 : w24.cell? ⟨gb117, 2, none⟩ = some (.int .i64 a1_2) := (blk_cell BK117.out 2).trans rfl; have hcz27_3 : w24.cell? ⟨gb117, 3, none⟩ = some (.int .i64 a1_3) := (blk_cell BK117.out 3).trans rfl; have hcz27_4 : w24.cell? ⟨gb117, 4, none⟩ = some (.slice A1_4 l1_4.length c1_4) := (blk_cell BK117.out 4).trans rfl; have hfz27_0 := blk_frozen BK117.out 0; have hfz27_1 := blk_frozen BK117.out 1; have hfz27_2 := blk_frozen BK117.out 2; have hfz27_3 := blk_frozen BK117.out 3; have hfz27_4 := blk_frozen BK117.out 4))
      go_ret
      exact ⟨by first | rfl | (simp [errW_none, errW_some] <;> rfl) | (simp [*, errW_none, errW_some] <;> rfl), by repeat (first | (with_reducible first | exact HB.out | apply below_alloc | apply pw_below_drewN | apply below_drew1 | refine below_set ?_ GE116.out | refine below_set ?_ GE117.out) | exact HB.out)⟩
  · rw [if_neg c3] at H
    have c3b0 : (a0_0 == a1_0) = false := beq_eq_false_iff_ne.mpr c3
    have c3b1 : (a0_0 != a1_0) = true := bne_iff_ne.mpr c3
    obtain rfl := Option.some.inj H
    go_enter Try.func55, Try.ntmps55
    go_wp2_with (first | ((with_reducible refine gate_dst (N := 2) rfl ?_); refine box_event ?hg (N := 2) ?hd (cs := #[.int .i64 a0_0, .int .i64 a0_1, .int .i64 a0_2, .int .i64 a0_3, .slice A0_4 l0_4.length c0_4]) (t := 31) ?hr ?_; (case hd => rfl); (case hg => rfl); (case hr => first | (go_simp; done) | (go_simp; rfl)); intro gb116 hg w28 hbox hb; have n0_ := Aside0.mk (below_step (by repeat (first | (with_reducible first | exact HB.out | apply below_alloc | apply pw_below_drewN | apply below_drew1) | exact HB.out)) hb); have n1_ := Aside0.mk (hbox); have n2_ := Aside0.mk ((by rw [hg]; exact (below_size (by repeat (first | (with_reducible first | exact HB.out | apply below_alloc | apply pw_below_drewN | apply below_drew1) | exact HB.out))) : w.heap.size ≤ gb116)); have n3_ := Aside0.mk ((by rw [hg]; exact (below_size (by repeat (first | (with_reducible first | exact HB.out | apply below_alloc | apply pw_below_drewN | apply below_drew1) | exact HB.out))) : w.heap.size ≤ gb116)); clear HB; have HB := n0_; have BK116 := n1_; have GW116 := n2_; have GE116 := n3_; clear n0_ n1_ n2_ n3_; clear hb hbox hg) | ((with_reducible refine gate_dst (N := 3) rfl ?_); refine box_event ?hg (N := 3) ?hd (cs := #[.int .i64 a1_0, .int .i64 a1_1, .int .i64 a1_2, .int .i64 a1_3, .slice A1_4 l1_4.length c1_4]) (t := 31) ?hr ?_; (case hd => rfl); (case hg => rfl); (case hr => first | (go_simp; done) | (go_simp; rfl)); intro gb117 hg w29 hbox hb; have n0_ := Aside0.mk (blk_below (g := gb116) (o := .cells #[.int .i64 a0_0, .int .i64 a0_1, .int .i64 a0_2, .int .i64 a0_3, .slice A0_4 l0_4.length c0_4] 31 (0, 0)) (by (with_reducible repeat (first | refine blk_drewN ?_ _ | refine blk_drew ?_ | refine blk_alloc ?_ _)); exact BK116.out) hb); have n1_ := Aside0.mk (below_step (by repeat (first | (with_reducible first | exact HB.out | apply below_alloc | apply pw_below_drewN | apply below_drew1 | refine below_set ?_ GE116.out) | exact HB.out)) hb); have n2_ := Aside0.mk (hbox); have n3_ := Aside0.mk ((by rw [hg]; exact (below_size (by repeat (first | (with_reducible first | exact HB.out | apply below_alloc | apply pw_below_drewN | apply below_drew1 | refine below_set ?_ GE116.out) | exact HB.out))) : w.heap.size ≤ gb117)); have n4_ := Aside0.mk ((by rw [hg]; exact (below_size (by repeat (first | (with_reducible first | exact HB.out | apply below_alloc | apply pw_below_drewN | apply below_drew1 | refine below_set ?_ GE116.out) | exact HB.out))) : w.heap.size ≤ gb117)); have n5_ := Aside0.mk ((by rw [hg]; exact Nat.ne_of_lt (blk_lt (g := gb116) (o := .cells #[.int .i64 a0_0, .int .i64 a0_1, .int .i64 a0_2, .int .i64 a0_3, .slice A0_4 l0_4.length c0_4] 31 (0, 0)) (by (with_reducible repeat (first | refine blk_drewN ?_ _ | refine blk_drew ?_ | refine blk_alloc ?_ _)); exact BK116.out)) : gb116 ≠ gb117)); have n6_ := Aside0.mk ((by rw [hg]; exact Nat.ne_of_gt (blk_lt (g := gb116) (o := .cells #[.int .i64 a0_0, .int .i64 a0_1, .int .i64 a0_2, .int .i64 a0_3, .slice A0_4 l0_4.length c0_4] 31 (0, 0)) (by (with_reducible repeat (first | refine blk_drewN ?_ _ | refine blk_drew ?_ | refine blk_alloc ?_ _)); exact BK116.out)) : gb117 ≠ gb116)); clear BK116; clear HB; have BK116 := n0_; have HB := n1_; have BK117 := n2_; have GW117 := n3_; have GE117 := n4_; have NB116_117 := n5_; have NB117_116 := n6_; clear n0_ n1_ n2_ n3_ n4_ n5_ n6_; clear hb hbox hg; have hnb30 := NB116_117.out; have hnc30 := NB117_116.out; have hcz31_0 : w29.cell? ⟨gb116, 0, none⟩ = some (.int .i64 a0_0) := (blk_cell BK116.out 0).trans rfl; have hcz31_1 : w29.cell? ⟨gb116, 1, none⟩ = some (.int .i64 a0_1) := (blk_cell BK116.out 1).trans rfl; have hcz31_2 : w29.cell? ⟨gb116, 2, none⟩ = some (.int .i64 a0_2) := (blk_cell BK116.out 2).trans rfl; have hcz31_3 : w29.cell? ⟨gb116, 3, none⟩ = some (.int .i64 a0_3) := (blk_cell BK116.out 3).trans rfl; have hcz31_4 : w29.cell? ⟨gb116, 4, none⟩ = some (.slice A0_4 l0_4.length c0_4) := (blk_cell BK116.out 4).trans rfl; have hfz31_0 := blk_frozen BK116.out 0; have hfz31_1 := blk_frozen BK116.out 1; have hfz31_2 := blk_frozen BK116.out 2; have hfz31_3 := blk_frozen BK116.out 3; have hfz31_4 := blk_frozen BK116.out 4; have hcz32_0 : w29.cell? ⟨gb117, 0, none⟩ = some (.int .i64 a1_0) := (blk_cell BK117.out 0).trans rfl; have hcz32_1 : w29.cell? ⟨gb117, 1, none⟩ = some (.int .i64 a1_1) := (blk_cell BK117.out 1).trans rfl; have hcz32_2 : w29.cell? ⟨gb117, 2, none⟩ = some (.int .i64 a1_2) := (blk_cell BK117.out 2).trans rfl; have hcz32_3 : w29.cell? ⟨gb117, 3, none⟩ = some (.int .i64 a1_3) := (blk_cell BK117.out 3).trans rfl; have hcz32_4 : w29.cell? ⟨gb117, 4, none⟩ = some (.slice A1_4 l1_4.length c1_4) := (blk_cell BK117.out 4).trans rfl; have hfz32_0 := blk_frozen BK117.out 0; have hfz32_1 := blk_frozen BK117.out 1; have hfz32_2 := blk_frozen BK117.out 2; have hfz32_3 := blk_frozen BK117.out 3; have hfz32_4 := blk_frozen BK117.out 4))
    go_ret
    exact ⟨by first | rfl | (simp [errW_none, errW_some] <;> rfl) | (simp [*, errW_none, errW_some] <;> rfl), by repeat (first | (with_reducible first | exact HB.out | apply below_alloc | apply pw_below_drewN | apply below_drew1 | refine below_set ?_ GE116.out | refine below_set ?_ GE117.out) | exact HB.out)⟩

end Go.Proofs.Ytacajonkkfmibaa.PHistOpers
