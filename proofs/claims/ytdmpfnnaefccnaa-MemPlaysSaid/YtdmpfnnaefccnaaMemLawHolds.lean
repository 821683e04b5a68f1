/- What is stored is loaded; no other word is changed by any access; what fails changes nothing; a second Cas alike fails, if the first one changed something: behind any accesses of a memory of forty words, with no condition. -/
import Derived.Test.YtdmpfnnaefccnaaMemDo
import Derived.Test.YtdmpfnnaefccnaaWLast
set_option linter.unusedVariables false
set_option linter.unusedSimpArgs false
namespace Go.Proofs.Ytdmpfnnaefccnaa.MemLawHolds
open Go Go.RowKit Go.Proofs.YtdmpfnnaefccnaaW.PrintWords Go.Proofs.YtdmpfnnaefccnaaW.PrintLast Go.Proofs.Ytdmpfnnaefccnaa.MemW Go.Proofs.Ytdmpfnnaefccnaa.MemDo Go.Proofs.Ytdmpfnnaefccnaa.Num
theorem Keep2.row {w w' : World} {b g r : Nat} {o : Obj} (K : Keep2 w w' b g) (h : w.heap[r]? = some o) (hb : r ≠ b) (hg : r ≠ g) : w'.heap[r]? = some o := (K.2.2.2.2 r (Array.getElem?_eq_some_iff.1 h).1 hb hg).trans h
theorem turned_id (ws : List Int) (a : Int) : turned ws a id = ws := by
  unfold turned
  split
  · rename_i h
    obtain ⟨i, rfl, hi⟩ := inb_yes h
    rw [word_yes hi, Int.toNat_natCast]
    exact List.set_getElem_self hi
  · rfl
theorem wrap_ne (x : Int) : ¬ (x = IntKind.u64.wrap (x + 1)) := by rw [u64_wrap_eq]; omega
theorem dcss_no {ws : List Int} {i j : Nat} (hj : j < ws.length) (old : Int) : dcssB ws j (IntKind.u64.wrap (ws[j] + 1)) i old = false := by
  unfold dcssB
  rw [word_yes hj, show (ws[j] == IntKind.u64.wrap (ws[j] + 1)) = false from by rw [beq_eq_false_iff_ne]; exact wrap_ne _, Bool.false_and, Bool.and_false]
theorem cas_yes {ws : List Int} {i : Nat} (hi : i < ws.length) (old : Int) : casB ws i old = (ws[i] == old) := by
  unfold casB inb
  rw [word_yes hi, decide_eq_true (by omega), Bool.true_and]
theorem inb_in {ws : List Int} {i : Nat} (hi : i < ws.length) : inb ws i = true := decide_eq_true (by omega)
theorem dcssed_no {ws : List Int} {p iss a old : Int} (n : Int) (h : dcssB ws p iss a old = false) : dcssed ws p iss a old n = ws := by unfold dcssed; rw [h, if_neg (by decide)]
theorem cased_len (ws : List Int) (a old n : Int) : (cased ws a old n).length = ws.length := by unfold cased; split <;> simp
theorem word_cased {ws : List Int} {i j : Nat} (hj : j < ws.length) (h : i ≠ j) (old n : Int) : wordAt (cased ws i old n) j = ws[j] := by
  have hl : j < (cased ws i old n).length := by rw [cased_len]; exact hj
  rw [word_yes hl]
  unfold cased
  split
  · simp [h]
  · rfl
theorem cas_again {ws : List Int} {i : Nat} (hi : i < ws.length) {old n : Int} (h : ws[i] = old) (hn : ¬ n = old) : casB (cased ws i old n) i old = false := by
  have hl : i < (cased ws i old n).length := by rw [cased_len]; exact hi
  have hc : casB ws i old = true := by rw [cas_yes hi, h]; simp
  rw [cas_yes hl]
  have e : (cased ws i old n)[i] = n := by
    unfold cased
    simp [hc]
  rw [e]
  simpa using hn
theorem word_turned {ws : List Int} {i : Nat} (hi : i < ws.length) (fw : Int → Int) : wordAt (turned ws i fw) i = fw ws[i] := by
  have hl : i < (turned ws i fw).length := by rw [turned_len]; exact hi
  rw [word_yes hl]
  have e := turned_yes hi fw
  simp [e]
theorem word_turned2 {ws : List Int} {i : Nat} (hi : i < ws.length) (fw hw : Int → Int) : wordAt (turned (turned ws i fw) i hw) i = hw (fw ws[i]) := by
  have hl : i < (turned ws i fw).length := by rw [turned_len]; exact hi
  rw [word_turned hl]
  have e := turned_yes hi fw
  simp [e]
theorem obox {w : World} {ob : Nat} {o0 o1 o2 o3 o4 o5 : Int} (h : w.heap[ob]? = some (.cells #[.int .i64 o0, .int .i64 o1, .int .i64 o2, .int .u64 o3, .int .u64 o4, .int .u64 o5] 34 (0, 0))) : w.cell? ⟨ob, 1, none⟩ = some (.int .i64 o1) ∧ w.cell? ⟨ob, 3, none⟩ = some (.int .u64 o3) ∧ w.cell? ⟨ob, 4, none⟩ = some (.int .u64 o4) ∧ w.cell? ⟨ob, 5, none⟩ = some (.int .u64 o5) :=
  ⟨(blk_cell h 1).trans rfl, (blk_cell h 3).trans rfl, (blk_cell h 4).trans rfl, (blk_cell h 5).trans rfl⟩
variable {α : Type} (kk : Kd α) (op : α → Int × Int × Int × Int × Int × Int) (hk : ∀ w x cs, kk.K w x cs → cs = [.int .i64 (op x).1, .int .i64 (op x).2.1, .int .i64 (op x).2.2.1, .int .u64 (op x).2.2.2.1, .int .u64 (op x).2.2.2.2.1, .int .u64 (op x).2.2.2.2.2])
include hk in
theorem op_cells {w : World} {A : Option Addr} {l : List α} (h : Kd.C kk w A l.length l) (i : Nat) (hi : i < l.length) : ∃ ad, A = some ad ∧ w.cell? (ad.add (i * 6)) = some (.int .i64 (op l[i]).1) ∧ w.cell? ⟨(ad.add (i * 6)).block, (ad.add (i * 6)).off + 1, none⟩ = some (.int .i64 (op l[i]).2.1) ∧ w.cell? ⟨(ad.add (i * 6)).block, (ad.add (i * 6)).off + 2, none⟩ = some (.int .i64 (op l[i]).2.2.1) ∧ w.cell? ⟨(ad.add (i * 6)).block, (ad.add (i * 6)).off + 3, none⟩ = some (.int .u64 (op l[i]).2.2.2.1) ∧ w.cell? ⟨(ad.add (i * 6)).block, (ad.add (i * 6)).off + 4, none⟩ = some (.int .u64 (op l[i]).2.2.2.2.1) ∧ w.cell? ⟨(ad.add (i * 6)).block, (ad.add (i * 6)).off + 5, none⟩ = some (.int .u64 (op l[i]).2.2.2.2.2) := by
  obtain ⟨ad, c, e, hlen, hK, hc0⟩ := Kd.C_get h l[i] (i : Int) (by omega) (by omega)
  have hg : l.getD (i : Int).toNat l[i] = l[i] := by rw [Int.toNat_natCast]; simp [List.getD, hi]
  rw [hg] at hK
  have hcs := hk _ _ _ hK
  have hsz : kk.sz = 6 := by rw [← hlen, hcs]; rfl
  have hc : ∀ j u, c[j]? = some u → w.cell? (ad.add (i * 6 + j)) = some u := by
    intro j u hj
    have := hc0 j u hj
    rwa [hsz, Int.toNat_natCast] at this
  subst hcs
  exact ⟨ad, e, hc 0 _ rfl, by rw [← add_field _ _ 1 (by omega)]; exact hc 1 _ rfl, by rw [← add_field _ _ 2 (by omega)]; exact hc 2 _ rfl, by rw [← add_field _ _ 3 (by omega)]; exact hc 3 _ rfl, by rw [← add_field _ _ 4 (by omega)]; exact hc 4 _ rfl, by rw [← add_field _ _ 5 (by omega)]; exact hc 5 _ rfl⟩
set_option maxHeartbeats 8000000 in
set_option maxRecDepth 100000 in
include hk in
theorem walk_in (l0 : List α) (A0 : Option Addr) (c0 : Nat) (o0 o1 o2 o3 o4 o5 a2 : Int) (w : World) (hlen : l0.length ≤ 60) (hr0 : Kd.C kk w A0 l0.length l0) (hc0 : l0.length ≤ c0) :
    Calls Try.prog 4 #[.slice A0 l0.length c0, .agg #[.int .i64 o0, .int .i64 o1, .int .i64 o2, .int .u64 o3, .int .u64 o4, .int .u64 o5], .int .i64 a2] w fun e w' => e = .returned (.bool true) ∧ Below w.heap.size w w' := by
  have hu := Try.underlying34
  have HR := Aside0.mk hr0
  have HC := Aside0.mk hc0
  have q60 : ¬ (60 : Int) < (l0.length : Int) := by omega
  clear hr0 hc0
  go_enter Try.func4, Try.ntmps4
  go_wp2_with fail
  refine (new_calls 40 _ (by decide) (by decide)).mono ?_
  rintro e w1 ⟨b, g, rfl, hm, hb, hg, hbl⟩
  have M1 := Aside0.mk hm
  have hsz : (w.alloc (.cells #[.int .i64 o0, .int .i64 o1, .int .i64 o2, .int .u64 o3, .int .u64 o4, .int .u64 o5] 34 (0, 0))).heap.size = w.heap.size + 1 := by simp
  have G1 := Aside0.mk (show w.heap.size + 1 ≤ b by rw [← hsz]; exact hb)
  have G2 := Aside0.mk (show w.heap.size + 1 ≤ g by rw [← hsz]; exact hg)
  have O1 := Aside0.mk (blk_below (heap_alloc_new w (.cells #[.int .i64 o0, .int .i64 o1, .int .i64 o2, .int .u64 o3, .int .u64 o4, .int .u64 o5] 34 (0, 0))) hbl)
  have B1 := Aside0.mk (below_then (below_alloc (Below.refl w.heap.size w) _) (Below.size (below_alloc (Below.refl w.heap.size w) _)) hbl)
  clear hm hb hg hbl hsz
  go_wp2
  go_loopg [8] l0.length (fun kx s8 wr => ∃ (i : Nat) (ws : List Int) (f : Bool), s8 = .int .i64 i ∧ i + kx = l0.length ∧ Aside0 (ws.length = 40) ∧ Aside0 (Mem wr b g ws i f) ∧ Aside0 (wr.heap[w.heap.size]? = some (.cells #[.int .i64 o0, .int .i64 o1, .int .i64 o2, .int .u64 o3, .int .u64 o4, .int .u64 o5] 34 (0, 0))) ∧ Aside0 (Below w.heap.size w wr))
  case atStart => exact ⟨0, List.replicate 40 0, false, rfl, by omega, ⟨by simp⟩, M1, O1, B1⟩
  case round =>
    clear M1 O1 B1
    obtain ⟨i, ws, f, rfl, hi, W40, M2, O2, B2⟩ := hrel
    by_cases hlt : i < l0.length
    · obtain ⟨ad, hA, d0, d1, d2, d3, d4, d5⟩ := op_cells kk op hk (Kd.C_below HR.out B2.out) i hlt
      subst hA
      generalize op l0[i] = q at d0 d1 d2 d3 d4 d5
      have q1 : (i : Int) < (l0.length : Int) := by omega
      go_wp2_with fail
      refine (do_calls _ b g ws i f _ _ _ _ _ _ M2.out (by omega) (by omega)).mono ?_
      rintro e w3 ⟨rfl, hm, hkp⟩
      have M3 := Aside0.mk hm
      have W3 := Aside0.mk ((doW_len ws q.1 q.2.1 q.2.2.1 q.2.2.2.1 q.2.2.2.2.1 q.2.2.2.2.2).trans W40.out)
      have O3 := Aside0.mk (Keep2.row hkp O2.out (by have := G1.out; omega) (by have := G2.out; omega))
      have B3 := Aside0.mk (B2.out.trans (hkp.below (by have := G1.out; omega) (by have := G2.out; omega) B2.out.size))
      clear hm hkp
      go_wp2
      go_roundg (l0.length - (i + 1))
      case measure => omega
      case rel => exact ⟨i + 1, _, _, by go_num, by omega, W3, ⟨by have := M3.out; simpa using this⟩, O3, B3⟩
    · obtain rfl : i = l0.length := by omega
      clear hlt hi
      have W2 := words_calls _ b g ws l0.length f M2.out (by rw [W40.out]; decide)
      rw [W40.out] at W2
      go_wp2_with fail
      refine W2.mono ?_
      rintro e w3 ⟨v3, rfl, ho, hbl⟩
      clear W2
      rcases ho.2 with ⟨_, hz⟩ | ⟨g3, cap3, cur3, rfl, hbg3, hh3, hnc3, hcm3, hcs3, ht3⟩
      · cases hz
      have hcap : (40 : Nat) ≤ cap3 := hnc3
      have lt2 := M2.out.ltb
      have nb1 : w.heap.size ≠ b := by have := G1.out; omega
      have nb2 : w.heap.size ≠ g := by have := G2.out; omega
      have ob1 : w.heap.size ≤ b := by have := G1.out; omega
      have ob2 : w.heap.size ≤ g := by have := G2.out; omega
      have nr1 : g3 ≠ b := by omega
      have nr2 : g3 ≠ g := by omega
      have M3 := Aside0.mk (M2.out.below hbl)
      have O3 := Aside0.mk (blk_below O2.out hbl)
      have R3 := Aside0.mk hh3
      have B3 := Aside0.mk (below_then B2.out B2.out.size hbl)
      have CUR := Aside0.mk (show ∀ i (h : i < ws.length), cur3[i]? = some (.int .u64 ws[i]) from by
        intro i h
        have h40 := W40.out
        have h2 : (cur3.toList.take (40 * 1))[i]? = some (.int .u64 ws[i]) := by rw [ht3, List.getElem?_map, List.getElem?_eq_getElem h]; rfl
        rw [List.getElem?_take, if_pos (by omega), Array.getElem?_toList] at h2
        exact h2)
      clear ho hbl hbg3 hh3 hnc3 hcm3 hcs3 ht3 lt2 M2 O2 B2
      obtain ⟨x1_3, x3_3, x4_3, x5_3⟩ := obox O3.out
      by_cases k1 : o1 < 0
      · have k1d : decide (o1 < 0) = true := decide_eq_true k1
        clear CUR 
        go_wp2_with (go_at_call 11; refine (lives_calls _).mono ?_; rintro e w9 ⟨rfl, hb⟩; have HB9 := Aside0.mk hb; clear hb)
        all_goals go_ret
        all_goals exact ⟨rfl, below_then B3.out B3.out.size HB9.out⟩
      have k1d : decide (o1 < 0) = false := decide_eq_false k1
      by_cases k2 : 39 < o1
      · have k2d : decide (39 < o1) = true := decide_eq_true k2
        clear CUR 
        go_wp2_with (go_at_call 11; refine (lives_calls _).mono ?_; rintro e w9 ⟨rfl, hb⟩; have HB9 := Aside0.mk hb; clear hb)
        all_goals go_ret
        all_goals exact ⟨rfl, below_then B3.out B3.out.size HB9.out⟩
      have k2d : decide (39 < o1) = false := decide_eq_false k2
      by_cases k3 : a2 < 0
      · have k3d : decide (a2 < 0) = true := decide_eq_true k3
        clear CUR 
        go_wp2_with (go_at_call 11; refine (lives_calls _).mono ?_; rintro e w9 ⟨rfl, hb⟩; have HB9 := Aside0.mk hb; clear hb)
        all_goals go_ret
        all_goals exact ⟨rfl, below_then B3.out B3.out.size HB9.out⟩
      have k3d : decide (a2 < 0) = false := decide_eq_false k3
      by_cases k4 : 39 < a2
      · have k4d : decide (39 < a2) = true := decide_eq_true k4
        clear CUR 
        go_wp2_with (go_at_call 11; refine (lives_calls _).mono ?_; rintro e w9 ⟨rfl, hb⟩; have HB9 := Aside0.mk hb; clear hb)
        all_goals go_ret
        all_goals exact ⟨rfl, below_then B3.out B3.out.size HB9.out⟩
      obtain ⟨iA, rfl⟩ : ∃ i : Nat, o1 = i := ⟨o1.toNat, by omega⟩
      obtain ⟨jb, rfl⟩ : ∃ i : Nat, a2 = i := ⟨a2.toNat, by omega⟩
      have j1 : decide ((iA : Int) < 0) = false := decide_eq_false k1
      have j2 : decide (39 < (iA : Int)) = false := decide_eq_false k2
      have j3 : decide ((jb : Int) < 0) = false := decide_eq_false k3
      have j4 : decide (39 < (jb : Int)) = false := decide_eq_false k4
      have hi : iA < ws.length := by rw [W40.out]; omega
      have hj : jb < ws.length := by rw [W40.out]; omega
      have q1 : (iA : Int) < 40 := by omega
      have q2 : iA < 40 := by omega
      obtain ⟨x, hx⟩ : ∃ x, x = ws[iA] := ⟨_, rfl⟩
      obtain ⟨y, hy⟩ : ∃ y, y = ws[jb] := ⟨_, rfl⟩
      have CX := Aside0.mk (show cur3[iA]? = some (.int .u64 x) by rw [hx]; exact CUR.out iA hi)
      have y_3 := (blk_cell R3.out iA).trans CX.out
      have HX := Aside0.mk hx
      have HY := Aside0.mk hy
      have HI := Aside0.mk hi
      have HJ := Aside0.mk hj
      clear hx hy CUR
      have NB := Aside0.mk (show w.heap.size ≠ b ∧ w.heap.size ≠ g ∧ g3 ≠ b ∧ g3 ≠ g ∧ w.heap.size ≤ b ∧ w.heap.size ≤ g from ⟨nb1, nb2, nr1, nr2, ob1, ob2⟩)
      have C4 := load_calls w3 b g ws (l0.length : Int) f jb M3.out (by omega) (by omega)
      rw [word_yes HJ.out, ← HY.out, turned_id] at C4
      go_wp2_with fail
      refine C4.mono ?_
      rintro e w4 ⟨rfl, hm, hkp⟩
      clear C4
      obtain ⟨f4, M4⟩ : ∃ f_, Aside0 (Mem w4 b g ws ((l0.length : Int) + 1) f_) := ⟨_, ⟨hm⟩⟩
      have O4 := Aside0.mk (Keep2.row hkp O3.out nb1 nb2)
      have R4 := Aside0.mk (Keep2.row hkp R3.out nr1 nr2)
      have B4 := Aside0.mk (B3.out.trans (hkp.below ob1 ob2 B3.out.size))
      obtain ⟨x1_4, x3_4, x4_4, x5_4⟩ := obox O4.out
      have y_4 := (blk_cell R4.out iA).trans CX.out
      clear hm hkp
      clear nb1 nb2 nr1 nr2 ob1 ob2 x1_3 x3_3 x4_3 x5_3 y_3 j1 j2 j3 j4 k1d k2d k3d k1 k2 k3 k4 hcap M3 O3 R3 B3
      have D5 : Aside0 (∀ (W : World) (f_ : Bool), Mem W b g ws ((l0.length : Int) + 1) f_ → Calls Try.prog 19 #[.pointer (some ⟨b, 0, none⟩), .int .i64 jb, .int .u64 (IntKind.u64.wrap (y + 1)), .int .i64 iA, .int .u64 x, .int .u64 o5] W fun e w' => e = .returned (.bool false) ∧ (∃ f2, Mem w' b g ws ((l0.length : Int) + 1 + 1) f2) ∧ Keep2 W w' b g) := Aside0.mk (by
        intro W f_ hW
        have C := dcss_calls W b g ws ((l0.length : Int) + 1) f_ jb (IntKind.u64.wrap (y + 1)) iA x o5 hW (by omega) (by omega)
        have z5 : dcssB ws jb (IntKind.u64.wrap (y + 1)) iA x = false := by rw [HY.out]; exact dcss_no HJ.out x
        rw [z5, dcssed_no o5 z5] at C
        exact C.mono fun e w' ⟨h1, h2, h3⟩ => ⟨h1, ⟨_, h2⟩, h3⟩)
      have D6 : Aside0 (∀ (W : World) (f_ : Bool), Mem W b g ws ((l0.length : Int) + 1 + 1) f_ → Calls Try.prog 16 #[.pointer (some ⟨b, 0, none⟩), .int .i64 iA] W fun e w' => e = .returned (.int .u64 x) ∧ (∃ f2, Mem w' b g ws ((l0.length : Int) + 1 + 1 + 1) f2) ∧ Keep2 W w' b g) := Aside0.mk (by
        intro W f_ hW
        have C := load_calls W b g ws ((l0.length : Int) + 1 + 1) f_ iA hW (by omega) (by omega)
        rw [word_yes HI.out, ← HX.out, turned_id] at C
        exact C.mono fun e w' ⟨h1, h2, h3⟩ => ⟨h1, ⟨_, h2⟩, h3⟩)
      have mixed : Try.prog.follows Departure.mixedOrders = true := by kernel_rfl
      go_upto_region 12 with fail
      go_cut [94] (fun v94 w6 => v94 = .bool false ∧ (∃ f_, Aside0 (Mem w6 b g ws ((l0.length : Int) + 1 + 1 + 1) f_)) ∧ Aside0 (w6.heap[w.heap.size]? = some (.cells #[.int .i64 o0, .int .i64 (iA : Int), .int .i64 o2, .int .u64 o3, .int .u64 o4, .int .u64 o5] 34 (0, 0))) ∧ Aside0 (w6.heap[g3]? = some (.cells cur3 29 (0, 0))) ∧ Aside0 (Below w.heap.size w w6))
      case first =>
        refine start_ (n := 26) (S := fun w' => w'.cell? ⟨w.heap.size, 1, none⟩ = some (.int .i64 (iA : Int)) ∧ w'.cell? ⟨w.heap.size, 5, none⟩ = some (.int .u64 o5) ∧ w'.cell? ⟨g3, iA, none⟩ = some (.int .u64 x)) (ds := []) #[false, false, false, false, false, false, false, false, false, false, false, false, false, false, false, false, false, false, false, false, false, false, false, false, false, false] mixed rfl rfl ⟨x1_4, x5_4, y_4⟩ (fun hHeld => ?_)
        refine pure_ (i := 0) (N := some 69) (v := ?_) (a' := ?_) #[true, false, false, false, false, false, false, false, false, false, false, false, false, false, false, false, false, false, false, false, false, false, false, false, false, false] rfl rfl (by kernel_rfl) (fun _ _ _ h => h) (Or.inl ⟨by rfl, ?_⟩) ?_ ?_
        rotate_left
        · intro w'
          go_simp
          with_reducible rfl
        rotate_left
        · simp only [Act.put, List.setIfInBounds_toArray, List.set_cons_zero, List.set_cons_succ, i64_w, i32_w]
          rfl
        refine pure_ (i := 1) (N := some 70) (v := ?_) (a' := ?_) #[true, true, false, false, false, false, false, false, false, false, false, false, false, false, false, false, false, false, false, false, false, false, false, false, false, false] rfl rfl (by kernel_rfl) (fun _ _ _ h => h) (Or.inl ⟨by rfl, ?_⟩) ?_ ?_
        rotate_left
        · intro w'
          go_simp
          with_reducible rfl
        rotate_left
        · simp only [Act.put, List.setIfInBounds_toArray, List.set_cons_zero, List.set_cons_succ, i64_w, i32_w]
          rfl
        refine pure_ (i := 2) (N := some 71) (v := ?_) (a' := ?_) #[true, true, true, false, false, false, false, false, false, false, false, false, false, false, false, false, false, false, false, false, false, false, false, false, false, false] rfl rfl (by kernel_rfl) (fun _ _ _ h => h) (Or.inl ⟨by rfl, ?_⟩) ?_ ?_
        rotate_left
        · intro w'
          go_simp
          with_reducible rfl
        rotate_left
        · simp only [Act.put, List.setIfInBounds_toArray, List.set_cons_zero, List.set_cons_succ, i64_w, i32_w]
          rfl
        refine pure_ (i := 3) (N := some 72) (v := ?_) (a' := ?_) #[true, true, true, true, false, false, false, false, false, false, false, false, false, false, false, false, false, false, false, false, false, false, false, false, false, false] rfl rfl (by kernel_rfl) (fun _ _ _ h => h) (Or.inl ⟨by rfl, ?_⟩) ?_ ?_
        rotate_left
        · intro w'
          go_simp
          with_reducible rfl
        rotate_left
        · simp only [Act.put, List.setIfInBounds_toArray, List.set_cons_zero, List.set_cons_succ, i64_w, i32_w]
          rfl
        refine pure_ (i := 4) (N := some 73) (v := ?_) (a' := ?_) #[true, true, true, true, true, false, false, false, false, false, false, false, false, false, false, false, false, false, false, false, false, false, false, false, false, false] rfl rfl (by kernel_rfl) (fun _ _ _ h => h) (Or.inl ⟨by rfl, ?_⟩) ?_ ?_
        rotate_left
        · intro w'
          go_simp
          with_reducible rfl
        rotate_left
        · simp only [Act.put, List.setIfInBounds_toArray, List.set_cons_zero, List.set_cons_succ, i64_w, i32_w]
          rfl
        refine pure_ (i := 6) (N := some 75) (v := ?_) (a' := ?_) #[true, true, true, true, true, false, true, false, false, false, false, false, false, false, false, false, false, false, false, false, false, false, false, false, false, false] rfl rfl (by kernel_rfl) (fun _ _ _ h => h) (Or.inl ⟨by rfl, ?_⟩) ?_ ?_
        rotate_left
        · intro w'
          go_simp
          with_reducible rfl
        rotate_left
        · simp only [Act.put, List.setIfInBounds_toArray, List.set_cons_zero, List.set_cons_succ, i64_w, i32_w]
          rfl
        refine pure_ (i := 7) (N := some 76) (v := ?_) (a' := ?_) #[true, true, true, true, true, false, true, true, false, false, false, false, false, false, false, false, false, false, false, false, false, false, false, false, false, false] rfl rfl (by kernel_rfl) (fun _ _ _ h => h) (Or.inl ⟨by rfl, ?_⟩) ?_ ?_
        rotate_left
        · intro w'
          go_simp
          with_reducible rfl
        rotate_left
        · simp only [Act.put, List.setIfInBounds_toArray, List.set_cons_zero, List.set_cons_succ, i64_w, i32_w]
          rfl
        refine pure_ (i := 11) (N := some 80) (v := ?_) (a' := ?_) #[true, true, true, true, true, false, true, true, false, false, false, true, false, false, false, false, false, false, false, false, false, false, false, false, false, false] rfl rfl (by kernel_rfl) (fun _ _ _ h => h) (Or.inl ⟨by rfl, ?_⟩) ?_ ?_
        rotate_left
        · intro w'
          go_simp
          with_reducible rfl
        rotate_left
        · simp only [Act.put, List.setIfInBounds_toArray, List.set_cons_zero, List.set_cons_succ, i64_w, i32_w]
          rfl
        refine take_ (i := 5) (N := some 74) (v := ?_) (a' := ?_) #[true, true, true, true, true, true, true, true, false, false, false, true, false, false, false, false, false, false, false, false, false, false, false, false, false, false] rfl rfl (by kernel_rfl) (fun _ _ _ h => h) (Or.inl ⟨by rfl, ?_⟩) hHeld ?_ ?_
        rotate_left
        · rintro w' ⟨s0, s1, s2⟩
          go_simp
          with_reducible rfl
        rotate_left
        · simp only [Act.put, List.setIfInBounds_toArray, List.set_cons_zero, List.set_cons_succ, i64_w, i32_w]
          rfl
        refine take_ (i := 8) (N := some 77) (v := ?_) (a' := ?_) #[true, true, true, true, true, true, true, true, true, false, false, true, false, false, false, false, false, false, false, false, false, false, false, false, false, false] rfl rfl (by kernel_rfl) (fun _ _ _ h => h) (Or.inl ⟨by rfl, ?_⟩) hHeld ?_ ?_
        rotate_left
        · rintro w' ⟨s0, s1, s2⟩
          go_simp
          with_reducible rfl
        rotate_left
        · simp only [Act.put, List.setIfInBounds_toArray, List.set_cons_zero, List.set_cons_succ, i64_w, i32_w]
          rfl
        refine pure_ (i := 9) (N := some 78) (v := ?_) (a' := ?_) #[true, true, true, true, true, true, true, true, true, true, false, true, false, false, false, false, false, false, false, false, false, false, false, false, false, false] rfl rfl (by kernel_rfl) (fun _ _ _ h => h) (Or.inl ⟨by rfl, ?_⟩) ?_ ?_
        rotate_left
        · intro w'
          go_simp
          with_reducible rfl
        rotate_left
        · simp only [Act.put, List.setIfInBounds_toArray, List.set_cons_zero, List.set_cons_succ, i64_w, i32_w]
          rfl
        refine take_ (i := 10) (N := some 79) (v := ?_) (a' := ?_) #[true, true, true, true, true, true, true, true, true, true, true, true, false, false, false, false, false, false, false, false, false, false, false, false, false, false] rfl rfl (by kernel_rfl) (fun _ _ _ h => h) (Or.inl ⟨by rfl, ?_⟩) hHeld ?_ ?_
        rotate_left
        · rintro w' ⟨s0, s1, s2⟩
          go_simp
          with_reducible rfl
        rotate_left
        · simp only [Act.put, List.setIfInBounds_toArray, List.set_cons_zero, List.set_cons_succ, i64_w, i32_w]
          rfl
        refine take_ (i := 12) (N := some 81) (v := ?_) (a' := ?_) #[true, true, true, true, true, true, true, true, true, true, true, true, true, false, false, false, false, false, false, false, false, false, false, false, false, false] rfl rfl (by kernel_rfl) (fun _ _ _ h => h) (Or.inl ⟨by rfl, ?_⟩) hHeld ?_ ?_
        rotate_left
        · rintro w' ⟨s0, s1, s2⟩
          go_simp
          with_reducible rfl
        rotate_left
        · simp only [Act.put, List.setIfInBounds_toArray, List.set_cons_zero, List.set_cons_succ, i64_w, i32_w]
          rfl
        refine one_ (i := 13) (N := some 82) #[true, true, true, true, true, true, true, true, true, true, true, true, true, true, false, false, false, false, false, false, false, false, false, false, false, false] rfl rfl (by kernel_rfl) (by decide) (fun K hK => ?_)
        refine goes_ Try.func19 (by kernel_rfl) rfl #[.pointer (some ⟨b, 0, none⟩), .int .i64 jb, .int .u64 (IntKind.u64.wrap (y + 1)), .int .i64 iA, .int .u64 x, .int .u64 o5] (by rfl) rfl rfl (by (try simp only [List.map_toArray, List.map_cons, List.map_nil]); first | done | rfl) ?_
        refine (D5.out _ _ (by exact M4.out.move rfl rfl)).mono ?_
        rintro e w5 ⟨rfl, hm, hkp⟩
        refine ⟨_, rfl, ?_⟩
        obtain ⟨f5, M5⟩ : ∃ f_, Aside0 (Mem w5 b g ws ((l0.length : Int) + 1 + 1) f_) := (by obtain ⟨f2, hm2⟩ := hm; exact ⟨f2, ⟨hm2⟩⟩)
        have hkq : Keep2 w4 w5 b g := hkp
        have O5 := Aside0.mk (Keep2.row hkq O4.out NB.out.1 NB.out.2.1)
        have R5 := Aside0.mk (Keep2.row hkq R4.out NB.out.2.2.1 NB.out.2.2.2.1)
        have B5 := Aside0.mk (B4.out.trans (hkq.below NB.out.2.2.2.2.1 NB.out.2.2.2.2.2 B4.out.size))
        obtain ⟨x1_5, x3_5, x4_5, x5_5⟩ := obox O5.out
        have y_5 := (blk_cell R5.out iA).trans CX.out
        clear hm hkp hkq
        refine hK.out _ _ ⟨x1_5, x5_5, y_5⟩ (fun hHeld => ?_)
        clear hK K
        refine norm_ (a' := ?_) ?_ ?_
        rotate_left
        · show Act.put _ (some 82) _ = _
          simp only [Act.put, List.setIfInBounds_toArray, List.set_cons_zero, List.set_cons_succ, i64_w, i32_w]
          rfl
        refine pure_ (i := 14) (N := some 83) (v := ?_) (a' := ?_) #[true, true, true, true, true, true, true, true, true, true, true, true, true, true, true, false, false, false, false, false, false, false, false, false, false, false] rfl rfl (by kernel_rfl) (fun _ _ _ h => h) (Or.inl ⟨by rfl, ?_⟩) ?_ ?_
        rotate_left
        · intro w'
          go_simp
          with_reducible rfl
        rotate_left
        · simp only [Act.put, List.setIfInBounds_toArray, List.set_cons_zero, List.set_cons_succ, i64_w, i32_w]
          rfl
        refine pure_ (i := 15) (N := some 84) (v := ?_) (a' := ?_) #[true, true, true, true, true, true, true, true, true, true, true, true, true, true, true, true, false, false, false, false, false, false, false, false, false, false] rfl rfl (by kernel_rfl) (fun _ _ _ h => h) (Or.inl ⟨by rfl, ?_⟩) ?_ ?_
        rotate_left
        · intro w'
          go_simp
          with_reducible rfl
        rotate_left
        · simp only [Act.put, List.setIfInBounds_toArray, List.set_cons_zero, List.set_cons_succ, i64_w, i32_w]
          rfl
        refine pure_ (i := 16) (N := some 85) (v := ?_) (a' := ?_) #[true, true, true, true, true, true, true, true, true, true, true, true, true, true, true, true, true, false, false, false, false, false, false, false, false, false] rfl rfl (by kernel_rfl) (fun _ _ _ h => h) (Or.inl ⟨by rfl, ?_⟩) ?_ ?_
        rotate_left
        · intro w'
          go_simp
          with_reducible rfl
        rotate_left
        · simp only [Act.put, List.setIfInBounds_toArray, List.set_cons_zero, List.set_cons_succ, i64_w, i32_w]
          rfl
        refine pure_ (i := 19) (N := some 88) (v := ?_) (a' := ?_) #[true, true, true, true, true, true, true, true, true, true, true, true, true, true, true, true, true, false, false, true, false, false, false, false, false, false] rfl rfl (by kernel_rfl) (fun _ _ _ h => h) (Or.inl ⟨by rfl, ?_⟩) ?_ ?_
        rotate_left
        · intro w'
          go_simp
          with_reducible rfl
        rotate_left
        · simp only [Act.put, List.setIfInBounds_toArray, List.set_cons_zero, List.set_cons_succ, i64_w, i32_w]
          rfl
        refine pure_ (i := 20) (N := some 89) (v := ?_) (a' := ?_) #[true, true, true, true, true, true, true, true, true, true, true, true, true, true, true, true, true, false, false, true, true, false, false, false, false, false] rfl rfl (by kernel_rfl) (fun _ _ _ h => h) (Or.inl ⟨by rfl, ?_⟩) ?_ ?_
        rotate_left
        · intro w'
          go_simp
          with_reducible rfl
        rotate_left
        · simp only [Act.put, List.setIfInBounds_toArray, List.set_cons_zero, List.set_cons_succ, i64_w, i32_w]
          rfl
        refine take_ (i := 17) (N := some 86) (v := ?_) (a' := ?_) #[true, true, true, true, true, true, true, true, true, true, true, true, true, true, true, true, true, true, false, true, true, false, false, false, false, false] rfl rfl (by kernel_rfl) (fun _ _ _ h => h) (Or.inl ⟨by rfl, ?_⟩) hHeld ?_ ?_
        rotate_left
        · rintro w' ⟨s0, s1, s2⟩
          go_simp
          with_reducible rfl
        rotate_left
        · simp only [Act.put, List.setIfInBounds_toArray, List.set_cons_zero, List.set_cons_succ, i64_w, i32_w]
          rfl
        refine take_ (i := 21) (N := some 90) (v := ?_) (a' := ?_) #[true, true, true, true, true, true, true, true, true, true, true, true, true, true, true, true, true, true, false, true, true, true, false, false, false, false] rfl rfl (by kernel_rfl) (fun _ _ _ h => h) (Or.inl ⟨by rfl, ?_⟩) hHeld ?_ ?_
        rotate_left
        · rintro w' ⟨s0, s1, s2⟩
          go_simp
          with_reducible rfl
        rotate_left
        · simp only [Act.put, List.setIfInBounds_toArray, List.set_cons_zero, List.set_cons_succ, i64_w, i32_w]
          rfl
        refine pure_ (i := 22) (N := some 91) (v := ?_) (a' := ?_) #[true, true, true, true, true, true, true, true, true, true, true, true, true, true, true, true, true, true, false, true, true, true, true, false, false, false] rfl rfl (by kernel_rfl) (fun _ _ _ h => h) (Or.inl ⟨by rfl, ?_⟩) ?_ ?_
        rotate_left
        · intro w'
          go_simp
          with_reducible rfl
        rotate_left
        · simp only [Act.put, List.setIfInBounds_toArray, List.set_cons_zero, List.set_cons_succ, i64_w, i32_w]
          rfl
        refine take_ (i := 23) (N := some 92) (v := ?_) (a' := ?_) #[true, true, true, true, true, true, true, true, true, true, true, true, true, true, true, true, true, true, false, true, true, true, true, true, false, false] rfl rfl (by kernel_rfl) (fun _ _ _ h => h) (Or.inl ⟨by rfl, ?_⟩) hHeld ?_ ?_
        rotate_left
        · rintro w' ⟨s0, s1, s2⟩
          go_simp
          with_reducible rfl
        rotate_left
        · simp only [Act.put, List.setIfInBounds_toArray, List.set_cons_zero, List.set_cons_succ, i64_w, i32_w]
          rfl
        refine one_ (i := 18) (N := some 87) #[true, true, true, true, true, true, true, true, true, true, true, true, true, true, true, true, true, true, true, true, true, true, true, true, false, false] rfl rfl (by kernel_rfl) (by decide) (fun K hK => ?_)
        refine goes_ Try.func16 (by kernel_rfl) rfl #[.pointer (some ⟨b, 0, none⟩), .int .i64 iA] (by rfl) rfl rfl (by (try simp only [List.map_toArray, List.map_cons, List.map_nil]); first | done | rfl) ?_
        refine (D6.out _ _ (by exact M5.out.move rfl rfl)).mono ?_
        rintro e w6 ⟨rfl, hm, hkp⟩
        refine ⟨_, rfl, ?_⟩
        obtain ⟨f6, M6⟩ : ∃ f_, Aside0 (Mem w6 b g ws ((l0.length : Int) + 1 + 1 + 1) f_) := (by obtain ⟨f2, hm2⟩ := hm; exact ⟨f2, ⟨hm2⟩⟩)
        have hkq : Keep2 w5 w6 b g := hkp
        have O6 := Aside0.mk (Keep2.row hkq O5.out NB.out.1 NB.out.2.1)
        have R6 := Aside0.mk (Keep2.row hkq R5.out NB.out.2.2.1 NB.out.2.2.2.1)
        have B6 := Aside0.mk (B5.out.trans (hkq.below NB.out.2.2.2.2.1 NB.out.2.2.2.2.2 B5.out.size))
        obtain ⟨x1_6, x3_6, x4_6, x5_6⟩ := obox O6.out
        have y_6 := (blk_cell R6.out iA).trans CX.out
        clear hm hkp hkq
        refine hK.out _ _ ⟨x1_6, x5_6, y_6⟩ (fun hHeld => ?_)
        clear hK K
        refine norm_ (a' := ?_) ?_ ?_
        rotate_left
        · show Act.put _ (some 87) _ = _
          simp only [Act.put, List.setIfInBounds_toArray, List.set_cons_zero, List.set_cons_succ, i64_w, i32_w]
          rfl
        refine pure_ (i := 24) (N := some 93) (v := ?_) (a' := ?_) #[true, true, true, true, true, true, true, true, true, true, true, true, true, true, true, true, true, true, true, true, true, true, true, true, true, false] rfl rfl (by kernel_rfl) (fun _ _ _ h => h) (Or.inl ⟨by rfl, ?_⟩) ?_ ?_
        rotate_left
        · intro w'
          go_simp
          with_reducible rfl
        rotate_left
        · simp only [Act.put, List.setIfInBounds_toArray, List.set_cons_zero, List.set_cons_succ, i64_w, i32_w]
          rfl
        refine pure_ (i := 25) (N := some 94) (v := ?_) (a' := ?_) #[true, true, true, true, true, true, true, true, true, true, true, true, true, true, true, true, true, true, true, true, true, true, true, true, true, true] rfl rfl (by kernel_rfl) (fun _ _ _ h => h) (Or.inl ⟨by rfl, ?_⟩) ?_ ?_
        rotate_left
        · intro w'
          go_simp
          with_reducible rfl
        rotate_left
        · simp only [Act.put, List.setIfInBounds_toArray, List.set_cons_zero, List.set_cons_succ, i64_w, i32_w]
          rfl
        refine done_ (by kernel_rfl) ?_
        go_wp2_with fail
        go_meet
        case rel => exact ⟨rfl, ⟨_, M6⟩, O6, R6, B6⟩
      case rest =>
        rename World => w6
        clear M4 O4 R4 B4 x1_4 x3_4 x4_4 x5_4 y_4 D5 D6
        obtain ⟨rfl, ⟨f6, M6⟩, O6, R6, B6⟩ := hcut
        obtain ⟨x1_6, x3_6, x4_6, x5_6⟩ := obox O6.out
        have y_6 := (blk_cell R6.out iA).trans CX.out
        obtain ⟨d, hd⟩ : ∃ d, decide (x = o4) = d := ⟨_, rfl⟩
        have HD := Aside0.mk hd
        have D7 : Aside0 (∀ (W : World) (f_ : Bool), Mem W b g ws ((l0.length : Int) + 1 + 1 + 1) f_ → Calls Try.prog 20 #[.pointer (some ⟨b, 0, none⟩), .int .i64 iA, .int .u64 o4, .int .u64 o5] W fun e w' => e = .returned (.bool d) ∧ (∃ f2, Mem w' b g (cased ws iA o4 o5) ((l0.length : Int) + 1 + 1 + 1 + 1) f2) ∧ Keep2 W w' b g) := Aside0.mk (by
          intro W f_ hW
          have C := cas_calls W b g ws ((l0.length : Int) + 1 + 1 + 1) f_ iA o4 o5 hW (by omega) (by omega)
          rw [cas_yes HI.out, ← HX.out, show (x == o4) = d from by rw [← HD.out, Bool.eq_iff_iff]; simp] at C
          exact C.mono fun e w' ⟨h1, h2, h3⟩ => ⟨h1, ⟨_, h2⟩, h3⟩)
        have D8 : Aside0 (iA ≠ jb) → Aside0 (∀ (W : World) (f_ : Bool), Mem W b g (cased ws iA o4 o5) ((l0.length : Int) + 1 + 1 + 1 + 1) f_ → Calls Try.prog 16 #[.pointer (some ⟨b, 0, none⟩), .int .i64 jb] W fun e w' => e = .returned (.int .u64 y) ∧ (∃ f2, Mem w' b g (cased ws iA o4 o5) ((l0.length : Int) + 1 + 1 + 1 + 1 + 1) f2) ∧ Keep2 W w' b g) := fun HS => Aside0.mk (by
          intro W f_ hW
          have C := load_calls W b g (cased ws iA o4 o5) ((l0.length : Int) + 1 + 1 + 1 + 1) f_ jb hW (by omega) (by omega)
          rw [word_cased HJ.out HS.out, ← HY.out, turned_id] at C
          exact C.mono fun e w' ⟨h1, h2, h3⟩ => ⟨h1, ⟨_, h2⟩, h3⟩)
        go_wp2_with fail
        refine (D7.out _ _ (by exact M6.out)).mono ?_
        rintro e w7 ⟨rfl, hm, hkp⟩
        obtain ⟨f7, M7⟩ : ∃ f_, Aside0 (Mem w7 b g (cased ws iA o4 o5) ((l0.length : Int) + 1 + 1 + 1 + 1) f_) := (by obtain ⟨f2, hm2⟩ := hm; exact ⟨f2, ⟨hm2⟩⟩)
        have hkq : Keep2 w6 w7 b g := hkp
        have O7 := Aside0.mk (Keep2.row hkq O6.out NB.out.1 NB.out.2.1)
        have R7 := Aside0.mk (Keep2.row hkq R6.out NB.out.2.2.1 NB.out.2.2.2.1)
        have B7 := Aside0.mk (B6.out.trans (hkq.below NB.out.2.2.2.2.1 NB.out.2.2.2.2.2 B6.out.size))
        obtain ⟨x1_7, x3_7, x4_7, x5_7⟩ := obox O7.out
        have y_7 := (blk_cell R7.out iA).trans CX.out
        clear hm hkp hkq
        go_upto_region 15 with fail
        go_cut [125] (fun v125 w8 => v125 = .bool false ∧ (∃ (acc : Int) (f_ : Bool), (0 ≤ acc ∧ acc ≤ 80) ∧ Aside0 (Mem w8 b g (cased ws iA o4 o5) acc f_)) ∧ Aside0 (w8.heap[w.heap.size]? = some (.cells #[.int .i64 o0, .int .i64 (iA : Int), .int .i64 o2, .int .u64 o3, .int .u64 o4, .int .u64 o5] 34 (0, 0))) ∧ Aside0 (w8.heap[g3]? = some (.cells cur3 29 (0, 0))) ∧ Aside0 (Below w.heap.size w w8))
        case first =>
          clear x1_6 x3_6 x4_6 x5_6 y_6
          by_cases hs : jb = iA
          · have qb0 : ((jb : Int) == (iA : Int)) = true := beq_iff_eq.mpr (by omega)
            have qb1 : ((jb : Int) != (iA : Int)) = false := bne_eq_false_iff_eq.mpr (by omega)
            have hd2 : (x == o4) = d := by rw [← HD.out, Bool.eq_iff_iff]; simp
            clear D8 hs
            refine start_ (n := 23) (S := fun w' => w'.cell? ⟨w.heap.size, 1, none⟩ = some (.int .i64 (iA : Int)) ∧ w'.cell? ⟨w.heap.size, 4, none⟩ = some (.int .u64 o4) ∧ w'.cell? ⟨g3, iA, none⟩ = some (.int .u64 x)) (ds := []) #[false, false, false, false, false, false, false, false, false, false, false, false, false, false, false, false, false, false, false, false, false, false, false] mixed rfl rfl ⟨x1_7, x4_7, y_7⟩ (fun hHeld => ?_)
            refine pure_ (i := 0) (N := some 103) (v := ?_) (a' := ?_) #[true, false, false, false, false, false, false, false, false, false, false, false, false, false, false, false, false, false, false, false, false, false, false] rfl rfl (by kernel_rfl) (fun _ _ _ h => h) (Or.inl ⟨by rfl, ?_⟩) ?_ ?_
            rotate_left
            · intro w'
              go_simp
              with_reducible rfl
            rotate_left
            · simp only [Act.put, List.setIfInBounds_toArray, List.set_cons_zero, List.set_cons_succ, i64_w, i32_w]
              rfl
            refine pure_ (i := 1) (N := some 104) (v := ?_) (a' := ?_) #[true, true, false, false, false, false, false, false, false, false, false, false, false, false, false, false, false, false, false, false, false, false, false] rfl rfl (by kernel_rfl) (fun _ _ _ h => h) (Or.inl ⟨by rfl, ?_⟩) ?_ ?_
            rotate_left
            · intro w'
              go_simp
              with_reducible rfl
            rotate_left
            · simp only [Act.put, List.setIfInBounds_toArray, List.set_cons_zero, List.set_cons_succ, i64_w, i32_w]
              rfl
            refine pure_ (i := 2) (N := some 105) (v := ?_) (a' := ?_) #[true, true, true, false, false, false, false, false, false, false, false, false, false, false, false, false, false, false, false, false, false, false, false] rfl rfl (by kernel_rfl) (fun _ _ _ h => h) (Or.inl ⟨by rfl, ?_⟩) ?_ ?_
            rotate_left
            · intro w'
              go_simp
              with_reducible rfl
            rotate_left
            · simp only [Act.put, List.setIfInBounds_toArray, List.set_cons_zero, List.set_cons_succ, i64_w, i32_w]
              rfl
            refine pure_ (i := 6) (N := some 109) (v := ?_) (a' := ?_) #[true, true, true, false, false, false, true, false, false, false, false, false, false, false, false, false, false, false, false, false, false, false, false] rfl rfl (by kernel_rfl) (fun _ _ _ h => h) (Or.inl ⟨by rfl, ?_⟩) ?_ ?_
            rotate_left
            · intro w'
              go_simp
              with_reducible rfl
            rotate_left
            · simp only [Act.put, List.setIfInBounds_toArray, List.set_cons_zero, List.set_cons_succ, i64_w, i32_w]
              rfl
            refine take_ (i := 3) (N := some 106) (v := ?_) (a' := ?_) #[true, true, true, true, false, false, true, false, false, false, false, false, false, false, false, false, false, false, false, false, false, false, false] rfl rfl (by kernel_rfl) (fun _ _ _ h => h) (Or.inl ⟨by rfl, ?_⟩) hHeld ?_ ?_
            rotate_left
            · rintro w' ⟨s0, s1, s2⟩
              go_simp
              with_reducible rfl
            rotate_left
            · simp only [Act.put, List.setIfInBounds_toArray, List.set_cons_zero, List.set_cons_succ, i64_w, i32_w]
              rfl
            refine pure_ (i := 4) (N := some 107) (v := ?_) (a' := ?_) #[true, true, true, true, true, false, true, false, false, false, false, false, false, false, false, false, false, false, false, false, false, false, false] rfl rfl (by kernel_rfl) (fun _ _ _ h => h) (Or.inl ⟨by rfl, ?_⟩) ?_ ?_
            rotate_left
            · intro w'
              go_simp
              with_reducible rfl
            rotate_left
            · simp only [Act.put, List.setIfInBounds_toArray, List.set_cons_zero, List.set_cons_succ, i64_w, i32_w]
              rfl
            refine take_ (i := 5) (N := some 108) (v := ?_) (a' := ?_) #[true, true, true, true, true, true, true, false, false, false, false, false, false, false, false, false, false, false, false, false, false, false, false] rfl rfl (by kernel_rfl) (fun _ _ _ h => h) (Or.inl ⟨by rfl, ?_⟩) hHeld ?_ ?_
            rotate_left
            · rintro w' ⟨s0, s1, s2⟩
              go_simp
              with_reducible rfl
            rotate_left
            · simp only [Act.put, List.setIfInBounds_toArray, List.set_cons_zero, List.set_cons_succ, i64_w, i32_w]
              rfl
            refine take_ (i := 7) (N := some 110) (v := ?_) (a' := ?_) #[true, true, true, true, true, true, true, true, false, false, false, false, false, false, false, false, false, false, false, false, false, false, false] rfl rfl (by kernel_rfl) (fun _ _ _ h => h) (Or.inl ⟨by rfl, ?_⟩) hHeld ?_ ?_
            rotate_left
            · rintro w' ⟨s0, s1, s2⟩
              go_simp
              with_reducible rfl
            rotate_left
            · simp only [Act.put, List.setIfInBounds_toArray, List.set_cons_zero, List.set_cons_succ, i64_w, i32_w]
              rfl
            refine pure_ (i := 8) (N := some 111) (v := ?_) (a' := ?_) #[true, true, true, true, true, true, true, true, true, false, false, false, false, false, false, false, false, false, false, false, false, false, false] rfl rfl (by kernel_rfl) (fun _ _ _ h => h) (Or.inl ⟨by rfl, ?_⟩) ?_ ?_
            rotate_left
            · intro w'
              go_simp
              with_reducible rfl
            rotate_left
            · simp only [Act.put, List.setIfInBounds_toArray, List.set_cons_zero, List.set_cons_succ, i64_w, i32_w]
              rfl
            refine pure_ (i := 9) (N := some 112) (v := ?_) (a' := ?_) #[true, true, true, true, true, true, true, true, true, true, false, false, false, false, false, false, false, false, false, false, false, false, false] rfl rfl (by kernel_rfl) (fun _ _ _ h => h) (Or.inl ⟨by rfl, ?_⟩) ?_ ?_
            rotate_left
            · intro w'
              go_simp
              with_reducible rfl
            rotate_left
            · simp only [Act.put, List.setIfInBounds_toArray, List.set_cons_zero, List.set_cons_succ, i64_w, i32_w]
              rfl
            refine pure_ (i := 10) (N := some 113) (v := ?_) (a' := ?_) #[true, true, true, true, true, true, true, true, true, true, true, false, false, false, false, false, false, false, false, false, false, false, false] rfl rfl (by kernel_rfl) (fun _ _ _ h => h) (Or.inl ⟨by rfl, ?_⟩) ?_ ?_
            rotate_left
            · intro w'
              go_simp
              with_reducible rfl
            rotate_left
            · simp only [Act.put, List.setIfInBounds_toArray, List.set_cons_zero, List.set_cons_succ, i64_w, i32_w]
              rfl
            refine pure_ (i := 11) (N := some 114) (v := ?_) (a' := ?_) #[true, true, true, true, true, true, true, true, true, true, true, true, false, false, false, false, false, false, false, false, false, false, false] rfl rfl (by kernel_rfl) (fun _ _ _ h => h) (Or.inl ⟨by rfl, ?_⟩) ?_ ?_
            rotate_left
            · intro w'
              go_simp
              with_reducible rfl
            rotate_left
            · simp only [Act.put, List.setIfInBounds_toArray, List.set_cons_zero, List.set_cons_succ, i64_w, i32_w]
              rfl
            refine pure_ (i := 12) (N := some 115) (v := ?_) (a' := ?_) #[true, true, true, true, true, true, true, true, true, true, true, true, true, false, false, false, false, false, false, false, false, false, false] rfl rfl (by kernel_rfl) (fun _ _ _ h => h) (Or.inl ⟨by rfl, ?_⟩) ?_ ?_
            rotate_left
            · intro w'
              go_simp
              with_reducible rfl
            rotate_left
            · simp only [Act.put, List.setIfInBounds_toArray, List.set_cons_zero, List.set_cons_succ, i64_w, i32_w]
              rfl
            refine take_ (i := 13) (N := some 116) (v := ?_) (a' := ?_) #[true, true, true, true, true, true, true, true, true, true, true, true, true, true, false, false, false, false, false, false, false, false, false] rfl rfl (by kernel_rfl) (fun _ _ _ h => h) (Or.inl ⟨by rfl, ?_⟩) hHeld ?_ ?_
            rotate_left
            · rintro w' ⟨s0, s1, s2⟩
              go_simp
              with_reducible rfl
            rotate_left
            · simp only [Act.put, List.setIfInBounds_toArray, List.set_cons_zero, List.set_cons_succ, i64_w, i32_w]
              rfl
            refine pure_ (i := 14) (N := some 117) (v := ?_) (a' := ?_) #[true, true, true, true, true, true, true, true, true, true, true, true, true, true, true, false, false, false, false, false, false, false, false] rfl rfl (by kernel_rfl) (fun _ _ _ h => h) (Or.inl ⟨by rfl, ?_⟩) ?_ ?_
            rotate_left
            · intro w'
              go_simp
              with_reducible rfl
            rotate_left
            · simp only [Act.put, List.setIfInBounds_toArray, List.set_cons_zero, List.set_cons_succ, i64_w, i32_w]
              rfl
            refine pure_ (i := 15) (N := some 118) (v := ?_) (a' := ?_) #[true, true, true, true, true, true, true, true, true, true, true, true, true, true, true, true, false, false, false, false, false, false, false] rfl rfl (by kernel_rfl) (fun _ _ _ h => h) (Or.inl ⟨by rfl, ?_⟩) ?_ ?_
            rotate_left
            · intro w'
              go_simp
              with_reducible rfl
            rotate_left
            · simp only [Act.put, List.setIfInBounds_toArray, List.set_cons_zero, List.set_cons_succ, i64_w, i32_w]
              rfl
            refine pure_ (i := 16) (N := some 119) (v := undef) (a' := ?_) #[true, true, true, true, true, true, true, true, true, true, true, true, true, true, true, true, true, false, false, false, false, false, false] rfl rfl (by kernel_rfl) (fun _ _ _ h => h) (Or.inr ⟨by rfl, rfl⟩) ?_ ?_
            rotate_left
            · simp only [Act.put, List.setIfInBounds_toArray, List.set_cons_zero, List.set_cons_succ, i64_w, i32_w]
              rfl
            refine pure_ (i := 17) (N := some 120) (v := undef) (a' := ?_) #[true, true, true, true, true, true, true, true, true, true, true, true, true, true, true, true, true, true, false, false, false, false, false] rfl rfl (by kernel_rfl) (fun _ _ _ h => h) (Or.inr ⟨by rfl, rfl⟩) ?_ ?_
            rotate_left
            · simp only [Act.put, List.setIfInBounds_toArray, List.set_cons_zero, List.set_cons_succ, i64_w, i32_w]
              rfl
            refine pure_ (i := 18) (N := some 121) (v := undef) (a' := ?_) #[true, true, true, true, true, true, true, true, true, true, true, true, true, true, true, true, true, true, true, false, false, false, false] rfl rfl (by kernel_rfl) (fun _ _ _ h => h) (Or.inr ⟨by rfl, rfl⟩) ?_ ?_
            rotate_left
            · simp only [Act.put, List.setIfInBounds_toArray, List.set_cons_zero, List.set_cons_succ, i64_w, i32_w]
              rfl
            refine pure_ (i := 19) (N := some 122) (v := undef) (a' := ?_) #[true, true, true, true, true, true, true, true, true, true, true, true, true, true, true, true, true, true, true, true, false, false, false] rfl rfl (by kernel_rfl) (fun _ _ _ h => h) (Or.inr ⟨by rfl, rfl⟩) ?_ ?_
            rotate_left
            · simp only [Act.put, List.setIfInBounds_toArray, List.set_cons_zero, List.set_cons_succ, i64_w, i32_w]
              rfl
            refine pure_ (i := 20) (N := some 123) (v := undef) (a' := ?_) #[true, true, true, true, true, true, true, true, true, true, true, true, true, true, true, true, true, true, true, true, true, false, false] rfl rfl (by kernel_rfl) (fun _ _ _ h => h) (Or.inr ⟨by rfl, rfl⟩) ?_ ?_
            rotate_left
            · simp only [Act.put, List.setIfInBounds_toArray, List.set_cons_zero, List.set_cons_succ, i64_w, i32_w]
              rfl
            refine pure_ (i := 21) (N := some 124) (v := ?_) (a' := ?_) #[true, true, true, true, true, true, true, true, true, true, true, true, true, true, true, true, true, true, true, true, true, true, false] rfl rfl (by kernel_rfl) (fun _ _ _ h => h) (Or.inl ⟨by rfl, ?_⟩) ?_ ?_
            rotate_left
            · intro w'
              go_simp
              with_reducible rfl
            rotate_left
            · simp only [Act.put, List.setIfInBounds_toArray, List.set_cons_zero, List.set_cons_succ, i64_w, i32_w]
              rfl
            refine pure_ (i := 22) (N := some 125) (v := ?_) (a' := ?_) #[true, true, true, true, true, true, true, true, true, true, true, true, true, true, true, true, true, true, true, true, true, true, true] rfl rfl (by kernel_rfl) (fun _ _ _ h => h) (Or.inl ⟨by rfl, ?_⟩) ?_ ?_
            rotate_left
            · intro w'
              go_simp
              with_reducible rfl
            rotate_left
            · simp only [Act.put, List.setIfInBounds_toArray, List.set_cons_zero, List.set_cons_succ, i64_w, i32_w]
              rfl
            refine done_ (by kernel_rfl) ?_
            go_wp2_with fail
            go_meet
            case rel => exact ⟨rfl, ⟨_, _, ⟨by omega, by omega⟩, ⟨M7.out.move rfl rfl⟩⟩, ⟨O7.out⟩, ⟨R7.out⟩, ⟨below_drew B7.out⟩⟩
          · have qb0 : ((jb : Int) == (iA : Int)) = false := beq_eq_false_iff_ne.mpr (by omega)
            have qb1 : ((jb : Int) != (iA : Int)) = true := bne_iff_ne.mpr (by omega)
            have hd2 : (x == o4) = d := by rw [← HD.out, Bool.eq_iff_iff]; simp
            have E8 := D8 ⟨fun e => hs e.symm⟩
            clear D8 hs
            refine start_ (n := 23) (S := fun w' => w'.cell? ⟨w.heap.size, 1, none⟩ = some (.int .i64 (iA : Int)) ∧ w'.cell? ⟨w.heap.size, 4, none⟩ = some (.int .u64 o4) ∧ w'.cell? ⟨g3, iA, none⟩ = some (.int .u64 x)) (ds := []) #[false, false, false, false, false, false, false, false, false, false, false, false, false, false, false, false, false, false, false, false, false, false, false] mixed rfl rfl ⟨x1_7, x4_7, y_7⟩ (fun hHeld => ?_)
            refine pure_ (i := 0) (N := some 103) (v := ?_) (a' := ?_) #[true, false, false, false, false, false, false, false, false, false, false, false, false, false, false, false, false, false, false, false, false, false, false] rfl rfl (by kernel_rfl) (fun _ _ _ h => h) (Or.inl ⟨by rfl, ?_⟩) ?_ ?_
            rotate_left
            · intro w'
              go_simp
              with_reducible rfl
            rotate_left
            · simp only [Act.put, List.setIfInBounds_toArray, List.set_cons_zero, List.set_cons_succ, i64_w, i32_w]
              rfl
            refine pure_ (i := 1) (N := some 104) (v := ?_) (a' := ?_) #[true, true, false, false, false, false, false, false, false, false, false, false, false, false, false, false, false, false, false, false, false, false, false] rfl rfl (by kernel_rfl) (fun _ _ _ h => h) (Or.inl ⟨by rfl, ?_⟩) ?_ ?_
            rotate_left
            · intro w'
              go_simp
              with_reducible rfl
            rotate_left
            · simp only [Act.put, List.setIfInBounds_toArray, List.set_cons_zero, List.set_cons_succ, i64_w, i32_w]
              rfl
            refine pure_ (i := 2) (N := some 105) (v := ?_) (a' := ?_) #[true, true, true, false, false, false, false, false, false, false, false, false, false, false, false, false, false, false, false, false, false, false, false] rfl rfl (by kernel_rfl) (fun _ _ _ h => h) (Or.inl ⟨by rfl, ?_⟩) ?_ ?_
            rotate_left
            · intro w'
              go_simp
              with_reducible rfl
            rotate_left
            · simp only [Act.put, List.setIfInBounds_toArray, List.set_cons_zero, List.set_cons_succ, i64_w, i32_w]
              rfl
            refine pure_ (i := 6) (N := some 109) (v := ?_) (a' := ?_) #[true, true, true, false, false, false, true, false, false, false, false, false, false, false, false, false, false, false, false, false, false, false, false] rfl rfl (by kernel_rfl) (fun _ _ _ h => h) (Or.inl ⟨by rfl, ?_⟩) ?_ ?_
            rotate_left
            · intro w'
              go_simp
              with_reducible rfl
            rotate_left
            · simp only [Act.put, List.setIfInBounds_toArray, List.set_cons_zero, List.set_cons_succ, i64_w, i32_w]
              rfl
            refine take_ (i := 3) (N := some 106) (v := ?_) (a' := ?_) #[true, true, true, true, false, false, true, false, false, false, false, false, false, false, false, false, false, false, false, false, false, false, false] rfl rfl (by kernel_rfl) (fun _ _ _ h => h) (Or.inl ⟨by rfl, ?_⟩) hHeld ?_ ?_
            rotate_left
            · rintro w' ⟨s0, s1, s2⟩
              go_simp
              with_reducible rfl
            rotate_left
            · simp only [Act.put, List.setIfInBounds_toArray, List.set_cons_zero, List.set_cons_succ, i64_w, i32_w]
              rfl
            refine pure_ (i := 4) (N := some 107) (v := ?_) (a' := ?_) #[true, true, true, true, true, false, true, false, false, false, false, false, false, false, false, false, false, false, false, false, false, false, false] rfl rfl (by kernel_rfl) (fun _ _ _ h => h) (Or.inl ⟨by rfl, ?_⟩) ?_ ?_
            rotate_left
            · intro w'
              go_simp
              with_reducible rfl
            rotate_left
            · simp only [Act.put, List.setIfInBounds_toArray, List.set_cons_zero, List.set_cons_succ, i64_w, i32_w]
              rfl
            refine take_ (i := 5) (N := some 108) (v := ?_) (a' := ?_) #[true, true, true, true, true, true, true, false, false, false, false, false, false, false, false, false, false, false, false, false, false, false, false] rfl rfl (by kernel_rfl) (fun _ _ _ h => h) (Or.inl ⟨by rfl, ?_⟩) hHeld ?_ ?_
            rotate_left
            · rintro w' ⟨s0, s1, s2⟩
              go_simp
              with_reducible rfl
            rotate_left
            · simp only [Act.put, List.setIfInBounds_toArray, List.set_cons_zero, List.set_cons_succ, i64_w, i32_w]
              rfl
            refine take_ (i := 7) (N := some 110) (v := ?_) (a' := ?_) #[true, true, true, true, true, true, true, true, false, false, false, false, false, false, false, false, false, false, false, false, false, false, false] rfl rfl (by kernel_rfl) (fun _ _ _ h => h) (Or.inl ⟨by rfl, ?_⟩) hHeld ?_ ?_
            rotate_left
            · rintro w' ⟨s0, s1, s2⟩
              go_simp
              with_reducible rfl
            rotate_left
            · simp only [Act.put, List.setIfInBounds_toArray, List.set_cons_zero, List.set_cons_succ, i64_w, i32_w]
              rfl
            refine pure_ (i := 8) (N := some 111) (v := ?_) (a' := ?_) #[true, true, true, true, true, true, true, true, true, false, false, false, false, false, false, false, false, false, false, false, false, false, false] rfl rfl (by kernel_rfl) (fun _ _ _ h => h) (Or.inl ⟨by rfl, ?_⟩) ?_ ?_
            rotate_left
            · intro w'
              go_simp
              with_reducible rfl
            rotate_left
            · simp only [Act.put, List.setIfInBounds_toArray, List.set_cons_zero, List.set_cons_succ, i64_w, i32_w]
              rfl
            refine pure_ (i := 9) (N := some 112) (v := ?_) (a' := ?_) #[true, true, true, true, true, true, true, true, true, true, false, false, false, false, false, false, false, false, false, false, false, false, false] rfl rfl (by kernel_rfl) (fun _ _ _ h => h) (Or.inl ⟨by rfl, ?_⟩) ?_ ?_
            rotate_left
            · intro w'
              go_simp
              with_reducible rfl
            rotate_left
            · simp only [Act.put, List.setIfInBounds_toArray, List.set_cons_zero, List.set_cons_succ, i64_w, i32_w]
              rfl
            refine pure_ (i := 10) (N := some 113) (v := ?_) (a' := ?_) #[true, true, true, true, true, true, true, true, true, true, true, false, false, false, false, false, false, false, false, false, false, false, false] rfl rfl (by kernel_rfl) (fun _ _ _ h => h) (Or.inl ⟨by rfl, ?_⟩) ?_ ?_
            rotate_left
            · intro w'
              go_simp
              with_reducible rfl
            rotate_left
            · simp only [Act.put, List.setIfInBounds_toArray, List.set_cons_zero, List.set_cons_succ, i64_w, i32_w]
              rfl
            refine pure_ (i := 11) (N := some 114) (v := ?_) (a' := ?_) #[true, true, true, true, true, true, true, true, true, true, true, true, false, false, false, false, false, false, false, false, false, false, false] rfl rfl (by kernel_rfl) (fun _ _ _ h => h) (Or.inl ⟨by rfl, ?_⟩) ?_ ?_
            rotate_left
            · intro w'
              go_simp
              with_reducible rfl
            rotate_left
            · simp only [Act.put, List.setIfInBounds_toArray, List.set_cons_zero, List.set_cons_succ, i64_w, i32_w]
              rfl
            refine pure_ (i := 12) (N := some 115) (v := ?_) (a' := ?_) #[true, true, true, true, true, true, true, true, true, true, true, true, true, false, false, false, false, false, false, false, false, false, false] rfl rfl (by kernel_rfl) (fun _ _ _ h => h) (Or.inl ⟨by rfl, ?_⟩) ?_ ?_
            rotate_left
            · intro w'
              go_simp
              with_reducible rfl
            rotate_left
            · simp only [Act.put, List.setIfInBounds_toArray, List.set_cons_zero, List.set_cons_succ, i64_w, i32_w]
              rfl
            refine take_ (i := 13) (N := some 116) (v := ?_) (a' := ?_) #[true, true, true, true, true, true, true, true, true, true, true, true, true, true, false, false, false, false, false, false, false, false, false] rfl rfl (by kernel_rfl) (fun _ _ _ h => h) (Or.inl ⟨by rfl, ?_⟩) hHeld ?_ ?_
            rotate_left
            · rintro w' ⟨s0, s1, s2⟩
              go_simp
              with_reducible rfl
            rotate_left
            · simp only [Act.put, List.setIfInBounds_toArray, List.set_cons_zero, List.set_cons_succ, i64_w, i32_w]
              rfl
            refine pure_ (i := 14) (N := some 117) (v := ?_) (a' := ?_) #[true, true, true, true, true, true, true, true, true, true, true, true, true, true, true, false, false, false, false, false, false, false, false] rfl rfl (by kernel_rfl) (fun _ _ _ h => h) (Or.inl ⟨by rfl, ?_⟩) ?_ ?_
            rotate_left
            · intro w'
              go_simp
              with_reducible rfl
            rotate_left
            · simp only [Act.put, List.setIfInBounds_toArray, List.set_cons_zero, List.set_cons_succ, i64_w, i32_w]
              rfl
            refine pure_ (i := 15) (N := some 118) (v := ?_) (a' := ?_) #[true, true, true, true, true, true, true, true, true, true, true, true, true, true, true, true, false, false, false, false, false, false, false] rfl rfl (by kernel_rfl) (fun _ _ _ h => h) (Or.inl ⟨by rfl, ?_⟩) ?_ ?_
            rotate_left
            · intro w'
              go_simp
              with_reducible rfl
            rotate_left
            · simp only [Act.put, List.setIfInBounds_toArray, List.set_cons_zero, List.set_cons_succ, i64_w, i32_w]
              rfl
            refine pure_ (i := 16) (N := some 119) (v := ?_) (a' := ?_) #[true, true, true, true, true, true, true, true, true, true, true, true, true, true, true, true, true, false, false, false, false, false, false] rfl rfl (by kernel_rfl) (fun _ _ _ h => h) (Or.inl ⟨by rfl, ?_⟩) ?_ ?_
            rotate_left
            · intro w'
              go_simp
              with_reducible rfl
            rotate_left
            · simp only [Act.put, List.setIfInBounds_toArray, List.set_cons_zero, List.set_cons_succ, i64_w, i32_w]
              rfl
            refine pure_ (i := 17) (N := some 120) (v := ?_) (a' := ?_) #[true, true, true, true, true, true, true, true, true, true, true, true, true, true, true, true, true, true, false, false, false, false, false] rfl rfl (by kernel_rfl) (fun _ _ _ h => h) (Or.inl ⟨by rfl, ?_⟩) ?_ ?_
            rotate_left
            · intro w'
              go_simp
              with_reducible rfl
            rotate_left
            · simp only [Act.put, List.setIfInBounds_toArray, List.set_cons_zero, List.set_cons_succ, i64_w, i32_w]
              rfl
            refine pure_ (i := 19) (N := some 122) (v := ?_) (a' := ?_) #[true, true, true, true, true, true, true, true, true, true, true, true, true, true, true, true, true, true, false, true, false, false, false] rfl rfl (by kernel_rfl) (fun _ _ _ h => h) (Or.inl ⟨by rfl, ?_⟩) ?_ ?_
            rotate_left
            · intro w'
              go_simp
              with_reducible rfl
            rotate_left
            · simp only [Act.put, List.setIfInBounds_toArray, List.set_cons_zero, List.set_cons_succ, i64_w, i32_w]
              rfl
            refine one_ (i := 18) (N := some 121) #[true, true, true, true, true, true, true, true, true, true, true, true, true, true, true, true, true, true, true, true, false, false, false] rfl rfl (by kernel_rfl) (by decide) (fun K hK => ?_)
            refine goes_ Try.func16 (by kernel_rfl) rfl #[.pointer (some ⟨b, 0, none⟩), .int .i64 jb] (by rfl) rfl rfl (by (try simp only [List.map_toArray, List.map_cons, List.map_nil]); first | done | rfl) ?_
            refine (E8.out _ _ (by exact M7.out.move rfl rfl)).mono ?_
            rintro e w8 ⟨rfl, hm, hkp⟩
            refine ⟨_, rfl, ?_⟩
            obtain ⟨f8, M8⟩ : ∃ f_, Aside0 (Mem w8 b g (cased ws iA o4 o5) ((l0.length : Int) + 1 + 1 + 1 + 1 + 1) f_) := (by obtain ⟨f2, hm2⟩ := hm; exact ⟨f2, ⟨hm2⟩⟩)
            have hkq : Keep2 w7 w8 b g := hkp
            have O8 := Aside0.mk (Keep2.row hkq O7.out NB.out.1 NB.out.2.1)
            have R8 := Aside0.mk (Keep2.row hkq R7.out NB.out.2.2.1 NB.out.2.2.2.1)
            have B8 := Aside0.mk (B7.out.trans (hkq.below NB.out.2.2.2.2.1 NB.out.2.2.2.2.2 B7.out.size))
            obtain ⟨x1_8, x3_8, x4_8, x5_8⟩ := obox O8.out
            have y_8 := (blk_cell R8.out iA).trans CX.out
            clear hm hkp hkq
            refine hK.out _ _ ⟨x1_8, x4_8, y_8⟩ (fun hHeld => ?_)
            clear hK K
            refine norm_ (a' := ?_) ?_ ?_
            rotate_left
            · show Act.put _ (some 121) _ = _
              simp only [Act.put, List.setIfInBounds_toArray, List.set_cons_zero, List.set_cons_succ, i64_w, i32_w]
              rfl
            refine pure_ (i := 20) (N := some 123) (v := ?_) (a' := ?_) #[true, true, true, true, true, true, true, true, true, true, true, true, true, true, true, true, true, true, true, true, true, false, false] rfl rfl (by kernel_rfl) (fun _ _ _ h => h) (Or.inl ⟨by rfl, ?_⟩) ?_ ?_
            rotate_left
            · intro w'
              go_simp
              with_reducible rfl
            rotate_left
            · simp only [Act.put, List.setIfInBounds_toArray, List.set_cons_zero, List.set_cons_succ, i64_w, i32_w]
              rfl
            refine pure_ (i := 21) (N := some 124) (v := ?_) (a' := ?_) #[true, true, true, true, true, true, true, true, true, true, true, true, true, true, true, true, true, true, true, true, true, true, false] rfl rfl (by kernel_rfl) (fun _ _ _ h => h) (Or.inl ⟨by rfl, ?_⟩) ?_ ?_
            rotate_left
            · intro w'
              go_simp
              with_reducible rfl
            rotate_left
            · simp only [Act.put, List.setIfInBounds_toArray, List.set_cons_zero, List.set_cons_succ, i64_w, i32_w]
              rfl
            refine pure_ (i := 22) (N := some 125) (v := ?_) (a' := ?_) #[true, true, true, true, true, true, true, true, true, true, true, true, true, true, true, true, true, true, true, true, true, true, true] rfl rfl (by kernel_rfl) (fun _ _ _ h => h) (Or.inl ⟨by rfl, ?_⟩) ?_ ?_
            rotate_left
            · intro w'
              go_simp
              with_reducible rfl
            rotate_left
            · simp only [Act.put, List.setIfInBounds_toArray, List.set_cons_zero, List.set_cons_succ, i64_w, i32_w]
              rfl
            refine done_ (by kernel_rfl) ?_
            go_wp2_with fail
            go_meet
            case rel => exact ⟨rfl, ⟨_, _, ⟨by omega, by omega⟩, M8⟩, O8, R8, B8⟩
        case rest =>
          rename World => w8
          clear M6 O6 R6 B6 x1_6 x3_6 x4_6 x5_6 y_6 D7 D8
          obtain ⟨rfl, ⟨acc8, f8, ⟨ha1, ha2⟩, M8⟩, O8, R8, B8⟩ := hcut
          have HA := Aside0.mk (show 0 ≤ acc8 ∧ acc8 ≤ 80 from ⟨ha1, ha2⟩)
          clear ha1 ha2
          obtain ⟨x1_8, x3_8, x4_8, x5_8⟩ := obox O8.out
          have y_8 := (blk_cell R8.out iA).trans CX.out
          have D9 : Aside0 (x = o4) → Aside0 (¬ o5 = o4) → Aside0 (∀ (W : World) (f_ : Bool), Mem W b g (cased ws iA o4 o5) (acc8) f_ → Calls Try.prog 20 #[.pointer (some ⟨b, 0, none⟩), .int .i64 iA, .int .u64 o4, .int .u64 o5] W fun e w' => e = .returned (.bool false) ∧ (∃ f2, Mem w' b g (cased (cased ws iA o4 o5) iA o4 o5) (acc8 + 1) f2) ∧ Keep2 W w' b g) := fun HQ HN => Aside0.mk (by
            intro W f_ hW
            have C := cas_calls W b g (cased ws iA o4 o5) acc8 f_ iA o4 o5 hW HA.out.1 (by have := HA.out; omega)
            rw [cas_again HI.out (HX.out.symm.trans HQ.out) HN.out] at C
            exact C.mono fun e w' ⟨h1, h2, h3⟩ => ⟨h1, ⟨_, h2⟩, h3⟩)
          go_upto_region 17 with fail
          go_cut [143] (fun v143 w10 => v143 = .bool false ∧ (∃ (WS : List Int) (acc : Int) (f_ : Bool), WS.length = 40 ∧ (0 ≤ acc ∧ acc ≤ 90) ∧ Aside0 (Mem w10 b g WS acc f_)) ∧ Aside0 (w10.heap[w.heap.size]? = some (.cells #[.int .i64 o0, .int .i64 (iA : Int), .int .i64 o2, .int .u64 o3, .int .u64 o4, .int .u64 o5] 34 (0, 0))) ∧ Aside0 (w10.heap[g3]? = some (.cells cur3 29 (0, 0))) ∧ Aside0 (Below w.heap.size w w10))
          case first =>
            cases d with
            | false =>
              go_wp2_with fail
              go_meet
              case rel => exact ⟨rfl, ⟨_, _, _, (cased_len _ _ _ _).trans W40.out, ⟨HA.out.1, by have := HA.out; omega⟩, M8⟩, O8, R8, B8⟩
            | true =>
              have hq : x = o4 := of_decide_eq_true HD.out
              by_cases hn : o5 = o4
              · go_wp2_with fail
                go_meet
                case rel => exact ⟨rfl, ⟨_, _, _, (cased_len _ _ _ _).trans W40.out, ⟨HA.out.1, by have := HA.out; omega⟩, M8⟩, O8, R8, B8⟩
              · have E9 := D9 ⟨hq⟩ ⟨hn⟩
                have HN2 := Aside0.mk hq
                have qn0 : (o5 == o4) = false := beq_eq_false_iff_ne.mpr hn
                have qn1 : (o5 != o4) = true := bne_iff_ne.mpr hn
                have qn2 : decide (o5 = o4) = false := decide_eq_false hn
                clear D9 hq hd HD hn
                go_wp2_with fail
                refine (E9.out _ _ (by exact M8.out)).mono ?_
                rintro e w9 ⟨rfl, hm, hkp⟩
                obtain ⟨f9, M9⟩ : ∃ f_, Aside0 (Mem w9 b g (cased (cased ws iA o4 o5) iA o4 o5) (acc8 + 1) f_) := (by obtain ⟨f2, hm2⟩ := hm; exact ⟨f2, ⟨hm2⟩⟩)
                have hkq : Keep2 w8 w9 b g := hkp
                have O9 := Aside0.mk (Keep2.row hkq O8.out NB.out.1 NB.out.2.1)
                have R9 := Aside0.mk (Keep2.row hkq R8.out NB.out.2.2.1 NB.out.2.2.2.1)
                have B9 := Aside0.mk (B8.out.trans (hkq.below NB.out.2.2.2.2.1 NB.out.2.2.2.2.2 B8.out.size))
                obtain ⟨x1_9, x3_9, x4_9, x5_9⟩ := obox O9.out
                have y_9 := (blk_cell R9.out iA).trans CX.out
                clear hm hkp hkq
                go_wp2_with fail
                go_meet
                case rel => exact ⟨rfl, ⟨_, _, _, (cased_len _ _ _ _).trans ((cased_len _ _ _ _).trans W40.out), ⟨by have := HA.out; omega, by have := HA.out; omega⟩, M9⟩, O9, R9, B9⟩
          case rest =>
            rename World => w10
            clear M8 O8 R8 B8 x1_8 x3_8 x4_8 x5_8 y_8 D9 hd HD HX HY HJ
            obtain ⟨rfl, ⟨WS, acc9, f10, hWS, ⟨ha1, ha2⟩, M10⟩, O10, R10, B10⟩ := hcut
            have HA2 := Aside0.mk (show 0 ≤ acc9 ∧ acc9 ≤ 90 from ⟨ha1, ha2⟩)
            have HL := Aside0.mk (show iA < WS.length by omega)
            clear ha1 ha2 hWS
            obtain ⟨x1_10, x3_10, x4_10, x5_10⟩ := obox O10.out
            have y_10 := (blk_cell R10.out iA).trans CX.out
            have E11 : Aside0 (∀ (W : World) (f_ : Bool), Mem W b g WS (acc9) f_ → Calls Try.prog 21 #[.pointer (some ⟨b, 0, none⟩), .int .i64 iA, .int .u64 o3] W fun e w' => e = .returned (.tuple #[]) ∧ (∃ f2, Mem w' b g (turned WS iA (fun _ => o3)) (acc9 + 1) f2) ∧ Keep2 W w' b g) := Aside0.mk (by
              intro W f_ hW
              have C := store_calls W b g WS acc9 f_ iA o3 hW HA2.out.1 (by have := HA2.out; omega)
              exact C.mono fun e w' ⟨h1, h2, h3⟩ => ⟨h1, ⟨_, h2⟩, h3⟩)
            have E12 : Aside0 (∀ (W : World) (f_ : Bool), Mem W b g (turned WS iA (fun _ => o3)) (acc9 + 1) f_ → Calls Try.prog 16 #[.pointer (some ⟨b, 0, none⟩), .int .i64 iA] W fun e w' => e = .returned (.int .u64 o3) ∧ (∃ f2, Mem w' b g (turned WS iA (fun _ => o3)) (acc9 + 1 + 1) f2) ∧ Keep2 W w' b g) := Aside0.mk (by
              intro W f_ hW
              have C := load_calls W b g (turned WS iA (fun _ => o3)) (acc9 + 1) f_ iA hW (by have := HA2.out; omega) (by have := HA2.out; omega)
              rw [word_turned HL.out, turned_id] at C
              exact C.mono fun e w' ⟨h1, h2, h3⟩ => ⟨h1, ⟨_, h2⟩, h3⟩)
            have E13 : Aside0 (∀ (W : World) (f_ : Bool), Mem W b g (turned WS iA (fun _ => o3)) (acc9 + 1 + 1) f_ → Calls Try.prog 22 #[.pointer (some ⟨b, 0, none⟩), .int .i64 iA, .int .u64 1] W fun e w' => e = .returned (.int .u64 o3) ∧ (∃ f2, Mem w' b g (turned (turned WS iA (fun _ => o3)) iA (fun v => IntKind.u64.wrap (v + 1))) (acc9 + 1 + 1 + 1) f2) ∧ Keep2 W w' b g) := Aside0.mk (by
              intro W f_ hW
              have C := add_calls W b g (turned WS iA (fun _ => o3)) (acc9 + 1 + 1) f_ iA 1 hW (by have := HA2.out; omega) (by have := HA2.out; omega)
              rw [word_turned HL.out] at C
              exact C.mono fun e w' ⟨h1, h2, h3⟩ => ⟨h1, ⟨_, h2⟩, h3⟩)
            have E14 : Aside0 (∀ (W : World) (f_ : Bool), Mem W b g (turned (turned WS iA (fun _ => o3)) iA (fun v => IntKind.u64.wrap (v + 1))) (acc9 + 1 + 1 + 1) f_ → Calls Try.prog 16 #[.pointer (some ⟨b, 0, none⟩), .int .i64 iA] W fun e w' => e = .returned (.int .u64 (IntKind.u64.wrap (o3 + 1))) ∧ (∃ f2, Mem w' b g (turned (turned WS iA (fun _ => o3)) iA (fun v => IntKind.u64.wrap (v + 1))) (acc9 + 1 + 1 + 1 + 1) f2) ∧ Keep2 W w' b g) := Aside0.mk (by
              intro W f_ hW
              have C := load_calls W b g (turned (turned WS iA (fun _ => o3)) iA (fun v => IntKind.u64.wrap (v + 1))) (acc9 + 1 + 1 + 1) f_ iA hW (by have := HA2.out; omega) (by have := HA2.out; omega)
              rw [word_turned2 HL.out, turned_id] at C
              exact C.mono fun e w' ⟨h1, h2, h3⟩ => ⟨h1, ⟨_, h2⟩, h3⟩)
            go_wp2_with fail
            refine (E11.out _ _ (by exact M10.out)).mono ?_
            rintro e w11 ⟨rfl, hm, hkp⟩
            obtain ⟨f11, M11⟩ : ∃ f_, Aside0 (Mem w11 b g (turned WS iA (fun _ => o3)) (acc9 + 1) f_) := (by obtain ⟨f2, hm2⟩ := hm; exact ⟨f2, ⟨hm2⟩⟩)
            have hkq : Keep2 w10 w11 b g := hkp
            have O11 := Aside0.mk (Keep2.row hkq O10.out NB.out.1 NB.out.2.1)
            have R11 := Aside0.mk (Keep2.row hkq R10.out NB.out.2.2.1 NB.out.2.2.2.1)
            have B11 := Aside0.mk (B10.out.trans (hkq.below NB.out.2.2.2.2.1 NB.out.2.2.2.2.2 B10.out.size))
            obtain ⟨x1_11, x3_11, x4_11, x5_11⟩ := obox O11.out
            have y_11 := (blk_cell R11.out iA).trans CX.out
            clear hm hkp hkq
            clear x1_10 x3_10 x4_10 x5_10 y_10
            go_upto_region 20 with fail
            refine start_ (n := 30) (S := fun w' => w'.cell? ⟨w.heap.size, 1, none⟩ = some (.int .i64 (iA : Int)) ∧ w'.cell? ⟨w.heap.size, 3, none⟩ = some (.int .u64 o3)) (ds := []) #[false, false, false, false, false, false, false, false, false, false, false, false, false, false, false, false, false, false, false, false, false, false, false, false, false, false, false, false, false, false] mixed rfl rfl ⟨x1_11, x3_11⟩ (fun hHeld => ?_)
            refine pure_ (i := 0) (N := some 150) (v := ?_) (a' := ?_) #[true, false, false, false, false, false, false, false, false, false, false, false, false, false, false, false, false, false, false, false, false, false, false, false, false, false, false, false, false, false] rfl rfl (by kernel_rfl) (fun _ _ _ h => h) (Or.inl ⟨by rfl, ?_⟩) ?_ ?_
            rotate_left
            · intro w'
              go_simp
              with_reducible rfl
            rotate_left
            · simp only [Act.put, List.setIfInBounds_toArray, List.set_cons_zero, List.set_cons_succ, i64_w, i32_w]
              rfl
            refine pure_ (i := 1) (N := some 151) (v := ?_) (a' := ?_) #[true, true, false, false, false, false, false, false, false, false, false, false, false, false, false, false, false, false, false, false, false, false, false, false, false, false, false, false, false, false] rfl rfl (by kernel_rfl) (fun _ _ _ h => h) (Or.inl ⟨by rfl, ?_⟩) ?_ ?_
            rotate_left
            · intro w'
              go_simp
              with_reducible rfl
            rotate_left
            · simp only [Act.put, List.setIfInBounds_toArray, List.set_cons_zero, List.set_cons_succ, i64_w, i32_w]
              rfl
            refine pure_ (i := 4) (N := some 154) (v := ?_) (a' := ?_) #[true, true, false, false, true, false, false, false, false, false, false, false, false, false, false, false, false, false, false, false, false, false, false, false, false, false, false, false, false, false] rfl rfl (by kernel_rfl) (fun _ _ _ h => h) (Or.inl ⟨by rfl, ?_⟩) ?_ ?_
            rotate_left
            · intro w'
              go_simp
              with_reducible rfl
            rotate_left
            · simp only [Act.put, List.setIfInBounds_toArray, List.set_cons_zero, List.set_cons_succ, i64_w, i32_w]
              rfl
            refine take_ (i := 2) (N := some 152) (v := ?_) (a' := ?_) #[true, true, true, false, true, false, false, false, false, false, false, false, false, false, false, false, false, false, false, false, false, false, false, false, false, false, false, false, false, false] rfl rfl (by kernel_rfl) (fun _ _ _ h => h) (Or.inl ⟨by rfl, ?_⟩) hHeld ?_ ?_
            rotate_left
            · rintro w' ⟨s0, s1⟩
              go_simp
              with_reducible rfl
            rotate_left
            · simp only [Act.put, List.setIfInBounds_toArray, List.set_cons_zero, List.set_cons_succ, i64_w, i32_w]
              rfl
            refine take_ (i := 5) (N := some 155) (v := ?_) (a' := ?_) #[true, true, true, false, true, true, false, false, false, false, false, false, false, false, false, false, false, false, false, false, false, false, false, false, false, false, false, false, false, false] rfl rfl (by kernel_rfl) (fun _ _ _ h => h) (Or.inl ⟨by rfl, ?_⟩) hHeld ?_ ?_
            rotate_left
            · rintro w' ⟨s0, s1⟩
              go_simp
              with_reducible rfl
            rotate_left
            · simp only [Act.put, List.setIfInBounds_toArray, List.set_cons_zero, List.set_cons_succ, i64_w, i32_w]
              rfl
            refine one_ (i := 3) (N := some 153) #[true, true, true, true, true, true, false, false, false, false, false, false, false, false, false, false, false, false, false, false, false, false, false, false, false, false, false, false, false, false] rfl rfl (by kernel_rfl) (by decide) (fun K hK => ?_)
            refine goes_ Try.func16 (by kernel_rfl) rfl #[.pointer (some ⟨b, 0, none⟩), .int .i64 iA] (by rfl) rfl rfl (by (try simp only [List.map_toArray, List.map_cons, List.map_nil]); first | done | rfl) ?_
            refine (E12.out _ _ (by exact M11.out.move rfl rfl)).mono ?_
            rintro e w12 ⟨rfl, hm, hkp⟩
            refine ⟨_, rfl, ?_⟩
            obtain ⟨f12, M12⟩ : ∃ f_, Aside0 (Mem w12 b g (turned WS iA (fun _ => o3)) (acc9 + 1 + 1) f_) := (by obtain ⟨f2, hm2⟩ := hm; exact ⟨f2, ⟨hm2⟩⟩)
            have hkq : Keep2 w11 w12 b g := hkp
            have O12 := Aside0.mk (Keep2.row hkq O11.out NB.out.1 NB.out.2.1)
            have R12 := Aside0.mk (Keep2.row hkq R11.out NB.out.2.2.1 NB.out.2.2.2.1)
            have B12 := Aside0.mk (B11.out.trans (hkq.below NB.out.2.2.2.2.1 NB.out.2.2.2.2.2 B11.out.size))
            obtain ⟨x1_12, x3_12, x4_12, x5_12⟩ := obox O12.out
            have y_12 := (blk_cell R12.out iA).trans CX.out
            clear hm hkp hkq
            refine hK.out _ _ ⟨x1_12, x3_12⟩ (fun hHeld => ?_)
            clear hK K
            refine norm_ (a' := ?_) ?_ ?_
            rotate_left
            · show Act.put _ (some 153) _ = _
              simp only [Act.put, List.setIfInBounds_toArray, List.set_cons_zero, List.set_cons_succ, i64_w, i32_w]
              rfl
            refine pure_ (i := 6) (N := some 156) (v := ?_) (a' := ?_) #[true, true, true, true, true, true, true, false, false, false, false, false, false, false, false, false, false, false, false, false, false, false, false, false, false, false, false, false, false, false] rfl rfl (by kernel_rfl) (fun _ _ _ h => h) (Or.inl ⟨by rfl, ?_⟩) ?_ ?_
            rotate_left
            · intro w'
              go_simp
              with_reducible rfl
            rotate_left
            · simp only [Act.put, List.setIfInBounds_toArray, List.set_cons_zero, List.set_cons_succ, i64_w, i32_w]
              rfl
            refine pure_ (i := 7) (N := some 157) (v := ?_) (a' := ?_) #[true, true, true, true, true, true, true, true, false, false, false, false, false, false, false, false, false, false, false, false, false, false, false, false, false, false, false, false, false, false] rfl rfl (by kernel_rfl) (fun _ _ _ h => h) (Or.inl ⟨by rfl, ?_⟩) ?_ ?_
            rotate_left
            · intro w'
              go_simp
              with_reducible rfl
            rotate_left
            · simp only [Act.put, List.setIfInBounds_toArray, List.set_cons_zero, List.set_cons_succ, i64_w, i32_w]
              rfl
            refine pure_ (i := 8) (N := some 158) (v := ?_) (a' := ?_) #[true, true, true, true, true, true, true, true, true, false, false, false, false, false, false, false, false, false, false, false, false, false, false, false, false, false, false, false, false, false] rfl rfl (by kernel_rfl) (fun _ _ _ h => h) (Or.inl ⟨by rfl, ?_⟩) ?_ ?_
            rotate_left
            · intro w'
              go_simp
              with_reducible rfl
            rotate_left
            · simp only [Act.put, List.setIfInBounds_toArray, List.set_cons_zero, List.set_cons_succ, i64_w, i32_w]
              rfl
            refine pure_ (i := 9) (N := some 159) (v := ?_) (a' := ?_) #[true, true, true, true, true, true, true, true, true, true, false, false, false, false, false, false, false, false, false, false, false, false, false, false, false, false, false, false, false, false] rfl rfl (by kernel_rfl) (fun _ _ _ h => h) (Or.inl ⟨by rfl, ?_⟩) ?_ ?_
            rotate_left
            · intro w'
              go_simp
              with_reducible rfl
            rotate_left
            · simp only [Act.put, List.setIfInBounds_toArray, List.set_cons_zero, List.set_cons_succ, i64_w, i32_w]
              rfl
            refine pure_ (i := 12) (N := some 162) (v := ?_) (a' := ?_) #[true, true, true, true, true, true, true, true, true, true, false, false, true, false, false, false, false, false, false, false, false, false, false, false, false, false, false, false, false, false] rfl rfl (by kernel_rfl) (fun _ _ _ h => h) (Or.inl ⟨by rfl, ?_⟩) ?_ ?_
            rotate_left
            · intro w'
              go_simp
              with_reducible rfl
            rotate_left
            · simp only [Act.put, List.setIfInBounds_toArray, List.set_cons_zero, List.set_cons_succ, i64_w, i32_w]
              rfl
            refine take_ (i := 10) (N := some 160) (v := ?_) (a' := ?_) #[true, true, true, true, true, true, true, true, true, true, true, false, true, false, false, false, false, false, false, false, false, false, false, false, false, false, false, false, false, false] rfl rfl (by kernel_rfl) (fun _ _ _ h => h) (Or.inl ⟨by rfl, ?_⟩) hHeld ?_ ?_
            rotate_left
            · rintro w' ⟨s0, s1⟩
              go_simp
              with_reducible rfl
            rotate_left
            · simp only [Act.put, List.setIfInBounds_toArray, List.set_cons_zero, List.set_cons_succ, i64_w, i32_w]
              rfl
            refine take_ (i := 13) (N := some 163) (v := ?_) (a' := ?_) #[true, true, true, true, true, true, true, true, true, true, true, false, true, true, false, false, false, false, false, false, false, false, false, false, false, false, false, false, false, false] rfl rfl (by kernel_rfl) (fun _ _ _ h => h) (Or.inl ⟨by rfl, ?_⟩) hHeld ?_ ?_
            rotate_left
            · rintro w' ⟨s0, s1⟩
              go_simp
              with_reducible rfl
            rotate_left
            · simp only [Act.put, List.setIfInBounds_toArray, List.set_cons_zero, List.set_cons_succ, i64_w, i32_w]
              rfl
            refine one_ (i := 11) (N := some 161) #[true, true, true, true, true, true, true, true, true, true, true, true, true, true, false, false, false, false, false, false, false, false, false, false, false, false, false, false, false, false] rfl rfl (by kernel_rfl) (by decide) (fun K hK => ?_)
            refine goes_ Try.func22 (by kernel_rfl) rfl #[.pointer (some ⟨b, 0, none⟩), .int .i64 iA, .int .u64 1] (by rfl) rfl rfl (by (try simp only [List.map_toArray, List.map_cons, List.map_nil]); first | done | rfl) ?_
            refine (E13.out _ _ (by exact M12.out.move rfl rfl)).mono ?_
            rintro e w13 ⟨rfl, hm, hkp⟩
            refine ⟨_, rfl, ?_⟩
            obtain ⟨f13, M13⟩ : ∃ f_, Aside0 (Mem w13 b g (turned (turned WS iA (fun _ => o3)) iA (fun v => IntKind.u64.wrap (v + 1))) (acc9 + 1 + 1 + 1) f_) := (by obtain ⟨f2, hm2⟩ := hm; exact ⟨f2, ⟨hm2⟩⟩)
            have hkq : Keep2 w12 w13 b g := hkp
            have O13 := Aside0.mk (Keep2.row hkq O12.out NB.out.1 NB.out.2.1)
            have R13 := Aside0.mk (Keep2.row hkq R12.out NB.out.2.2.1 NB.out.2.2.2.1)
            have B13 := Aside0.mk (B12.out.trans (hkq.below NB.out.2.2.2.2.1 NB.out.2.2.2.2.2 B12.out.size))
            obtain ⟨x1_13, x3_13, x4_13, x5_13⟩ := obox O13.out
            have y_13 := (blk_cell R13.out iA).trans CX.out
            clear hm hkp hkq
            refine hK.out _ _ ⟨x1_13, x3_13⟩ (fun hHeld => ?_)
            clear hK K
            refine norm_ (a' := ?_) ?_ ?_
            rotate_left
            · show Act.put _ (some 161) _ = _
              simp only [Act.put, List.setIfInBounds_toArray, List.set_cons_zero, List.set_cons_succ, i64_w, i32_w]
              rfl
            refine pure_ (i := 14) (N := some 164) (v := ?_) (a' := ?_) #[true, true, true, true, true, true, true, true, true, true, true, true, true, true, true, false, false, false, false, false, false, false, false, false, false, false, false, false, false, false] rfl rfl (by kernel_rfl) (fun _ _ _ h => h) (Or.inl ⟨by rfl, ?_⟩) ?_ ?_
            rotate_left
            · intro w'
              go_simp
              with_reducible rfl
            rotate_left
            · simp only [Act.put, List.setIfInBounds_toArray, List.set_cons_zero, List.set_cons_succ, i64_w, i32_w]
              rfl
            refine pure_ (i := 15) (N := some 165) (v := ?_) (a' := ?_) #[true, true, true, true, true, true, true, true, true, true, true, true, true, true, true, true, false, false, false, false, false, false, false, false, false, false, false, false, false, false] rfl rfl (by kernel_rfl) (fun _ _ _ h => h) (Or.inl ⟨by rfl, ?_⟩) ?_ ?_
            rotate_left
            · intro w'
              go_simp
              with_reducible rfl
            rotate_left
            · simp only [Act.put, List.setIfInBounds_toArray, List.set_cons_zero, List.set_cons_succ, i64_w, i32_w]
              rfl
            refine pure_ (i := 16) (N := some 166) (v := ?_) (a' := ?_) #[true, true, true, true, true, true, true, true, true, true, true, true, true, true, true, true, true, false, false, false, false, false, false, false, false, false, false, false, false, false] rfl rfl (by kernel_rfl) (fun _ _ _ h => h) (Or.inl ⟨by rfl, ?_⟩) ?_ ?_
            rotate_left
            · intro w'
              go_simp
              with_reducible rfl
            rotate_left
            · simp only [Act.put, List.setIfInBounds_toArray, List.set_cons_zero, List.set_cons_succ, i64_w, i32_w]
              rfl
            refine pure_ (i := 17) (N := some 167) (v := ?_) (a' := ?_) #[true, true, true, true, true, true, true, true, true, true, true, true, true, true, true, true, true, true, false, false, false, false, false, false, false, false, false, false, false, false] rfl rfl (by kernel_rfl) (fun _ _ _ h => h) (Or.inl ⟨by rfl, ?_⟩) ?_ ?_
            rotate_left
            · intro w'
              go_simp
              with_reducible rfl
            rotate_left
            · simp only [Act.put, List.setIfInBounds_toArray, List.set_cons_zero, List.set_cons_succ, i64_w, i32_w]
              rfl
            refine pure_ (i := 18) (N := some 168) (v := ?_) (a' := ?_) #[true, true, true, true, true, true, true, true, true, true, true, true, true, true, true, true, true, true, true, false, false, false, false, false, false, false, false, false, false, false] rfl rfl (by kernel_rfl) (fun _ _ _ h => h) (Or.inl ⟨by rfl, ?_⟩) ?_ ?_
            rotate_left
            · intro w'
              go_simp
              with_reducible rfl
            rotate_left
            · simp only [Act.put, List.setIfInBounds_toArray, List.set_cons_zero, List.set_cons_succ, i64_w, i32_w]
              rfl
            refine pure_ (i := 21) (N := some 171) (v := ?_) (a' := ?_) #[true, true, true, true, true, true, true, true, true, true, true, true, true, true, true, true, true, true, true, false, false, true, false, false, false, false, false, false, false, false] rfl rfl (by kernel_rfl) (fun _ _ _ h => h) (Or.inl ⟨by rfl, ?_⟩) ?_ ?_
            rotate_left
            · intro w'
              go_simp
              with_reducible rfl
            rotate_left
            · simp only [Act.put, List.setIfInBounds_toArray, List.set_cons_zero, List.set_cons_succ, i64_w, i32_w]
              rfl
            refine take_ (i := 19) (N := some 169) (v := ?_) (a' := ?_) #[true, true, true, true, true, true, true, true, true, true, true, true, true, true, true, true, true, true, true, true, false, true, false, false, false, false, false, false, false, false] rfl rfl (by kernel_rfl) (fun _ _ _ h => h) (Or.inl ⟨by rfl, ?_⟩) hHeld ?_ ?_
            rotate_left
            · rintro w' ⟨s0, s1⟩
              go_simp
              with_reducible rfl
            rotate_left
            · simp only [Act.put, List.setIfInBounds_toArray, List.set_cons_zero, List.set_cons_succ, i64_w, i32_w]
              rfl
            refine take_ (i := 22) (N := some 172) (v := ?_) (a' := ?_) #[true, true, true, true, true, true, true, true, true, true, true, true, true, true, true, true, true, true, true, true, false, true, true, false, false, false, false, false, false, false] rfl rfl (by kernel_rfl) (fun _ _ _ h => h) (Or.inl ⟨by rfl, ?_⟩) hHeld ?_ ?_
            rotate_left
            · rintro w' ⟨s0, s1⟩
              go_simp
              with_reducible rfl
            rotate_left
            · simp only [Act.put, List.setIfInBounds_toArray, List.set_cons_zero, List.set_cons_succ, i64_w, i32_w]
              rfl
            refine pure_ (i := 23) (N := some 173) (v := ?_) (a' := ?_) #[true, true, true, true, true, true, true, true, true, true, true, true, true, true, true, true, true, true, true, true, false, true, true, true, false, false, false, false, false, false] rfl rfl (by kernel_rfl) (fun _ _ _ h => h) (Or.inl ⟨by rfl, ?_⟩) ?_ ?_
            rotate_left
            · intro w'
              go_simp
              with_reducible rfl
            rotate_left
            · simp only [Act.put, List.setIfInBounds_toArray, List.set_cons_zero, List.set_cons_succ, i64_w, i32_w]
              rfl
            refine one_ (i := 20) (N := some 170) #[true, true, true, true, true, true, true, true, true, true, true, true, true, true, true, true, true, true, true, true, true, true, true, true, false, false, false, false, false, false] rfl rfl (by kernel_rfl) (by decide) (fun K hK => ?_)
            refine goes_ Try.func16 (by kernel_rfl) rfl #[.pointer (some ⟨b, 0, none⟩), .int .i64 iA] (by rfl) rfl rfl (by (try simp only [List.map_toArray, List.map_cons, List.map_nil]); first | done | rfl) ?_
            refine (E14.out _ _ (by exact M13.out.move rfl rfl)).mono ?_
            rintro e w14 ⟨rfl, hm, hkp⟩
            refine ⟨_, rfl, ?_⟩
            obtain ⟨f14, M14⟩ : ∃ f_, Aside0 (Mem w14 b g (turned (turned WS iA (fun _ => o3)) iA (fun v => IntKind.u64.wrap (v + 1))) (acc9 + 1 + 1 + 1 + 1) f_) := (by obtain ⟨f2, hm2⟩ := hm; exact ⟨f2, ⟨hm2⟩⟩)
            have hkq : Keep2 w13 w14 b g := hkp
            have O14 := Aside0.mk (Keep2.row hkq O13.out NB.out.1 NB.out.2.1)
            have R14 := Aside0.mk (Keep2.row hkq R13.out NB.out.2.2.1 NB.out.2.2.2.1)
            have B14 := Aside0.mk (B13.out.trans (hkq.below NB.out.2.2.2.2.1 NB.out.2.2.2.2.2 B13.out.size))
            obtain ⟨x1_14, x3_14, x4_14, x5_14⟩ := obox O14.out
            have y_14 := (blk_cell R14.out iA).trans CX.out
            clear hm hkp hkq
            refine hK.out _ _ ⟨x1_14, x3_14⟩ (fun hHeld => ?_)
            clear hK K
            refine norm_ (a' := ?_) ?_ ?_
            rotate_left
            · show Act.put _ (some 170) _ = _
              simp only [Act.put, List.setIfInBounds_toArray, List.set_cons_zero, List.set_cons_succ, i64_w, i32_w]
              rfl
            refine pure_ (i := 24) (N := some 174) (v := ?_) (a' := ?_) #[true, true, true, true, true, true, true, true, true, true, true, true, true, true, true, true, true, true, true, true, true, true, true, true, true, false, false, false, false, false] rfl rfl (by kernel_rfl) (fun _ _ _ h => h) (Or.inl ⟨by rfl, ?_⟩) ?_ ?_
            rotate_left
            · intro w'
              go_simp
              with_reducible rfl
            rotate_left
            · simp only [Act.put, List.setIfInBounds_toArray, List.set_cons_zero, List.set_cons_succ, i64_w, i32_w]
              rfl
            refine pure_ (i := 25) (N := some 175) (v := ?_) (a' := ?_) #[true, true, true, true, true, true, true, true, true, true, true, true, true, true, true, true, true, true, true, true, true, true, true, true, true, true, false, false, false, false] rfl rfl (by kernel_rfl) (fun _ _ _ h => h) (Or.inl ⟨by rfl, ?_⟩) ?_ ?_
            rotate_left
            · intro w'
              go_simp
              with_reducible rfl
            rotate_left
            · simp only [Act.put, List.setIfInBounds_toArray, List.set_cons_zero, List.set_cons_succ, i64_w, i32_w]
              rfl
            refine pure_ (i := 26) (N := some 176) (v := ?_) (a' := ?_) #[true, true, true, true, true, true, true, true, true, true, true, true, true, true, true, true, true, true, true, true, true, true, true, true, true, true, true, false, false, false] rfl rfl (by kernel_rfl) (fun _ _ _ h => h) (Or.inl ⟨by rfl, ?_⟩) ?_ ?_
            rotate_left
            · intro w'
              go_simp
              with_reducible rfl
            rotate_left
            · simp only [Act.put, List.setIfInBounds_toArray, List.set_cons_zero, List.set_cons_succ, i64_w, i32_w]
              rfl
            refine one_ (i := 27) (N := some 177) #[true, true, true, true, true, true, true, true, true, true, true, true, true, true, true, true, true, true, true, true, true, true, true, true, true, true, true, true, false, false] rfl rfl (by kernel_rfl) (by decide) (fun K hK => ?_)
            refine goes_ Try.func11 (by kernel_rfl) rfl #[] (by rfl) rfl rfl (by (try simp only [List.map_toArray, List.map_cons, List.map_nil]); first | done | rfl) ?_
            refine (lives_calls _).mono ?_
            rintro e w15 ⟨rfl, hb⟩
            refine ⟨_, rfl, ?_⟩
            have O15 := Aside0.mk (blk_below O14.out hb)
            have B15 := Aside0.mk (below_then B14.out B14.out.size hb)
            obtain ⟨x1_15, x3_15, x4_15, x5_15⟩ := obox O15.out
            clear hb
            refine hK.out _ _ ⟨x1_15, x3_15⟩ (fun hHeld => ?_)
            clear hK K
            refine norm_ (a' := ?_) ?_ ?_
            rotate_left
            · show Act.put _ (some 177) _ = _
              simp only [Act.put, List.setIfInBounds_toArray, List.set_cons_zero, List.set_cons_succ, i64_w, i32_w]
              rfl
            refine pure_ (i := 28) (N := some 178) (v := ?_) (a' := ?_) #[true, true, true, true, true, true, true, true, true, true, true, true, true, true, true, true, true, true, true, true, true, true, true, true, true, true, true, true, true, false] rfl rfl (by kernel_rfl) (fun _ _ _ h => h) (Or.inl ⟨by rfl, ?_⟩) ?_ ?_
            rotate_left
            · intro w'
              go_simp
              with_reducible rfl
            rotate_left
            · simp only [Act.put, List.setIfInBounds_toArray, List.set_cons_zero, List.set_cons_succ, i64_w, i32_w]
              rfl
            refine pure_ (i := 29) (N := some 6) (v := ?_) (a' := ?_) #[true, true, true, true, true, true, true, true, true, true, true, true, true, true, true, true, true, true, true, true, true, true, true, true, true, true, true, true, true, true] rfl rfl (by kernel_rfl) (fun _ _ _ h => h) (Or.inl ⟨by rfl, ?_⟩) ?_ ?_
            rotate_left
            · intro w'
              go_simp
              with_reducible rfl
            rotate_left
            · simp only [Act.put, List.setIfInBounds_toArray, List.set_cons_zero, List.set_cons_succ, i64_w, i32_w]
              rfl
            refine done_ (by kernel_rfl) ?_
            go_wp2
            go_ret
            exact ⟨rfl, B15.out⟩
set_option maxHeartbeats 8000000 in
set_option maxRecDepth 100000 in
theorem walk_out (l0 : List α) (A0 : Option Addr) (c0 : Nat) (o0 o1 o2 o3 o4 o5 a2 : Int) (w : World) (hlen : 60 < l0.length) :
    Calls Try.prog 4 #[.slice A0 l0.length c0, .agg #[.int .i64 o0, .int .i64 o1, .int .i64 o2, .int .u64 o3, .int .u64 o4, .int .u64 o5], .int .i64 a2] w fun e w' => e = .returned (.bool true) ∧ Below w.heap.size w w' := by
  have q60 : (60 : Int) < (l0.length : Int) := by omega
  go_enter Try.func4, Try.ntmps4
  go_wp2_with fail
  refine (new_calls 40 _ (by decide) (by decide)).mono ?_
  rintro e w1 ⟨b, g, rfl, hm, hb, hg, hbl⟩
  have B1 := Aside0.mk (below_then (below_alloc (Below.refl w.heap.size w) _) (Below.size (below_alloc (Below.refl w.heap.size w) _)) hbl)
  clear hm hb hg hbl
  go_wp2_with fail
  refine (lives_calls _).mono ?_
  rintro e w9 ⟨rfl, hb⟩
  have HB9 := Aside0.mk hb
  clear hb
  go_wp2
  all_goals go_ret
  all_goals exact ⟨rfl, below_then B1.out B1.out.size HB9.out⟩
include hk in
theorem walk (l0 : List α) (A0 : Option Addr) (c0 : Nat) (o0 o1 o2 o3 o4 o5 a2 : Int) (w : World) {p0 p1_0 p1_1 : Prop} (_ : p0) (_ : p1_0) (_ : p1_1) (hr0 : Kd.C kk w A0 l0.length l0) (hc0 : l0.length ≤ c0) :
    Calls Try.prog 4 #[.slice A0 l0.length c0, .agg #[.int .i64 o0, .int .i64 o1, .int .i64 o2, .int .u64 o3, .int .u64 o4, .int .u64 o5], .int .i64 a2] w fun e w' => e = .returned (.bool true) ∧ Below w.heap.size w w' := by
  by_cases h : 60 < l0.length
  · exact walk_out l0 A0 c0 o0 o1 o2 o3 o4 o5 a2 w h
  · exact walk_in kk op hk l0 A0 c0 o0 o1 o2 o3 o4 o5 a2 w (by omega) hr0 hc0
end Go.Proofs.Ytdmpfnnaefccnaa.MemLawHolds
