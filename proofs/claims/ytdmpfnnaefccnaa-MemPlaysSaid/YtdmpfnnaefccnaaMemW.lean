/- Memories of words: what each method of a memory tells and turns. -/
import Derived.Test.YtdmpfnnaefccnaaProg
import Derived.Test.YtdmpfnnaefccnaaWMore
import Derived.Test.YtdmpfnnaefccnaaNum
import Derived.Lib.SliceRun
import Derived.WalkKit
import Derived.Deep.LoopGhost
set_option linter.unusedVariables false
set_option linter.unusedSimpArgs false
namespace Go.Proofs.Ytdmpfnnaefccnaa.MemW
open Go Go.RowKit Go.Proofs.YtdmpfnnaefccnaaW.PrintWords
/-- A memory: its block b, its words' block g. -/
def Mem (w : World) (b g : Nat) (ws : List Int) (acc : Int) (f : Bool) : Prop :=
  b ≠ g ∧ ∃ c cur, w.heap[b]? = some (.cells #[.slice (some ⟨g, 0, none⟩) ws.length c, .int .i64 acc, .bool f] 74 (0, 0)) ∧ w.heap[g]? = some (.cells cur 29 (0, 0)) ∧ cur.size = c ∧ ws.length ≤ c ∧ c ≤ 9223372036854775807 ∧ ∀ i (h : i < ws.length), cur[i]? = some (.int .u64 ws[i])
theorem Mem.move {w w' : World} {b g : Nat} {ws : List Int} {acc : Int} {f : Bool} (h : Mem w b g ws acc f) (hb : w'.heap[b]? = w.heap[b]?) (hg : w'.heap[g]? = w.heap[g]?) : Mem w' b g ws acc f := by
  obtain ⟨h0, c, cur, h1, h2, h3⟩ := h
  exact ⟨h0, c, cur, hb.trans h1, hg.trans h2, h3⟩
theorem Mem.ltb {w : World} {b g : Nat} {ws : List Int} {acc : Int} {f : Bool} (h : Mem w b g ws acc f) : b < w.heap.size ∧ g < w.heap.size := by
  obtain ⟨h0, c, cur, h1, h2, h3⟩ := h
  exact ⟨(Array.getElem?_eq_some_iff.1 h1).1, (Array.getElem?_eq_some_iff.1 h2).1⟩
theorem Mem.alloc {w : World} {b g : Nat} {ws : List Int} {acc : Int} {f : Bool} (h : Mem w b g ws acc f) (o : Obj) : Mem (w.alloc o) b g ws acc f := by
  obtain ⟨h0, c, cur, h1, h2, h3⟩ := h
  exact ⟨h0, c, cur, blk_alloc h1 o, blk_alloc h2 o, h3⟩
theorem Mem.below {w w' : World} {b g : Nat} {ws : List Int} {acc : Int} {f : Bool} (h : Mem w b g ws acc f) (hb : Below w.heap.size w w') : Mem w' b g ws acc f := by
  obtain ⟨h0, c, cur, h1, h2, h3⟩ := h
  exact ⟨h0, c, cur, blk_below h1 hb, blk_below h2 hb, h3⟩
theorem Mem.facts {w : World} {b g : Nat} {ws : List Int} {acc : Int} {f : Bool} (h : Mem w b g ws acc f) : ∃ c, ws.length ≤ c ∧ c ≤ 9223372036854775807 ∧ w.cell? ⟨b, 0, none⟩ = some (.slice (some ⟨g, 0, none⟩) ws.length c) ∧ w.cell? ⟨b, 1, none⟩ = some (.int .i64 acc) ∧ w.cell? ⟨b, 2, none⟩ = some (.bool f) ∧ w.frozen? ⟨b, 1, none⟩ = false ∧ w.frozen? ⟨b, 2, none⟩ = false := by
  obtain ⟨h0, c, cur, h1, h2, h3, h4, h5, _⟩ := h
  exact ⟨c, h4, h5, (blk_cell h1 0).trans rfl, (blk_cell h1 1).trans rfl, (blk_cell h1 2).trans rfl, blk_frozen h1 1, blk_frozen h1 2⟩
theorem Mem.word {w : World} {b g : Nat} {ws : List Int} {acc : Int} {f : Bool} (h : Mem w b g ws acc f) (i : Nat) (hi : i < ws.length) : w.cell? ⟨g, i, none⟩ = some (.int .u64 ws[i]) ∧ w.frozen? ⟨g, i, none⟩ = false := by
  obtain ⟨h0, c, cur, h1, h2, h3, h4, h5, h6⟩ := h
  exact ⟨(blk_cell h2 i).trans (h6 i hi), blk_frozen h2 i⟩
theorem Mem.set1 {w : World} {b g : Nat} {ws : List Int} {acc : Int} {f : Bool} (h : Mem w b g ws acc f) (x : Int) : Mem (w.setCell ⟨b, 1, none⟩ (.int .i64 x)) b g ws x f := by
  obtain ⟨h0, c, cur, h1, h2, h3⟩ := h
  exact ⟨h0, c, cur, blk_set h1 1 _, blk_far h2 (p := ⟨b, 1, none⟩) (fun e => h0 e.symm) _, h3⟩
theorem Mem.set2 {w : World} {b g : Nat} {ws : List Int} {acc : Int} {f : Bool} (h : Mem w b g ws acc f) (x : Bool) : Mem (w.setCell ⟨b, 2, none⟩ (.bool x)) b g ws acc x := by
  obtain ⟨h0, c, cur, h1, h2, h3⟩ := h
  exact ⟨h0, c, cur, blk_set h1 2 _, blk_far h2 (p := ⟨b, 2, none⟩) (fun e => h0 e.symm) _, h3⟩
theorem Mem.setw {w : World} {b g : Nat} {ws : List Int} {acc : Int} {f : Bool} (h : Mem w b g ws acc f) (i : Nat) (hi : i < ws.length) (x : Int) : Mem (w.setCell ⟨g, i, none⟩ (.int .u64 x)) b g (ws.set i x) acc f := by
  obtain ⟨h0, c, cur, h1, h2, h3, h4, h5, h6⟩ := h
  refine ⟨h0, c, cur.setIfInBounds i (.int .u64 x), ?_, blk_set h2 i _, by simpa using h3, by simpa using h4, h5, fun j hj => ?_⟩
  · rw [List.length_set]; exact blk_far h1 (p := ⟨g, i, none⟩) h0 _
  · rw [List.length_set] at hj
    rw [Array.getElem?_setIfInBounds, List.getElem_set]
    by_cases e : i = j
    · subst e; rw [if_pos rfl, if_pos rfl, if_pos (by omega)]
    · rw [if_neg e, if_neg e]; exact h6 j hj
/-- All but a memory is as it was. -/
def Keep2 (w w' : World) (b g : Nat) : Prop := w'.os = w.os ∧ w'.tape = w.tape ∧ w'.output = w.output ∧ w.heap.size ≤ w'.heap.size ∧ ∀ k, k < w.heap.size → k ≠ b → k ≠ g → w'.heap[k]? = w.heap[k]?
theorem Keep2.refl (w : World) (b g : Nat) : Keep2 w w b g := ⟨rfl, rfl, rfl, Nat.le_refl _, fun _ _ _ _ => rfl⟩
theorem Keep2.trans {w w1 w2 : World} {b g : Nat} (h : Keep2 w w1 b g) (k : Keep2 w1 w2 b g) : Keep2 w w2 b g :=
  ⟨k.1.trans h.1, k.2.1.trans h.2.1, k.2.2.1.trans h.2.2.1, Nat.le_trans h.2.2.2.1 k.2.2.2.1, fun i hi hb hg => (k.2.2.2.2 i (Nat.lt_of_lt_of_le hi h.2.2.2.1) hb hg).trans (h.2.2.2.2 i hi hb hg)⟩
theorem Keep2.setb (w : World) (b g i : Nat) (u : Value) : Keep2 w (w.setCell ⟨b, i, none⟩ u) b g := ⟨rfl, rfl, rfl, by simp, fun k _ hb _ => Below.heap_setCell w ⟨b, i, none⟩ u k hb⟩
theorem Keep2.setg (w : World) (b g i : Nat) (u : Value) : Keep2 w (w.setCell ⟨g, i, none⟩ u) b g := ⟨rfl, rfl, rfl, by simp, fun k _ _ hg => Below.heap_setCell w ⟨g, i, none⟩ u k hg⟩
theorem Keep2.of_below {w w' : World} {b g : Nat} (h : Below w.heap.size w w') : Keep2 w w' b g := ⟨h.os, h.tape, h.output, h.size, fun k hk _ _ => h.block k hk⟩
theorem Keep2.below {w w' : World} {b g B : Nat} (h : Keep2 w w' b g) (hb : B ≤ b) (hg : B ≤ g) (hs : B ≤ w.heap.size) : Below B w w' := ⟨h.1, h.2.1, h.2.2.1, h.2.2.2.1, fun k hk => h.2.2.2.2 k (by omega) (by omega) (by omega)⟩
def inb (ws : List Int) (a : Int) : Bool := decide (0 ≤ a ∧ a < ws.length)
set_option maxHeartbeats 4000000 in
set_option maxRecDepth 100000 in
theorem at_nil (v : Value) (w : World) : Calls Try.prog 44 #[.pointer none, v] w fun e w' => e = .returned (.bool false) ∧ w' = w := by
  go_enter Try.func44, Try.ntmps44
  go_wp2
  go_ret
  exact ⟨rfl, rfl⟩
set_option maxHeartbeats 4000000 in
set_option maxRecDepth 100000 in
theorem at1 (w : World) (b g : Nat) (ws : List Int) (acc : Int) (f : Bool) (vb vc : Nat) (a : Int) (hM : Mem w b g ws acc f) (hv : w.heap[vb]? = some (.cells #[.int .i64 a] 3 (0, 0))) (h0 : 0 ≤ acc) (h1 : acc < 1000000) :
    Calls Try.prog 44 #[.pointer (some ⟨b, 0, none⟩), .slice (some ⟨vb, 0, none⟩) 1 vc] w fun e w' => e = .returned (.bool (inb ws a)) ∧ Mem w' b g ws (acc + 1) (f || !inb ws a) ∧ Keep2 w w' b g := by
  have hvb : vb ≠ b := by
    obtain ⟨_, _, _, hb, _⟩ := hM
    exact blk_ne hv hb (by decide)
  have hu := Try.underlying74
  obtain ⟨c, hc1, hc2, b0, b1, b2, z1, z2⟩ := hM.facts
  have M1 := Aside0.mk (hM.set1 (acc + 1))
  have K1 := Aside0.mk (Keep2.setb w b g 1 (.int .i64 (acc + 1)))
  have v1 : (w.setCell ⟨b, 1, none⟩ (.int .i64 (acc + 1))).cell? ⟨vb, 0, none⟩ = some (.int .i64 a) := (blk_cell (blk_far hv (p := ⟨b, 1, none⟩) hvb _) 0).trans rfl
  have q1 : IntKind.i64.wrap (acc + 1) = acc + 1 := by rw [IntKind.wrap_i64]; omega
  clear hM hv
  go_enter Try.func44, Try.ntmps44
  go_wp2
  clear b0 b1 b2 z1 z2 hc1 hc2
  generalize w.setCell ⟨b, 1, none⟩ (.int .i64 (acc + 1)) = W1 at M1 K1 v1 ⊢
  obtain ⟨c2, hc1, hc2, b0, b1, b2, z1, z2⟩ := M1.out.facts
  go_loopg [18] 1 (fun kx s18 wr => wr = W1 ∧ ((s18 = .int .i64 0 ∧ kx = 1) ∨ (s18 = .int .i64 1 ∧ kx = 0 ∧ Aside0 (inb ws a = true))))
  case atStart => exact ⟨rfl, .inl ⟨rfl, rfl⟩⟩
  case round =>
    obtain ⟨rfl, h⟩ := hrel
    rcases h with ⟨rfl, rfl⟩ | ⟨rfl, rfl, hin⟩
    · by_cases ha : a < 0
      · have hi := Aside0.mk (show inb ws a = false from decide_eq_false (by omega))
        go_wp2
        go_ret
        exact ⟨by rw [hi.out] <;> rfl, by rw [hi.out, Bool.not_false, Bool.or_true]; exact M1.out.set2 true, K1.out.trans (Keep2.setb _ b g 2 _)⟩
      · by_cases hb : a < (ws.length : Int)
        · have hi := Aside0.mk (show inb ws a = true from decide_eq_true (by omega))
          go_wp2
          go_roundg 0
          case measure => omega
          case rel => exact ⟨rfl, .inr ⟨rfl, rfl, hi⟩⟩
        · have hi := Aside0.mk (show inb ws a = false from decide_eq_false (by omega))
          go_wp2
          go_ret
          exact ⟨by rw [hi.out] <;> rfl, by rw [hi.out, Bool.not_false, Bool.or_true]; exact M1.out.set2 true, K1.out.trans (Keep2.setb _ b g 2 _)⟩
    · go_wp2
      go_ret
      exact ⟨by rw [hin.out] <;> rfl, by rw [hin.out, Bool.not_true, Bool.or_false]; exact M1.out, K1.out⟩
def wordAt (ws : List Int) (a : Int) : Int := if inb ws a = true then ws.getD a.toNat 0 else 0
def turned (ws : List Int) (a : Int) (fw : Int → Int) : List Int := if inb ws a = true then ws.set a.toNat (fw (wordAt ws a)) else ws
theorem inb_yes {ws : List Int} {a : Int} (h : inb ws a = true) : ∃ i : Nat, a = i ∧ i < ws.length := by
  have := of_decide_eq_true h
  exact ⟨a.toNat, by omega, by omega⟩
theorem word_yes {ws : List Int} {i : Nat} (hi : i < ws.length) : wordAt ws i = ws[i] := by
  unfold wordAt inb
  rw [decide_eq_true (by omega), if_pos rfl, Int.toNat_natCast]
  simp [List.getD, hi]
theorem turned_yes {ws : List Int} {i : Nat} (hi : i < ws.length) (fw : Int → Int) : turned ws i fw = ws.set i (fw ws[i]) := by
  have h := word_yes hi
  unfold turned
  rw [h]
  unfold inb
  rw [decide_eq_true (by omega), if_pos rfl, Int.toNat_natCast]
set_option maxRecDepth 100000 in
theorem load_clo (x : Int) (w : World) : Calls Try.prog 42 #[.int .u64 x] w fun e w' => e = .returned (.int .u64 x) ∧ w' = w := by
  go_enter Try.func42, Try.ntmps42
  go_wp2
  go_ret
  exact ⟨rfl, rfl⟩
set_option maxHeartbeats 4000000 in
set_option maxRecDepth 100000 in
theorem turn_load (w : World) (b g : Nat) (ws : List Int) (acc : Int) (f : Bool) (a : Int) (hM : Mem w b g ws acc f) (h0 : 0 ≤ acc) (h1 : acc < 1000000) :
    Calls Try.prog 41 #[.pointer (some ⟨b, 0, none⟩), .int .i64 a, .func (.func 42) #[] #[]] w fun e w' => e = .returned (.int .u64 (wordAt ws a)) ∧ Mem w' b g (turned ws a id) (acc + 1) (f || !inb ws a) ∧ Keep2 w w' b g := by
  have hu := Try.underlying74
  have M0 := Aside0.mk hM
  clear hM
  have mixed : Try.prog.follows Departure.mixedOrders = true := by kernel_rfl
  go_enter Try.func41, Try.ntmps41
  go_wp2_with fail
  refine (at1 _ b g ws acc f w.heap.size 1 a (M0.out.alloc _) (heap_alloc_new w _) h0 h1).mono ?_
  rintro e w2 ⟨rfl, hm, hk⟩
  have M2 := Aside0.mk hm
  have K2 := Aside0.mk ((Keep2.of_below (below_alloc (Below.refl w.heap.size w) (.cells #[.int .i64 a] 3 (0, 0)))).trans hk)
  clear hm hk
  cases hin : inb ws a with
  | false =>
    rw [hin] at M2
    have HN := Aside0.mk hin
    clear hin
    go_wp2
    go_ret
    exact ⟨by unfold wordAt; rw [HN.out, if_neg (by decide)] <;> rfl, by unfold turned; rw [HN.out, if_neg (by decide)]; exact M2.out, K2.out⟩
  | true =>
    obtain ⟨i, rfl, hi⟩ := inb_yes hin
    rw [hin] at M2
    have HN := Aside0.mk hin
    clear hin
    obtain ⟨c2, hc1, hc2, b0, b1, b2, z1, z2⟩ := M2.out.facts
    obtain ⟨g1, g2⟩ := M2.out.word i hi
    have q1 : (i : Int) < (ws.length : Int) := by omega
    have WA := Aside0.mk (word_yes hi)
    have TA := Aside0.mk (turned_yes hi id)
    have M3 := Aside0.mk (M2.out.setw i hi ws[i])
    generalize ws[i] = x at g1 WA TA M3
    go_wp2_with fail
    go_region_with (go_at_call 42; refine (load_clo _ _).mono ?_; rintro e w3 ⟨rfl, rfl⟩)
    all_goals go_wp2
    all_goals go_ret
    all_goals exact ⟨by rw [WA.out] <;> rfl, by rw [TA.out, HN.out]; exact M3.out.move rfl rfl, K2.out.trans (Keep2.setg w2 b g i _)⟩
set_option maxHeartbeats 4000000 in
set_option maxRecDepth 100000 in
theorem load_calls (w : World) (b g : Nat) (ws : List Int) (acc : Int) (f : Bool) (a : Int) (hM : Mem w b g ws acc f) (h0 : 0 ≤ acc) (h1 : acc < 1000000) :
    Calls Try.prog 16 #[.pointer (some ⟨b, 0, none⟩), .int .i64 a] w fun e w' => e = .returned (.int .u64 (wordAt ws a)) ∧ Mem w' b g (turned ws a id) (acc + 1) (f || !inb ws a) ∧ Keep2 w w' b g := by
  have M0 := Aside0.mk hM
  clear hM
  go_enter Try.func16, Try.ntmps16
  go_wp2_with fail
  refine (turn_load _ b g ws acc f a M0.out h0 h1).mono ?_
  rintro e w2 ⟨rfl, hm, hk⟩
  have M2 := Aside0.mk hm
  have K2 := Aside0.mk hk
  clear hm hk
  go_wp2
  go_ret
  exact ⟨rfl, M2.out, K2.out⟩
set_option maxRecDepth 100000 in
theorem store_clo (x y : Int) (nb : Nat) (w : World) (h : w.cell? ⟨nb, 0, none⟩ = some (.int .u64 y)) : Calls Try.prog 45 #[.int .u64 x, .pointer (some ⟨nb, 0, none⟩)] w fun e w' => e = .returned (.int .u64 (y)) ∧ w' = w := by
  go_enter Try.func45, Try.ntmps45
  go_wp2
  go_ret
  exact ⟨rfl, rfl⟩
set_option maxHeartbeats 4000000 in
set_option maxRecDepth 100000 in
theorem turn_store (w : World) (b g : Nat) (ws : List Int) (acc : Int) (f : Bool) (a : Int) (nb : Nat) (y : Int) (hM : Mem w b g ws acc f) (h0 : 0 ≤ acc) (h1 : acc < 1000000) (hn : w.heap[nb]? = some (.cells #[.int .u64 y] 29 (0, 0))) (hng : nb ≠ g) :
    Calls Try.prog 41 #[.pointer (some ⟨b, 0, none⟩), .int .i64 a, .func (.func 45) #[] #[.pointer (some ⟨nb, 0, none⟩)]] w fun e w' => e = .returned (.int .u64 (wordAt ws a)) ∧ Mem w' b g (turned ws a (fun _ => y)) (acc + 1) (f || !inb ws a) ∧ Keep2 w w' b g := by
  have hu := Try.underlying74
  have hnb : nb ≠ b := by
    obtain ⟨_, _, _, hb, _⟩ := hM
    exact blk_ne hn hb (by decide)
  have M0 := Aside0.mk hM
  have N0 := Aside0.mk hn
  clear hM hn
  have mixed : Try.prog.follows Departure.mixedOrders = true := by kernel_rfl
  go_enter Try.func41, Try.ntmps41
  go_wp2_with fail
  refine (at1 _ b g ws acc f w.heap.size 1 a (M0.out.alloc _) (heap_alloc_new w _) h0 h1).mono ?_
  rintro e w2 ⟨rfl, hm, hk⟩
  have M2 := Aside0.mk hm
  have K2 := Aside0.mk ((Keep2.of_below (below_alloc (Below.refl w.heap.size w) (.cells #[.int .i64 a] 3 (0, 0)))).trans hk)
  clear hm hk
  cases hin : inb ws a with
  | false =>
    rw [hin] at M2
    have HN := Aside0.mk hin
    clear hin
    go_wp2
    go_ret
    exact ⟨by unfold wordAt; rw [HN.out, if_neg (by decide)] <;> rfl, by unfold turned; rw [HN.out, if_neg (by decide)]; exact M2.out, K2.out⟩
  | true =>
    obtain ⟨i, rfl, hi⟩ := inb_yes hin
    rw [hin] at M2
    have HN := Aside0.mk hin
    clear hin
    obtain ⟨c2, hc1, hc2, b0, b1, b2, z1, z2⟩ := M2.out.facts
    obtain ⟨g1, g2⟩ := M2.out.word i hi
    have q1 : (i : Int) < (ws.length : Int) := by omega
    have N2 := Aside0.mk ((K2.out.2.2.2.2 nb (Array.getElem?_eq_some_iff.1 N0.out).1 hnb hng).trans N0.out)
    have n1 : w2.cell? ⟨nb, 0, none⟩ = some (.int .u64 y) := (blk_cell N2.out 0).trans rfl
    have WA := Aside0.mk (word_yes hi)
    have TA := Aside0.mk (turned_yes hi (fun _ => y))
    have M3 := Aside0.mk (M2.out.setw i hi y)
    generalize ws[i] = x at g1 WA TA M3
    go_wp2_with fail
    go_region_with (go_at_call 45; refine (store_clo _ y nb _ ?hcap).mono ?_; (case hcap => exact n1); rintro e w3 ⟨rfl, rfl⟩)
    all_goals go_wp2
    all_goals go_ret
    all_goals exact ⟨by rw [WA.out] <;> rfl, by rw [TA.out, HN.out]; exact M3.out.move rfl rfl, K2.out.trans (Keep2.setg w2 b g i _)⟩
set_option maxHeartbeats 4000000 in
set_option maxRecDepth 100000 in
theorem store_calls (w : World) (b g : Nat) (ws : List Int) (acc : Int) (f : Bool) (a y : Int) (hM : Mem w b g ws acc f) (h0 : 0 ≤ acc) (h1 : acc < 1000000) :
    Calls Try.prog 21 #[.pointer (some ⟨b, 0, none⟩), .int .i64 a, .int .u64 y] w fun e w' => e = .returned (.tuple #[]) ∧ Mem w' b g (turned ws a (fun _ => y)) (acc + 1) (f || !inb ws a) ∧ Keep2 w w' b g := by
  have hlt := hM.ltb
  have M0 := Aside0.mk hM
  clear hM
  go_enter Try.func21, Try.ntmps21
  go_wp2_with fail
  refine (turn_store _ b g ws acc f a w.heap.size y (M0.out.alloc _) h0 h1 (heap_alloc_new w _) (by omega)).mono ?_
  rintro e w2 ⟨rfl, hm, hk⟩
  have M2 := Aside0.mk hm
  have K2 := Aside0.mk ((Keep2.of_below (below_alloc (Below.refl w.heap.size w) (.cells #[.int .u64 y] 29 (0, 0)))).trans hk)
  clear hm hk
  go_wp2
  exact bodyPost_end (v := .tuple #[]) (by kernel_rfl) rfl ⟨rfl, M2.out, K2.out⟩
set_option maxRecDepth 100000 in
theorem or_clo (x y : Int) (nb : Nat) (w : World) (h : w.cell? ⟨nb, 0, none⟩ = some (.int .u64 y)) : Calls Try.prog 58 #[.int .u64 x, .pointer (some ⟨nb, 0, none⟩)] w fun e w' => e = .returned (.int .u64 (Go.bits .or .u64 x y)) ∧ w' = w := by
  go_enter Try.func58, Try.ntmps58
  go_wp2
  go_ret
  exact ⟨rfl, rfl⟩
set_option maxHeartbeats 4000000 in
set_option maxRecDepth 100000 in
theorem turn_or (w : World) (b g : Nat) (ws : List Int) (acc : Int) (f : Bool) (a : Int) (nb : Nat) (y : Int) (hM : Mem w b g ws acc f) (h0 : 0 ≤ acc) (h1 : acc < 1000000) (hn : w.heap[nb]? = some (.cells #[.int .u64 y] 29 (0, 0))) (hng : nb ≠ g) :
    Calls Try.prog 41 #[.pointer (some ⟨b, 0, none⟩), .int .i64 a, .func (.func 58) #[] #[.pointer (some ⟨nb, 0, none⟩)]] w fun e w' => e = .returned (.int .u64 (wordAt ws a)) ∧ Mem w' b g (turned ws a (fun v => Go.bits .or .u64 v y)) (acc + 1) (f || !inb ws a) ∧ Keep2 w w' b g := by
  have hu := Try.underlying74
  have hnb : nb ≠ b := by
    obtain ⟨_, _, _, hb, _⟩ := hM
    exact blk_ne hn hb (by decide)
  have M0 := Aside0.mk hM
  have N0 := Aside0.mk hn
  clear hM hn
  have mixed : Try.prog.follows Departure.mixedOrders = true := by kernel_rfl
  go_enter Try.func41, Try.ntmps41
  go_wp2_with fail
  refine (at1 _ b g ws acc f w.heap.size 1 a (M0.out.alloc _) (heap_alloc_new w _) h0 h1).mono ?_
  rintro e w2 ⟨rfl, hm, hk⟩
  have M2 := Aside0.mk hm
  have K2 := Aside0.mk ((Keep2.of_below (below_alloc (Below.refl w.heap.size w) (.cells #[.int .i64 a] 3 (0, 0)))).trans hk)
  clear hm hk
  cases hin : inb ws a with
  | false =>
    rw [hin] at M2
    have HN := Aside0.mk hin
    clear hin
    go_wp2
    go_ret
    exact ⟨by unfold wordAt; rw [HN.out, if_neg (by decide)] <;> rfl, by unfold turned; rw [HN.out, if_neg (by decide)]; exact M2.out, K2.out⟩
  | true =>
    obtain ⟨i, rfl, hi⟩ := inb_yes hin
    rw [hin] at M2
    have HN := Aside0.mk hin
    clear hin
    obtain ⟨c2, hc1, hc2, b0, b1, b2, z1, z2⟩ := M2.out.facts
    obtain ⟨g1, g2⟩ := M2.out.word i hi
    have q1 : (i : Int) < (ws.length : Int) := by omega
    have N2 := Aside0.mk ((K2.out.2.2.2.2 nb (Array.getElem?_eq_some_iff.1 N0.out).1 hnb hng).trans N0.out)
    have n1 : w2.cell? ⟨nb, 0, none⟩ = some (.int .u64 y) := (blk_cell N2.out 0).trans rfl
    have WA := Aside0.mk (word_yes hi)
    have TA := Aside0.mk (turned_yes hi (fun v => Go.bits .or .u64 v y))
    have M3 := Aside0.mk (M2.out.setw i hi (Go.bits .or .u64 ws[i] y))
    generalize ws[i] = x at g1 WA TA M3
    go_wp2_with fail
    go_region_with (go_at_call 58; refine (or_clo _ y nb _ ?hcap).mono ?_; (case hcap => exact n1); rintro e w3 ⟨rfl, rfl⟩)
    all_goals go_wp2
    all_goals go_ret
    all_goals exact ⟨by rw [WA.out] <;> rfl, by rw [TA.out, HN.out]; exact M3.out.move rfl rfl, K2.out.trans (Keep2.setg w2 b g i _)⟩
set_option maxHeartbeats 4000000 in
set_option maxRecDepth 100000 in
theorem or_calls (w : World) (b g : Nat) (ws : List Int) (acc : Int) (f : Bool) (a y : Int) (hM : Mem w b g ws acc f) (h0 : 0 ≤ acc) (h1 : acc < 1000000) :
    Calls Try.prog 43 #[.pointer (some ⟨b, 0, none⟩), .int .i64 a, .int .u64 y] w fun e w' => e = .returned (.int .u64 (wordAt ws a)) ∧ Mem w' b g (turned ws a (fun v => Go.bits .or .u64 v y)) (acc + 1) (f || !inb ws a) ∧ Keep2 w w' b g := by
  have hlt := hM.ltb
  have M0 := Aside0.mk hM
  clear hM
  go_enter Try.func43, Try.ntmps43
  go_wp2_with fail
  refine (turn_or _ b g ws acc f a w.heap.size y (M0.out.alloc _) h0 h1 (heap_alloc_new w _) (by omega)).mono ?_
  rintro e w2 ⟨rfl, hm, hk⟩
  have M2 := Aside0.mk hm
  have K2 := Aside0.mk ((Keep2.of_below (below_alloc (Below.refl w.heap.size w) (.cells #[.int .u64 y] 29 (0, 0)))).trans hk)
  clear hm hk
  go_wp2
  go_ret
  exact ⟨rfl, M2.out, K2.out⟩
set_option maxRecDepth 100000 in
theorem add_clo (x y : Int) (nb : Nat) (w : World) (h : w.cell? ⟨nb, 0, none⟩ = some (.int .u64 y)) : Calls Try.prog 46 #[.int .u64 x, .pointer (some ⟨nb, 0, none⟩)] w fun e w' => e = .returned (.int .u64 (IntKind.u64.wrap (x + y))) ∧ w' = w := by
  go_enter Try.func46, Try.ntmps46
  go_wp2
  go_ret
  exact ⟨rfl, rfl⟩
set_option maxHeartbeats 4000000 in
set_option maxRecDepth 100000 in
theorem turn_add (w : World) (b g : Nat) (ws : List Int) (acc : Int) (f : Bool) (a : Int) (nb : Nat) (y : Int) (hM : Mem w b g ws acc f) (h0 : 0 ≤ acc) (h1 : acc < 1000000) (hn : w.heap[nb]? = some (.cells #[.int .u64 y] 29 (0, 0))) (hng : nb ≠ g) :
    Calls Try.prog 41 #[.pointer (some ⟨b, 0, none⟩), .int .i64 a, .func (.func 46) #[] #[.pointer (some ⟨nb, 0, none⟩)]] w fun e w' => e = .returned (.int .u64 (wordAt ws a)) ∧ Mem w' b g (turned ws a (fun v => IntKind.u64.wrap (v + y))) (acc + 1) (f || !inb ws a) ∧ Keep2 w w' b g := by
  have hu := Try.underlying74
  have hnb : nb ≠ b := by
    obtain ⟨_, _, _, hb, _⟩ := hM
    exact blk_ne hn hb (by decide)
  have M0 := Aside0.mk hM
  have N0 := Aside0.mk hn
  clear hM hn
  have mixed : Try.prog.follows Departure.mixedOrders = true := by kernel_rfl
  go_enter Try.func41, Try.ntmps41
  go_wp2_with fail
  refine (at1 _ b g ws acc f w.heap.size 1 a (M0.out.alloc _) (heap_alloc_new w _) h0 h1).mono ?_
  rintro e w2 ⟨rfl, hm, hk⟩
  have M2 := Aside0.mk hm
  have K2 := Aside0.mk ((Keep2.of_below (below_alloc (Below.refl w.heap.size w) (.cells #[.int .i64 a] 3 (0, 0)))).trans hk)
  clear hm hk
  cases hin : inb ws a with
  | false =>
    rw [hin] at M2
    have HN := Aside0.mk hin
    clear hin
    go_wp2
    go_ret
    exact ⟨by unfold wordAt; rw [HN.out, if_neg (by decide)] <;> rfl, by unfold turned; rw [HN.out, if_neg (by decide)]; exact M2.out, K2.out⟩
  | true =>
    obtain ⟨i, rfl, hi⟩ := inb_yes hin
    rw [hin] at M2
    have HN := Aside0.mk hin
    clear hin
    obtain ⟨c2, hc1, hc2, b0, b1, b2, z1, z2⟩ := M2.out.facts
    obtain ⟨g1, g2⟩ := M2.out.word i hi
    have q1 : (i : Int) < (ws.length : Int) := by omega
    have N2 := Aside0.mk ((K2.out.2.2.2.2 nb (Array.getElem?_eq_some_iff.1 N0.out).1 hnb hng).trans N0.out)
    have n1 : w2.cell? ⟨nb, 0, none⟩ = some (.int .u64 y) := (blk_cell N2.out 0).trans rfl
    have WA := Aside0.mk (word_yes hi)
    have TA := Aside0.mk (turned_yes hi (fun v => IntKind.u64.wrap (v + y)))
    have M3 := Aside0.mk (M2.out.setw i hi (IntKind.u64.wrap (ws[i] + y)))
    generalize ws[i] = x at g1 WA TA M3
    go_wp2_with fail
    go_region_with (go_at_call 46; refine (add_clo _ y nb _ ?hcap).mono ?_; (case hcap => exact n1); rintro e w3 ⟨rfl, rfl⟩)
    all_goals go_wp2
    all_goals go_ret
    all_goals exact ⟨by rw [WA.out] <;> rfl, by rw [TA.out, HN.out]; exact M3.out.move rfl rfl, K2.out.trans (Keep2.setg w2 b g i _)⟩
set_option maxHeartbeats 4000000 in
set_option maxRecDepth 100000 in
theorem add_calls (w : World) (b g : Nat) (ws : List Int) (acc : Int) (f : Bool) (a y : Int) (hM : Mem w b g ws acc f) (h0 : 0 ≤ acc) (h1 : acc < 1000000) :
    Calls Try.prog 22 #[.pointer (some ⟨b, 0, none⟩), .int .i64 a, .int .u64 y] w fun e w' => e = .returned (.int .u64 (wordAt ws a)) ∧ Mem w' b g (turned ws a (fun v => IntKind.u64.wrap (v + y))) (acc + 1) (f || !inb ws a) ∧ Keep2 w w' b g := by
  have hlt := hM.ltb
  have M0 := Aside0.mk hM
  clear hM
  go_enter Try.func22, Try.ntmps22
  go_wp2_with fail
  refine (turn_add _ b g ws acc f a w.heap.size y (M0.out.alloc _) h0 h1 (heap_alloc_new w _) (by omega)).mono ?_
  rintro e w2 ⟨rfl, hm, hk⟩
  have M2 := Aside0.mk hm
  have K2 := Aside0.mk ((Keep2.of_below (below_alloc (Below.refl w.heap.size w) (.cells #[.int .u64 y] 29 (0, 0)))).trans hk)
  clear hm hk
  go_wp2
  go_ret
  exact ⟨rfl, M2.out, K2.out⟩
def casB (ws : List Int) (a old : Int) : Bool := inb ws a && (wordAt ws a == old)
def cased (ws : List Int) (a old next : Int) : List Int := if casB ws a old = true then ws.set a.toNat next else ws
set_option maxHeartbeats 4000000 in
set_option maxRecDepth 100000 in
theorem cas_calls (w : World) (b g : Nat) (ws : List Int) (acc : Int) (f : Bool) (a old next : Int) (hM : Mem w b g ws acc f) (h0 : 0 ≤ acc) (h1 : acc < 1000000) :
    Calls Try.prog 20 #[.pointer (some ⟨b, 0, none⟩), .int .i64 a, .int .u64 old, .int .u64 next] w fun e w' => e = .returned (.bool (casB ws a old)) ∧ Mem w' b g (cased ws a old next) (acc + 1) (f || !inb ws a) ∧ Keep2 w w' b g := by
  have hu := Try.underlying74
  have M0 := Aside0.mk hM
  clear hM
  have mixed : Try.prog.follows Departure.mixedOrders = true := by kernel_rfl
  go_enter Try.func20, Try.ntmps20
  go_wp2_with fail
  refine (at1 _ b g ws acc f w.heap.size 1 a (M0.out.alloc _) (heap_alloc_new w _) h0 h1).mono ?_
  rintro e w2 ⟨rfl, hm, hk⟩
  have M2 := Aside0.mk hm
  have K2 := Aside0.mk ((Keep2.of_below (below_alloc (Below.refl w.heap.size w) (.cells #[.int .i64 a] 3 (0, 0)))).trans hk)
  clear hm hk
  cases hin : inb ws a with
  | false =>
    have HN := Aside0.mk (show casB ws a old = false by unfold casB; rw [hin]; rfl)
    clear hin
    go_wp2
    go_ret
    exact ⟨by rw [HN.out] <;> rfl, by unfold cased; rw [HN.out, if_neg (by decide)]; exact M2.out, K2.out⟩
  | true =>
    obtain ⟨i, rfl, hi⟩ := inb_yes hin
    obtain ⟨c2, hc1, hc2, b0, b1, b2, z1, z2⟩ := M2.out.facts
    obtain ⟨g1, g2⟩ := M2.out.word i hi
    have q1 : (i : Int) < (ws.length : Int) := by omega
    have M3 := Aside0.mk (M2.out.setw i hi next)
    by_cases he : ws[i] = old
    · have HN := Aside0.mk (show casB ws i old = true by unfold casB; rw [hin, word_yes hi, he]; simp)
      rw [he] at g1
      clear hin he
      go_wp2
      go_ret
      exact ⟨by rw [HN.out] <;> rfl, by unfold cased; rw [HN.out, if_pos rfl, Int.toNat_natCast]; exact M3.out, K2.out.trans (Keep2.setg w2 b g i _)⟩
    · have HN := Aside0.mk (show casB ws i old = false by unfold casB; rw [hin, word_yes hi]; simpa using he)
      generalize ws[i] = x at g1 he M3
      clear hin M3
      go_wp2
      go_ret
      exact ⟨by rw [HN.out] <;> rfl, by unfold cased; rw [HN.out, if_neg (by decide)]; exact M2.out, K2.out⟩
set_option maxRecDepth 100000 in
theorem accesses_calls (w : World) (b g : Nat) (ws : List Int) (acc : Int) (f : Bool) (hM : Mem w b g ws acc f) : Calls Try.prog 14 #[.pointer (some ⟨b, 0, none⟩)] w fun e w' => e = .returned (.int .i64 acc) ∧ w' = w := by
  have hu := Try.underlying74
  obtain ⟨c2, hc1, hc2, b0, b1, b2, z1, z2⟩ := hM.facts
  clear hM
  go_enter Try.func14, Try.ntmps14
  go_wp2
  go_ret
  exact ⟨rfl, rfl⟩
set_option maxRecDepth 100000 in
theorem fault_calls (w : World) (b g : Nat) (ws : List Int) (acc : Int) (f : Bool) (hM : Mem w b g ws acc f) : Calls Try.prog 15 #[.pointer (some ⟨b, 0, none⟩)] w fun e w' => e = .returned (.bool f) ∧ w' = w := by
  have hu := Try.underlying74
  obtain ⟨c2, hc1, hc2, b0, b1, b2, z1, z2⟩ := hM.facts
  clear hM
  go_enter Try.func15, Try.ntmps15
  go_wp2
  go_ret
  exact ⟨rfl, rfl⟩
theorem info_u64 : ∃ i0, Try.prog.info? 29 = some i0 ∧ i0.zero = some (.int .u64 0) ∧ i0.size = 1 ∧ i0.bytes = 8 := by
  have h : (Try.prog.info? 29).map (fun i => (i.zero, i.size, i.bytes)) = some (some (.int .u64 0), 1, 8) := by kernel_rfl
  obtain ⟨i, hi, he⟩ := Option.map_eq_some_iff.1 h
  simp only [Prod.mk.injEq] at he
  exact ⟨i, hi, he.1, he.2.1, he.2.2⟩
theorem blkcell_alloc {W : World} {a : Addr} {v : Value} (o : Obj) (h : W.cell? a = some v) : (W.alloc o).cell? a = some v := by
  have hlt := block_lt_of_cell h
  rw [← h]
  simp only [World.cell?, World.alloc, Array.getElem?_push, Nat.ne_of_lt hlt, if_false]
set_option maxHeartbeats 4000000 in
set_option maxRecDepth 100000 in
/-- slices.Clone of words that are there. -/
theorem clone_calls (w : World) (ad : Addr) (n c : Nat) (ws : List Int) (hl : ws.length = n) (hn : n ≤ 1000000) (hc : ∀ j (h : j < ws.length), w.cell? (ad.add j) = some (.int .u64 ws[j])) :
    Calls Try.prog 40 #[.slice (some ad) n c] w fun e w' => ∃ v', e = .returned v' ∧ w'.ownsRow w.heap.size 29 1 v' n (ws.map (Value.int .u64)) ∧ v' ≠ .slice none 0 0 ∧ Below w.heap.size w w' := by
  obtain ⟨i0, hi0, hz0, hz1, hz2⟩ := info_u64
  have mixed : Try.prog.follows Departure.mixedOrders = true := by kernel_rfl
  have q39 : ∀ (w : World) (a : Option Addr) (n c n' c' : Nat), (binOp .eql 22 (.slice a n c) (.slice none n' c')).run Try.prog w = .ok (.bool a.isNone) w := fun w a n c n' c' => Lib.run_eql_slice_nil w 22 29 a n c n' c' Try.underlying22
  have HC := Aside0.mk (show ∀ j u, (ws.map (Value.int .u64))[j]? = some u → w.cell? (ad.add j) = some u from by
    intro j u hj
    rw [List.getElem?_map] at hj
    obtain ⟨x, hx, rfl⟩ := Option.map_eq_some_iff.1 hj
    obtain ⟨h1, h2⟩ := List.getElem?_eq_some_iff.1 hx
    rw [← h2]
    exact hc j h1)
  have HL := Aside0.mk (show (ws.map (Value.int .u64)).length = n * 1 by rw [List.length_map, hl]; omega)
  have H1 := Aside0.mk (show ∀ u ∈ ws.map (Value.int .u64), u.oneCell' = true from by intro u hu; obtain ⟨x, _, rfl⟩ := List.mem_map.1 hu; rfl)
  generalize ws.map (Value.int .u64) = cells at HC HL H1 ⊢
  clear hc hl
  go_enter Try.func40, Try.ntmps40
  go_wp2_with (at_builtin; refine wpList_append_own _ rfl _ _ 22 rfl w.heap.size 29 i0 (.int .u64 0) 1 8 Try.underlying22 hi0 hz0 hz1 hz2 rfl (by decide) _ _ _ rfl (World.ownsRow_made w #[] 0 (Nat.le_refl _) (Nat.zero_le _) rfl) ad n c cells rfl HL.out (fun j u hj => blkcell_alloc _ (HC.out j u hj)) H1.out (by unfold maxLen; omega) (by omega) (by simp) ?_; intro v' w3 hown' hgrow3 hnil3; have X := Aside0.mk hown'; have Y := Aside0.mk hgrow3; have Z := Aside0.mk hnil3; clear hown' hgrow3 hnil3)
  go_ret
  refine ⟨_, rfl, by have := X.out; simpa using this, fun e => ?_, ?_⟩
  · have := (Z.out.1 e).1
    cases this
  · exact ((Below.refl _ w).alloc (Nat.le_refl _) _).grown Y.out (by simp) (fun k hk => Nat.le_of_eq (Option.some.inj (show some w.heap.size = some k from hk)))
theorem Mem.reads {w : World} {b g : Nat} {ws : List Int} {acc : Int} {f : Bool} (h : Mem w b g ws acc f) : ∀ j (hj : j < ws.length), w.cell? ((⟨g, 0, none⟩ : Addr).add j) = some (.int .u64 ws[j]) := by
  intro j hj
  rw [add_at, Nat.zero_add]
  exact (h.word j hj).1
set_option maxHeartbeats 4000000 in
set_option maxRecDepth 100000 in
theorem words_calls (w : World) (b g : Nat) (ws : List Int) (acc : Int) (f : Bool) (hM : Mem w b g ws acc f) (hn : ws.length ≤ 1000000) :
    Calls Try.prog 13 #[.pointer (some ⟨b, 0, none⟩)] w fun e w' => ∃ v', e = .returned v' ∧ w'.ownsRow w.heap.size 29 1 v' ws.length (ws.map (Value.int .u64)) ∧ Below w.heap.size w w' := by
  have hu := Try.underlying74
  obtain ⟨c2, hc1, hc2, b0, b1, b2, z1, z2⟩ := hM.facts
  have R0 := Aside0.mk hM.reads
  clear hM
  go_enter Try.func13, Try.ntmps13
  go_wp2_with fail
  refine (clone_calls w ⟨g, 0, none⟩ ws.length c2 ws rfl hn R0.out).mono ?_
  rintro e w2 ⟨v, rfl, ho, _, hb⟩
  have HO := Aside0.mk ho
  have HB := Aside0.mk hb
  clear ho hb
  go_wp2
  go_ret
  exact ⟨_, rfl, HO.out, HB.out⟩
set_option maxHeartbeats 4000000 in
set_option maxRecDepth 100000 in
theorem of_none (v : Value) (A : Option Addr) (n c : Nat) (w : World) (hn : n < 1 ∨ 4096 < n) : Calls Try.prog 10 #[.slice A n c] w fun e w' => e = .returned (.pointer none) ∧ w' = w := by
  by_cases h : n < 1
  · have q1 : (n : Int) < 1 := by omega
    go_enter Try.func10, Try.ntmps10
    go_wp2
    go_ret
    exact ⟨rfl, rfl⟩
  · have q1 : ¬ (n : Int) < 1 := by omega
    have q2 : (4096 : Int) < (n : Int) := by omega
    go_enter Try.func10, Try.ntmps10
    go_wp2
    go_ret
    exact ⟨rfl, rfl⟩
theorem Mem.mk_new {w : World} {g cap : Nat} {cur : Array Value} {ws : List Int} (hh : w.heap[g]? = some (.cells cur 29 (0, 0))) (hnc : ws.length ≤ cap) (hcm : cap ≤ maxLen) (hcs : cur.size = cap * 1) (ht : cur.toList.take (ws.length * 1) = ws.map (Value.int .u64)) :
    Mem (w.alloc (.cells #[.slice (some ⟨g, 0, none⟩) ws.length cap, .int .i64 0, .bool false] 74 (0, 0))) w.heap.size g ws 0 false := by
  have hg : g < w.heap.size := (Array.getElem?_eq_some_iff.1 hh).1
  refine ⟨by omega, cap, cur, heap_alloc_new w _, blk_alloc hh _, by omega, hnc, by unfold maxLen at hcm; omega, fun i hi => ?_⟩
  have h2 : (cur.toList.take (ws.length * 1))[i]? = some (.int .u64 ws[i]) := by rw [ht, List.getElem?_map, List.getElem?_eq_getElem hi]; rfl
  rw [List.getElem?_take, if_pos (by omega), Array.getElem?_toList] at h2
  exact h2
set_option maxHeartbeats 4000000 in
set_option maxRecDepth 100000 in
theorem of_calls (w : World) (ad : Addr) (c : Nat) (ws : List Int) (h1 : 1 ≤ ws.length) (h2 : ws.length ≤ 4096) (hc : ∀ j (h : j < ws.length), w.cell? (ad.add j) = some (.int .u64 ws[j])) :
    Calls Try.prog 10 #[.slice (some ad) ws.length c] w fun e w' => ∃ b g, e = .returned (.pointer (some ⟨b, 0, none⟩)) ∧ Mem w' b g ws 0 false ∧ w.heap.size ≤ b ∧ w.heap.size ≤ g ∧ Below w.heap.size w w' := by
  have q1 : ¬ (ws.length : Int) < 1 := by omega
  have q2 : ¬ (4096 : Int) < (ws.length : Int) := by omega
  have hu := Try.underlying74
  have R0 := Aside0.mk hc
  clear hc
  go_enter Try.func10, Try.ntmps10
  go_wp2_with fail
  refine (clone_calls w ad ws.length c ws rfl (by omega) R0.out).mono ?_
  rintro e w2 ⟨v, rfl, ho, _, hb⟩
  rcases ho.2 with ⟨_, hz⟩ | ⟨g, cap, cur, rfl, hbg, hh, hnc, hcm, hcs, ht⟩
  · omega
  · have MN := Aside0.mk (Mem.mk_new hh hnc hcm hcs ht)
    have HB := Aside0.mk hb
    have HS := Aside0.mk hb.size
    have HG := Aside0.mk hbg
    clear ho hb hh hnc hcm hcs ht hbg
    go_wp2
    go_ret
    exact ⟨w2.heap.size, g, rfl, MN.out, HS.out, HG.out, below_alloc HB.out _⟩
set_option maxHeartbeats 4000000 in
set_option maxRecDepth 100000 in
theorem new_none (n : Int) (w : World) (hn : n < 1 ∨ 4096 < n) : Calls Try.prog 17 #[.int .i64 n] w fun e w' => e = .returned (.pointer none) ∧ w' = w := by
  by_cases h : n < 1
  · clear hn
    go_enter Try.func17, Try.ntmps17
    go_wp2
    go_ret
    exact ⟨rfl, rfl⟩
  · have q2 : (4096 : Int) < n := by omega
    clear hn
    go_enter Try.func17, Try.ntmps17
    go_wp2
    go_ret
    exact ⟨rfl, rfl⟩
set_option maxHeartbeats 4000000 in
set_option maxRecDepth 100000 in
theorem new_calls (n : Nat) (w : World) (h1 : 1 ≤ n) (h2 : n ≤ 4096) : Calls Try.prog 17 #[.int .i64 (n : Int)] w fun e w' => ∃ b g, e = .returned (.pointer (some ⟨b, 0, none⟩)) ∧ Mem w' b g (List.replicate n 0) 0 false ∧ w.heap.size ≤ b ∧ w.heap.size ≤ g ∧ Below w.heap.size w w' := by
  have q1 : ¬ (n : Int) < 1 := by omega
  have q2 : ¬ (4096 : Int) < (n : Int) := by omega
  have hmk := print_make (P := Try.prog) 22 29 .u64 8 Try.underlying22 (by kernel_rfl) (by decide) n (by omega)
  have hu := Try.underlying74
  obtain ⟨o1, o2⟩ := own_made w w.heap.size 29 .u64 n (Nat.le_refl _) (by omega)
  have MN : Aside0 (Mem ((w.alloc (.cells (madeCells #[.int .u64 0] n) 29)).alloc (.cells #[.slice (some ⟨w.heap.size, 0, none⟩) n n, .int .i64 0, .bool false] 74 (0, 0))) (w.heap.size + 1) w.heap.size (List.replicate n 0) 0 false) := by
    rcases o2 with ⟨e, _⟩ | ⟨g, cap, cur, e, hbg, hh, hnc, hcm, hcs, ht⟩
    · cases e
    · injection e with e1 _ e3
      injection e1 with e1
      injection e1 with e1
      subst e1; subst e3
      have h := Mem.mk_new (ws := List.replicate n (0 : Int)) hh (by simp) hcm hcs (by rw [List.length_replicate, ht]; simp [nums])
      rw [List.length_replicate] at h
      have e2 : (w.alloc (.cells (madeCells #[.int .u64 0] n) 29)).heap.size = w.heap.size + 1 := by simp
      rw [e2] at h
      exact ⟨h⟩
  clear o1 o2
  go_enter Try.func17, Try.ntmps17
  go_wp2
  go_ret
  exact ⟨w.heap.size + 1, rfl, w.heap.size, MN.out, by omega, Nat.le_refl _, below_alloc (below_alloc (Below.refl _ _) _) _⟩
set_option maxHeartbeats 4000000 in
set_option maxRecDepth 100000 in
theorem lives_calls (w : World) : Calls Try.prog 11 #[] w fun e w' => e = .returned (.bool true) ∧ Below w.heap.size w w' := by
  go_enter Try.func11, Try.ntmps11
  go_wp2_with fail
  refine (new_calls 2 w (by decide) (by decide)).mono ?_
  rintro e w1 ⟨b, g, rfl, hm, hb, hg, hbl⟩
  have M1 := Aside0.mk hm
  have B1 := Aside0.mk hbl
  have G1 := Aside0.mk hb
  have G2 := Aside0.mk hg
  clear hm hb hg hbl
  go_wp2_with fail
  refine (store_calls w1 b g (List.replicate 2 0) 0 false 1 7 M1.out (by decide) (by decide)).mono ?_
  rintro e w2 ⟨rfl, hm, hk⟩
  have M2 := Aside0.mk (show Mem w2 b g [0, 7] 1 false from hm)
  have K2 := Aside0.mk hk
  clear hm hk
  go_wp2_with fail
  refine (cas_calls w2 b g [0, 7] 1 false 1 7 8 M2.out (by decide) (by decide)).mono ?_
  rw [show casB [0, 7] 1 7 = true from rfl]
  rintro e w3 ⟨rfl, hm, hk⟩
  have M3 := Aside0.mk (show Mem w3 b g [0, 8] 2 false from hm)
  have K3 := Aside0.mk hk
  clear hm hk
  go_wp2_with fail
  refine (load_calls w3 b g [0, 8] 2 false 1 M3.out (by decide) (by decide)).mono ?_
  rw [show wordAt [0, 8] 1 = 8 from rfl]
  rintro e w4 ⟨rfl, hm, hk⟩
  have K4 := Aside0.mk hk
  clear hm hk
  go_wp2
  all_goals go_ret
  all_goals exact ⟨rfl, B1.out.trans (((K2.out.trans K3.out).trans K4.out).below G1.out G2.out B1.out.size)⟩
end Go.Proofs.Ytdmpfnnaefccnaa.MemW
