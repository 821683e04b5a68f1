/- Memories of words: accesses to two words, and any access at all. -/
import Derived.Test.YtdmpfnnaefccnaaMemW
set_option linter.unusedVariables false
set_option linter.unusedSimpArgs false
namespace Go.Proofs.Ytdmpfnnaefccnaa.MemDo
open Go Go.RowKit Go.Proofs.YtdmpfnnaefccnaaW.PrintWords Go.Proofs.Ytdmpfnnaefccnaa.MemW
def in2 (ws : List Int) (p q : Int) : Bool := inb ws p && inb ws q
set_option maxHeartbeats 4000000 in
set_option maxRecDepth 100000 in
theorem at2 (w : World) (b g : Nat) (ws : List Int) (acc : Int) (f : Bool) (vb vc : Nat) (p q : Int) (hM : Mem w b g ws acc f) (hv : w.heap[vb]? = some (.cells #[.int .i64 p, .int .i64 q] 3 (0, 0))) (h0 : 0 ≤ acc) (h1 : acc < 1000000) :
    Calls Try.prog 44 #[.pointer (some ⟨b, 0, none⟩), .slice (some ⟨vb, 0, none⟩) 2 vc] w fun e w' => e = .returned (.bool (in2 ws p q)) ∧ Mem w' b g ws (acc + 1) (f || !in2 ws p q) ∧ Keep2 w w' b g := by
  have hvb : vb ≠ b := by
    obtain ⟨_, _, _, hb, _⟩ := hM
    exact blk_ne hv hb (by decide)
  have hu := Try.underlying74
  obtain ⟨c, hc1, hc2, b0, b1, b2, z1, z2⟩ := hM.facts
  have M1 := Aside0.mk (hM.set1 (acc + 1))
  have K1 := Aside0.mk (Keep2.setb w b g 1 (.int .i64 (acc + 1)))
  have v1 : (w.setCell ⟨b, 1, none⟩ (.int .i64 (acc + 1))).cell? ⟨vb, 0, none⟩ = some (.int .i64 p) := (blk_cell (blk_far hv (p := ⟨b, 1, none⟩) hvb _) 0).trans rfl
  have v2 : (w.setCell ⟨b, 1, none⟩ (.int .i64 (acc + 1))).cell? ⟨vb, 1, none⟩ = some (.int .i64 q) := (blk_cell (blk_far hv (p := ⟨b, 1, none⟩) hvb _) 1).trans rfl
  have q1 : IntKind.i64.wrap (acc + 1) = acc + 1 := by rw [IntKind.wrap_i64]; omega
  clear hM hv
  go_enter Try.func44, Try.ntmps44
  go_wp2
  clear b0 b1 b2 z1 z2 hc1 hc2
  generalize w.setCell ⟨b, 1, none⟩ (.int .i64 (acc + 1)) = W1 at M1 K1 v1 v2 ⊢
  obtain ⟨c2, hc1, hc2, b0, b1, b2, z1, z2⟩ := M1.out.facts
  go_loopg [18] 2 (fun kx s18 wr => wr = W1 ∧ ((s18 = .int .i64 0 ∧ kx = 2) ∨ (s18 = .int .i64 1 ∧ kx = 1 ∧ Aside0 (inb ws p = true)) ∨ (s18 = .int .i64 2 ∧ kx = 0 ∧ Aside0 (inb ws p = true) ∧ Aside0 (inb ws q = true))))
  case atStart => exact ⟨rfl, .inl ⟨rfl, rfl⟩⟩
  case round =>
    obtain ⟨rfl, h⟩ := hrel
    rcases h with ⟨rfl, rfl⟩ | ⟨rfl, rfl, hip⟩ | ⟨rfl, rfl, hip, hiq⟩
    · by_cases ha : p < 0
      · have hi := Aside0.mk (show in2 ws p q = false by unfold in2; rw [show inb ws p = false from decide_eq_false (by omega)]; rfl)
        go_wp2
        go_ret
        exact ⟨by rw [hi.out] <;> rfl, by rw [hi.out, Bool.not_false, Bool.or_true]; exact M1.out.set2 true, K1.out.trans (Keep2.setb _ b g 2 _)⟩
      · by_cases hb : p < (ws.length : Int)
        · have hi := Aside0.mk (show inb ws p = true from decide_eq_true (by omega))
          go_wp2
          go_roundg 1
          case measure => omega
          case rel => exact ⟨rfl, .inr (.inl ⟨rfl, rfl, hi⟩)⟩
        · have hi := Aside0.mk (show in2 ws p q = false by unfold in2; rw [show inb ws p = false from decide_eq_false (by omega)]; rfl)
          go_wp2
          go_ret
          exact ⟨by rw [hi.out] <;> rfl, by rw [hi.out, Bool.not_false, Bool.or_true]; exact M1.out.set2 true, K1.out.trans (Keep2.setb _ b g 2 _)⟩
    · by_cases ha : q < 0
      · have hi := Aside0.mk (show in2 ws p q = false by unfold in2; rw [show inb ws q = false from decide_eq_false (by omega), Bool.and_false])
        go_wp2
        go_ret
        exact ⟨by rw [hi.out] <;> rfl, by rw [hi.out, Bool.not_false, Bool.or_true]; exact M1.out.set2 true, K1.out.trans (Keep2.setb _ b g 2 _)⟩
      · by_cases hb : q < (ws.length : Int)
        · have hi := Aside0.mk (show inb ws q = true from decide_eq_true (by omega))
          go_wp2
          go_roundg 0
          case measure => omega
          case rel => exact ⟨rfl, .inr (.inr ⟨rfl, rfl, hip, hi⟩)⟩
        · have hi := Aside0.mk (show in2 ws p q = false by unfold in2; rw [show inb ws q = false from decide_eq_false (by omega), Bool.and_false])
          go_wp2
          go_ret
          exact ⟨by rw [hi.out] <;> rfl, by rw [hi.out, Bool.not_false, Bool.or_true]; exact M1.out.set2 true, K1.out.trans (Keep2.setb _ b g 2 _)⟩
    · have hi := Aside0.mk (show in2 ws p q = true by unfold in2; rw [hip.out, hiq.out]; rfl)
      go_wp2
      go_ret
      exact ⟨by rw [hi.out] <;> rfl, by rw [hi.out, Bool.not_true, Bool.or_false]; exact M1.out, K1.out⟩
def dcssB (ws : List Int) (p iss a old : Int) : Bool := in2 ws p a && ((wordAt ws p == iss) && (wordAt ws a == old))
def dcssed (ws : List Int) (p iss a old next : Int) : List Int := if dcssB ws p iss a old = true then ws.set a.toNat next else ws
set_option maxHeartbeats 4000000 in
set_option maxRecDepth 100000 in
theorem dcss_calls (w : World) (b g : Nat) (ws : List Int) (acc : Int) (f : Bool) (p iss a old next : Int) (hM : Mem w b g ws acc f) (h0 : 0 ≤ acc) (h1 : acc < 1000000) :
    Calls Try.prog 19 #[.pointer (some ⟨b, 0, none⟩), .int .i64 p, .int .u64 iss, .int .i64 a, .int .u64 old, .int .u64 next] w fun e w' => e = .returned (.bool (dcssB ws p iss a old)) ∧ Mem w' b g (dcssed ws p iss a old next) (acc + 1) (f || !in2 ws p a) ∧ Keep2 w w' b g := by
  have hu := Try.underlying74
  have M0 := Aside0.mk hM
  clear hM
  have mixed : Try.prog.follows Departure.mixedOrders = true := by kernel_rfl
  go_enter Try.func19, Try.ntmps19
  go_wp2_with fail
  refine (at2 _ b g ws acc f w.heap.size 2 p a (M0.out.alloc _) (heap_alloc_new w _) h0 h1).mono ?_
  rintro e w2 ⟨rfl, hm, hk⟩
  have M2 := Aside0.mk hm
  have K2 := Aside0.mk ((Keep2.of_below (below_alloc (Below.refl w.heap.size w) (.cells #[.int .i64 p, .int .i64 a] 3 (0, 0)))).trans hk)
  clear hm hk
  cases hin : in2 ws p a with
  | false =>
    have HN := Aside0.mk (show dcssB ws p iss a old = false by unfold dcssB; rw [hin]; rfl)
    clear hin
    go_wp2
    go_ret
    exact ⟨by rw [HN.out] <;> rfl, by unfold dcssed; rw [HN.out, if_neg (by decide)]; exact M2.out, K2.out⟩
  | true =>
    have hin2 := hin
    unfold in2 at hin2
    rw [Bool.and_eq_true] at hin2
    obtain ⟨j, rfl, hj⟩ := inb_yes hin2.1
    obtain ⟨i, rfl, hi⟩ := inb_yes hin2.2
    clear hin2
    obtain ⟨c2, hc1, hc2, b0, b1, b2, z1, z2⟩ := M2.out.facts
    obtain ⟨g1, g2⟩ := M2.out.word i hi
    obtain ⟨g3, _⟩ := M2.out.word j hj
    have q1 : (i : Int) < (ws.length : Int) := by omega
    have q2 : (j : Int) < (ws.length : Int) := by omega
    have M3 := Aside0.mk (M2.out.setw i hi next)
    have wi := word_yes hi
    have wj := word_yes hj
    by_cases he : ws[j] = iss
    · by_cases he2 : ws[i] = old
      · have HN := Aside0.mk (show dcssB ws j iss i old = true by unfold dcssB; rw [hin, wi, wj, he, he2]; simp)
        rw [he2] at g1
        rw [he] at g3
        clear hin he he2 wi wj
        go_wp2
        go_ret
        exact ⟨by rw [HN.out] <;> rfl, by unfold dcssed; rw [HN.out, if_pos rfl, Int.toNat_natCast]; exact M3.out, K2.out.trans (Keep2.setg w2 b g i _)⟩
      · have HN := Aside0.mk (show dcssB ws j iss i old = false by unfold dcssB; rw [hin, wi, wj]; simp [he2])
        rw [he] at g3
        clear wi wj M3 hin he
        generalize ws[i] = x at g1 he2
        go_wp2
        go_ret
        exact ⟨by rw [HN.out] <;> rfl, by unfold dcssed; rw [HN.out, if_neg (by decide)]; exact M2.out, K2.out⟩
    · have HN := Aside0.mk (show dcssB ws j iss i old = false by unfold dcssB; rw [hin, wi, wj]; simp [he])
      clear wi wj M3 hin g1
      generalize ws[j] = x at g3 he
      go_wp2
      go_ret
      exact ⟨by rw [HN.out] <;> rfl, by unfold dcssed; rw [HN.out, if_neg (by decide)]; exact M2.out, K2.out⟩
set_option maxHeartbeats 4000000 in
set_option maxRecDepth 100000 in
theorem do_load (w : World) (b g : Nat) (ws : List Int) (acc : Int) (f : Bool) (a p iss old n : Int) (hM : Mem w b g ws acc f) (h0 : 0 ≤ acc) (h1 : acc < 1000000) :
    Calls Try.prog 18 #[.pointer (some ⟨b, 0, none⟩), .agg #[.int .i64 0, .int .i64 a, .int .i64 p, .int .u64 iss, .int .u64 old, .int .u64 n]] w fun e w' => e = .returned (.tuple #[.int .u64 (wordAt ws a), .bool false]) ∧ Mem w' b g (turned ws a id) (acc + 1) (f || !inb ws a) ∧ Keep2 w w' b g := by
  have hu := Try.underlying34
  have M0 := Aside0.mk hM
  clear hM
  go_enter Try.func18, Try.ntmps18
  go_wp2_with fail
  refine (load_calls _ b g ws acc f a (M0.out.alloc _) h0 h1).mono ?_
  rintro e w2 ⟨rfl, hm, hk⟩
  have M2 := Aside0.mk hm
  have K2 := Aside0.mk ((Keep2.of_below (below_alloc (Below.refl w.heap.size w) (.cells #[.int .i64 0, .int .i64 a, .int .i64 p, .int .u64 iss, .int .u64 old, .int .u64 n] 34 (0, 0)))).trans hk)
  clear hm hk
  go_wp2
  go_ret2
  exact ⟨rfl, M2.out, K2.out⟩
set_option maxHeartbeats 4000000 in
set_option maxRecDepth 100000 in
theorem do_store (w : World) (b g : Nat) (ws : List Int) (acc : Int) (f : Bool) (a p iss old n : Int) (hM : Mem w b g ws acc f) (h0 : 0 ≤ acc) (h1 : acc < 1000000) :
    Calls Try.prog 18 #[.pointer (some ⟨b, 0, none⟩), .agg #[.int .i64 1, .int .i64 a, .int .i64 p, .int .u64 iss, .int .u64 old, .int .u64 n]] w fun e w' => e = .returned (.tuple #[.int .u64 0, .bool false]) ∧ Mem w' b g (turned ws a (fun _ => n)) (acc + 1) (f || !inb ws a) ∧ Keep2 w w' b g := by
  have hu := Try.underlying34
  have M0 := Aside0.mk hM
  clear hM
  go_enter Try.func18, Try.ntmps18
  go_wp2_with fail
  refine (store_calls _ b g ws acc f a n (M0.out.alloc _) h0 h1).mono ?_
  rintro e w2 ⟨rfl, hm, hk⟩
  have M2 := Aside0.mk hm
  have K2 := Aside0.mk ((Keep2.of_below (below_alloc (Below.refl w.heap.size w) (.cells #[.int .i64 1, .int .i64 a, .int .i64 p, .int .u64 iss, .int .u64 old, .int .u64 n] 34 (0, 0)))).trans hk)
  clear hm hk
  go_wp2
  go_ret2
  exact ⟨rfl, M2.out, K2.out⟩
set_option maxHeartbeats 4000000 in
set_option maxRecDepth 100000 in
theorem do_cas (w : World) (b g : Nat) (ws : List Int) (acc : Int) (f : Bool) (a p iss old n : Int) (hM : Mem w b g ws acc f) (h0 : 0 ≤ acc) (h1 : acc < 1000000) :
    Calls Try.prog 18 #[.pointer (some ⟨b, 0, none⟩), .agg #[.int .i64 2, .int .i64 a, .int .i64 p, .int .u64 iss, .int .u64 old, .int .u64 n]] w fun e w' => e = .returned (.tuple #[.int .u64 0, .bool (casB ws a old)]) ∧ Mem w' b g (cased ws a old n) (acc + 1) (f || !inb ws a) ∧ Keep2 w w' b g := by
  have hu := Try.underlying34
  have M0 := Aside0.mk hM
  clear hM
  go_enter Try.func18, Try.ntmps18
  go_wp2_with fail
  refine (cas_calls _ b g ws acc f a old n (M0.out.alloc _) h0 h1).mono ?_
  rintro e w2 ⟨rfl, hm, hk⟩
  have M2 := Aside0.mk hm
  have K2 := Aside0.mk ((Keep2.of_below (below_alloc (Below.refl w.heap.size w) (.cells #[.int .i64 2, .int .i64 a, .int .i64 p, .int .u64 iss, .int .u64 old, .int .u64 n] 34 (0, 0)))).trans hk)
  clear hm hk
  go_wp2
  go_ret2
  exact ⟨rfl, M2.out, K2.out⟩
set_option maxHeartbeats 4000000 in
set_option maxRecDepth 100000 in
theorem do_or (w : World) (b g : Nat) (ws : List Int) (acc : Int) (f : Bool) (a p iss old n : Int) (hM : Mem w b g ws acc f) (h0 : 0 ≤ acc) (h1 : acc < 1000000) :
    Calls Try.prog 18 #[.pointer (some ⟨b, 0, none⟩), .agg #[.int .i64 3, .int .i64 a, .int .i64 p, .int .u64 iss, .int .u64 old, .int .u64 n]] w fun e w' => e = .returned (.tuple #[.int .u64 (wordAt ws a), .bool false]) ∧ Mem w' b g (turned ws a (fun v => Go.bits .or .u64 v n)) (acc + 1) (f || !inb ws a) ∧ Keep2 w w' b g := by
  have hu := Try.underlying34
  have M0 := Aside0.mk hM
  clear hM
  go_enter Try.func18, Try.ntmps18
  go_wp2_with fail
  refine (or_calls _ b g ws acc f a n (M0.out.alloc _) h0 h1).mono ?_
  rintro e w2 ⟨rfl, hm, hk⟩
  have M2 := Aside0.mk hm
  have K2 := Aside0.mk ((Keep2.of_below (below_alloc (Below.refl w.heap.size w) (.cells #[.int .i64 3, .int .i64 a, .int .i64 p, .int .u64 iss, .int .u64 old, .int .u64 n] 34 (0, 0)))).trans hk)
  clear hm hk
  go_wp2
  go_ret2
  exact ⟨rfl, M2.out, K2.out⟩
set_option maxHeartbeats 4000000 in
set_option maxRecDepth 100000 in
theorem do_add (w : World) (b g : Nat) (ws : List Int) (acc : Int) (f : Bool) (a p iss old n : Int) (hM : Mem w b g ws acc f) (h0 : 0 ≤ acc) (h1 : acc < 1000000) :
    Calls Try.prog 18 #[.pointer (some ⟨b, 0, none⟩), .agg #[.int .i64 4, .int .i64 a, .int .i64 p, .int .u64 iss, .int .u64 old, .int .u64 n]] w fun e w' => e = .returned (.tuple #[.int .u64 (wordAt ws a), .bool false]) ∧ Mem w' b g (turned ws a (fun v => IntKind.u64.wrap (v + n))) (acc + 1) (f || !inb ws a) ∧ Keep2 w w' b g := by
  have hu := Try.underlying34
  have M0 := Aside0.mk hM
  clear hM
  go_enter Try.func18, Try.ntmps18
  go_wp2_with fail
  refine (add_calls _ b g ws acc f a n (M0.out.alloc _) h0 h1).mono ?_
  rintro e w2 ⟨rfl, hm, hk⟩
  have M2 := Aside0.mk hm
  have K2 := Aside0.mk ((Keep2.of_below (below_alloc (Below.refl w.heap.size w) (.cells #[.int .i64 4, .int .i64 a, .int .i64 p, .int .u64 iss, .int .u64 old, .int .u64 n] 34 (0, 0)))).trans hk)
  clear hm hk
  go_wp2
  go_ret2
  exact ⟨rfl, M2.out, K2.out⟩
set_option maxHeartbeats 4000000 in
set_option maxRecDepth 100000 in
theorem do_dcss (w : World) (b g : Nat) (ws : List Int) (acc : Int) (f : Bool) (k a p iss old n : Int) (k0 : ¬ k = 0) (k1 : ¬ k = 1) (k2 : ¬ k = 2) (k3 : ¬ k = 3) (k4 : ¬ k = 4) (hM : Mem w b g ws acc f) (h0 : 0 ≤ acc) (h1 : acc < 1000000) :
    Calls Try.prog 18 #[.pointer (some ⟨b, 0, none⟩), .agg #[.int .i64 k, .int .i64 a, .int .i64 p, .int .u64 iss, .int .u64 old, .int .u64 n]] w fun e w' => e = .returned (.tuple #[.int .u64 0, .bool (dcssB ws p iss a old)]) ∧ Mem w' b g (dcssed ws p iss a old n) (acc + 1) (f || !in2 ws p a) ∧ Keep2 w w' b g := by
  have hu := Try.underlying34
  have M0 := Aside0.mk hM
  clear hM
  go_enter Try.func18, Try.ntmps18
  go_wp2_with fail
  refine (dcss_calls _ b g ws acc f p iss a old n (M0.out.alloc _) h0 h1).mono ?_
  rintro e w2 ⟨rfl, hm, hk⟩
  have M2 := Aside0.mk hm
  have K2 := Aside0.mk ((Keep2.of_below (below_alloc (Below.refl w.heap.size w) (.cells #[.int .i64 k, .int .i64 a, .int .i64 p, .int .u64 iss, .int .u64 old, .int .u64 n] 34 (0, 0)))).trans hk)
  clear hm hk
  go_wp2
  go_ret2
  exact ⟨rfl, M2.out, K2.out⟩
def doW (ws : List Int) (k a p iss old n : Int) : List Int := if k = 0 then turned ws a id else if k = 1 then turned ws a (fun _ => n) else if k = 2 then cased ws a old n else if k = 3 then turned ws a (fun v => Go.bits .or .u64 v n) else if k = 4 then turned ws a (fun v => IntKind.u64.wrap (v + n)) else dcssed ws p iss a old n
def doV (ws : List Int) (k a : Int) : Int := if k = 0 then wordAt ws a else if k = 1 then 0 else if k = 2 then 0 else if k = 3 then wordAt ws a else if k = 4 then wordAt ws a else 0
def doB (ws : List Int) (k a p iss old : Int) : Bool := if k = 0 then false else if k = 1 then false else if k = 2 then casB ws a old else if k = 3 then false else if k = 4 then false else dcssB ws p iss a old
def doI (ws : List Int) (k a p : Int) : Bool := if k = 0 then inb ws a else if k = 1 then inb ws a else if k = 2 then inb ws a else if k = 3 then inb ws a else if k = 4 then inb ws a else in2 ws p a
theorem do_calls (w : World) (b g : Nat) (ws : List Int) (acc : Int) (f : Bool) (k a p iss old n : Int) (hM : Mem w b g ws acc f) (h0 : 0 ≤ acc) (h1 : acc < 1000000) :
    Calls Try.prog 18 #[.pointer (some ⟨b, 0, none⟩), .agg #[.int .i64 k, .int .i64 a, .int .i64 p, .int .u64 iss, .int .u64 old, .int .u64 n]] w fun e w' => e = .returned (.tuple #[.int .u64 (doV ws k a), .bool (doB ws k a p iss old)]) ∧ Mem w' b g (doW ws k a p iss old n) (acc + 1) (f || !doI ws k a p) ∧ Keep2 w w' b g := by
  unfold doV doB doW doI
  by_cases k0 : k = 0
  · subst k0; exact do_load w b g ws acc f a p iss old n hM h0 h1
  · rw [if_neg k0, if_neg k0, if_neg k0, if_neg k0]
    by_cases k1 : k = 1
    · subst k1; exact do_store w b g ws acc f a p iss old n hM h0 h1
    · rw [if_neg k1, if_neg k1, if_neg k1, if_neg k1]
      by_cases k2 : k = 2
      · subst k2; exact do_cas w b g ws acc f a p iss old n hM h0 h1
      · rw [if_neg k2, if_neg k2, if_neg k2, if_neg k2]
        by_cases k3 : k = 3
        · subst k3; exact do_or w b g ws acc f a p iss old n hM h0 h1
        · rw [if_neg k3, if_neg k3, if_neg k3, if_neg k3]
          by_cases k4 : k = 4
          · subst k4; exact do_add w b g ws acc f a p iss old n hM h0 h1
          · rw [if_neg k4, if_neg k4, if_neg k4, if_neg k4]
            exact do_dcss w b g ws acc f k a p iss old n k0 k1 k2 k3 k4 hM h0 h1
theorem turned_len (ws : List Int) (a : Int) (fw : Int → Int) : (turned ws a fw).length = ws.length := by unfold turned; split <;> simp
theorem doW_len (ws : List Int) (k a p iss old n : Int) : (doW ws k a p iss old n).length = ws.length := by
  unfold doW cased dcssed
  split
  · exact turned_len _ _ _
  · split
    · exact turned_len _ _ _
    · split
      · split <;> simp
      · split
        · exact turned_len _ _ _
        · split
          · exact turned_len _ _ _
          · split <;> simp
end Go.Proofs.Ytdmpfnnaefccnaa.MemDo
