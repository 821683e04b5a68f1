/- The opers of a thread, told one by one: what the closures do. -/
import Derived.Test.YtacajonkkfmibaaHESame
import Derived.Test.YtacajonkkfmibaaNum
import Derived.Deep.RegionHeld3
import Derived.Deep.DeepCutAuto
import Derived.Deep.CutRange
import Derived.StillTailTactics
import Derived.WalkMore
set_option linter.unusedVariables false
set_option linter.unusedSimpArgs false
namespace Go.Proofs.Ytacajonkkfmibaa.HistEachA
open Go Go.RowKit Go.Proofs.YtacajonkkfmibaaW.PrintWords Go.Proofs.YtacajonkkfmibaaW.PrintLast Go.Proofs.YtacajonkkfmibaaW.PrintMore Go.Proofs.Ytacajonkkfmibaa.PHistOpers Go.Proofs.Ytacajonkkfmibaa.PHistOpers.HistW Go.Proofs.Ytacajonkkfmibaa.Num
theorem same_loop (l : List (S104)) (h : l.length ≤ 9223372036854775807) : ∀ (d i : Nat), i + d = l.length → deadwoodref08_Same.l0 (d + 1) l l (i : Int) = some true
  | 0, i, e => by rw [deadwoodref08_Same.l0, if_neg (by omega)]
  | d + 1, i, e => by
    rw [deadwoodref08_Same.l0, if_pos (by omega), if_pos (by omega), if_pos (by omega), beq_self_eq_true, beq_self_eq_true, if_neg (by decide), wrap64_of (by omega) (by omega)]
    exact same_loop l h d (i + 1) (by omega)
theorem same_self (o : Opr) (h : o.f2.f4.length ≤ 9223372036854775807) : ∃ k, deadwoodref11_Same.f k o.f0 o.f1.f0 o.f1.f1 o.f1.f2 o.f1.f3 o.f1.f4 o.f2.f0 o.f2.f1 o.f2.f2 o.f2.f3 o.f2.f4 o.f3 o.f4 o.f0 o.f1.f0 o.f1.f1 o.f1.f2 o.f1.f3 o.f1.f4 o.f2.f0 o.f2.f1 o.f2.f2 o.f2.f3 o.f2.f4 o.f3 o.f4 = some true := by
  refine ⟨o.f2.f4.length + 1, ?_⟩
  have h2 : deadwoodref08_Same.f (o.f2.f4.length + 1) o.f2.f4 o.f2.f4 = some true := by
    unfold deadwoodref08_Same.f
    rw [if_pos rfl]
    exact same_loop _ h _ 0 (by omega)
  unfold deadwoodref11_Same.f deadwoodref09_Same.f
  simp only [if_true, beq_self_eq_true, Bool.and_self, h2, Option.bind_some]
set_option maxRecDepth 100000 in
theorem each_calls (A : Option Addr) (n c : Nat) (t : Int) (w : World) : Calls Try.prog 19 #[.slice A n c, .int .i64 t] w fun e w' => e = .returned (.func (.func 54) #[] #[.pointer (some ⟨w.heap.size, 0, none⟩), .pointer (some ⟨w.heap.size + 1, 0, none⟩)]) ∧ w' = (w.alloc (.cells #[.slice A n c] 22 (0, 0))).alloc (.cells #[.int .i64 t] 3 (0, 0)) := by
  go_enter Try.func19, Try.ntmps19
  go_wp2
  go_ret
  exact ⟨by simp, rfl⟩
def KeepB (w w' : World) (b g : Nat) : Prop := w'.os = w.os ∧ w'.tape = w.tape ∧ w'.output = w.output ∧ w.heap.size ≤ w'.heap.size ∧ ∀ k, k < w.heap.size → k ≠ b → k ≠ g → w'.heap[k]? = w.heap[k]?
theorem KeepB.refl (w : World) (b g : Nat) : KeepB w w b g := ⟨rfl, rfl, rfl, Nat.le_refl _, fun _ _ _ _ => rfl⟩
theorem KeepB.trans {w w1 w2 : World} {b g : Nat} (h : KeepB w w1 b g) (k : KeepB w1 w2 b g) : KeepB w w2 b g :=
  ⟨k.1.trans h.1, k.2.1.trans h.2.1, k.2.2.1.trans h.2.2.1, Nat.le_trans h.2.2.2.1 k.2.2.2.1, fun i hi hb hg => (k.2.2.2.2 i (Nat.lt_of_lt_of_le hi h.2.2.2.1) hb hg).trans (h.2.2.2.2 i hi hb hg)⟩
theorem KeepB.setb (w : World) (b g i : Nat) (u : Value) : KeepB w (w.setCell ⟨b, i, none⟩ u) b g := ⟨rfl, rfl, rfl, by simp, fun k _ hb _ => Below.heap_setCell w ⟨b, i, none⟩ u k hb⟩
theorem KeepB.setg (w : World) (b g i : Nat) (u : Value) : KeepB w (w.setCell ⟨g, i, none⟩ u) b g := ⟨rfl, rfl, rfl, by simp, fun k _ _ hg => Below.heap_setCell w ⟨g, i, none⟩ u k hg⟩
theorem KeepB.of_below {w w' : World} {b g : Nat} (h : Below w.heap.size w w') : KeepB w w' b g := ⟨h.os, h.tape, h.output, h.size, fun k hk _ _ => h.block k hk⟩
theorem KeepB.below {w w' : World} {b g B : Nat} (h : KeepB w w' b g) (hb : B ≤ b) (hg : B ≤ g) (hs : B ≤ w.heap.size) : Below B w w' := ⟨h.1, h.2.1, h.2.2.1, h.2.2.2.1, fun k hk => h.2.2.2.2 k (by omega) (by omega) (by omega)⟩
def oc (o : Opr) (A : Option Addr) (c : Nat) : Array Value := #[.int .i64 o.f0, .int .i64 o.f1.f0, .int .i64 o.f1.f1, .int .i64 o.f1.f2, .int .i64 o.f1.f3, .int .i64 o.f1.f4, .int .i64 o.f2.f0, .int .i64 o.f2.f1, .int .i64 o.f2.f2, .int .i64 o.f2.f3, .slice A o.f2.f4.length c, .int .i64 o.f3, .int .i64 o.f4]
set_option maxHeartbeats 4000000 in
set_option maxRecDepth 100000 in
theorem yield_calls (X : List Opr) (i : Nat) (till : Int) (fb ib xb tb : Nat) (o : Opr) (A10 : Option Addr) (c10 : Nat) (Ax : Option Addr) (cx : Nat) (w : World) (hi : i < X.length) (ho : X[i] = o) (hl : X.length ≤ 1000000)
    (hfb : w.heap[fb]? = some (.cells #[.bool true] 4 (0, 0))) (hib : w.heap[ib]? = some (.cells #[.int .i64 i] 3 (0, 0))) (hxb : w.heap[xb]? = some (.cells #[.slice Ax X.length cx] 25 (0, 0))) (htb : w.heap[tb]? = some (.cells #[.int .i64 till] 3 (0, 0)))
    (hC : Kd.C kO w Ax X.length X) (ho1 : o.f2.f4.length ≤ c10) (ho2 : Kd.C k104 w A10 o.f2.f4.length o.f2.f4) (hne : fb ≠ ib ∧ tb ≠ ib ∧ tb ≠ fb) :
    Calls Try.prog 20 #[.agg (oc o A10 c10), .pointer (some ⟨fb, 0, none⟩), .pointer (some ⟨ib, 0, none⟩), .pointer (some ⟨xb, 0, none⟩), .pointer (some ⟨tb, 0, none⟩)] w fun e w' => e = .returned (.bool (((i : Int) + 1) != till)) ∧
      (w'.heap[fb]? = some (.cells #[.bool true] 4 (0, 0)) ∧ w'.heap[ib]? = some (.cells #[.int .i64 ((i : Int) + 1)] 3 (0, 0))) ∧ KeepB w w' fb ib := by
  have hu5 := Try.underlying35
  obtain ⟨k, hk⟩ := same_self o ho2.2.1
  obtain ⟨ad, Ap, cp, hA, hC13, hlp, hrp⟩ := op_at hC i (by omega)
  rw [ho] at hC13 hlp hrp
  subst hA
  have SM := Aside0.mk (fun (W : World) (hb : Below w.heap.size w W) => deadwoodref11_Same.calls k o.f0 o.f1.f0 o.f1.f1 o.f1.f2 o.f1.f3 o.f1.f4 o.f2.f0 o.f2.f1 o.f2.f2 o.f2.f3 A10 c10 o.f2.f4 o.f3 o.f4 o.f0 o.f1.f0 o.f1.f1 o.f1.f2 o.f1.f3 o.f1.f4 o.f2.f0 o.f2.f1 o.f2.f2 o.f2.f3 Ap cp o.f2.f4 o.f3 o.f4 true W (Kd.C_below ho2 hb) ho1 (Kd.C_below hrp hb) hlp hk)
  have HC := Aside0.mk hC13
  have F0 := Aside0.mk hfb
  have I0 := Aside0.mk hib
  have T0 := Aside0.mk htb
  have X0 := Aside0.mk hxb
  have q1 : (i : Int) < (X.length : Int) := by omega
  have q2 : wrap64 ((i : Int) + 1) = (i : Int) + 1 := by rw [wrap64_of (by omega) (by omega)]
  clear ho hk hC hC13 hlp hrp ho1 ho2 hfb hib htb hxb
  unfold oc
  go_enter Try.func20, Try.ntmps20
  go_wp2_with fail
  have OB0 := heap_alloc_new w (.cells (oc o A10 c10) 35 (0, 0))
  have KB := Aside0.mk (KeepB.of_below (b := fb) (g := ib) (below_alloc (Below.refl w.heap.size w) (.cells (oc o A10 c10) 35 (0, 0))))
  have HB := Aside0.mk (below_alloc (Below.refl w.heap.size w) (.cells (oc o A10 c10) 35 (0, 0)))
  have F1 := Aside0.mk (blk_alloc F0.out (.cells (oc o A10 c10) 35 (0, 0)))
  have I1 := Aside0.mk (blk_alloc I0.out (.cells (oc o A10 c10) 35 (0, 0)))
  have X1 := Aside0.mk (blk_alloc X0.out (.cells (oc o A10 c10) 35 (0, 0)))
  have T1 := Aside0.mk (blk_alloc T0.out (.cells (oc o A10 c10) 35 (0, 0)))
  have HC1 := Aside0.mk (HC.out.below HB.out)
  have OB := Aside0.mk (cells13 OB0)
  clear F0 I0 X0 T0 HC OB0
  unfold oc at F1 I1 X1 T1 HC1 OB HB KB
  generalize w.alloc _ = w1 at F1 I1 X1 T1 HC1 OB HB KB ⊢
  obtain ⟨x0, x1, x2, x3, x4, x5, x6, x7, x8, x9, x10, x11, x12⟩ := HC1.out
  obtain ⟨y0, y1, y2, y3, y4, y5, y6, y7, y8, y9, y10, y11, y12⟩ := OB.out
  have f0 : w1.cell? ⟨fb, 0, none⟩ = some (.bool true) := (blk_cell F1.out 0).trans rfl
  have i0 : w1.cell? ⟨ib, 0, none⟩ = some (.int .i64 i) := (blk_cell I1.out 0).trans rfl
  have xx0 : w1.cell? ⟨xb, 0, none⟩ = some (.slice (some ad) X.length cx) := (blk_cell X1.out 0).trans rfl
  go_still_tail 13, (by kernel_rfl)
  change wpList _ _ _ _ _ w1.drew
  have HB2 := Aside0.mk (below_drew1 HB.out)
  have F2 : Aside0 (w1.drew.heap[fb]? = some (.cells #[.bool true] 4 (0, 0))) := ⟨F1.out⟩
  have I2 : Aside0 (w1.drew.heap[ib]? = some (.cells #[.int .i64 i] 3 (0, 0))) := ⟨I1.out⟩
  have T2 : Aside0 (w1.drew.heap[tb]? = some (.cells #[.int .i64 till] 3 (0, 0))) := ⟨T1.out⟩
  clear x0 x1 x2 x3 x4 x5 x6 x7 x8 x9 x10 x11 x12 y0 y1 y2 y3 y4 y5 y6 y7 y8 y9 y10 y11 y12 f0 i0 xx0 HC1 OB X1 T1 I1 F1 HB KB
  generalize w1.drew = w2 at HB2 F2 I2 T2 ⊢
  go_wp2_with fail
  refine (SM.out w2 HB2.out).mono ?_
  rintro e w3 ⟨rfl, hb3⟩
  have HB3 := Aside0.mk (below_then HB2.out HB2.out.size hb3)
  have F3 := blk_below F2.out hb3
  have I3 := blk_below I2.out hb3
  have T3 := blk_below T2.out hb3
  have f3 : w3.cell? ⟨fb, 0, none⟩ = some (.bool true) := (blk_cell F3 0).trans rfl
  have zf3 := blk_frozen F3 0
  have I4 := blk_far I3 (p := ⟨fb, 0, none⟩) hne.1.symm (.bool true)
  have T4 := blk_far T3 (p := ⟨fb, 0, none⟩) hne.2.2 (.bool true)
  have F4 := blk_set F3 0 (.bool true)
  have i4 : (w3.setCell ⟨fb, 0, none⟩ (.bool true)).cell? ⟨ib, 0, none⟩ = some (.int .i64 i) := (blk_cell I4 0).trans rfl
  have zi4 := blk_frozen I4 0
  have T5 := blk_far T4 (p := ⟨ib, 0, none⟩) hne.2.1 (.int .i64 ((i : Int) + 1))
  have I5 := Aside0.mk (blk_set I4 0 (.int .i64 ((i : Int) + 1)))
  have F5 := Aside0.mk (blk_far F4 (p := ⟨ib, 0, none⟩) hne.1 (.int .i64 ((i : Int) + 1)))
  have i5 : ((w3.setCell ⟨fb, 0, none⟩ (.bool true)).setCell ⟨ib, 0, none⟩ (.int .i64 ((i : Int) + 1))).cell? ⟨ib, 0, none⟩ = some (.int .i64 ((i : Int) + 1)) := (blk_cell I5.out 0).trans rfl
  have t5 : ((w3.setCell ⟨fb, 0, none⟩ (.bool true)).setCell ⟨ib, 0, none⟩ (.int .i64 ((i : Int) + 1))).cell? ⟨tb, 0, none⟩ = some (.int .i64 till) := (blk_cell T5 0).trans rfl
  have K5 := Aside0.mk ((KeepB.of_below HB3.out).trans ((KeepB.setb w3 fb ib 0 (.bool true)).trans (KeepB.setg _ fb ib 0 (.int .i64 ((i : Int) + 1)))))
  clear hb3 F3 I3 T3 I4 T4 F4 T5 HB3 F2 I2 T2
  go_wp2
  go_ret
  exact ⟨rfl, ⟨F5.out, I5.out⟩, K5.out⟩
def kept (fb ib : Nat) (k : Nat) : Prop := k ≠ fb ∧ k ≠ ib
theorem KeepB.F {α : Type} {d : Kd α} {w w' : World} {fb ib : Nat} {A : Option Addr} {n : Nat} {xs : List α} (h : KeepB w w' fb ib) (hf : Kd.F d w (kept fb ib) A n xs) : Kd.F d w' (kept fb ib) A n xs :=
  Kd.F_step hf (fun k hk hlt => h.2.2.2.2 k hlt hk.1 hk.2)
theorem KeepB.blk {w w' : World} {fb ib g : Nat} {o : Obj} (h : KeepB w w' fb ib) (hg : w.heap[g]? = some o) (h1 : g ≠ fb) (h2 : g ≠ ib) : w'.heap[g]? = some o :=
  (h.2.2.2.2 g (Array.getElem?_eq_some_iff.1 hg).1 h1 h2).trans hg
def wantN (till : Int) (n : Nat) : Int := if 0 < till ∧ till < n then till else n
def mine (thread : Int) (xs : List Opr) : List Opr := xs.filter (fun o => o.f0 == thread)
theorem mine_at (t : Int) : ∀ (xs : List Opr) (j : Nat) (hj : j < xs.length), xs[j].f0 = t → ∃ h : (mine t (xs.take j)).length < (mine t xs).length, (mine t xs)[(mine t (xs.take j)).length] = xs[j]
  | [], j, hj, _ => by simp at hj
  | x :: xs, 0, _, h => by
    have h2 : (x.f0 == t) = true := beq_iff_eq.2 h
    have e : mine t (x :: xs) = x :: mine t xs := by unfold mine; rw [List.filter_cons, if_pos h2]
    refine ⟨by rw [e]; simp [mine], ?_⟩
    simp [e, mine]
    simp only [mine] at e
    simp [e]
  | x :: xs, j + 1, hj, h => by
    obtain ⟨h1, h2⟩ := mine_at t xs j (by simpa using hj) (by simpa using h)
    by_cases hx : (x.f0 == t) = true
    · have e : mine t (x :: xs) = x :: mine t xs := by unfold mine; rw [List.filter_cons, if_pos hx]
      have e2 : mine t ((x :: xs).take (j + 1)) = x :: mine t (xs.take j) := by rw [List.take_succ_cons]; unfold mine; rw [List.filter_cons, if_pos hx]
      refine ⟨by rw [e, e2]; simpa using h1, ?_⟩
      simp only [e, e2, List.length_cons, List.getElem_cons_succ]
      exact h2
    · have e : mine t (x :: xs) = mine t xs := by unfold mine; rw [List.filter_cons, if_neg hx]
      have e2 : mine t ((x :: xs).take (j + 1)) = mine t (xs.take j) := by rw [List.take_succ_cons]; unfold mine; rw [List.filter_cons, if_neg hx]
      refine ⟨by rw [e, e2]; exact h1, ?_⟩
      simp only [e, e2, List.getElem_cons_succ]
      exact h2
theorem mine_snoc (t : Int) (xs : List Opr) (j : Nat) (hj : j < xs.length) : (mine t (xs.take (j + 1))).length = (mine t (xs.take j)).length + (if xs[j].f0 = t then 1 else 0) := by
  rw [List.take_succ_eq_append_getElem hj]
  unfold mine
  rw [List.filter_append, List.length_append, List.filter_cons]
  by_cases h : xs[j].f0 = t
  · rw [if_pos h, if_pos (beq_iff_eq.2 h)]; rfl
  · rw [if_neg h, if_neg (by rw [beq_iff_eq]; exact h)]; rfl
set_option maxHeartbeats 4000000 in
set_option maxRecDepth 100000 in
theorem each1_calls (l : List Ev) (A : Option Addr) (c : Nat) (thread till : Int) (fb ib xb tb lb hb : Nat) (Ax : Option Addr) (cx : Nat) (X : List Opr) (w : World) (hX : X = mine thread (opersF l)) (hl : l.length ≤ 120) (hxl : (opersF l).length ≤ 120) (hc : l.length ≤ c)
    (hf : Kd.F k33 w (kept fb ib) A l.length l) (hx : Kd.F kO w (kept fb ib) Ax X.length X)
    (hfb : w.heap[fb]? = some (.cells #[.bool true] 4 (0, 0))) (hib : w.heap[ib]? = some (.cells #[.int .i64 0] 3 (0, 0))) (hxb : w.heap[xb]? = some (.cells #[.slice Ax X.length cx] 25 (0, 0))) (htb : w.heap[tb]? = some (.cells #[.int .i64 till] 3 (0, 0)))
    (hlb : w.heap[lb]? = some (.cells #[.slice A l.length c] 22 (0, 0))) (hhb : w.heap[hb]? = some (.cells #[.int .i64 thread] 3 (0, 0))) (hne : fb ≠ ib ∧ tb ≠ ib ∧ tb ≠ fb) (hne2 : xb ≠ fb ∧ xb ≠ ib ∧ hb ≠ fb ∧ hb ≠ ib) :
    Calls Try.prog 54 #[.func (.func 20) #[] #[.pointer (some ⟨fb, 0, none⟩), .pointer (some ⟨ib, 0, none⟩), .pointer (some ⟨xb, 0, none⟩), .pointer (some ⟨tb, 0, none⟩)], .pointer (some ⟨lb, 0, none⟩), .pointer (some ⟨hb, 0, none⟩)] w fun e w' => (∃ v, e = .returned v) ∧
      ∃ i : Nat, (i : Int) = wantN till X.length ∧ (w'.heap[fb]? = some (.cells #[.bool true] 4 (0, 0)) ∧ w'.heap[ib]? = some (.cells #[.int .i64 i] 3 (0, 0))) ∧ KeepB w w' fb ib := by
  have hu5 := Try.underlying35
  have O := Aside0.mk (fun (W : World) (hb : Below w.heap.size w W) => opers_calls l A c W (kept fb ib) (Kd.F_below hf hb) hc (by omega))
  have lbc : w.cell? ⟨lb, 0, none⟩ = some (.slice A l.length c) := (blk_cell hlb 0).trans rfl
  have HX := Aside0.mk hx
  have EX := Aside0.mk hX
  have W0 := Aside0.mk (And.intro hfb (And.intro hib (And.intro hxb (And.intro htb hhb))))
  have lf := (Array.getElem?_eq_some_iff.1 hfb).1
  have li := (Array.getElem?_eq_some_iff.1 hib).1
  clear hf hx hX hfb hib hxb htb hlb hhb
  go_enter Try.func54, Try.ntmps54
  go_wp2
  go_step3
  go_wp2
  go_step3
  go_wp2_with fail
  refine (O.out _ (Below.refl _ _)).mono ?_
  rintro e w2 ⟨v0, rfl, hV, hb2⟩
  obtain ⟨Ao, co, rfl⟩ := Kd.V_slice hV
  have FO := Aside0.mk (Kd.F_mono (Kd.V_F hV) (ok' := kept fb ib) (fun k hk => by
    rcases hk with hk | hk
    · exact hk
    · exact ⟨by omega, by omega⟩))
  have B2 := Aside0.mk hb2
  have W2 := Aside0.mk (show _ ∧ _ ∧ _ ∧ _ ∧ _ from ⟨blk_below W0.out.1 hb2, blk_below W0.out.2.1 hb2, blk_below W0.out.2.2.1 hb2, blk_below W0.out.2.2.2.1 hb2, blk_below W0.out.2.2.2.2 hb2⟩)
  have HX2 := Aside0.mk (Kd.F_below HX.out hb2)
  generalize opersF l = xs at FO EX hxl
  clear hV hb2 O HX W0 lbc
  have ex := EX.out
  subst ex
  clear EX
  go_wp2
  go_loopg [9] xs.length (fun kx s9 wr => ∃ j : Nat, s9 = .int .i64 j ∧ j + kx = xs.length ∧ Aside0 (¬ (1 ≤ till ∧ till ≤ ((mine thread (xs.take j)).length : Int))) ∧ Aside0 (wr.heap[fb]? = some (.cells #[.bool true] 4 (0, 0)) ∧ wr.heap[ib]? = some (.cells #[.int .i64 ((mine thread (xs.take j)).length : Nat)] 3 (0, 0))) ∧ Aside0 (KeepB w2 wr fb ib))
  case atStart => exact ⟨0, rfl, by omega, ⟨by simp [mine]; omega⟩, ⟨W2.out.1, W2.out.2.1⟩, ⟨KeepB.refl _ _ _⟩⟩
  case round =>
    obtain ⟨j, rfl, hj, NT, FI, KP⟩ := hrel
    by_cases hlt : j < xs.length
    · obtain ⟨ad, A10, c10, hA, hC13, hl10, hr10⟩ := op_at (Kd.F_now (KP.out.F FO.out)) j hlt
      subst hA
      have q1 : (j : Int) < (xs.length : Int) := by omega
      have hS := mine_snoc thread xs j hlt
      have hM := mine_at thread xs j hlt
      obtain ⟨o, ho⟩ : ∃ o, xs[j] = o := ⟨_, rfl⟩
      rw [ho] at hC13 hl10 hr10 hS hM
      obtain ⟨p0, p1, p2, p3, p4, p5, p6, p7, p8, p9, p10, p11, p12⟩ := hC13
      have HBW := KP.out.blk W2.out.2.2.2.2 hne2.2.2.1 hne2.2.2.2
      have hb0 : wr.cell? ⟨hb, 0, none⟩ = some (.int .i64 thread) := (blk_cell HBW 0).trans rfl
      have hb1 : (wr.alloc (.cells #[.int .i64 o.f0, .int .i64 o.f1.f0, .int .i64 o.f1.f1, .int .i64 o.f1.f2, .int .i64 o.f1.f3, .int .i64 o.f1.f4, .int .i64 o.f2.f0, .int .i64 o.f2.f1, .int .i64 o.f2.f2, .int .i64 o.f2.f3, .slice A10 o.f2.f4.length c10, .int .i64 o.f3, .int .i64 o.f4] 35 (0, 0))).cell? ⟨hb, 0, none⟩ = some (.int .i64 thread) := (blk_cell (blk_alloc HBW _) 0).trans rfl
      clear HBW ho
      by_cases hth : o.f0 = thread
      · obtain ⟨hm1, hm2⟩ := hM hth
        rw [if_pos hth] at hS
        generalize hii : (mine thread (xs.take j)).length = ii at hm1 hm2 hS NT FI
        have FIN : Aside0 (∃ h : ii < (mine thread xs).length, (mine thread xs)[ii] = o) := ⟨⟨hm1, hm2⟩⟩
        have HS := Aside0.mk hS
        have H10 := Aside0.mk (And.intro hl10 hr10)
        have dth : (o.f0 != thread) = false := by rw [hth]; simp
        clear hM hS hii hm2 hm1 hl10 hr10 hth
        have WB := Aside0.mk (below_alloc (Below.refl wr.heap.size wr) (.cells (oc o A10 c10) 35 (0, 0)))
        have KW := Aside0.mk (KP.out.trans (KeepB.of_below WB.out))
        have XLN := Aside0.mk (show (mine thread xs).length ≤ 1000000 from by have := List.length_filter_le (fun o : Opr => o.f0 == thread) xs; have e : (mine thread xs).length = (xs.filter (fun o : Opr => o.f0 == thread)).length := rfl; omega)
        go_wp2_with fail
        obtain ⟨hm1, hm2⟩ := FIN.out
        refine (yield_calls (mine thread xs) ii till fb ib xb tb o A10 c10 Ax cx (wr.alloc (.cells (oc o A10 c10) 35 (0, 0))) hm1 hm2 XLN.out (blk_alloc FI.out.1 _) (blk_alloc FI.out.2 _) (blk_alloc (KP.out.blk W2.out.2.2.1 hne2.1 hne2.2.1) _) (blk_alloc (KP.out.blk W2.out.2.2.2.1 hne.2.2 hne.2.1) _) (Kd.F_now (KW.out.F HX2.out)) H10.out.1 (Kd.C_below H10.out.2 WB.out) hne).mono ?_
        rintro e w4 ⟨rfl, hfi, hk4⟩
        have FI4 := Aside0.mk hfi
        have KP4 := Aside0.mk ((KW.out.trans hk4))
        clear hfi hk4 hm2 p0 p1 p2 p3 p4 p5 p6 p7 p8 p9 p10 p11 p12 hb0 hb1 WB KW
        cases hbt : (((ii : Int) + 1) != till) with
        | false =>
          have HT : Aside0 ((ii : Int) + 1 = till) := ⟨by rw [bne_eq_false_iff_eq] at hbt; exact hbt⟩
          clear hbt
          go_wp2
          first | rw [Exit.noGoto_normal] | rw [Exit.noGoto]
          go_end0
          refine ⟨⟨_, rfl⟩, ii + 1, ?_, FI4.out, (KeepB.of_below B2.out).trans KP4.out⟩
          have := HT.out
          unfold wantN
          split <;> omega
        | true =>
          have HT : Aside0 (¬ (ii : Int) + 1 = till) := ⟨by rw [bne_iff_ne] at hbt; exact hbt⟩
          clear hbt
          go_wp2
          go_roundg (xs.length - (j + 1))
          case measure => omega
          case rel => exact ⟨j + 1, by go_num, by omega, ⟨by rw [HS.out]; have := HT.out; have := NT.out; omega⟩, ⟨by rw [HS.out]; exact FI4.out⟩, ⟨KP4.out⟩⟩
      · rw [if_neg hth, Nat.add_zero] at hS
        have HS := Aside0.mk hS
        have dth : (o.f0 != thread) = true := by rw [bne_iff_ne]; exact hth
        clear hM hS
        go_wp2
        go_roundg (xs.length - (j + 1))
        case measure => omega
        case rel => exact ⟨j + 1, by go_num, by omega, ⟨by rw [HS.out]; exact NT.out⟩, ⟨by rw [HS.out]; exact ⟨blk_alloc FI.out.1 _, blk_alloc FI.out.2 _⟩⟩, ⟨KP.out.trans (KeepB.of_below (below_alloc (Below.refl _ _) _))⟩⟩
    · have q1 : ¬ (j : Int) < (xs.length : Int) := by omega
      have ej : xs.take j = xs := List.take_of_length_le (by omega)
      go_wp2
      go_end0
      refine ⟨⟨_, rfl⟩, (mine thread xs).length, ?_, ?_, ?_⟩
      · have := NT.out
        rw [ej] at this
        unfold wantN
        split <;> omega
      · have := FI.out
        rw [ej] at this
        exact this
      · exact (KeepB.of_below B2.out).trans KP.out
end Go.Proofs.Ytacajonkkfmibaa.HistEachA
