/- A memory of any words has these, and there was no access; of none, or too many, there is no memory: of every list of words and every place, with no condition. -/
import Derived.Test.YtdmpfnnaefccnaaMemW
import Derived.Test.YtdmpfnnaefccnaaPMemOfx1
set_option linter.unusedVariables false
set_option linter.unusedSimpArgs false
namespace Go.Proofs.Ytdmpfnnaefccnaa.MemLawOf
open Go Go.RowKit Go.Proofs.YtdmpfnnaefccnaaW.PrintWords Go.Proofs.Ytdmpfnnaefccnaa.MemW Go.Proofs.Ytdmpfnnaefccnaa.PMemOf Go.Proofs.Ytdmpfnnaefccnaa.Num
theorem rd_at (l : List Int) (i : Nat) (hi : i < l.length) : rd l (i : Int) = l[i] := by unfold rd; rw [Int.toNat_natCast]; simp [List.getD, hi]
theorem same_loop (l : List Int) (hl : l.length ≤ 1000000) (d : Nat) : ∀ (k i : Nat), i + d = l.length → d < k → deadwoodlaw06_same.l0 k l l (i : Int) = some true := by
  induction d with
  | zero =>
    intro k i hi hk
    obtain ⟨k, rfl⟩ : ∃ m, k = m + 1 := ⟨k - 1, by omega⟩
    rw [deadwoodlaw06_same.l0, if_neg (by omega)]
  | succ d ih =>
    intro k i hi hk
    obtain ⟨k, rfl⟩ : ∃ m, k = m + 1 := ⟨k - 1, by omega⟩
    rw [deadwoodlaw06_same.l0, if_pos (by omega), if_pos (by omega), if_pos (by omega), if_pos rfl, wrap64_of (by omega) (by omega), show (i : Int) + 1 = ((i + 1 : Nat) : Int) from by omega]
    exact ih k (i + 1) (by omega) (by omega)
theorem same_self (l : List Int) (hl : l.length ≤ 1000000) : deadwoodlaw06_same.f 1000001 l l = some true := by
  unfold deadwoodlaw06_same.f
  rw [if_pos rfl]
  exact same_loop l hl l.length 1000001 0 (by omega) (by omega)
theorem reads_cells {w : World} {A : Option Addr} {l : List Int} (h : Kd.C (Kd.int .u64) w A l.length l) (hp : 1 ≤ l.length) : ∃ ad, A = some ad ∧ ∀ j (hj : j < l.length), w.cell? (ad.add j) = some (.int .u64 l[j]) := by
  obtain ⟨ad, hA, _⟩ := Kd.at_int h 0 (by omega) (by omega)
  subst hA
  refine ⟨ad, rfl, fun j hj => ?_⟩
  have h2 := Kd.foot_int h (j : Int) (by omega) (by omega)
  rwa [rd_at l j hj, Int.toNat_natCast] at h2
theorem C_of_own {w : World} {base : Nat} {v : Value} {l : List Int} (h : w.ownsRow base 29 1 v l.length (l.map (Value.int .u64))) : ∃ A c, v = .slice A l.length c ∧ l.length ≤ c ∧ Kd.C (Kd.int .u64) w A l.length l := by
  have hR : Kd.R (Kd.int .u64) 29 w base (fun _ => True) v l := ⟨fun _ _ => trivial, l.map (Value.int .u64), h, by rw [List.length_map]; exact (Nat.mul_one _).symm, fun j p hj => by
    show _ = [Value.int .u64 p]
    rw [show j * (Kd.int .u64).sz = j from Nat.mul_one j]
    obtain ⟨h1, h2⟩ := List.getElem?_eq_some_iff.1 hj
    rw [← List.map_drop, List.drop_eq_getElem_cons h1, h2]
    rfl⟩
  obtain ⟨A, c, rfl⟩ := Kd.R_slice hR
  exact ⟨A, c, rfl, (Kd.R_reads' hR).2.1, (Kd.R_reads' hR).2.2⟩
set_option maxHeartbeats 8000000 in
set_option maxRecDepth 100000 in
theorem walk_out (n : Nat) (A0 : Option Addr) (c0 : Nat) (a1 : Int) (w : World) (hn : n < 1 ∨ 4096 < n) :
    Calls Try.prog 3 #[.slice A0 n c0, .int .i64 a1] w fun e w' => e = .returned (.bool true) ∧ Below w.heap.size w w' := by
  have OF := Aside0.mk (of_none (.pointer none) A0 n c0 w hn)
  by_cases h : n < 1
  · have q1 : (n : Int) < 1 := by omega
    clear hn
    go_enter Try.func3, Try.ntmps3
    go_wp2_with fail
    refine OF.out.mono ?_
    rintro e w2 ⟨rfl, rfl⟩
    clear OF
    go_wp2_with fail
    refine (lives_calls _).mono ?_
    rintro e w3 ⟨rfl, hb⟩
    have HB := Aside0.mk hb
    clear hb
    go_wp2
    all_goals go_ret
    all_goals exact ⟨rfl, HB.out⟩
  · have q1 : ¬ (n : Int) < 1 := by omega
    have q2 : (4096 : Int) < (n : Int) := by omega
    clear hn
    go_enter Try.func3, Try.ntmps3
    go_wp2_with fail
    refine OF.out.mono ?_
    rintro e w2 ⟨rfl, rfl⟩
    clear OF
    go_wp2_with fail
    refine (lives_calls _).mono ?_
    rintro e w3 ⟨rfl, hb⟩
    have HB := Aside0.mk hb
    clear hb
    go_wp2
    all_goals go_ret
    all_goals exact ⟨rfl, HB.out⟩
set_option maxHeartbeats 8000000 in
set_option maxRecDepth 100000 in
theorem walk_in (l0 : List Int) (A0 : Option Addr) (c0 : Nat) (a1 : Int) (w : World) (h1 : 1 ≤ l0.length) (h2 : l0.length ≤ 4096) (hr0 : Kd.C (Kd.int .u64) w A0 l0.length l0) (hc0 : l0.length ≤ c0) :
    Calls Try.prog 3 #[.slice A0 l0.length c0, .int .i64 a1] w fun e w' => e = .returned (.bool true) ∧ Below w.heap.size w w' := by
  obtain ⟨ad, rfl, hc⟩ := reads_cells hr0 h1
  have OF := Aside0.mk (of_calls w ad c0 l0 h1 h2 hc)
  have HR := Aside0.mk hr0
  have HC := Aside0.mk hc0
  have q1 : ¬ (l0.length : Int) < 1 := by omega
  have q2 : ¬ (4096 : Int) < (l0.length : Int) := by omega
  have SM := Aside0.mk (same_self l0 (by omega))
  have CC := Aside0.mk hc
  clear hc hr0 hc0
  go_enter Try.func3, Try.ntmps3
  go_wp2_with fail
  refine OF.out.mono ?_
  rintro e w1 ⟨b, g, rfl, hm, hb, hg, hbl⟩
  have M1 := Aside0.mk hm
  have G1 := Aside0.mk hb
  have G2 := Aside0.mk hg
  have B1 := Aside0.mk hbl
  clear hm hb hg hbl OF
  go_wp2_with fail
  refine (words_calls w1 b g l0 0 false M1.out (by omega)).mono ?_
  rintro e w2 ⟨v2, rfl, ho, hbl⟩
  obtain ⟨A2, c2, rfl, hc2, hr2⟩ := C_of_own ho
  have B2 := Aside0.mk hbl
  have R2 := Aside0.mk hr2
  have L2 := Aside0.mk hc2
  have M2 := Aside0.mk (M1.out.below hbl)
  have B12 := Aside0.mk (below_then B1.out B1.out.size hbl)
  clear ho hr2 hc2 hbl
  go_wp2_with fail
  refine (deadwoodlaw06_same.calls 1000001 A2 c2 l0 (some ad) c0 l0 true w2 R2.out L2.out (Kd.C_below HR.out B12.out) HC.out SM.out).mono ?_
  rintro e w3 ⟨rfl, ⟨nd, rfl⟩⟩
  have M3 := Aside0.mk (M2.out.move (w' := w2.drewN nd) rfl rfl)
  have B3 := Aside0.mk (pw_below_drewN B12.out nd)
  clear M2 B12 R2 B2 M1 B1
  generalize w2.drewN nd = w3 at M3 B3 ⊢
  go_wp2_with fail
  refine (accesses_calls w3 b g l0 0 false M3.out).mono ?_
  rintro e w4 ⟨rfl, rfl⟩
  go_wp2_with fail
  refine (fault_calls _ b g l0 0 false M3.out).mono ?_
  rintro e w4 ⟨rfl, rfl⟩
  go_wp2_with fail
  refine (load_calls _ b g l0 0 false a1 M3.out (by decide) (by decide)).mono ?_
  rintro e w5 ⟨rfl, hm, hk⟩
  have M5 := Aside0.mk hm
  have B5 := Aside0.mk (B3.out.trans (hk.below G1.out G2.out B3.out.size))
  clear hm hk M3 B3
  cases hin : inb l0 a1 with
  | false =>
    have e0 : wordAt l0 a1 = 0 := by unfold wordAt; rw [hin, if_neg (by decide)]
    have e1 : turned l0 a1 id = l0 := by unfold turned; rw [hin, if_neg (by decide)]
    rw [hin, e1] at M5
    replace M5 : Aside0 (Mem w5 b g l0 (0 + 1) true) := M5
    rw [e0]
    have hni := of_decide_eq_false hin
    clear hin e0 e1
    by_cases ha : a1 < 0
    · clear hni
      go_wp2_with fail
      refine (fault_calls _ b g _ _ true M5.out).mono ?_
      rintro e w6 ⟨rfl, rfl⟩
      go_wp2_with fail
      refine (lives_calls _).mono ?_
      rintro e w7 ⟨rfl, hb⟩
      have HB := Aside0.mk hb
      clear hb
      go_wp2
      all_goals go_ret
      all_goals exact ⟨rfl, below_then B5.out B5.out.size HB.out⟩
    · have hb : (l0.length : Int) ≤ a1 := by omega
      clear hni
      go_wp2_with fail
      refine (fault_calls _ b g _ _ true M5.out).mono ?_
      rintro e w6 ⟨rfl, rfl⟩
      go_wp2_with fail
      refine (lives_calls _).mono ?_
      rintro e w7 ⟨rfl, hb⟩
      have HB := Aside0.mk hb
      clear hb
      go_wp2
      all_goals go_ret
      all_goals exact ⟨rfl, below_then B5.out B5.out.size HB.out⟩
  | true =>
    obtain ⟨i, rfl, hi⟩ := inb_yes hin
    have e0 := word_yes hi
    have e1 := turned_yes hi id
    rw [e0]
    rw [hin, e1] at M5
    replace M5 : Aside0 (Mem w5 b g (l0.set i (id l0[i])) 1 false) := M5
    have x5 : w5.cell? (ad.add i) = some (.int .u64 l0[i]) := pw_cell_below B5.out (CC.out i hi)
    have q3 : (i : Int) < (l0.length : Int) := by omega
    clear hin e0 e1 CC SM
    generalize l0[i] = x at M5 x5 ⊢
    go_wp2_with fail
    refine (fault_calls _ b g _ _ false M5.out).mono ?_
    rintro e w6 ⟨rfl, rfl⟩
    go_wp2_with fail
    refine (accesses_calls _ b g _ 1 false M5.out).mono ?_
    rintro e w6 ⟨rfl, rfl⟩
    go_wp2_with fail
    refine (lives_calls _).mono ?_
    rintro e w7 ⟨rfl, hb⟩
    have HB := Aside0.mk hb
    clear hb
    go_wp2
    all_goals go_ret
    all_goals exact ⟨rfl, below_then B5.out B5.out.size HB.out⟩
theorem walk (l0 : List Int) (A0 : Option Addr) (c0 : Nat) (a1 : Int) (w : World) (_ : l0.length * 8 ≤ 140737488351232 ∧ ∀ a ∈ l0, (Lit.int .u64 a).wf = true) (_ : (Lit.int .i64 a1).wf = true) (hr0 : Kd.C (Kd.int .u64) w A0 l0.length l0) (hc0 : l0.length ≤ c0) :
    Calls Try.prog 3 #[.slice A0 l0.length c0, .int .i64 a1] w fun e w' => e = .returned (.bool true) ∧ Below w.heap.size w w' := by
  by_cases hn : l0.length < 1 ∨ 4096 < l0.length
  · exact walk_out _ _ _ _ _ hn
  · exact walk_in l0 A0 c0 a1 w (by omega) (by omega) hr0 hc0
end Go.Proofs.Ytdmpfnnaefccnaa.MemLawOf
