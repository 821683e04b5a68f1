/- The opers of a history, told by the program and by the document: the plain law. -/
import Derived.Test.YtacajonkkfmibaaPHistOpersx6
import Derived.Test.YtacajonkkfmibaaHistMayRef
set_option linter.unusedVariables false
set_option linter.unusedSimpArgs false
namespace Go.Proofs.Ytacajonkkfmibaa.HistLawP
open Go Go.RowKit Go.Proofs.YtacajonkkfmibaaW.PrintWords Go.Proofs.YtacajonkkfmibaaW.PrintLast Go.Proofs.YtacajonkkfmibaaW.PrintMore Go.Proofs.Ytacajonkkfmibaa.PHistOpers Go.Proofs.Ytacajonkkfmibaa.PHistOpers.HistW Go.Proofs.Ytacajonkkfmibaa.Num Go.Proofs.Ytacajonkkfmibaa.HistEachA Go.Proofs.Ytacajonkkfmibaa.HistMayRef Go.Proofs.Ytacajonkkfmibaa.HistOpen
theorem great_loop (l : List Ev) (d : Nat) : ∀ (i : Nat), i + d = 201 → ∃ b, deadwoodlaw11_great.l0 (2 * d + 2) l (i : Int) = some b ∧ (b = false → l.length ≤ 120) := by
  have fin : ∀ (m : Nat) (x : Int), deadwoodlaw11_great.j1 (m + 1) l x false = some (decide ((l.length : Int) > 120)) := fun m x => by rw [deadwoodlaw11_great.j1, if_neg (by decide)]
  induction d with
  | zero =>
    intro i hi
    refine ⟨decide ((l.length : Int) > 120), ?_, fun h => by have := of_decide_eq_false h; omega⟩
    show deadwoodlaw11_great.l0 2 l i = _
    rw [deadwoodlaw11_great.l0]
    split
    · rw [decide_eq_false (by omega), fin]
    · rw [fin]
  | succ d ih =>
    intro i hi
    show ∃ b, deadwoodlaw11_great.l0 (2 * d + 2 + 1 + 1) l i = some b ∧ _
    rw [deadwoodlaw11_great.l0]
    by_cases h : (i : Int) < (l.length : Int)
    · rw [if_pos h]
      by_cases h2 : (i : Int) < 200
      · rw [decide_eq_true h2, deadwoodlaw11_great.j1, if_pos rfl, if_pos (by omega), if_pos h]
        split
        · exact ⟨true, rfl, fun h => by cases h⟩
        · rw [wrap64_of (by omega) (by omega), show (i : Int) + 1 = ((i + 1 : Nat) : Int) by omega]
          exact ih (i + 1) (by omega)
      · rw [decide_eq_false h2, fin]
        exact ⟨_, rfl, fun h => by have := of_decide_eq_false h; omega⟩
    · rw [if_neg h, fin]
      exact ⟨_, rfl, fun h => by have := of_decide_eq_false h; omega⟩
theorem great_some (l : List Ev) : ∃ k b, deadwoodlaw11_great.f k l = some b ∧ (b = false → l.length ≤ 120) := by
  obtain ⟨b, h1, h2⟩ := great_loop l 201 0 rfl
  exact ⟨_, b, h1, h2⟩
theorem lift {α : Type} {g : Nat → Option α} (hm : ∀ k, LeO (g k) (g (k + 1))) {r : α} {k : Nat} (h : g k = some r) : ∀ d, g (k + d) = some r
  | 0 => h
  | d + 1 => hm (k + d) r (lift hm h d)
def sameO (k : Nat) (o : Opr) : Option Bool := deadwoodref11_Same.f k o.f0 o.f1.f0 o.f1.f1 o.f1.f2 o.f1.f3 o.f1.f4 o.f2.f0 o.f2.f1 o.f2.f2 o.f2.f3 o.f2.f4 o.f3 o.f4 o.f0 o.f1.f0 o.f1.f1 o.f1.f2 o.f1.f3 o.f1.f4 o.f2.f0 o.f2.f1 o.f2.f2 o.f2.f3 o.f2.f4 o.f3 o.f4
theorem sameO_mono (o : Opr) (k : Nat) : LeO (sameO k o) (sameO (k + 1) o) := deadwoodref11_Same.mono _ _ _ _ _ _ _ _ _ _ _ _ _ _ _ _ _ _ _ _ _ _ _ _ _ _ _
theorem same_all : ∀ (xs : List Opr), (∀ o ∈ xs, o.f2.f4.length ≤ 9223372036854775807) → ∃ K, ∀ o ∈ xs, ∀ d, sameO (K + d) o = some true
  | [], _ => ⟨0, fun o ho => absurd ho (by simp)⟩
  | x :: xs, h => by
    obtain ⟨K, hK⟩ := same_all xs (fun o ho => h o (List.mem_cons_of_mem _ ho))
    obtain ⟨k, hk⟩ := same_self x (h x List.mem_cons_self)
    refine ⟨K + k, fun o ho d => ?_⟩
    rcases List.mem_cons.1 ho with rfl | ho
    · rw [show K + k + d = k + (K + d) by omega]
      exact lift (g := fun k => sameO k o) (sameO_mono o) hk (K + d)
    · rw [show K + k + d = K + (k + d) by omega]
      exact hK o ho (k + d)
theorem rd_op (xs : List Opr) (i : Nat) (hi : i < xs.length) : rd_T35 xs (i : Int) = xs[i] := by unfold rd_T35; rw [Int.toNat_natCast]; simp [List.getD, hi]
theorem loop_runs (l : List Ev) (xs : List Opr) (K : Nat) (hx : xs.length ≤ 1000000) (hS : ∀ o ∈ xs, ∀ d, sameO (K + d) o = some true) (hO : ∀ k, hist_Open.f k l = some ((negs xs : Nat) : Int)) :
    ∀ (d i : Nat), i + d = xs.length → deadwoodlaw11_HistOpers.l0 (K + 1 + d) l xs xs ((negs (xs.take i) : Nat) : Int) (i : Int) = some true := by
  intro d
  induction d with
  | zero =>
    intro i hi
    rw [show K + 1 + 0 = K + 1 by omega, deadwoodlaw11_HistOpers.l0, if_neg (by omega), hO, Option.bind_some, List.take_of_length_le (by omega), if_pos rfl]
    rfl
  | succ d ih =>
    intro i hi
    have hil : i < xs.length := by omega
    have hb : negs (xs.take i) ≤ i := Nat.le_trans (negs_le _) (List.length_take_le _ _)
    have hn : negs (xs.take (i + 1)) = if xs[i].f4 < 0 then negs (xs.take i) + 1 else negs (xs.take i) := by rw [List.take_succ_eq_append_getElem hil]; exact negs_snoc _ _
    have hs := hS xs[i] (List.getElem_mem hil) (d + 1)
    unfold sameO at hs
    have I := ih (i + 1) (by omega)
    rw [show K + 1 + (d + 1) = K + (d + 1) + 1 by omega, deadwoodlaw11_HistOpers.l0, if_pos (by omega), if_pos (by omega), if_pos (by omega), rd_op xs i hil, hs, Option.bind_some, if_pos rfl]
    rw [show K + (d + 1) = K + 1 + d by omega]
    by_cases hneg : xs[i].f4 < 0
    · rw [if_pos hneg] at hn
      rw [if_pos hneg, wrap64_of (by omega) (by omega), wrap64_of (by omega) (by omega), show (i : Int) + 1 = ((i + 1 : Nat) : Int) by omega, show ((negs (xs.take i) : Nat) : Int) + 1 = ((negs (xs.take i) + 1 : Nat) : Int) by omega, ← hn]
      exact I
    · rw [if_neg hneg] at hn
      rw [if_neg hneg, wrap64_of (by omega) (by omega), show (i : Int) + 1 = ((i + 1 : Nat) : Int) by omega, ← hn]
      exact I
/-- Every call's thread is that of an event of the history; what it answers is an event's, or none. -/
theorem fb_mem (t : Int) : ∀ (l : List Ev) (k : Nat) (p : Nat × Ev), fb t k l = some p → p.2 ∈ l
  | [], _, _, h => by simp [fb] at h
  | e :: l, k, p, h => by
    rw [fb] at h
    split at h
    · obtain rfl := Option.some.inj h
      exact List.mem_cons_self
    · exact List.mem_cons_of_mem _ (fb_mem t l (k + 1) p h)
theorem refs_mem : ∀ (l : List Ev) (i : Nat) (o : Opr), o ∈ refs i l → (∃ e ∈ l, o.f0 = e.f0) ∧ (o.f2 = z31 ∨ ∃ e ∈ l, o.f2 = e.f3)
  | [], _, o, h => by simp [refs] at h
  | e :: l, i, o, h => by
    have rec_ := fun h => refs_mem l (i + 1) o h
    have up : ((∃ e ∈ l, o.f0 = e.f0) ∧ (o.f2 = z31 ∨ ∃ e ∈ l, o.f2 = e.f3)) → ((∃ e' ∈ e :: l, o.f0 = e'.f0) ∧ (o.f2 = z31 ∨ ∃ e' ∈ e :: l, o.f2 = e'.f3)) := by
      rintro ⟨⟨a, ha, h1⟩, h2⟩
      exact ⟨⟨a, List.mem_cons_of_mem _ ha, h1⟩, h2.imp id (fun ⟨b, hb, h3⟩ => ⟨b, List.mem_cons_of_mem _ hb, h3⟩)⟩
    rw [refs] at h
    split at h
    · exact up (rec_ h)
    · rcases List.mem_cons.1 h with rfl | h
      · cases hf : fb e.f0 (i + 1) l with
        | none => exact ⟨⟨e, List.mem_cons_self, rfl⟩, .inl rfl⟩
        | some p => exact ⟨⟨e, List.mem_cons_self, rfl⟩, .inr ⟨p.2, List.mem_cons_of_mem _ (fb_mem _ _ _ _ hf), rfl⟩⟩
      · exact up (rec_ h)
theorem mrun_mem : ∀ (l : List Ev) (st : List Bool), mrun st l = true → ∀ e ∈ l, 0 ≤ e.f0
  | [], _, _, e, he => absurd he (by simp)
  | x :: l, st, h, e, he => by
    rw [mrun, Bool.and_eq_true] at h
    rcases List.mem_cons.1 he with rfl | he
    · exact (okE_true h.1).1
    · exact mrun_mem l _ h.2 e he
theorem topT_ge : ∀ (l : List Ev) (n : Int), n ≤ topT n l ∧ ∀ e ∈ l, e.f0 < topT n l
  | [], n => ⟨Int.le_refl _, fun e he => absurd he (by simp)⟩
  | x :: l, n => by
    obtain ⟨h1, h2⟩ := topT_ge l (max n (x.f0 + 1))
    rw [topT]
    refine ⟨by omega, fun e he => ?_⟩
    rcases List.mem_cons.1 he with rfl | he
    · omega
    · exact h2 e he
theorem opers_mem (l : List Ev) (o : Opr) (ho : o ∈ opersF l) : (0 ≤ o.f0 ∧ o.f0 < threadsF l) ∧ (o.f2 = z31 ∨ ∃ e ∈ l, o.f2 = e.f3) := by
  cases hm : mayF l with
  | false => unfold opersF at ho; rw [hm, if_neg (by decide)] at ho; simp at ho
  | true =>
    rw [opers_refs hm] at ho
    obtain ⟨⟨e, he, h0⟩, h2⟩ := refs_mem l 0 o ho
    refine ⟨?_, h2⟩
    unfold threadsF
    rw [hm, if_pos rfl, h0]
    exact ⟨mrun_mem l st0 hm e he, (topT_ge l 0).2 e he⟩
theorem split_count (xs : List Opr) : ∀ T : Nat, (∀ o ∈ xs, 0 ≤ o.f0) → ((xs.filter (fun o => decide (o.f0 < (T : Int)) && decide (o.f4 < 0))).length) = Nat.rec 0 (fun k s => s + negs (mine (k : Int) xs)) T
  | 0, h => by
    show _ = 0
    rw [List.length_eq_zero_iff, List.filter_eq_nil_iff]
    intro o ho
    have := h o ho
    simp
    omega
  | T + 1, h => by
    show _ = Nat.rec 0 (fun k s => s + negs (mine (k : Int) xs)) T + negs (mine (T : Int) xs)
    rw [← split_count xs T h]
    unfold negs mine
    clear h
    induction xs with
    | nil => rfl
    | cons x xs ih =>
      rw [List.filter_cons, List.filter_cons, List.filter_cons]
      by_cases h4 : x.f4 < 0
      · rcases Int.lt_trichotomy x.f0 (T : Int) with hlt | heq | hgt
        · rw [if_pos (by simp only [Bool.and_eq_true, decide_eq_true_eq]; omega), if_pos (by simp only [Bool.and_eq_true, decide_eq_true_eq]; omega), if_neg (by rw [beq_iff_eq]; omega), List.length_cons, List.length_cons, ih]
          omega
        · rw [if_pos (by simp only [Bool.and_eq_true, decide_eq_true_eq]; omega), if_neg (by simp only [Bool.and_eq_true, decide_eq_true_eq]; omega), if_pos (by rw [beq_iff_eq]; omega), List.filter_cons, if_pos (by rw [decide_eq_true_eq]; exact h4), List.length_cons, List.length_cons, ih]
          omega
        · rw [if_neg (by simp only [Bool.and_eq_true, decide_eq_true_eq]; omega), if_neg (by simp only [Bool.and_eq_true, decide_eq_true_eq]; omega), if_neg (by rw [beq_iff_eq]; omega), ih]
      · rw [if_neg (by simp only [Bool.and_eq_true, decide_eq_true_eq]; omega), if_neg (by simp only [Bool.and_eq_true, decide_eq_true_eq]; omega)]
        by_cases heq : x.f0 = (T : Int)
        · rw [if_pos (by rw [beq_iff_eq]; exact heq), List.filter_cons, if_neg (by rw [decide_eq_true_eq]; exact h4), ih]
        · rw [if_neg (by rw [beq_iff_eq]; exact heq), ih]
theorem openU_eq (l : List Ev) : ∀ T, openU l T = Nat.rec 0 (fun k s => s + negs (mine (k : Int) (opersF l))) T
  | 0 => rfl
  | T + 1 => by rw [openU, openU_eq l T]
theorem open_negs (l : List Ev) : openF l = ((negs (opersF l) : Nat) : Int) := by
  have hT := threadsF_le l
  have e : (((threadsF l).toNat : Nat) : Int) = threadsF l := Int.toNat_of_nonneg hT.1
  unfold openF
  rw [openU_eq, ← split_count (opersF l) _ (fun o ho => (opers_mem l o ho).1.1)]
  refine congrArg Int.ofNat (congrArg List.length (List.filter_congr ?_))
  intro o ho
  rw [e, decide_eq_true (opers_mem l o ho).1.2, Bool.true_and]
theorem threads_loop (l : List Ev) (hl : l.length ≤ 120) (s : Nat) (hm : mayF l = true) (h6 : ∀ e ∈ l, 0 ≤ e.f0 ∧ e.f0 < 6) : ∀ (d i : Nat) (n : Int), i + d = l.length → 0 ≤ n → n ≤ 6 →
    deadwoodref11_Threads.l0 (2 * d + 2 + (l.length * 123 + 1) + s) l n (i : Int) = some (topT n (l.drop i)) := by
  intro d
  induction d with
  | zero =>
    intro i n hi h0 hn
    rw [List.drop_of_length_le (by omega), show 2 * 0 + 2 + (l.length * 123 + 1) + s = (l.length * 123 + 1 + s) + 1 + 1 by omega, deadwoodref11_Threads.l0, if_neg (by omega), deadwoodref11_Threads.j1, if_neg (by decide)]
    rfl
  | succ d ih =>
    intro i n hi h0 hn
    have hil : i < l.length := by omega
    have he := h6 l[i] (List.getElem_mem hil)
    have hmay := l0_run l hl l.length 0 st0 (2 * d + 2 + 1 + s) (by omega) ⟨rfl, fun t _ => by rw [st0_get]; rfl⟩
    rw [List.drop_zero] at hmay
    have hmay2 : deadwoodref11_May.f (2 * d + 2 + (l.length * 123 + 1) + s + 1) l = some true := by
      rw [show 2 * d + 2 + (l.length * 123 + 1) + s + 1 = l.length * 123 + 1 + (2 * d + 2 + 1 + s) by omega]
      exact hmay.trans (congrArg some hm)
    rw [show 2 * (d + 1) + 2 + (l.length * 123 + 1) + s = (2 * d + 2 + (l.length * 123 + 1) + s) + 1 + 1 by omega, deadwoodref11_Threads.l0, if_pos (by omega), hmay2, Option.bind_some, deadwoodref11_Threads.j1, if_pos rfl, if_pos (by omega), if_pos (by omega), rd_ev l i hil, List.drop_eq_getElem_cons hil, topT]
    by_cases hge : l[i].f0 ≥ n
    · rw [if_pos hge, wrap64_of (by omega) (by omega), wrap64_of (by omega) (by omega), show (i : Int) + 1 = ((i + 1 : Nat) : Int) by omega, show max n (l[i].f0 + 1) = l[i].f0 + 1 by omega]
      exact ih (i + 1) _ (by omega) (by omega) (by omega)
    · rw [if_neg hge, wrap64_of (by omega) (by omega), show (i : Int) + 1 = ((i + 1 : Nat) : Int) by omega, show max n (l[i].f0 + 1) = n by omega]
      exact ih (i + 1) _ (by omega) (by omega) (by omega)
theorem mrun_mem6 : ∀ (l : List Ev) (st : List Bool), mrun st l = true → ∀ e ∈ l, 0 ≤ e.f0 ∧ e.f0 < 6
  | [], _, _, e, he => absurd he (by simp)
  | x :: l, st, h, e, he => by
    rw [mrun, Bool.and_eq_true] at h
    rcases List.mem_cons.1 he with rfl | he
    · exact ⟨(okE_true h.1).1, (okE_true h.1).2.1⟩
    · exact mrun_mem6 l _ h.2 e he
theorem ref_threads (l : List Ev) (hl : l.length ≤ 120) : ∃ k, deadwoodref11_Threads.f k l = some (threadsF l) := by
  cases hm : mayF l with
  | true =>
    refine ⟨_, (threads_loop l hl 0 hm (mrun_mem6 l st0 hm) l.length 0 0 (by omega) (by omega) (by omega)).trans ?_⟩
    unfold threadsF
    rw [hm, if_pos rfl, List.drop_zero]
  | false =>
    have hmay := l0_run l hl l.length 0 st0 0 (by omega) ⟨rfl, fun t _ => by rw [st0_get]; rfl⟩
    rw [List.drop_zero] at hmay
    have hmay2 : deadwoodref11_May.f (l.length * 123 + 1) l = some false := hmay.trans (congrArg some hm)
    have hne : (0 : Int) < (l.length : Int) := by
      cases l with
      | nil => exact absurd hm (by decide)
      | cons x l => rw [List.length_cons]; omega
    refine ⟨l.length * 123 + 1 + 1, ?_⟩
    unfold deadwoodref11_Threads.f threadsF
    rw [deadwoodref11_Threads.l0, if_pos hne, hmay2, Option.bind_some, deadwoodref11_Threads.j1, if_neg (by decide), hm, if_neg (by decide)]
theorem pure_law : deadwoodlaw11_HistOpers.Pure := by
  intro l hw
  obtain ⟨kg, b, hg, hb⟩ := great_some l
  cases b with
  | true =>
    refine ⟨kg, ?_⟩
    unfold deadwoodlaw11_HistOpers.f
    rw [hg, Option.bind_some, if_pos rfl]
    rfl
  | false =>
    have hl := hb rfl
    obtain ⟨kt, ht⟩ := ref_threads l hl
    have hlen : (opersF l).length ≤ 1000000 := Nat.le_trans (opers_le l) (by omega)
    obtain ⟨K, hK⟩ := same_all (opersF l) (fun o ho => by
      rcases (opers_mem l o ho).2 with h | ⟨e, he, h⟩
      · rw [h]; exact Nat.zero_le _
      · rw [h]
        have := (hw.2 e he).2.2.2.2.2.2.2.1
        omega)
    obtain ⟨M, hM⟩ : ∃ M, M = kg + kt + K + (l.length * 123 + 1) := ⟨_, rfl⟩
    have g1 : deadwoodlaw11_great.f (M + 1 + (opersF l).length + 1) l = some false := by
      rw [hM, show kg + kt + K + (l.length * 123 + 1) + 1 + (opersF l).length + 1 = kg + (kt + K + (l.length * 123 + 1) + 1 + (opersF l).length + 1) by omega]
      exact lift (g := fun k => deadwoodlaw11_great.f k l) (fun k => deadwoodlaw11_great.mono l k) hg _
    have g2 : deadwoodref11_Threads.f (M + 1 + (opersF l).length + 1) l = some (threadsF l) := by
      rw [hM, show kg + kt + K + (l.length * 123 + 1) + 1 + (opersF l).length + 1 = kt + (kg + K + (l.length * 123 + 1) + 1 + (opersF l).length + 1) by omega]
      exact lift (g := fun k => deadwoodref11_Threads.f k l) (fun k => deadwoodref11_Threads.mono l k) ht _
    have g3 : deadwoodref11_May.f (M + 1 + (opersF l).length + 1) l = some (mayF l) := by
      have hmay := l0_run l hl l.length 0 st0 (kg + kt + K + 1 + (opersF l).length + 1) (by omega) ⟨rfl, fun t _ => by rw [st0_get]; rfl⟩
      rw [List.drop_zero] at hmay
      rw [hM, show kg + kt + K + (l.length * 123 + 1) + 1 + (opersF l).length + 1 = l.length * 123 + 1 + (kg + kt + K + 1 + (opersF l).length + 1) by omega]
      exact hmay
    have g4 : hist_Opers.f l = some (opersF l) := by unfold hist_Opers.f; rw [if_pos (by omega)]
    have g5 : deadwoodref11_Opers.f l = some (opersF l) := by
      unfold deadwoodref11_Opers.f
      rw [if_pos (by omega), ref_may l hl]
      cases hm : mayF l with
      | true => rw [opers_refs hm]; rfl
      | false => unfold opersF; rw [hm, if_neg (by decide)]; rfl
    have g6 : hist_Threads.f (M + 1 + (opersF l).length + 1) l = some (threadsF l) := by unfold hist_Threads.f; rw [if_pos (by omega)]
    have g7 : ∀ k, hist_Open.f k l = some ((negs (opersF l) : Nat) : Int) := fun k => by unfold hist_Open.f; rw [if_pos (by omega), open_negs]
    have g8 : hist_May.f (M + 1 + (opersF l).length + 1) l = some (mayF l) := by unfold hist_May.f; first | rfl | (rw [if_pos (by omega)])
    have run := loop_runs l (opersF l) M hlen (fun o ho d => by rw [hM, show kg + kt + K + (l.length * 123 + 1) + d = K + (kg + kt + (l.length * 123 + 1) + d) by omega]; exact hK o ho _) g7 (opersF l).length 0 (by omega)
    refine ⟨M + 1 + (opersF l).length + 1, ?_⟩
    unfold deadwoodlaw11_HistOpers.f
    rw [g1, Option.bind_some, if_neg (by decide), g4, Option.bind_some, g5, Option.bind_some, g8, Option.bind_some, g3, Option.bind_some, if_neg (by simp), if_pos rfl, g6, Option.bind_some, g2, Option.bind_some, show (threadsF l != threadsF l) = false by simp, deadwoodlaw11_HistOpers.j0, if_neg (by decide)]
    exact run
end Go.Proofs.Ytacajonkkfmibaa.HistLawP
