/- A thread that isn't there: its calls. -/
import Derived.Test.YtocmdcjbjhpooaaFrS
set_option linter.unusedVariables false
set_option linter.unusedSimpArgs false
namespace Go.Proofs.Ytocmdcjbjhpooaa.FrW
open Go Go.RowKit Go.Proofs.YtocmdcjbjhpooaaW.PrintWords Go.Proofs.YtocmdcjbjhpooaaW.PrintLast Go.Proofs.YtocmdcjbjhpooaaW.PrintMore Go.Proofs.Ytocmdcjbjhpooaa.PFrameOrders Go.Proofs.Ytocmdcjbjhpooaa.GRow Go.Proofs.Ytocmdcjbjhpooaa.Num Go.Proofs.Ytocmdcjbjhpooaa.Bxs Go.Proofs.Ytocmdcjbjhpooaa.InsW Go.Proofs.Ytocmdcjbjhpooaa.Pure
section
variable {W : World}
set_option maxHeartbeats 4000000 in
set_option maxRecDepth 100000 in
theorem gather_nil (a x : Int) : Calls Try.prog 24 #[.pointer none, .agg #[.int .i64 a, .int .i64 x]] W fun e W' => e = .returned (.bool false) ∧ Below W.heap.size W W' := by
  have hu := Try.underlying57
  have hup := Try.underlying37
  go_enter Try.func24, Try.ntmps24
  go_wp2
  go_ret
  exact ⟨rfl, below_alloc (Below.refl _ _) _⟩
set_option maxHeartbeats 4000000 in
set_option maxRecDepth 100000 in
theorem don_other {AL : Option Addr} {cL : Nat} {l : List Int} (fn pk pv : Int) {kind : Int} (hk : kind < 0 ∨ 6 < kind) : Calls Try.prog 13 #[.pointer none, .agg #[.int .i64 kind, .int .i64 fn, .slice AL l.length cL, .int .i64 pk, .int .i64 pv]] W fun e W' => e = .returned (.tuple #[.int .u64 0, .bool false]) ∧ Below W.heap.size W W' := by
  have huO := Try.underlying39
  have hup := Try.underlying37
  have B1 := Aside0.mk (below_alloc (Below.refl W.heap.size W) (.cells #[.int .i64 kind, .int .i64 fn, .slice AL l.length cL, .int .i64 pk, .int .i64 pv] 39 (0, 0)))
  have dk0 : ((kind : Int) == 0) = false := beq_eq_false_iff_ne.2 (by omega)
  have dk1 : ((kind : Int) == 1) = false := beq_eq_false_iff_ne.2 (by omega)
  have dk2 : ((kind : Int) == 2) = false := beq_eq_false_iff_ne.2 (by omega)
  have dk3 : ((kind : Int) == 3) = false := beq_eq_false_iff_ne.2 (by omega)
  have dk4 : ((kind : Int) == 4) = false := beq_eq_false_iff_ne.2 (by omega)
  have dk5 : ((kind : Int) == 5) = false := beq_eq_false_iff_ne.2 (by omega)
  have dk6 : ((kind : Int) == 6) = false := beq_eq_false_iff_ne.2 (by omega)
  go_enter Try.func13, Try.ntmps13
  go_wp2
  go_ret2
  exact ⟨rfl, B1.out⟩
set_option maxHeartbeats 4000000 in
set_option maxRecDepth 100000 in
theorem don_0 {AL : Option Addr} {cL : Nat} {l : List Int} (fn pk pv : Int)  : Calls Try.prog 13 #[.pointer none, .agg #[.int .i64 0, .int .i64 fn, .slice AL l.length cL, .int .i64 pk, .int .i64 pv]] W fun e W' => e = .returned (.tuple #[.int .u64 0, .bool false]) ∧ Below W.heap.size W W' := by
  have huO := Try.underlying39
  have hup := Try.underlying37
  have B1 := Aside0.mk (below_alloc (Below.refl W.heap.size W) (.cells #[.int .i64 0, .int .i64 fn, .slice AL l.length cL, .int .i64 pk, .int .i64 pv] 39 (0, 0)))
  go_enter Try.func13, Try.ntmps13
  go_wp2_with fail
  refine (call_nil fn _).mono ?_
  rintro e w2 ⟨rfl, rfl⟩
  go_wp2
  go_ret2
  exact ⟨rfl, B1.out⟩
set_option maxHeartbeats 4000000 in
set_option maxRecDepth 100000 in
theorem don_1 {AL : Option Addr} {cL : Nat} {l : List Int} (fn pk pv : Int)  : Calls Try.prog 13 #[.pointer none, .agg #[.int .i64 1, .int .i64 fn, .slice AL l.length cL, .int .i64 pk, .int .i64 pv]] W fun e W' => e = .returned (.tuple #[.int .u64 0, .bool false]) ∧ Below W.heap.size W W' := by
  have huO := Try.underlying39
  have hup := Try.underlying37
  have B1 := Aside0.mk (below_alloc (Below.refl W.heap.size W) (.cells #[.int .i64 1, .int .i64 fn, .slice AL l.length cL, .int .i64 pk, .int .i64 pv] 39 (0, 0)))
  go_enter Try.func13, Try.ntmps13
  go_wp2_with fail
  refine (back_nil _).mono ?_
  rintro e w2 ⟨rfl, rfl⟩
  go_wp2
  go_ret2
  exact ⟨rfl, B1.out⟩
set_option maxHeartbeats 4000000 in
set_option maxRecDepth 100000 in
theorem don_3 {AL : Option Addr} {cL : Nat} {l : List Int} (fn pk pv : Int)  : Calls Try.prog 13 #[.pointer none, .agg #[.int .i64 3, .int .i64 fn, .slice AL l.length cL, .int .i64 pk, .int .i64 pv]] W fun e W' => e = .returned (.tuple #[.int .u64 0, .bool false]) ∧ Below W.heap.size W W' := by
  have huO := Try.underlying39
  have hup := Try.underlying37
  have B1 := Aside0.mk (below_alloc (Below.refl W.heap.size W) (.cells #[.int .i64 3, .int .i64 fn, .slice AL l.length cL, .int .i64 pk, .int .i64 pv] 39 (0, 0)))
  go_enter Try.func13, Try.ntmps13
  go_wp2_with fail
  refine (push_nil (IntKind.u64.wrap fn)).mono ?_
  rintro e w2 ⟨rfl, rfl⟩
  go_wp2
  go_ret2
  exact ⟨rfl, B1.out⟩
set_option maxHeartbeats 4000000 in
set_option maxRecDepth 100000 in
theorem don_4 {AL : Option Addr} {cL : Nat} {l : List Int} (fn pk pv : Int)  : Calls Try.prog 13 #[.pointer none, .agg #[.int .i64 4, .int .i64 fn, .slice AL l.length cL, .int .i64 pk, .int .i64 pv]] W fun e W' => e = .returned (.tuple #[.int .u64 0, .bool false]) ∧ Below W.heap.size W W' := by
  have huO := Try.underlying39
  have hup := Try.underlying37
  have B1 := Aside0.mk (below_alloc (Below.refl W.heap.size W) (.cells #[.int .i64 4, .int .i64 fn, .slice AL l.length cL, .int .i64 pk, .int .i64 pv] 39 (0, 0)))
  go_enter Try.func13, Try.ntmps13
  go_wp2_with fail
  refine (pop_nil).mono ?_
  rintro e w2 ⟨rfl, rfl⟩
  go_wp2
  go_ret2
  exact ⟨rfl, B1.out⟩
set_option maxHeartbeats 4000000 in
set_option maxRecDepth 100000 in
theorem don_5 {AL : Option Addr} {cL : Nat} {l : List Int} (fn pk pv : Int)  : Calls Try.prog 13 #[.pointer none, .agg #[.int .i64 5, .int .i64 fn, .slice AL l.length cL, .int .i64 pk, .int .i64 pv]] W fun e W' => e = .returned (.tuple #[.int .u64 0, .bool false]) ∧ Below W.heap.size W W' := by
  have huO := Try.underlying39
  have hup := Try.underlying37
  have B1 := Aside0.mk (below_alloc (Below.refl W.heap.size W) (.cells #[.int .i64 5, .int .i64 fn, .slice AL l.length cL, .int .i64 pk, .int .i64 pv] 39 (0, 0)))
  go_enter Try.func13, Try.ntmps13
  go_wp2_with fail
  refine (fresh_nil).mono ?_
  rintro e w2 ⟨rfl, rfl⟩
  go_wp2
  go_ret2
  exact ⟨rfl, B1.out⟩
set_option maxHeartbeats 4000000 in
set_option maxRecDepth 100000 in
theorem don_6 {AL : Option Addr} {cL : Nat} {l : List Int} (fn pk pv : Int)  : Calls Try.prog 13 #[.pointer none, .agg #[.int .i64 6, .int .i64 fn, .slice AL l.length cL, .int .i64 pk, .int .i64 pv]] W fun e W' => e = .returned (.tuple #[.int .u64 0, .bool false]) ∧ Below W.heap.size W W' := by
  have huO := Try.underlying39
  have hup := Try.underlying37
  have B1 := Aside0.mk (below_alloc (Below.refl W.heap.size W) (.cells #[.int .i64 6, .int .i64 fn, .slice AL l.length cL, .int .i64 pk, .int .i64 pv] 39 (0, 0)))
  go_enter Try.func13, Try.ntmps13
  go_wp2_with fail
  refine (top_nil).mono ?_
  rintro e w2 ⟨rfl, rfl⟩
  go_wp2
  go_ret2
  exact ⟨rfl, B1.out⟩
set_option maxHeartbeats 4000000 in
set_option maxRecDepth 100000 in
theorem don_2 {AL : Option Addr} {cL : Nat} {l : List Int} (fn pk pv : Int)  : Calls Try.prog 13 #[.pointer none, .agg #[.int .i64 2, .int .i64 fn, .slice AL l.length cL, .int .i64 pk, .int .i64 pv]] W fun e W' => e = .returned (.tuple #[.int .u64 0, .bool false]) ∧ Below W.heap.size W W' := by
  have huO := Try.underlying39
  have hup := Try.underlying37
  have B1 := Aside0.mk (below_alloc (Below.refl W.heap.size W) (.cells #[.int .i64 2, .int .i64 fn, .slice AL l.length cL, .int .i64 pk, .int .i64 pv] 39 (0, 0)))
  go_enter Try.func13, Try.ntmps13
  go_wp2_with fail
  refine (gather_nil pk pv).mono ?_
  rintro e w2 ⟨rfl, hb⟩
  have B1 := Aside0.mk (below_then B1.out B1.out.size hb)
  clear hb
  go_wp2
  go_ret2
  exact ⟨rfl, B1.out⟩
theorem do_nil (o : S39) {AL : Option Addr} {cL : Nat} : Calls Try.prog 13 #[.pointer none, .agg #[.int .i64 o.f0, .int .i64 o.f1, .slice AL o.f2.length cL, .int .i64 o.f3.f0, .int .i64 o.f3.f1]] W fun e W' => e = .returned (.tuple #[.int .u64 0, .bool false]) ∧ Below W.heap.size W W' := by
  by_cases k0 : o.f0 = 0
  · rw [k0]; exact don_0 o.f1 _ _
  by_cases k1 : o.f0 = 1
  · rw [k1]; exact don_1 o.f1 _ _
  by_cases k2 : o.f0 = 2
  · rw [k2]; exact don_2 o.f1 _ _
  by_cases k3 : o.f0 = 3
  · rw [k3]; exact don_3 o.f1 _ _
  by_cases k4 : o.f0 = 4
  · rw [k4]; exact don_4 o.f1 _ _
  by_cases k5 : o.f0 = 5
  · rw [k5]; exact don_5 o.f1 _ _
  by_cases k6 : o.f0 = 6
  · rw [k6]; exact don_6 o.f1 _ _
  exact don_other o.f1 _ _ (by omega)
end
section
variable {W W' : World} {base : Nat} {P : Nat → Prop} {b : Nat} {r : Nat → Int} {s : Ses} {vF vR vS : Value} {fs : List Fr} {row : List S37} {st : List Int}
/-- Only what lies from base on counts. -/
theorem Th.cut (h : Th W base P b r s vF vR vS fs row st) : Th W base (fun k => P k ∧ base ≤ k) b r s vF vR vS fs row st :=
  ⟨h.blk, h.fo, h.fb, h.nd, h.so, Kd.V_mono h.ro (fun k hk => ⟨hk.1, fun q => hk.2 q.1⟩), fun k hk => ⟨(h.ge k hk).1, (h.ge k hk).2, (h.ge k hk).1⟩⟩
theorem Th.rngS (h : Th W base P b r s vF vR vS fs row st) : W.rangeAt b 12 (sesC s) := fun i v hv => by
  have hi := (List.getElem?_eq_some_iff.1 hv).1
  rw [h.cell (12 + i)]
  unfold thC
  rw [List.getElem?_append_right (by rw [ws_len]; omega), ws_len, Nat.add_sub_cancel_left, List.getElem?_append_left hi]
  exact hv
/-- The session's At, written. -/
theorem Th.at7 (h : Th W base P b r s vF vR vS fs row st) (x : Int) : Th (W.setCell ⟨b, 22, none⟩ (.int .i64 x)) base P b r { s with pt := x } vF vR vS fs row st :=
  h.rep ((blk_set h.blk 22 (.int .i64 x)).trans rfl) (fun k hk => Below.heap_setCell W ⟨b, 22, none⟩ _ k hk)
end
/-- The law's call: a block of another type stands. -/
theorem LS.movesK {w wr : World} {base b xb n : Nat} {s : Ses} {t : TS} (h : LS w wr base b xb n s t) (hn : n ≤ 1000) {AL : Option Addr} {cL : Nat} (o : S39) (hF : Kd.F (Kd.int .u64) w (fun k => k < w.heap.size) AL o.f2.length o.f2) {k T : Nat} {c : Array Value} (hk : wr.heap[k]? = some (.cells c T (0, 0))) (hT : T ≠ 57 ∧ T ≠ 46 ∧ T ≠ 50 ∧ T ≠ 27) :
    Calls Try.prog 13 #[.pointer (some ⟨b, 0, none⟩), .agg #[.int .i64 o.f0, .int .i64 o.f1, .slice AL o.f2.length cL, .int .i64 o.f3.f0, .int .i64 o.f3.f1]] wr fun e W' => e = .returned (.tuple #[.int .u64 (stepT t o).2.1, .bool (stepT t o).2.2]) ∧ LM w W' base b xb n s t (stepT t o).1 ∧ W'.heap[k]? = some (.cells c T (0, 0)) := by
  obtain ⟨⟨P, vF, vR, vS, fs, v1, v2, v3, h1, h2, h3, h4, h5, h6⟩, iv, bl, bs⟩ := h
  refine (do_step h1 h2 h3 bs.2 (iv.le (by omega)) o (fun X hX => Kd.F_now (Kd.F_step hF (fun k hk hl => (hX k (by omega)).trans (bl.block k hk))))).mono ?_
  rintro e W2 ⟨rfl, ⟨P2, vF2, vR2, vS2, gs, T2, c2, p1, p2, p3⟩, M2⟩
  have hs := M2.b.size
  have hn := h1.own_ne h5 (by decide) (by decide) (by decide) (by decide)
  refine ⟨rfl, ⟨⟨P2, vF2, vR2, vS2, gs, v1, v2, v3, T2, c2, p3, p1 xb h4, (M2.k xb (h3 xb h4) hn).trans h5, ?_⟩, iv, step_inv iv o, ⟨M2.b.os.trans bl.os, M2.b.tape.trans bl.tape, M2.b.output.trans bl.output, Nat.le_trans bl.size hs, fun k hk => (M2.b.block k (by omega)).trans (bl.block k hk)⟩, bs.1, by omega⟩, (M2.k k (Array.getElem?_eq_some_iff.1 hk).1 (h1.own_ne hk hT.1 hT.2.1 hT.2.2.1 hT.2.2.2)).trans hk⟩
  refine RT.mono (RT.mv h1 (fun k hk => hk.1) h6.bound M2) (fun k hk hp => ?_)
  rcases p2 k hp with q | q
  · exact hk.1 q
  · have := hk.2; omega
def s7 : Ses := { Ses.zero with pt := 7 }
theorem LO.at7 {w X : World} {b xb n : Nat} {t : TS} {P : Nat → Prop} {vF vR vS v1 v2 v3 : Value} {fs : List Fr} (h : LO w X b b xb n Ses.zero t P vF vR vS fs v1 v2 v3) : LO w (X.setCell ⟨b, 22, none⟩ (.int .i64 7)) b b xb n s7 t P vF vR vS fs v1 v2 v3 := by
  have hk : ∀ k, k ≠ b → (X.setCell ⟨b, 22, none⟩ (.int .i64 7)).heap[k]? = X.heap[k]? := fun k hk => Below.heap_setCell X ⟨b, 22, none⟩ _ k hk
  have hs : (X.setCell ⟨b, 22, none⟩ (.int .i64 7)).heap.size = X.heap.size := World.size_setCell ..
  have hP := (h.th.ge b (.inl rfl)).2
  refine ⟨h.th.at7 7, h.cs, fun k hk => by rw [hs]; exact h.pl k hk, h.px, (hk xb (typ_ne h.hx h.th.blk (by decide))).trans h.hx, ⟨h.rt.fo.move (fun k _ _ h1 => hk k ?_), h.rt.so.move (fun k _ _ h1 => hk k (fun e => h.rt.sk k h1 (e ▸ hP))), h.rt.sk, Kd.V_step h.rt.ro (fun k h1 _ => hk k (fun e => h1 (e ▸ hP)))⟩, h.iv, h.bl.setCell (p := ⟨b, 22, none⟩) h.bs.1.1 _, h.bs.1, by rw [hs]; exact h.bs.2⟩
  obtain ⟨cur, hc⟩ := OV.typed h.rt.fo h1
  exact typ_ne hc h.th.blk (by decide)
theorem asks_of {X : World} {base b n : Nat} {s : Ses} {t : TS} {P ok : Nat → Prop} {vF vR vS v1 v2 v3 : Value} {fs : List Fr} (h : Th X base P b t.r s vF vR vS fs t.row t.st) (hc : fs.map Fr.core = t.fs) (hr : RT X ok v1 v2 v3 t.fs t.row t.st) (iv : Inv n t) (hn : n ≤ 1000) :
    Calls Try.prog 15 #[.pointer (some ⟨b, 0, none⟩), .agg (tC t.r v1 v2 v3).toArray] X fun e W' => e = .returned (.bool true) ∧ Below X.heap.size X W' := by
  have hl : fs.length = t.fs.length := by rw [← hc, List.length_map]
  have h1 := iv.l1
  have h2 := iv.l2
  exact same_calls h (by rw [hc]; exact hr) (by omega) (by omega) ((rsame_eq t.row t.row (by omega) (Nat.lt_succ_self _)).trans (congrArg some ((sameP_iff t.row t.row).2 rfl)))
/-- A row of one op. -/
theorem one_op (o : S39) {w : World} {g : Nat} {A : Option Addr} {c : Nat} (h : w.heap[g]? = some (.cells #[.int .i64 o.f0, .int .i64 o.f1, .slice A o.f2.length c, .int .i64 o.f3.f0, .int .i64 o.f3.f1] 39 (0, 0))) (hc : o.f2.length ≤ c) (hC : Kd.C (Kd.int .u64) w A o.f2.length o.f2) : Kd.C k39 w (some ⟨g, 0, none⟩) [o].length [o] := by
  have hO : OV 39 5 w 0 (.slice (some ⟨g, 0, none⟩) 1 1) [[.int .i64 o.f0, .int .i64 o.f1, .slice A o.f2.length c, .int .i64 o.f3.f0, .int .i64 o.f3.f1]] := one_row h rfl
  obtain ⟨A', c', e, _, hC'⟩ := OV.reads (d := k39) (xs := [o]) hO rfl rfl (fun j h1 h2 => by
    have : j = 0 := by simpa using h1
    subst this
    exact k39_mk w o hc hC)
  injection e with e1
  subst e1
  exact hC'
theorem ses_eq (s : Ses) (w : World) : (Op.equalIn 10000 54 (.agg (sesC s).toArray) (.agg (sesC s).toArray)).run Try.prog w = .ok true w := by
  have hu1 := Try.underlying4
  have hu2 := Try.underlying27
  have hu3 := Try.underlying2
  have hu4 := Try.underlying3
  show (Op.equalIn (9999 + 1) 54 (.agg (sesC s).toArray) (.agg (sesC s).toArray)).run Try.prog w = .ok true w
  refine eqA_of Try.underlying54 (by kernel_rfl) ?_
  have e0 := run_equalIn_bool' (P := Try.prog) w 9998 4 s.jo s.jo Try.underlying4; rw [beq_self_eq_true] at e0
  have e1 := run_equalIn_bool' (P := Try.prog) w 9998 4 s.pi s.pi Try.underlying4; rw [beq_self_eq_true] at e1
  have e2 := run_equalIn_bool' (P := Try.prog) w 9998 4 s.en s.en Try.underlying4; rw [beq_self_eq_true] at e2
  have e3 := run_equalIn_int (P := Try.prog) w 9998 27 .u64 .u64 s.pa s.pa Try.underlying27; rw [beq_self_eq_true] at e3
  have e4 := run_equalIn_int (P := Try.prog) w 9998 27 .u64 .u64 s.vv s.vv Try.underlying27; rw [beq_self_eq_true] at e4
  have e5 := run_equalIn_int (P := Try.prog) w 9998 27 .u64 .u64 s.ti s.ti Try.underlying27; rw [beq_self_eq_true] at e5
  have e6 := run_equalIn_int (P := Try.prog) w 9998 2 .i64 .i64 s.lo s.lo Try.underlying2; rw [beq_self_eq_true] at e6
  have e7 := run_equalIn_int (P := Try.prog) w 9998 2 .i64 .i64 s.hi s.hi Try.underlying2; rw [beq_self_eq_true] at e7
  have e8 := run_equalIn_int (P := Try.prog) w 9998 2 .i64 .i64 s.ba s.ba Try.underlying2; rw [beq_self_eq_true] at e8
  have e9 := run_equalIn_int (P := Try.prog) w 9998 2 .i64 .i64 s.tp s.tp Try.underlying2; rw [beq_self_eq_true] at e9
  have e10 := run_equalIn_int (P := Try.prog) w 9998 2 .i64 .i64 s.pt s.pt Try.underlying2; rw [beq_self_eq_true] at e10
  have e11 := run_equalIn_int (P := Try.prog) w 9998 3 .i64 .i64 s.li s.li Try.underlying3; rw [beq_self_eq_true] at e11
  have p0 : (part 4 (sesC s).toArray 0).run Try.prog w = .ok (.bool s.jo) w := by simp [part, isAgg, run_underlying hu1, sesC]
  have p1 : (part 4 (sesC s).toArray 1).run Try.prog w = .ok (.bool s.pi) w := by simp [part, isAgg, run_underlying hu1, sesC]
  have p2 : (part 4 (sesC s).toArray 2).run Try.prog w = .ok (.bool s.en) w := by simp [part, isAgg, run_underlying hu1, sesC]
  have p3 : (part 27 (sesC s).toArray 3).run Try.prog w = .ok (.int .u64 s.pa) w := by simp [part, isAgg, run_underlying hu2, sesC]
  have p4 : (part 27 (sesC s).toArray 4).run Try.prog w = .ok (.int .u64 s.vv) w := by simp [part, isAgg, run_underlying hu2, sesC]
  have p5 : (part 27 (sesC s).toArray 5).run Try.prog w = .ok (.int .u64 s.ti) w := by simp [part, isAgg, run_underlying hu2, sesC]
  have p6 : (part 2 (sesC s).toArray 6).run Try.prog w = .ok (.int .i64 s.lo) w := by simp [part, isAgg, run_underlying hu3, sesC]
  have p7 : (part 2 (sesC s).toArray 7).run Try.prog w = .ok (.int .i64 s.hi) w := by simp [part, isAgg, run_underlying hu3, sesC]
  have p8 : (part 2 (sesC s).toArray 8).run Try.prog w = .ok (.int .i64 s.ba) w := by simp [part, isAgg, run_underlying hu3, sesC]
  have p9 : (part 2 (sesC s).toArray 9).run Try.prog w = .ok (.int .i64 s.tp) w := by simp [part, isAgg, run_underlying hu3, sesC]
  have p10 : (part 2 (sesC s).toArray 10).run Try.prog w = .ok (.int .i64 s.pt) w := by simp [part, isAgg, run_underlying hu3, sesC]
  have p11 : (part 3 (sesC s).toArray 11).run Try.prog w = .ok (.int .i64 s.li) w := by simp [part, isAgg, run_underlying hu4, sesC]
  exact eqf_end rfl p0 p0 e0 (eqf_end rfl p1 p1 e1 (eqf_end rfl p2 p2 e2 (eqf_end rfl p3 p3 e3 (eqf_end rfl p4 p4 e4 (eqf_end rfl p5 p5 e5 (eqf_end rfl p6 p6 e6 (eqf_end rfl p7 p7 e7 (eqf_end rfl p8 p8 e8 (eqf_end rfl p9 p9 e9 (eqf_end rfl p10 p10 e10 (eqf_end rfl p11 p11 e11 (eqf_nil))))))))))))
theorem exec_neq {o : Oper} {ty tt : TypeId} {x y : Operand} {ρ : Operand → Value} {xs ys : Array Value} {bb : Bool} {w : World} (ho : o.op = .binOp .neq ty x y tt) (hx : ρ x = .agg xs) (hy : ρ y = .agg ys) (hm : Try.prog.eqGuardType Try.prog.depth ty = false)
    (he : (Op.equalIn 10000 ty (.agg xs) (.agg ys)).run Try.prog w = .ok bb w) : (execOp ρ o).run Try.prog w = .ok (.value (.bool (!bb))) w := by
  have hg := run_eqGuard_agg (P := Try.prog) w .neq ty x y xs ys hm
  unfold execOp
  simp only [ho, hx, hy, Sem.run_bind, hg, run_neq_struct, he, Result.andThen_ok, Sem.run_pure]
end Go.Proofs.Ytocmdcjbjhpooaa.FrW
