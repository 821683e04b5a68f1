/- A guard's copy; a guard that isn't there. -/
import Derived.Test.YtdmpfnnaefccnaaGuardLawP
import Derived.Shelf.SlMaps.Clone
import Derived.Lib.SliceRun
set_option linter.unusedVariables false
set_option linter.unusedSimpArgs false
namespace Go.Proofs.Ytdmpfnnaefccnaa.GuardC
open Go Go.Maps Go.RowKit Go.Proofs.YtdmpfnnaefccnaaW.PrintWords Go.Proofs.YtdmpfnnaefccnaaW.PrintLast Go.Proofs.YtdmpfnnaefccnaaW.PrintMore Go.Proofs.Ytdmpfnnaefccnaa.PGuardPlays Go.Proofs.Ytdmpfnnaefccnaa.Num Go.Proofs.Ytdmpfnnaefccnaa.Pure Go.Proofs.Ytdmpfnnaefccnaa.GuardW Go.Proofs.Ytdmpfnnaefccnaa.GuardX Go.Proofs.Ytdmpfnnaefccnaa.GuardSame Go.Proofs.Ytdmpfnnaefccnaa.GuardDo Go.Proofs.Ytdmpfnnaefccnaa.GuardLawP
theorem blkcell_alloc {W : World} {a : Addr} {v : Value} (o : Obj) (h : W.cell? a = some v) : (W.alloc o).cell? a = some v := by
  have hlt := block_lt_of_cell h
  rw [← h]
  simp only [World.cell?, World.alloc, Array.getElem?_push, Nat.ne_of_lt hlt, if_false]
theorem info_u64 : ∃ i0, Try.prog.info? 29 = some i0 ∧ i0.zero = some (.int .u64 0) ∧ i0.size = 1 ∧ i0.bytes = 8 := info_parts info29
set_option maxHeartbeats 4000000 in
set_option maxRecDepth 100000 in
/-- slices.Clone of words that are there. -/
theorem sclone_calls (w : World) (ad : Addr) (n c : Nat) (ws : List Int) (hl : ws.length = n) (hn : n ≤ 1000000) (hc : ∀ j (h : j < ws.length), w.cell? (ad.add j) = some (.int .u64 ws[j])) :
    Calls Try.prog 40 #[.slice (some ad) n c] w fun e w' => ∃ v', e = .returned v' ∧ w'.ownsRow w.heap.size 29 1 v' n (ws.map (Value.int .u64)) ∧ v' ≠ .slice none 0 0 ∧ Below w.heap.size w w' := by
  obtain ⟨i0, hi0, hz0, hz1, hz2⟩ := info_u64
  have mixed : Try.prog.follows Departure.mixedOrders = true := by kernel_rfl
  have q39 : ∀ (w : World) (a : Option Addr) (n c n' c' : Nat), (binOp .eql 22 (.slice a n c) (.slice none n' c')).run Try.prog w = .ok (.bool a.isNone) w := fun w a n c n' c' => Lib.run_eql_slice_nil w 22 29 a n c n' c' Try.underlying22
  have HC := Aside0.mk (show ∀ j u, (ws.map (Value.int .u64))[j]? = some u → w.cell? (ad.add j) = some u from by
    intro j u hj
    rw [List.getElem?_map] at hj
    obtain ⟨x, hx, rfl⟩ := Option.map_eq_some_iff.1 hj
    obtain ⟨h1, h2⟩ := List.getElem?_eq_some_iff.1 hx
    rw [← h2]
    exact hc j h1)
  have HL := Aside0.mk (show (ws.map (Value.int .u64)).length = n * 1 by rw [List.length_map, hl]; omega)
  have H1 := Aside0.mk (show ∀ u ∈ ws.map (Value.int .u64), u.oneCell' = true from by intro u hu; obtain ⟨x, _, rfl⟩ := List.mem_map.1 hu; rfl)
  generalize ws.map (Value.int .u64) = cells at HC HL H1 ⊢
  clear hc hl
  go_enter Try.func40, Try.ntmps40
  go_wp2_with (at_builtin; refine wpList_append_own _ rfl _ _ 22 rfl w.heap.size 29 i0 (.int .u64 0) 1 8 Try.underlying22 hi0 hz0 hz1 hz2 rfl (by decide) _ _ _ rfl (World.ownsRow_made w #[] 0 (Nat.le_refl _) (Nat.zero_le _) rfl) ad n c cells rfl HL.out (fun j u hj => blkcell_alloc _ (HC.out j u hj)) H1.out (by unfold maxLen; omega) (by omega) (by simp) ?_; intro v' w3 hown' hgrow3 hnil3; have X := Aside0.mk hown'; have Y := Aside0.mk hgrow3; have Z := Aside0.mk hnil3; clear hown' hgrow3 hnil3)
  go_ret
  refine ⟨_, rfl, by have := X.out; simpa using this, fun e => ?_, ?_⟩
  · have := (Z.out.1 e).1
    cases this
  · exact ((Below.refl _ w).alloc (Nat.le_refl _) _).grown Y.out (by simp) (fun k hk => Nat.le_of_eq (Option.some.inj (show some w.heap.size = some k from hk)))
theorem fn64 : Try.prog.funcs[64]? = some Try.f64 := Try.func64
set_option maxHeartbeats 2000000 in
set_option maxRecDepth 100000 in
theorem mclone_calls (w : World) (mb : Nat) (es : Array MapEntry) (clock : Nat) (hb : w.heap[mb]? = some (.map es clock)) :
    Calls Try.prog 57 #[.map (some mb)] w fun e w' => e = .returned (.map (some w.heap.size)) ∧ w' = w.alloc (.map es clock) := by
  have mixed : Try.prog.follows Departure.mixedOrders = true := by kernel_rfl
  have hq := fun w => run_eql_map_nil_sl (P := Try.prog) w 78 _ _ (some mb) Try.underlying78
  go_enter Try.func57, Try.ntmps57
  go_wp2
  rw [run_callFunc_extern fn64 (by kernel_rfl) (by kernel_rfl) (by kernel_rfl) (e := Extern.MapsClone.clone) (by kernel_rfl), run_maps_clone_sl w 78 hb]
  simp only [Result.andThen]
  rw [Oper.upon_value]
  go_wp2
  rw [run_typeAssert_map_sl _ 78 _ _ _ _ Try.underlying78]
  simp only [Result.andThen]
  rw [Oper.upon_value]
  go_wp2
  go_ret
  exact ⟨rfl, rfl⟩
end Go.Proofs.Ytdmpfnnaefccnaa.GuardC
