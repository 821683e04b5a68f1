/- What the reference's memory at first is, and an access out of place. -/
import Derived.Test.YtdmpfnnaefccnaaMemLawHolds
import Derived.Test.YtdmpfnnaefccnaaPMemPlaysx1
set_option linter.unusedVariables false
set_option linter.unusedSimpArgs false
namespace Go.Proofs.Ytdmpfnnaefccnaa.MemPlaysNum
open Go Go.RowKit Go.Proofs.YtdmpfnnaefccnaaW.PrintWords Go.Proofs.YtdmpfnnaefccnaaW.PrintLast Go.Proofs.Ytdmpfnnaefccnaa.MemW Go.Proofs.Ytdmpfnnaefccnaa.MemDo Go.Proofs.Ytdmpfnnaefccnaa.MemLawHolds Go.Proofs.Ytdmpfnnaefccnaa.PMemPlays Go.Proofs.Ytdmpfnnaefccnaa.Num
theorem inb_out {ws : List Int} {a : Int} (h : a < 0 ∨ (ws.length : Int) ≤ a) : inb ws a = false := decide_eq_false (by omega)
/-- Out of place: nothing is turned. -/
theorem do_no {ws : List Int} {k a p iss old n : Int} (h : doI ws k a p = false) : doW ws k a p iss old n = ws ∧ doV ws k a = 0 ∧ doB ws k a p iss old = false := by
  unfold doI at h
  unfold doW doV doB
  by_cases k0 : k = 0
  · rw [if_pos k0] at h; simp only [if_pos k0, turned, wordAt, h]; simp
  rw [if_neg k0] at h; simp only [if_neg k0]
  by_cases k1 : k = 1
  · rw [if_pos k1] at h; simp only [if_pos k1, turned, wordAt, h]; simp
  rw [if_neg k1] at h; simp only [if_neg k1]
  by_cases k2 : k = 2
  · rw [if_pos k2] at h; simp only [if_pos k2, cased, casB, wordAt, h]; simp
  rw [if_neg k2] at h; simp only [if_neg k2]
  by_cases k3 : k = 3
  · rw [if_pos k3] at h; simp only [if_pos k3, turned, wordAt, h]; simp
  rw [if_neg k3] at h; simp only [if_neg k3]
  by_cases k4 : k = 4
  · rw [if_pos k4] at h; simp only [if_pos k4, turned, wordAt, h]; simp
  rw [if_neg k4] at h; simp only [if_neg k4]
  simp only [dcssed, dcssB, h]; simp
theorem ref_new_none (a : Int) (h : a < 1 ∨ 4096 < a) : deadwoodref06_New.f a = some (([] : List Int), 0, false) := by
  unfold deadwoodref06_New.f
  by_cases h1 : a < 1
  · rw [if_pos h1]
  · rw [if_neg h1, if_pos (by omega)]
theorem ref_new (m : Nat) (h1 : 1 ≤ m) (h2 : m ≤ 4096) : deadwoodref06_New.f (m : Int) = some (List.replicate m 0, 0, false) := by
  unfold deadwoodref06_New.f
  rw [if_neg (by omega), if_neg (by omega), if_pos (by omega), Int.toNat_natCast, if_pos (by omega)]
end Go.Proofs.Ytdmpfnnaefccnaa.MemPlaysNum
