/- The chapter's example of package plan. -/
import Derived.Test.YtacajonkkfmibaaPlanMakes
set_option linter.unusedVariables false
set_option linter.unusedSimpArgs false
namespace Go.Proofs.Ytacajonkkfmibaa.Plan
open Go Go.RowKit Go.Proofs.YtacajonkkfmibaaW.PrintWords Go.Proofs.YtacajonkkfmibaaW.PrintLast Go.Proofs.YtacajonkkfmibaaW.PrintMore Go.Proofs.Ytacajonkkfmibaa.PPlanWords
theorem mayC9 : MayC 1 9 5 := by unfold MayC; omega
theorem lives_calls (w : World) : Calls Try.prog 25 #[] w fun e w' => e = .returned (.bool true) ∧ Below w.heap.size w w' := by
  have hu1 := Try.underlying44
  have hn := fun W => new_yes (w := W) mayC9
  go_enter Try.func25, Try.ntmps25
  go_wp2_with fail
  refine (hn _).mono ?_
  rintro e W1 ⟨g, rfl, hg, hp, hb⟩
  have hB := Lib.hid hb
  have hP := Lib.hid hp
  clear hb hp
  have hnode : Calls Try.prog 32 #[.pointer (some ⟨g, 0, none⟩), .int .i64 1, .int .i64 0] W1 fun e w' => e = .returned (.int .i64 11) ∧ W1 = w' := node_of hP.out (by decide) (by decide) 1 0
  go_wp2_with fail
  refine hnode.mono ?_
  rintro e w' ⟨rfl, rfl⟩
  go_wp2
  go_ret
  exact ⟨rfl, hB.out⟩
end Go.Proofs.Ytacajonkkfmibaa.Plan
