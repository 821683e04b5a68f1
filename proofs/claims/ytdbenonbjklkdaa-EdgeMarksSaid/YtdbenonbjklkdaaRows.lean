/-
  No cell of these rows narrows 'for every input' (looked for: loops, veiled, ifaces, maps, wideKeys, modest, calm, conditions, laid).
  DERIVED. THE GIVEN ROWS OF THIS SEAT. 12 by the template 'for every input the law returns true; each argument reads behind the call as it read before'; 0 by the template 'total and deterministic' (their statements: YtdbenonbjklkdaaTotals.lean).
  GIVEN WITH THE SEED: the statements are not yours to turn. If you find one false, say at which input.
  Laid BY PROGRAM, IN A SANDBOX (cutbox-rows.mjs): the forced cells as the released guide's own fill.sh prints them over the translation dda44a7f848e158e… (all of the seat's roots in one cut). By AI agents, Wed Nov 11 2026. No macro, syntax, notation, axiom, sorry.
-/
import Derived.Test.YtdbenonbjklkdaaChecked
import GoSem.Claim
import GoSem.ClaimJoined
import GoSem.ClaimMapViews
import Derived.JoinedTies
import Derived.KernelRfl
namespace Go.Proofs.Ytdbenonbjklkdaa
/- THE CELL 'sum', in the pinned program and in every row, IS THE sha256 OF THE DUMP (.gsa) THAT YtdbenonbjklkdaaProg.lean LOADS. Nothing in Lean hashes anything: it is a label: what it is worth is what the hold of that sum in a sandbox is worth. -/
noncomputable def Try.pinned : Pinned := { name := "ytdbenonbjklkdaa", sum := "dda44a7f848e158e9ec28565c9dd537a442a98d8c97fbf07aae5dbb857521822", checked := Try.checked }
namespace Rows
def none {H : Type} : Left H := { results := [], args := [] }

/-- 'deadwoodlaw01.WordRanks': WHATEVER THE INPUT: true; the input reads as it did. -/
def wordRanksSpec : ChangeSpec := { name := "wordRanks", fn := fun _ => fun
  | [d1, d2] => { results := [.lit (.bool true)], args := [d1, d2] }
  | _ => none }
def wordRanksRow : OpenClaim := { program := "ytdbenonbjklkdaa", sum := "dda44a7f848e158e9ec28565c9dd537a442a98d8c97fbf07aae5dbb857521822", func := "deadwood/deadwoodlaw01.WordRanks", spec := "wordRanks", apart := false }
def WordRanksSaid : Prop := wordRanksRow.holds Try.pinned (OpenSpec.ofChange wordRanksSpec)

/-- ITS FALSE NEIGHBOUR: 'it returns false'. Refute it at one input. -/
def wordRanksWrong : ChangeSpec := { name := "wordRanks", fn := fun _ => fun
  | [d1, d2] => { results := [.lit (.bool false)], args := [d1, d2] }
  | _ => none }
def WordRanksWrongFalsely : Prop := wordRanksRow.holds Try.pinned (OpenSpec.ofChange wordRanksWrong)

/-- 'deadwoodlaw01.WordRises': WHATEVER THE INPUT: true; the input reads as it did. -/
def wordRisesSpec : ChangeSpec := { name := "wordRises", fn := fun _ => fun
  | [d1, d2] => { results := [.lit (.bool true)], args := [d1, d2] }
  | _ => none }
def wordRisesRow : OpenClaim := { program := "ytdbenonbjklkdaa", sum := "dda44a7f848e158e9ec28565c9dd537a442a98d8c97fbf07aae5dbb857521822", func := "deadwood/deadwoodlaw01.WordRises", spec := "wordRises", apart := false }
def WordRisesSaid : Prop := wordRisesRow.holds Try.pinned (OpenSpec.ofChange wordRisesSpec)

/-- ITS FALSE NEIGHBOUR: 'it returns false'. Refute it at one input. -/
def wordRisesWrong : ChangeSpec := { name := "wordRises", fn := fun _ => fun
  | [d1, d2] => { results := [.lit (.bool false)], args := [d1, d2] }
  | _ => none }
def WordRisesWrongFalsely : Prop := wordRisesRow.holds Try.pinned (OpenSpec.ofChange wordRisesWrong)

/-- 'deadwoodlaw01.WordFields': WHATEVER THE INPUT: true; the input reads as it did. -/
def wordFieldsSpec : ChangeSpec := { name := "wordFields", fn := fun _ => fun
  | [d1, d2, d3] => { results := [.lit (.bool true)], args := [d1, d2, d3] }
  | _ => none }
def wordFieldsRow : OpenClaim := { program := "ytdbenonbjklkdaa", sum := "dda44a7f848e158e9ec28565c9dd537a442a98d8c97fbf07aae5dbb857521822", func := "deadwood/deadwoodlaw01.WordFields", spec := "wordFields", apart := false }
def WordFieldsSaid : Prop := wordFieldsRow.holds Try.pinned (OpenSpec.ofChange wordFieldsSpec)

/-- ITS FALSE NEIGHBOUR: 'it returns false'. Refute it at one input. -/
def wordFieldsWrong : ChangeSpec := { name := "wordFields", fn := fun _ => fun
  | [d1, d2, d3] => { results := [.lit (.bool false)], args := [d1, d2, d3] }
  | _ => none }
def WordFieldsWrongFalsely : Prop := wordFieldsRow.holds Try.pinned (OpenSpec.ofChange wordFieldsWrong)

/-- 'deadwoodlaw01.WordKeeps': WHATEVER THE INPUT: true; the input reads as it did. -/
def wordKeepsSpec : ChangeSpec := { name := "wordKeeps", fn := fun _ => fun
  | [d1, d2, d3] => { results := [.lit (.bool true)], args := [d1, d2, d3] }
  | _ => none }
def wordKeepsRow : OpenClaim := { program := "ytdbenonbjklkdaa", sum := "dda44a7f848e158e9ec28565c9dd537a442a98d8c97fbf07aae5dbb857521822", func := "deadwood/deadwoodlaw01.WordKeeps", spec := "wordKeeps", apart := false }
def WordKeepsSaid : Prop := wordKeepsRow.holds Try.pinned (OpenSpec.ofChange wordKeepsSpec)

/-- ITS FALSE NEIGHBOUR: 'it returns false'. Refute it at one input. -/
def wordKeepsWrong : ChangeSpec := { name := "wordKeeps", fn := fun _ => fun
  | [d1, d2, d3] => { results := [.lit (.bool false)], args := [d1, d2, d3] }
  | _ => none }
def WordKeepsWrongFalsely : Prop := wordKeepsRow.holds Try.pinned (OpenSpec.ofChange wordKeepsWrong)

/-- 'deadwoodlaw03.EdgeMakes': WHATEVER THE INPUT: true; the input reads as it did. -/
def edgeMakesSpec : ChangeSpec := { name := "edgeMakes", fn := fun _ => fun
  | [d1, d2] => { results := [.lit (.bool true)], args := [d1, d2] }
  | _ => none }
def edgeMakesRow : OpenClaim := { program := "ytdbenonbjklkdaa", sum := "dda44a7f848e158e9ec28565c9dd537a442a98d8c97fbf07aae5dbb857521822", func := "deadwood/deadwoodlaw03.EdgeMakes", spec := "edgeMakes", apart := false }
def EdgeMakesSaid : Prop := edgeMakesRow.holds Try.pinned (OpenSpec.ofChange edgeMakesSpec)

/-- ITS FALSE NEIGHBOUR: 'it returns false'. Refute it at one input. -/
def edgeMakesWrong : ChangeSpec := { name := "edgeMakes", fn := fun _ => fun
  | [d1, d2] => { results := [.lit (.bool false)], args := [d1, d2] }
  | _ => none }
def EdgeMakesWrongFalsely : Prop := edgeMakesRow.holds Try.pinned (OpenSpec.ofChange edgeMakesWrong)

/-- 'deadwoodlaw01.WordBits': WHATEVER THE INPUT: true; the input reads as it did. -/
def wordBitsSpec : ChangeSpec := { name := "wordBits", fn := fun _ => fun
  | [d1, d2, d3] => { results := [.lit (.bool true)], args := [d1, d2, d3] }
  | _ => none }
def wordBitsRow : OpenClaim := { program := "ytdbenonbjklkdaa", sum := "dda44a7f848e158e9ec28565c9dd537a442a98d8c97fbf07aae5dbb857521822", func := "deadwood/deadwoodlaw01.WordBits", spec := "wordBits", apart := false }
def WordBitsSaid : Prop := wordBitsRow.holds Try.pinned (OpenSpec.ofChange wordBitsSpec)

/-- ITS FALSE NEIGHBOUR: 'it returns false'. Refute it at one input. -/
def wordBitsWrong : ChangeSpec := { name := "wordBits", fn := fun _ => fun
  | [d1, d2, d3] => { results := [.lit (.bool false)], args := [d1, d2, d3] }
  | _ => none }
def WordBitsWrongFalsely : Prop := wordBitsRow.holds Try.pinned (OpenSpec.ofChange wordBitsWrong)

/-- 'deadwoodlaw04.BadgeHeads': WHATEVER THE INPUT: true; the input reads as it did. -/
def badgeHeadsSpec : ChangeSpec := { name := "badgeHeads", fn := fun _ => fun
  | [d1, d2, d3] => { results := [.lit (.bool true)], args := [d1, d2, d3] }
  | _ => none }
def badgeHeadsRow : OpenClaim := { program := "ytdbenonbjklkdaa", sum := "dda44a7f848e158e9ec28565c9dd537a442a98d8c97fbf07aae5dbb857521822", func := "deadwood/deadwoodlaw04.BadgeHeads", spec := "badgeHeads", apart := false }
def BadgeHeadsSaid : Prop := badgeHeadsRow.holds Try.pinned (OpenSpec.ofChange badgeHeadsSpec)

/-- ITS FALSE NEIGHBOUR: 'it returns false'. Refute it at one input. -/
def badgeHeadsWrong : ChangeSpec := { name := "badgeHeads", fn := fun _ => fun
  | [d1, d2, d3] => { results := [.lit (.bool false)], args := [d1, d2, d3] }
  | _ => none }
def BadgeHeadsWrongFalsely : Prop := badgeHeadsRow.holds Try.pinned (OpenSpec.ofChange badgeHeadsWrong)

/-- 'deadwoodlaw03.EdgeMarks': WHATEVER THE INPUT: true; the input reads as it did. -/
def edgeMarksSpec : ChangeSpec := { name := "edgeMarks", fn := fun _ => fun
  | [d1, d2] => { results := [.lit (.bool true)], args := [d1, d2] }
  | _ => none }
def edgeMarksRow : OpenClaim := { program := "ytdbenonbjklkdaa", sum := "dda44a7f848e158e9ec28565c9dd537a442a98d8c97fbf07aae5dbb857521822", func := "deadwood/deadwoodlaw03.EdgeMarks", spec := "edgeMarks", apart := false }
def EdgeMarksSaid : Prop := edgeMarksRow.holds Try.pinned (OpenSpec.ofChange edgeMarksSpec)

/-- ITS FALSE NEIGHBOUR: 'it returns false'. Refute it at one input. -/
def edgeMarksWrong : ChangeSpec := { name := "edgeMarks", fn := fun _ => fun
  | [d1, d2] => { results := [.lit (.bool false)], args := [d1, d2] }
  | _ => none }
def EdgeMarksWrongFalsely : Prop := edgeMarksRow.holds Try.pinned (OpenSpec.ofChange edgeMarksWrong)

/-- 'deadwoodlaw03.EdgeParts': WHATEVER THE INPUT: true; the input reads as it did. -/
def edgePartsSpec : ChangeSpec := { name := "edgeParts", fn := fun _ => fun
  | [d] => { results := [.lit (.bool true)], args := [d] }
  | _ => none }
def edgePartsRow : OpenClaim := { program := "ytdbenonbjklkdaa", sum := "dda44a7f848e158e9ec28565c9dd537a442a98d8c97fbf07aae5dbb857521822", func := "deadwood/deadwoodlaw03.EdgeParts", spec := "edgeParts", apart := false }
def EdgePartsSaid : Prop := edgePartsRow.holds Try.pinned (OpenSpec.ofChange edgePartsSpec)

/-- ITS FALSE NEIGHBOUR: 'it returns false'. Refute it at one input. -/
def edgePartsWrong : ChangeSpec := { name := "edgeParts", fn := fun _ => fun
  | [d] => { results := [.lit (.bool false)], args := [d] }
  | _ => none }
def EdgePartsWrongFalsely : Prop := edgePartsRow.holds Try.pinned (OpenSpec.ofChange edgePartsWrong)

/-- 'deadwoodlaw03.EdgeKeeps': WHATEVER THE INPUT: true; the input reads as it did. -/
def edgeKeepsSpec : ChangeSpec := { name := "edgeKeeps", fn := fun _ => fun
  | [d] => { results := [.lit (.bool true)], args := [d] }
  | _ => none }
def edgeKeepsRow : OpenClaim := { program := "ytdbenonbjklkdaa", sum := "dda44a7f848e158e9ec28565c9dd537a442a98d8c97fbf07aae5dbb857521822", func := "deadwood/deadwoodlaw03.EdgeKeeps", spec := "edgeKeeps", apart := false }
def EdgeKeepsSaid : Prop := edgeKeepsRow.holds Try.pinned (OpenSpec.ofChange edgeKeepsSpec)

/-- ITS FALSE NEIGHBOUR: 'it returns false'. Refute it at one input. -/
def edgeKeepsWrong : ChangeSpec := { name := "edgeKeeps", fn := fun _ => fun
  | [d] => { results := [.lit (.bool false)], args := [d] }
  | _ => none }
def EdgeKeepsWrongFalsely : Prop := edgeKeepsRow.holds Try.pinned (OpenSpec.ofChange edgeKeepsWrong)

/-- 'deadwoodlaw04.BadgeEpochs': WHATEVER THE INPUT: true; the input reads as it did. -/
def badgeEpochsSpec : ChangeSpec := { name := "badgeEpochs", fn := fun _ => fun
  | [d1, d2, d3] => { results := [.lit (.bool true)], args := [d1, d2, d3] }
  | _ => none }
def badgeEpochsRow : OpenClaim := { program := "ytdbenonbjklkdaa", sum := "dda44a7f848e158e9ec28565c9dd537a442a98d8c97fbf07aae5dbb857521822", func := "deadwood/deadwoodlaw04.BadgeEpochs", spec := "badgeEpochs", apart := false }
def BadgeEpochsSaid : Prop := badgeEpochsRow.holds Try.pinned (OpenSpec.ofChange badgeEpochsSpec)

/-- ITS FALSE NEIGHBOUR: 'it returns false'. Refute it at one input. -/
def badgeEpochsWrong : ChangeSpec := { name := "badgeEpochs", fn := fun _ => fun
  | [d1, d2, d3] => { results := [.lit (.bool false)], args := [d1, d2, d3] }
  | _ => none }
def BadgeEpochsWrongFalsely : Prop := badgeEpochsRow.holds Try.pinned (OpenSpec.ofChange badgeEpochsWrong)

/-- 'deadwoodlaw04.BadgeBack': WHATEVER THE INPUT: true; the input reads as it did. -/
def badgeBackSpec : ChangeSpec := { name := "badgeBack", fn := fun _ => fun
  | [d1, d2, d3] => { results := [.lit (.bool true)], args := [d1, d2, d3] }
  | _ => none }
def badgeBackRow : OpenClaim := { program := "ytdbenonbjklkdaa", sum := "dda44a7f848e158e9ec28565c9dd537a442a98d8c97fbf07aae5dbb857521822", func := "deadwood/deadwoodlaw04.BadgeBack", spec := "badgeBack", apart := false }
def BadgeBackSaid : Prop := badgeBackRow.holds Try.pinned (OpenSpec.ofChange badgeBackSpec)

/-- ITS FALSE NEIGHBOUR: 'it returns false'. Refute it at one input. -/
def badgeBackWrong : ChangeSpec := { name := "badgeBack", fn := fun _ => fun
  | [d1, d2, d3] => { results := [.lit (.bool false)], args := [d1, d2, d3] }
  | _ => none }
def BadgeBackWrongFalsely : Prop := badgeBackRow.holds Try.pinned (OpenSpec.ofChange badgeBackWrong)

/- THE SECOND FORM. 'bulk': how many values and letters a reading holds, each counted each time it is reached (what is shared counts as often as it is met; a slice's spare places count too). A statement '..UptoSaid' is the law's where the arguments, and the package variables that the reading takes, are together of bulk at most 1048576: NARROWER than '..Said'. Prove '..Said' where nothing that the law and all that it calls make is longer than what came in: it says more and counts as full. Else prove '..UptoSaid'. A law counts once. -/
mutual
def uptoBulk {H : Type} : DataW H → Nat
  | .lit (.string bytes) => bytes.length + 1
  | .lit _ => 1
  | .nil => 1
  | .ptr d => uptoBulk d + 1
  | .slice elems spare => uptoBulkAll elems + uptoBulkAll spare + 1
  | .agg parts => uptoBulkAll parts + 1
  | .iface _ d => uptoBulk d + 1
  | .map entries => uptoBulkEntries entries + 1
  | .held _ => 1
def uptoBulkAll {H : Type} : List (DataW H) → Nat
  | [] => 0
  | d :: r => uptoBulk d + uptoBulkAll r
def uptoBulkEntries {H : Type} : List (Lit × DataW H) → Nat
  | [] => 0
  | x :: r => uptoBulkEntry x + uptoBulkEntries r
def uptoBulkEntry {H : Type} : Lit × DataW H → Nat
  | (.string bytes, d) => bytes.length + uptoBulk d + 1
  | (_, d) => uptoBulk d + 1
 end
def uptoSmall : (H : Type) → List (DataW H) → Bool := fun _ ds => decide (uptoBulkAll ds ≤ 1048576)
def OpenSpec.upto (s : _root_.Go.ChangeSpec) : _root_.Go.OpenSpec := { _root_.Go.OpenSpec.ofChange s with cond := some uptoSmall }

/-- 'deadwoodlaw01.WordRanks', WHERE WHAT IT READS IS OF BULK AT MOST 1048576: true; the input reads as it did. -/
def wordRanksUptoRow : OpenClaim := { program := "ytdbenonbjklkdaa", sum := "dda44a7f848e158e9ec28565c9dd537a442a98d8c97fbf07aae5dbb857521822", func := "deadwood/deadwoodlaw01.WordRanks", spec := "wordRanks", apart := false, narrowed := true }
def WordRanksUptoSaid : Prop := wordRanksUptoRow.holds Try.pinned (OpenSpec.upto wordRanksSpec)

/-- 'deadwoodlaw01.WordRises', WHERE WHAT IT READS IS OF BULK AT MOST 1048576: true; the input reads as it did. -/
def wordRisesUptoRow : OpenClaim := { program := "ytdbenonbjklkdaa", sum := "dda44a7f848e158e9ec28565c9dd537a442a98d8c97fbf07aae5dbb857521822", func := "deadwood/deadwoodlaw01.WordRises", spec := "wordRises", apart := false, narrowed := true }
def WordRisesUptoSaid : Prop := wordRisesUptoRow.holds Try.pinned (OpenSpec.upto wordRisesSpec)

/-- 'deadwoodlaw01.WordFields', WHERE WHAT IT READS IS OF BULK AT MOST 1048576: true; the input reads as it did. -/
def wordFieldsUptoRow : OpenClaim := { program := "ytdbenonbjklkdaa", sum := "dda44a7f848e158e9ec28565c9dd537a442a98d8c97fbf07aae5dbb857521822", func := "deadwood/deadwoodlaw01.WordFields", spec := "wordFields", apart := false, narrowed := true }
def WordFieldsUptoSaid : Prop := wordFieldsUptoRow.holds Try.pinned (OpenSpec.upto wordFieldsSpec)

/-- 'deadwoodlaw01.WordKeeps', WHERE WHAT IT READS IS OF BULK AT MOST 1048576: true; the input reads as it did. -/
def wordKeepsUptoRow : OpenClaim := { program := "ytdbenonbjklkdaa", sum := "dda44a7f848e158e9ec28565c9dd537a442a98d8c97fbf07aae5dbb857521822", func := "deadwood/deadwoodlaw01.WordKeeps", spec := "wordKeeps", apart := false, narrowed := true }
def WordKeepsUptoSaid : Prop := wordKeepsUptoRow.holds Try.pinned (OpenSpec.upto wordKeepsSpec)

/-- 'deadwoodlaw03.EdgeMakes', WHERE WHAT IT READS IS OF BULK AT MOST 1048576: true; the input reads as it did. -/
def edgeMakesUptoRow : OpenClaim := { program := "ytdbenonbjklkdaa", sum := "dda44a7f848e158e9ec28565c9dd537a442a98d8c97fbf07aae5dbb857521822", func := "deadwood/deadwoodlaw03.EdgeMakes", spec := "edgeMakes", apart := false, narrowed := true }
def EdgeMakesUptoSaid : Prop := edgeMakesUptoRow.holds Try.pinned (OpenSpec.upto edgeMakesSpec)

/-- 'deadwoodlaw01.WordBits', WHERE WHAT IT READS IS OF BULK AT MOST 1048576: true; the input reads as it did. -/
def wordBitsUptoRow : OpenClaim := { program := "ytdbenonbjklkdaa", sum := "dda44a7f848e158e9ec28565c9dd537a442a98d8c97fbf07aae5dbb857521822", func := "deadwood/deadwoodlaw01.WordBits", spec := "wordBits", apart := false, narrowed := true }
def WordBitsUptoSaid : Prop := wordBitsUptoRow.holds Try.pinned (OpenSpec.upto wordBitsSpec)

/-- 'deadwoodlaw04.BadgeHeads', WHERE WHAT IT READS IS OF BULK AT MOST 1048576: true; the input reads as it did. -/
def badgeHeadsUptoRow : OpenClaim := { program := "ytdbenonbjklkdaa", sum := "dda44a7f848e158e9ec28565c9dd537a442a98d8c97fbf07aae5dbb857521822", func := "deadwood/deadwoodlaw04.BadgeHeads", spec := "badgeHeads", apart := false, narrowed := true }
def BadgeHeadsUptoSaid : Prop := badgeHeadsUptoRow.holds Try.pinned (OpenSpec.upto badgeHeadsSpec)

/-- 'deadwoodlaw03.EdgeMarks', WHERE WHAT IT READS IS OF BULK AT MOST 1048576: true; the input reads as it did. -/
def edgeMarksUptoRow : OpenClaim := { program := "ytdbenonbjklkdaa", sum := "dda44a7f848e158e9ec28565c9dd537a442a98d8c97fbf07aae5dbb857521822", func := "deadwood/deadwoodlaw03.EdgeMarks", spec := "edgeMarks", apart := false, narrowed := true }
def EdgeMarksUptoSaid : Prop := edgeMarksUptoRow.holds Try.pinned (OpenSpec.upto edgeMarksSpec)

/-- 'deadwoodlaw03.EdgeParts', WHERE WHAT IT READS IS OF BULK AT MOST 1048576: true; the input reads as it did. -/
def edgePartsUptoRow : OpenClaim := { program := "ytdbenonbjklkdaa", sum := "dda44a7f848e158e9ec28565c9dd537a442a98d8c97fbf07aae5dbb857521822", func := "deadwood/deadwoodlaw03.EdgeParts", spec := "edgeParts", apart := false, narrowed := true }
def EdgePartsUptoSaid : Prop := edgePartsUptoRow.holds Try.pinned (OpenSpec.upto edgePartsSpec)

/-- 'deadwoodlaw03.EdgeKeeps', WHERE WHAT IT READS IS OF BULK AT MOST 1048576: true; the input reads as it did. -/
def edgeKeepsUptoRow : OpenClaim := { program := "ytdbenonbjklkdaa", sum := "dda44a7f848e158e9ec28565c9dd537a442a98d8c97fbf07aae5dbb857521822", func := "deadwood/deadwoodlaw03.EdgeKeeps", spec := "edgeKeeps", apart := false, narrowed := true }
def EdgeKeepsUptoSaid : Prop := edgeKeepsUptoRow.holds Try.pinned (OpenSpec.upto edgeKeepsSpec)

/-- 'deadwoodlaw04.BadgeEpochs', WHERE WHAT IT READS IS OF BULK AT MOST 1048576: true; the input reads as it did. -/
def badgeEpochsUptoRow : OpenClaim := { program := "ytdbenonbjklkdaa", sum := "dda44a7f848e158e9ec28565c9dd537a442a98d8c97fbf07aae5dbb857521822", func := "deadwood/deadwoodlaw04.BadgeEpochs", spec := "badgeEpochs", apart := false, narrowed := true }
def BadgeEpochsUptoSaid : Prop := badgeEpochsUptoRow.holds Try.pinned (OpenSpec.upto badgeEpochsSpec)

/-- 'deadwoodlaw04.BadgeBack', WHERE WHAT IT READS IS OF BULK AT MOST 1048576: true; the input reads as it did. -/
def badgeBackUptoRow : OpenClaim := { program := "ytdbenonbjklkdaa", sum := "dda44a7f848e158e9ec28565c9dd537a442a98d8c97fbf07aae5dbb857521822", func := "deadwood/deadwoodlaw04.BadgeBack", spec := "badgeBack", apart := false, narrowed := true }
def BadgeBackUptoSaid : Prop := badgeBackUptoRow.holds Try.pinned (OpenSpec.upto badgeBackSpec)

end Rows
end Go.Proofs.Ytdbenonbjklkdaa
