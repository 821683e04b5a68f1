/-
  No cell of these rows narrows 'for every input' (looked for: loops, veiled, ifaces, maps, wideKeys, modest, calm, conditions, laid).
  DERIVED. THE GIVEN ROWS OF THIS SEAT. 11 by the template 'for every input the law returns true; each argument reads behind the call as it read before'; 0 by the template 'total and deterministic' (their statements: YtckbndckfeicmaaTotals.lean).
  GIVEN WITH THE SEED: the statements are not yours to turn. If you find one false, say at which input.
  Laid BY PROGRAM, IN A SANDBOX (cutbox-rows.mjs): the forced cells as the released guide's own fill.sh prints them over the translation 24e42321ffa25854… (all of the seat's roots in one cut). By AI agents, Wed Nov 11 2026. No macro, syntax, notation, axiom, sorry.
-/
import Derived.Test.YtckbndckfeicmaaChecked
import GoSem.Claim
import GoSem.ClaimJoined
import GoSem.ClaimMapViews
import Derived.JoinedTies
import Derived.KernelRfl
namespace Go.Proofs.Ytckbndckfeicmaa
/- THE CELL 'sum', in the pinned program and in every row, IS THE sha256 OF THE DUMP (.gsa) THAT YtckbndckfeicmaaProg.lean LOADS. Nothing in Lean hashes anything: it is a label: what it is worth is what the hold of that sum in a sandbox is worth. -/
noncomputable def Try.pinned : Pinned := { name := "ytckbndckfeicmaa", sum := "24e42321ffa258545c80d4f6599096ec4562ac640319dc9fb5b87ceb707a9b91", checked := Try.checked }
namespace Rows
def none {H : Type} : Left H := { results := [], args := [] }

/-- 'deadwoodlaw14.ScriptPuts': WHATEVER THE INPUT: true; the input reads as it did. -/
def scriptPutsSpec : ChangeSpec := { name := "scriptPuts", fn := fun _ => fun
  | [d1, d2] => { results := [.lit (.bool true)], args := [d1, d2] }
  | _ => none }
def scriptPutsRow : OpenClaim := { program := "ytckbndckfeicmaa", sum := "24e42321ffa258545c80d4f6599096ec4562ac640319dc9fb5b87ceb707a9b91", func := "deadwood/deadwoodlaw14.ScriptPuts", spec := "scriptPuts", unfollowed := true, recurses := true, apart := false }
def ScriptPutsSaid : Prop := scriptPutsRow.holds Try.pinned (OpenSpec.ofChange scriptPutsSpec)

/-- ITS FALSE NEIGHBOUR: 'it returns false'. Refute it at one input. -/
def scriptPutsWrong : ChangeSpec := { name := "scriptPuts", fn := fun _ => fun
  | [d1, d2] => { results := [.lit (.bool false)], args := [d1, d2] }
  | _ => none }
def ScriptPutsWrongFalsely : Prop := scriptPutsRow.holds Try.pinned (OpenSpec.ofChange scriptPutsWrong)

/-- 'deadwoodlaw14.ScriptCleans': WHATEVER THE INPUT: true; the input reads as it did. -/
def scriptCleansSpec : ChangeSpec := { name := "scriptCleans", fn := fun _ => fun
  | [d] => { results := [.lit (.bool true)], args := [d] }
  | _ => none }
def scriptCleansRow : OpenClaim := { program := "ytckbndckfeicmaa", sum := "24e42321ffa258545c80d4f6599096ec4562ac640319dc9fb5b87ceb707a9b91", func := "deadwood/deadwoodlaw14.ScriptCleans", spec := "scriptCleans", unfollowed := true, recurses := true, apart := false }
def ScriptCleansSaid : Prop := scriptCleansRow.holds Try.pinned (OpenSpec.ofChange scriptCleansSpec)

/-- ITS FALSE NEIGHBOUR: 'it returns false'. Refute it at one input. -/
def scriptCleansWrong : ChangeSpec := { name := "scriptCleans", fn := fun _ => fun
  | [d] => { results := [.lit (.bool false)], args := [d] }
  | _ => none }
def ScriptCleansWrongFalsely : Prop := scriptCleansRow.holds Try.pinned (OpenSpec.ofChange scriptCleansWrong)

/-- 'deadwoodlaw09.CallFits': WHATEVER THE INPUT: true; the input reads as it did. -/
def callFitsSpec : ChangeSpec := { name := "callFits", fn := fun _ => fun
  | [d1, d2, d3] => { results := [.lit (.bool true)], args := [d1, d2, d3] }
  | _ => none }
def callFitsRow : OpenClaim := { program := "ytckbndckfeicmaa", sum := "24e42321ffa258545c80d4f6599096ec4562ac640319dc9fb5b87ceb707a9b91", func := "deadwood/deadwoodlaw09.CallFits", spec := "callFits", unfollowed := true, recurses := true, apart := false }
def CallFitsSaid : Prop := callFitsRow.holds Try.pinned (OpenSpec.ofChange callFitsSpec)

/-- ITS FALSE NEIGHBOUR: 'it returns false'. Refute it at one input. -/
def callFitsWrong : ChangeSpec := { name := "callFits", fn := fun _ => fun
  | [d1, d2, d3] => { results := [.lit (.bool false)], args := [d1, d2, d3] }
  | _ => none }
def CallFitsWrongFalsely : Prop := callFitsRow.holds Try.pinned (OpenSpec.ofChange callFitsWrong)

/-- 'deadwoodlaw14.ScriptTakes': WHATEVER THE INPUT: true; the input reads as it did. -/
def scriptTakesSpec : ChangeSpec := { name := "scriptTakes", fn := fun _ => fun
  | [d] => { results := [.lit (.bool true)], args := [d] }
  | _ => none }
def scriptTakesRow : OpenClaim := { program := "ytckbndckfeicmaa", sum := "24e42321ffa258545c80d4f6599096ec4562ac640319dc9fb5b87ceb707a9b91", func := "deadwood/deadwoodlaw14.ScriptTakes", spec := "scriptTakes", unfollowed := true, recurses := true, apart := false }
def ScriptTakesSaid : Prop := scriptTakesRow.holds Try.pinned (OpenSpec.ofChange scriptTakesSpec)

/-- ITS FALSE NEIGHBOUR: 'it returns false'. Refute it at one input. -/
def scriptTakesWrong : ChangeSpec := { name := "scriptTakes", fn := fun _ => fun
  | [d] => { results := [.lit (.bool false)], args := [d] }
  | _ => none }
def ScriptTakesWrongFalsely : Prop := scriptTakesRow.holds Try.pinned (OpenSpec.ofChange scriptTakesWrong)

/-- 'deadwoodlaw09.CallWords': WHATEVER THE INPUT: true; the input reads as it did. -/
def callWordsSpec : ChangeSpec := { name := "callWords", fn := fun _ => fun
  | [d1, d2] => { results := [.lit (.bool true)], args := [d1, d2] }
  | _ => none }
def callWordsRow : OpenClaim := { program := "ytckbndckfeicmaa", sum := "24e42321ffa258545c80d4f6599096ec4562ac640319dc9fb5b87ceb707a9b91", func := "deadwood/deadwoodlaw09.CallWords", spec := "callWords", unfollowed := true, recurses := true, apart := false }
def CallWordsSaid : Prop := callWordsRow.holds Try.pinned (OpenSpec.ofChange callWordsSpec)

/-- ITS FALSE NEIGHBOUR: 'it returns false'. Refute it at one input. -/
def callWordsWrong : ChangeSpec := { name := "callWords", fn := fun _ => fun
  | [d1, d2] => { results := [.lit (.bool false)], args := [d1, d2] }
  | _ => none }
def CallWordsWrongFalsely : Prop := callWordsRow.holds Try.pinned (OpenSpec.ofChange callWordsWrong)

/-- 'deadwoodlaw09.CallOnes': WHATEVER THE INPUT: true; the input reads as it did. -/
def callOnesSpec : ChangeSpec := { name := "callOnes", fn := fun _ => fun
  | [d1, d2, d3] => { results := [.lit (.bool true)], args := [d1, d2, d3] }
  | _ => none }
def callOnesRow : OpenClaim := { program := "ytckbndckfeicmaa", sum := "24e42321ffa258545c80d4f6599096ec4562ac640319dc9fb5b87ceb707a9b91", func := "deadwood/deadwoodlaw09.CallOnes", spec := "callOnes", unfollowed := true, recurses := true, apart := false }
def CallOnesSaid : Prop := callOnesRow.holds Try.pinned (OpenSpec.ofChange callOnesSpec)

/-- ITS FALSE NEIGHBOUR: 'it returns false'. Refute it at one input. -/
def callOnesWrong : ChangeSpec := { name := "callOnes", fn := fun _ => fun
  | [d1, d2, d3] => { results := [.lit (.bool false)], args := [d1, d2, d3] }
  | _ => none }
def CallOnesWrongFalsely : Prop := callOnesRow.holds Try.pinned (OpenSpec.ofChange callOnesWrong)

/-- 'deadwoodlaw14.ScriptBack': WHATEVER THE INPUT: true; the input reads as it did. -/
def scriptBackSpec : ChangeSpec := { name := "scriptBack", fn := fun _ => fun
  | [d1, d2] => { results := [.lit (.bool true)], args := [d1, d2] }
  | _ => none }
def scriptBackRow : OpenClaim := { program := "ytckbndckfeicmaa", sum := "24e42321ffa258545c80d4f6599096ec4562ac640319dc9fb5b87ceb707a9b91", func := "deadwood/deadwoodlaw14.ScriptBack", spec := "scriptBack", unfollowed := true, recurses := true, apart := false }
def ScriptBackSaid : Prop := scriptBackRow.holds Try.pinned (OpenSpec.ofChange scriptBackSpec)

/-- ITS FALSE NEIGHBOUR: 'it returns false'. Refute it at one input. -/
def scriptBackWrong : ChangeSpec := { name := "scriptBack", fn := fun _ => fun
  | [d1, d2] => { results := [.lit (.bool false)], args := [d1, d2] }
  | _ => none }
def ScriptBackWrongFalsely : Prop := scriptBackRow.holds Try.pinned (OpenSpec.ofChange scriptBackWrong)

/-- 'deadwoodlaw08.PairsFinds': WHATEVER THE INPUT: true; the input reads as it did. -/
def pairsFindsSpec : ChangeSpec := { name := "pairsFinds", fn := fun _ => fun
  | [d1, d2] => { results := [.lit (.bool true)], args := [d1, d2] }
  | _ => none }
def pairsFindsRow : OpenClaim := { program := "ytckbndckfeicmaa", sum := "24e42321ffa258545c80d4f6599096ec4562ac640319dc9fb5b87ceb707a9b91", func := "deadwood/deadwoodlaw08.PairsFinds", spec := "pairsFinds", inPlace := ["slices.overlaps[deadwood/api.Pair]"], unfollowed := true, recurses := true, apart := false }
def PairsFindsSaid : Prop := pairsFindsRow.holds Try.pinned (OpenSpec.ofChange pairsFindsSpec)

/-- ITS FALSE NEIGHBOUR: 'it returns false'. Refute it at one input. -/
def pairsFindsWrong : ChangeSpec := { name := "pairsFinds", fn := fun _ => fun
  | [d1, d2] => { results := [.lit (.bool false)], args := [d1, d2] }
  | _ => none }
def PairsFindsWrongFalsely : Prop := pairsFindsRow.holds Try.pinned (OpenSpec.ofChange pairsFindsWrong)

/-- 'deadwoodlaw08.PairsCuts': WHATEVER THE INPUT: true; the input reads as it did. -/
def pairsCutsSpec : ChangeSpec := { name := "pairsCuts", fn := fun _ => fun
  | [d1, d2, d3] => { results := [.lit (.bool true)], args := [d1, d2, d3] }
  | _ => none }
def pairsCutsRow : OpenClaim := { program := "ytckbndckfeicmaa", sum := "24e42321ffa258545c80d4f6599096ec4562ac640319dc9fb5b87ceb707a9b91", func := "deadwood/deadwoodlaw08.PairsCuts", spec := "pairsCuts", inPlace := ["slices.overlaps[deadwood/api.Pair]"], unfollowed := true, recurses := true, apart := false }
def PairsCutsSaid : Prop := pairsCutsRow.holds Try.pinned (OpenSpec.ofChange pairsCutsSpec)

/-- ITS FALSE NEIGHBOUR: 'it returns false'. Refute it at one input. -/
def pairsCutsWrong : ChangeSpec := { name := "pairsCuts", fn := fun _ => fun
  | [d1, d2, d3] => { results := [.lit (.bool false)], args := [d1, d2, d3] }
  | _ => none }
def PairsCutsWrongFalsely : Prop := pairsCutsRow.holds Try.pinned (OpenSpec.ofChange pairsCutsWrong)

/-- 'deadwoodlaw08.PairsPuts': WHATEVER THE INPUT: true; the input reads as it did. -/
def pairsPutsSpec : ChangeSpec := { name := "pairsPuts", fn := fun _ => fun
  | [d1, d2] => { results := [.lit (.bool true)], args := [d1, d2] }
  | _ => none }
def pairsPutsRow : OpenClaim := { program := "ytckbndckfeicmaa", sum := "24e42321ffa258545c80d4f6599096ec4562ac640319dc9fb5b87ceb707a9b91", func := "deadwood/deadwoodlaw08.PairsPuts", spec := "pairsPuts", inPlace := ["slices.overlaps[deadwood/api.Pair]"], unfollowed := true, recurses := true, apart := false }
def PairsPutsSaid : Prop := pairsPutsRow.holds Try.pinned (OpenSpec.ofChange pairsPutsSpec)

/-- ITS FALSE NEIGHBOUR: 'it returns false'. Refute it at one input. -/
def pairsPutsWrong : ChangeSpec := { name := "pairsPuts", fn := fun _ => fun
  | [d1, d2] => { results := [.lit (.bool false)], args := [d1, d2] }
  | _ => none }
def PairsPutsWrongFalsely : Prop := pairsPutsRow.holds Try.pinned (OpenSpec.ofChange pairsPutsWrong)

/-- 'deadwoodlaw08.PairsBack': WHATEVER THE INPUT: true; the input reads as it did. -/
def pairsBackSpec : ChangeSpec := { name := "pairsBack", fn := fun _ => fun
  | [d1, d2] => { results := [.lit (.bool true)], args := [d1, d2] }
  | _ => none }
def pairsBackRow : OpenClaim := { program := "ytckbndckfeicmaa", sum := "24e42321ffa258545c80d4f6599096ec4562ac640319dc9fb5b87ceb707a9b91", func := "deadwood/deadwoodlaw08.PairsBack", spec := "pairsBack", inPlace := ["slices.overlaps[deadwood/api.Pair]"], unfollowed := true, recurses := true, apart := false }
def PairsBackSaid : Prop := pairsBackRow.holds Try.pinned (OpenSpec.ofChange pairsBackSpec)

/-- ITS FALSE NEIGHBOUR: 'it returns false'. Refute it at one input. -/
def pairsBackWrong : ChangeSpec := { name := "pairsBack", fn := fun _ => fun
  | [d1, d2] => { results := [.lit (.bool false)], args := [d1, d2] }
  | _ => none }
def PairsBackWrongFalsely : Prop := pairsBackRow.holds Try.pinned (OpenSpec.ofChange pairsBackWrong)

/- THE SECOND FORM. 'bulk': how many values and letters a reading holds, each counted each time it is reached (what is shared counts as often as it is met; a slice's spare places count too). A statement '..UptoSaid' is the law's where the arguments, and the package variables that the reading takes, are together of bulk at most 1048576: NARROWER than '..Said'. Prove '..Said' where nothing that the law and all that it calls make is longer than what came in: it says more and counts as full. Else prove '..UptoSaid'. A law counts once. -/
mutual
def uptoBulk {H : Type} : DataW H → Nat
  | .lit (.string bytes) => bytes.length + 1
  | .lit _ => 1
  | .nil => 1
  | .ptr d => uptoBulk d + 1
  | .slice elems spare => uptoBulkAll elems + uptoBulkAll spare + 1
  | .agg parts => uptoBulkAll parts + 1
  | .iface _ d => uptoBulk d + 1
  | .map entries => uptoBulkEntries entries + 1
  | .held _ => 1
def uptoBulkAll {H : Type} : List (DataW H) → Nat
  | [] => 0
  | d :: r => uptoBulk d + uptoBulkAll r
def uptoBulkEntries {H : Type} : List (Lit × DataW H) → Nat
  | [] => 0
  | x :: r => uptoBulkEntry x + uptoBulkEntries r
def uptoBulkEntry {H : Type} : Lit × DataW H → Nat
  | (.string bytes, d) => bytes.length + uptoBulk d + 1
  | (_, d) => uptoBulk d + 1
 end
def uptoSmall : (H : Type) → List (DataW H) → Bool := fun _ ds => decide (uptoBulkAll ds ≤ 1048576)
def OpenSpec.upto (s : _root_.Go.ChangeSpec) : _root_.Go.OpenSpec := { _root_.Go.OpenSpec.ofChange s with cond := some uptoSmall }

/-- 'deadwoodlaw14.ScriptPuts', WHERE WHAT IT READS IS OF BULK AT MOST 1048576: true; the input reads as it did. -/
def scriptPutsUptoRow : OpenClaim := { program := "ytckbndckfeicmaa", sum := "24e42321ffa258545c80d4f6599096ec4562ac640319dc9fb5b87ceb707a9b91", func := "deadwood/deadwoodlaw14.ScriptPuts", spec := "scriptPuts", unfollowed := true, recurses := true, apart := false, narrowed := true }
def ScriptPutsUptoSaid : Prop := scriptPutsUptoRow.holds Try.pinned (OpenSpec.upto scriptPutsSpec)

/-- 'deadwoodlaw14.ScriptCleans', WHERE WHAT IT READS IS OF BULK AT MOST 1048576: true; the input reads as it did. -/
def scriptCleansUptoRow : OpenClaim := { program := "ytckbndckfeicmaa", sum := "24e42321ffa258545c80d4f6599096ec4562ac640319dc9fb5b87ceb707a9b91", func := "deadwood/deadwoodlaw14.ScriptCleans", spec := "scriptCleans", unfollowed := true, recurses := true, apart := false, narrowed := true }
def ScriptCleansUptoSaid : Prop := scriptCleansUptoRow.holds Try.pinned (OpenSpec.upto scriptCleansSpec)

/-- 'deadwoodlaw09.CallFits', WHERE WHAT IT READS IS OF BULK AT MOST 1048576: true; the input reads as it did. -/
def callFitsUptoRow : OpenClaim := { program := "ytckbndckfeicmaa", sum := "24e42321ffa258545c80d4f6599096ec4562ac640319dc9fb5b87ceb707a9b91", func := "deadwood/deadwoodlaw09.CallFits", spec := "callFits", unfollowed := true, recurses := true, apart := false, narrowed := true }
def CallFitsUptoSaid : Prop := callFitsUptoRow.holds Try.pinned (OpenSpec.upto callFitsSpec)

/-- 'deadwoodlaw14.ScriptTakes', WHERE WHAT IT READS IS OF BULK AT MOST 1048576: true; the input reads as it did. -/
def scriptTakesUptoRow : OpenClaim := { program := "ytckbndckfeicmaa", sum := "24e42321ffa258545c80d4f6599096ec4562ac640319dc9fb5b87ceb707a9b91", func := "deadwood/deadwoodlaw14.ScriptTakes", spec := "scriptTakes", unfollowed := true, recurses := true, apart := false, narrowed := true }
def ScriptTakesUptoSaid : Prop := scriptTakesUptoRow.holds Try.pinned (OpenSpec.upto scriptTakesSpec)

/-- 'deadwoodlaw09.CallWords', WHERE WHAT IT READS IS OF BULK AT MOST 1048576: true; the input reads as it did. -/
def callWordsUptoRow : OpenClaim := { program := "ytckbndckfeicmaa", sum := "24e42321ffa258545c80d4f6599096ec4562ac640319dc9fb5b87ceb707a9b91", func := "deadwood/deadwoodlaw09.CallWords", spec := "callWords", unfollowed := true, recurses := true, apart := false, narrowed := true }
def CallWordsUptoSaid : Prop := callWordsUptoRow.holds Try.pinned (OpenSpec.upto callWordsSpec)

/-- 'deadwoodlaw09.CallOnes', WHERE WHAT IT READS IS OF BULK AT MOST 1048576: true; the input reads as it did. -/
def callOnesUptoRow : OpenClaim := { program := "ytckbndckfeicmaa", sum := "24e42321ffa258545c80d4f6599096ec4562ac640319dc9fb5b87ceb707a9b91", func := "deadwood/deadwoodlaw09.CallOnes", spec := "callOnes", unfollowed := true, recurses := true, apart := false, narrowed := true }
def CallOnesUptoSaid : Prop := callOnesUptoRow.holds Try.pinned (OpenSpec.upto callOnesSpec)

/-- 'deadwoodlaw14.ScriptBack', WHERE WHAT IT READS IS OF BULK AT MOST 1048576: true; the input reads as it did. -/
def scriptBackUptoRow : OpenClaim := { program := "ytckbndckfeicmaa", sum := "24e42321ffa258545c80d4f6599096ec4562ac640319dc9fb5b87ceb707a9b91", func := "deadwood/deadwoodlaw14.ScriptBack", spec := "scriptBack", unfollowed := true, recurses := true, apart := false, narrowed := true }
def ScriptBackUptoSaid : Prop := scriptBackUptoRow.holds Try.pinned (OpenSpec.upto scriptBackSpec)

/-- 'deadwoodlaw08.PairsFinds', WHERE WHAT IT READS IS OF BULK AT MOST 1048576: true; the input reads as it did. -/
def pairsFindsUptoRow : OpenClaim := { program := "ytckbndckfeicmaa", sum := "24e42321ffa258545c80d4f6599096ec4562ac640319dc9fb5b87ceb707a9b91", func := "deadwood/deadwoodlaw08.PairsFinds", spec := "pairsFinds", inPlace := ["slices.overlaps[deadwood/api.Pair]"], unfollowed := true, recurses := true, apart := false, narrowed := true }
def PairsFindsUptoSaid : Prop := pairsFindsUptoRow.holds Try.pinned (OpenSpec.upto pairsFindsSpec)

/-- 'deadwoodlaw08.PairsCuts', WHERE WHAT IT READS IS OF BULK AT MOST 1048576: true; the input reads as it did. -/
def pairsCutsUptoRow : OpenClaim := { program := "ytckbndckfeicmaa", sum := "24e42321ffa258545c80d4f6599096ec4562ac640319dc9fb5b87ceb707a9b91", func := "deadwood/deadwoodlaw08.PairsCuts", spec := "pairsCuts", inPlace := ["slices.overlaps[deadwood/api.Pair]"], unfollowed := true, recurses := true, apart := false, narrowed := true }
def PairsCutsUptoSaid : Prop := pairsCutsUptoRow.holds Try.pinned (OpenSpec.upto pairsCutsSpec)

/-- 'deadwoodlaw08.PairsPuts', WHERE WHAT IT READS IS OF BULK AT MOST 1048576: true; the input reads as it did. -/
def pairsPutsUptoRow : OpenClaim := { program := "ytckbndckfeicmaa", sum := "24e42321ffa258545c80d4f6599096ec4562ac640319dc9fb5b87ceb707a9b91", func := "deadwood/deadwoodlaw08.PairsPuts", spec := "pairsPuts", inPlace := ["slices.overlaps[deadwood/api.Pair]"], unfollowed := true, recurses := true, apart := false, narrowed := true }
def PairsPutsUptoSaid : Prop := pairsPutsUptoRow.holds Try.pinned (OpenSpec.upto pairsPutsSpec)

/-- 'deadwoodlaw08.PairsBack', WHERE WHAT IT READS IS OF BULK AT MOST 1048576: true; the input reads as it did. -/
def pairsBackUptoRow : OpenClaim := { program := "ytckbndckfeicmaa", sum := "24e42321ffa258545c80d4f6599096ec4562ac640319dc9fb5b87ceb707a9b91", func := "deadwood/deadwoodlaw08.PairsBack", spec := "pairsBack", inPlace := ["slices.overlaps[deadwood/api.Pair]"], unfollowed := true, recurses := true, apart := false, narrowed := true }
def PairsBackUptoSaid : Prop := pairsBackUptoRow.holds Try.pinned (OpenSpec.upto pairsBackSpec)

end Rows
end Go.Proofs.Ytckbndckfeicmaa
