/-
  No cell of these rows narrows 'for every input' (looked for: loops, veiled, ifaces, maps, wideKeys, modest, calm, conditions, laid).
  DERIVED. THE GIVEN ROWS OF THIS SEAT. 7 by the template 'for every input the law returns true; each argument reads behind the call as it read before'; 0 by the template 'total and deterministic' (their statements: YtdmpfnnaefccnaaTotals.lean).
  GIVEN WITH THE SEED: the statements are not yours to turn. If you find one false, say at which input.
  Laid BY PROGRAM, IN A SANDBOX (cutbox-rows.mjs): the forced cells as the released guide's own fill.sh prints them over the translation 73fabf3c4c681eb6… (all of the seat's roots in one cut). By AI agents, Wed Nov 11 2026. No macro, syntax, notation, axiom, sorry.
-/
import Derived.Test.YtdmpfnnaefccnaaChecked
import GoSem.Claim
import GoSem.ClaimJoined
import GoSem.ClaimMapViews
import Derived.JoinedTies
import Derived.KernelRfl
namespace Go.Proofs.Ytdmpfnnaefccnaa
/- THE CELL 'sum', in the pinned program and in every row, IS THE sha256 OF THE DUMP (.gsa) THAT YtdmpfnnaefccnaaProg.lean LOADS. Nothing in Lean hashes anything: it is a label: what it is worth is what the hold of that sum in a sandbox is worth. -/
noncomputable def Try.pinned : Pinned := { name := "ytdmpfnnaefccnaa", sum := "73fabf3c4c681eb66cb39c7d792a6e784446a66ef546717b41a93680053a3494", checked := Try.checked }
namespace Rows
def none {H : Type} : Left H := { results := [], args := [] }

/-- 'deadwoodlaw06.MemOf': WHATEVER THE INPUT: true; the input reads as it did. -/
def memOfSpec : ChangeSpec := { name := "memOf", fn := fun _ => fun
  | [d1, d2] => { results := [.lit (.bool true)], args := [d1, d2] }
  | _ => none }
def memOfRow : OpenClaim := { program := "ytdmpfnnaefccnaa", sum := "73fabf3c4c681eb66cb39c7d792a6e784446a66ef546717b41a93680053a3494", func := "deadwood/deadwoodlaw06.MemOf", spec := "memOf", unfollowed := true, recurses := true, apart := false }
def MemOfSaid : Prop := memOfRow.holds Try.pinned (OpenSpec.ofChange memOfSpec)

/-- ITS FALSE NEIGHBOUR: 'it returns false'. Refute it at one input. -/
def memOfWrong : ChangeSpec := { name := "memOf", fn := fun _ => fun
  | [d1, d2] => { results := [.lit (.bool false)], args := [d1, d2] }
  | _ => none }
def MemOfWrongFalsely : Prop := memOfRow.holds Try.pinned (OpenSpec.ofChange memOfWrong)

/-- 'deadwoodlaw06.MemHolds': WHATEVER THE INPUT: true; the input reads as it did. -/
def memHoldsSpec : ChangeSpec := { name := "memHolds", fn := fun _ => fun
  | [d1, d2, d3] => { results := [.lit (.bool true)], args := [d1, d2, d3] }
  | _ => none }
def memHoldsRow : OpenClaim := { program := "ytdmpfnnaefccnaa", sum := "73fabf3c4c681eb66cb39c7d792a6e784446a66ef546717b41a93680053a3494", func := "deadwood/deadwoodlaw06.MemHolds", spec := "memHolds", unfollowed := true, recurses := true, apart := false }
def MemHoldsSaid : Prop := memHoldsRow.holds Try.pinned (OpenSpec.ofChange memHoldsSpec)

/-- ITS FALSE NEIGHBOUR: 'it returns false'. Refute it at one input. -/
def memHoldsWrong : ChangeSpec := { name := "memHolds", fn := fun _ => fun
  | [d1, d2, d3] => { results := [.lit (.bool false)], args := [d1, d2, d3] }
  | _ => none }
def MemHoldsWrongFalsely : Prop := memHoldsRow.holds Try.pinned (OpenSpec.ofChange memHoldsWrong)

/-- 'deadwoodlaw06.MemPlays': WHATEVER THE INPUT: true; the input reads as it did. -/
def memPlaysSpec : ChangeSpec := { name := "memPlays", fn := fun _ => fun
  | [d1, d2] => { results := [.lit (.bool true)], args := [d1, d2] }
  | _ => none }
def memPlaysRow : OpenClaim := { program := "ytdmpfnnaefccnaa", sum := "73fabf3c4c681eb66cb39c7d792a6e784446a66ef546717b41a93680053a3494", func := "deadwood/deadwoodlaw06.MemPlays", spec := "memPlays", unfollowed := true, recurses := true, apart := false }
def MemPlaysSaid : Prop := memPlaysRow.holds Try.pinned (OpenSpec.ofChange memPlaysSpec)

/-- ITS FALSE NEIGHBOUR: 'it returns false'. Refute it at one input. -/
def memPlaysWrong : ChangeSpec := { name := "memPlays", fn := fun _ => fun
  | [d1, d2] => { results := [.lit (.bool false)], args := [d1, d2] }
  | _ => none }
def MemPlaysWrongFalsely : Prop := memPlaysRow.holds Try.pinned (OpenSpec.ofChange memPlaysWrong)

/-- 'deadwoodlaw06.MemNone': WHATEVER THE INPUT: true; the input reads as it did. -/
def memNoneSpec : ChangeSpec := { name := "memNone", fn := fun _ => fun
  | [d1, d2, d3] => { results := [.lit (.bool true)], args := [d1, d2, d3] }
  | _ => none }
def memNoneRow : OpenClaim := { program := "ytdmpfnnaefccnaa", sum := "73fabf3c4c681eb66cb39c7d792a6e784446a66ef546717b41a93680053a3494", func := "deadwood/deadwoodlaw06.MemNone", spec := "memNone", unfollowed := true, recurses := true, apart := false }
def MemNoneSaid : Prop := memNoneRow.holds Try.pinned (OpenSpec.ofChange memNoneSpec)

/-- ITS FALSE NEIGHBOUR: 'it returns false'. Refute it at one input. -/
def memNoneWrong : ChangeSpec := { name := "memNone", fn := fun _ => fun
  | [d1, d2, d3] => { results := [.lit (.bool false)], args := [d1, d2, d3] }
  | _ => none }
def MemNoneWrongFalsely : Prop := memNoneRow.holds Try.pinned (OpenSpec.ofChange memNoneWrong)

/-- 'deadwoodlaw07.GuardPlays': WHATEVER THE INPUT: true; the input reads as it did. -/
def guardPlaysSpec : ChangeSpec := { name := "guardPlays", fn := fun _ => fun
  | [d1, d2, d3] => { results := [.lit (.bool true)], args := [d1, d2, d3] }
  | _ => none }
def guardPlaysRow : OpenClaim := { program := "ytdmpfnnaefccnaa", sum := "73fabf3c4c681eb66cb39c7d792a6e784446a66ef546717b41a93680053a3494", func := "deadwood/deadwoodlaw07.GuardPlays", spec := "guardPlays", apart := false }
def GuardPlaysSaid : Prop := guardPlaysRow.holds Try.pinned (OpenSpec.ofChange guardPlaysSpec)

/-- ITS FALSE NEIGHBOUR: 'it returns false'. Refute it at one input. -/
def guardPlaysWrong : ChangeSpec := { name := "guardPlays", fn := fun _ => fun
  | [d1, d2, d3] => { results := [.lit (.bool false)], args := [d1, d2, d3] }
  | _ => none }
def GuardPlaysWrongFalsely : Prop := guardPlaysRow.holds Try.pinned (OpenSpec.ofChange guardPlaysWrong)

/-- 'deadwoodlaw07.GuardLeaves': WHATEVER THE INPUT: true; the input reads as it did. -/
def guardLeavesSpec : ChangeSpec := { name := "guardLeaves", fn := fun _ => fun
  | [d1, d2, d3] => { results := [.lit (.bool true)], args := [d1, d2, d3] }
  | _ => none }
def guardLeavesRow : OpenClaim := { program := "ytdmpfnnaefccnaa", sum := "73fabf3c4c681eb66cb39c7d792a6e784446a66ef546717b41a93680053a3494", func := "deadwood/deadwoodlaw07.GuardLeaves", spec := "guardLeaves", apart := false }
def GuardLeavesSaid : Prop := guardLeavesRow.holds Try.pinned (OpenSpec.ofChange guardLeavesSpec)

/-- ITS FALSE NEIGHBOUR: 'it returns false'. Refute it at one input. -/
def guardLeavesWrong : ChangeSpec := { name := "guardLeaves", fn := fun _ => fun
  | [d1, d2, d3] => { results := [.lit (.bool false)], args := [d1, d2, d3] }
  | _ => none }
def GuardLeavesWrongFalsely : Prop := guardLeavesRow.holds Try.pinned (OpenSpec.ofChange guardLeavesWrong)

/-- 'deadwoodlaw07.GuardNone': WHATEVER THE INPUT: true; the input reads as it did. -/
def guardNoneSpec : ChangeSpec := { name := "guardNone", fn := fun _ => fun
  | [d1, d2, d3] => { results := [.lit (.bool true)], args := [d1, d2, d3] }
  | _ => none }
def guardNoneRow : OpenClaim := { program := "ytdmpfnnaefccnaa", sum := "73fabf3c4c681eb66cb39c7d792a6e784446a66ef546717b41a93680053a3494", func := "deadwood/deadwoodlaw07.GuardNone", spec := "guardNone", inPlace := ["maps.clone"], apart := false }
def GuardNoneSaid : Prop := guardNoneRow.holds Try.pinned (OpenSpec.ofChange guardNoneSpec)

/-- ITS FALSE NEIGHBOUR: 'it returns false'. Refute it at one input. -/
def guardNoneWrong : ChangeSpec := { name := "guardNone", fn := fun _ => fun
  | [d1, d2, d3] => { results := [.lit (.bool false)], args := [d1, d2, d3] }
  | _ => none }
def GuardNoneWrongFalsely : Prop := guardNoneRow.holds Try.pinned (OpenSpec.ofChange guardNoneWrong)

/- THE SECOND FORM. 'bulk': how many values and letters a reading holds, each counted each time it is reached (what is shared counts as often as it is met; a slice's spare places count too). A statement '..UptoSaid' is the law's where the arguments, and the package variables that the reading takes, are together of bulk at most 1048576: NARROWER than '..Said'. Prove '..Said' where nothing that the law and all that it calls make is longer than what came in: it says more and counts as full. Else prove '..UptoSaid'. A law counts once. -/
mutual
def uptoBulk {H : Type} : DataW H → Nat
  | .lit (.string bytes) => bytes.length + 1
  | .lit _ => 1
  | .nil => 1
  | .ptr d => uptoBulk d + 1
  | .slice elems spare => uptoBulkAll elems + uptoBulkAll spare + 1
  | .agg parts => uptoBulkAll parts + 1
  | .iface _ d => uptoBulk d + 1
  | .map entries => uptoBulkEntries entries + 1
  | .held _ => 1
def uptoBulkAll {H : Type} : List (DataW H) → Nat
  | [] => 0
  | d :: r => uptoBulk d + uptoBulkAll r
def uptoBulkEntries {H : Type} : List (Lit × DataW H) → Nat
  | [] => 0
  | x :: r => uptoBulkEntry x + uptoBulkEntries r
def uptoBulkEntry {H : Type} : Lit × DataW H → Nat
  | (.string bytes, d) => bytes.length + uptoBulk d + 1
  | (_, d) => uptoBulk d + 1
 end
def uptoSmall : (H : Type) → List (DataW H) → Bool := fun _ ds => decide (uptoBulkAll ds ≤ 1048576)
def OpenSpec.upto (s : _root_.Go.ChangeSpec) : _root_.Go.OpenSpec := { _root_.Go.OpenSpec.ofChange s with cond := some uptoSmall }

/-- 'deadwoodlaw06.MemOf', WHERE WHAT IT READS IS OF BULK AT MOST 1048576: true; the input reads as it did. -/
def memOfUptoRow : OpenClaim := { program := "ytdmpfnnaefccnaa", sum := "73fabf3c4c681eb66cb39c7d792a6e784446a66ef546717b41a93680053a3494", func := "deadwood/deadwoodlaw06.MemOf", spec := "memOf", unfollowed := true, recurses := true, apart := false, narrowed := true }
def MemOfUptoSaid : Prop := memOfUptoRow.holds Try.pinned (OpenSpec.upto memOfSpec)

/-- 'deadwoodlaw06.MemHolds', WHERE WHAT IT READS IS OF BULK AT MOST 1048576: true; the input reads as it did. -/
def memHoldsUptoRow : OpenClaim := { program := "ytdmpfnnaefccnaa", sum := "73fabf3c4c681eb66cb39c7d792a6e784446a66ef546717b41a93680053a3494", func := "deadwood/deadwoodlaw06.MemHolds", spec := "memHolds", unfollowed := true, recurses := true, apart := false, narrowed := true }
def MemHoldsUptoSaid : Prop := memHoldsUptoRow.holds Try.pinned (OpenSpec.upto memHoldsSpec)

/-- 'deadwoodlaw06.MemPlays', WHERE WHAT IT READS IS OF BULK AT MOST 1048576: true; the input reads as it did. -/
def memPlaysUptoRow : OpenClaim := { program := "ytdmpfnnaefccnaa", sum := "73fabf3c4c681eb66cb39c7d792a6e784446a66ef546717b41a93680053a3494", func := "deadwood/deadwoodlaw06.MemPlays", spec := "memPlays", unfollowed := true, recurses := true, apart := false, narrowed := true }
def MemPlaysUptoSaid : Prop := memPlaysUptoRow.holds Try.pinned (OpenSpec.upto memPlaysSpec)

/-- 'deadwoodlaw06.MemNone', WHERE WHAT IT READS IS OF BULK AT MOST 1048576: true; the input reads as it did. -/
def memNoneUptoRow : OpenClaim := { program := "ytdmpfnnaefccnaa", sum := "73fabf3c4c681eb66cb39c7d792a6e784446a66ef546717b41a93680053a3494", func := "deadwood/deadwoodlaw06.MemNone", spec := "memNone", unfollowed := true, recurses := true, apart := false, narrowed := true }
def MemNoneUptoSaid : Prop := memNoneUptoRow.holds Try.pinned (OpenSpec.upto memNoneSpec)

/-- 'deadwoodlaw07.GuardPlays', WHERE WHAT IT READS IS OF BULK AT MOST 1048576: true; the input reads as it did. -/
def guardPlaysUptoRow : OpenClaim := { program := "ytdmpfnnaefccnaa", sum := "73fabf3c4c681eb66cb39c7d792a6e784446a66ef546717b41a93680053a3494", func := "deadwood/deadwoodlaw07.GuardPlays", spec := "guardPlays", apart := false, narrowed := true }
def GuardPlaysUptoSaid : Prop := guardPlaysUptoRow.holds Try.pinned (OpenSpec.upto guardPlaysSpec)

/-- 'deadwoodlaw07.GuardLeaves', WHERE WHAT IT READS IS OF BULK AT MOST 1048576: true; the input reads as it did. -/
def guardLeavesUptoRow : OpenClaim := { program := "ytdmpfnnaefccnaa", sum := "73fabf3c4c681eb66cb39c7d792a6e784446a66ef546717b41a93680053a3494", func := "deadwood/deadwoodlaw07.GuardLeaves", spec := "guardLeaves", apart := false, narrowed := true }
def GuardLeavesUptoSaid : Prop := guardLeavesUptoRow.holds Try.pinned (OpenSpec.upto guardLeavesSpec)

/-- 'deadwoodlaw07.GuardNone', WHERE WHAT IT READS IS OF BULK AT MOST 1048576: true; the input reads as it did. -/
def guardNoneUptoRow : OpenClaim := { program := "ytdmpfnnaefccnaa", sum := "73fabf3c4c681eb66cb39c7d792a6e784446a66ef546717b41a93680053a3494", func := "deadwood/deadwoodlaw07.GuardNone", spec := "guardNone", inPlace := ["maps.clone"], apart := false, narrowed := true }
def GuardNoneUptoSaid : Prop := guardNoneUptoRow.holds Try.pinned (OpenSpec.upto guardNoneSpec)

end Rows
end Go.Proofs.Ytdmpfnnaefccnaa
