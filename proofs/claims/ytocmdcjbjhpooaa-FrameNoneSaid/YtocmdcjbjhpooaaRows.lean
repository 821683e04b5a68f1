/-
  No cell of these rows narrows 'for every input' (looked for: loops, veiled, ifaces, maps, wideKeys, modest, calm, conditions, laid).
  DERIVED. THE GIVEN ROWS OF THIS SEAT. 7 by the template 'for every input the law returns true; each argument reads behind the call as it read before'; 0 by the template 'total and deterministic' (their statements: YtocmdcjbjhpooaaTotals.lean).
  GIVEN WITH THE SEED: the statements are not yours to turn. If you find one false, say at which input.
  Laid BY PROGRAM, IN A SANDBOX (cutbox-rows.mjs): the forced cells as the released guide's own fill.sh prints them over the translation afd4775ef2d934ef… (all of the seat's roots in one cut). By AI agents, Wed Nov 11 2026. No macro, syntax, notation, axiom, sorry.
-/
import Derived.Test.YtocmdcjbjhpooaaChecked
import GoSem.Claim
import GoSem.ClaimJoined
import GoSem.ClaimMapViews
import Derived.JoinedTies
import Derived.KernelRfl
namespace Go.Proofs.Ytocmdcjbjhpooaa
/- THE CELL 'sum', in the pinned program and in every row, IS THE sha256 OF THE DUMP (.gsa) THAT YtocmdcjbjhpooaaProg.lean LOADS. Nothing in Lean hashes anything: it is a label: what it is worth is what the hold of that sum in a sandbox is worth. -/
noncomputable def Try.pinned : Pinned := { name := "ytocmdcjbjhpooaa", sum := "afd4775ef2d934ef257b9eaeaedaa2a50da9f62dc3a05febc74dc3c79dc82f44", checked := Try.checked }
namespace Rows
def none {H : Type} : Left H := { results := [], args := [] }

/-- 'deadwoodlaw15.FramePlays': WHATEVER THE INPUT: true; the input reads as it did. -/
def framePlaysSpec : ChangeSpec := { name := "framePlays", fn := fun _ => fun
  | [d] => { results := [.lit (.bool true)], args := [d] }
  | _ => none }
def framePlaysRow : OpenClaim := { program := "ytocmdcjbjhpooaa", sum := "afd4775ef2d934ef257b9eaeaedaa2a50da9f62dc3a05febc74dc3c79dc82f44", func := "deadwood/deadwoodlaw15.FramePlays", spec := "framePlays", inPlace := ["slices.overlaps[deadwood/api.Pair]"], unfollowed := true, recurses := true, apart := false }
def FramePlaysSaid : Prop := framePlaysRow.holds Try.pinned (OpenSpec.ofChange framePlaysSpec)

/-- ITS FALSE NEIGHBOUR: 'it returns false'. Refute it at one input. -/
def framePlaysWrong : ChangeSpec := { name := "framePlays", fn := fun _ => fun
  | [d] => { results := [.lit (.bool false)], args := [d] }
  | _ => none }
def FramePlaysWrongFalsely : Prop := framePlaysRow.holds Try.pinned (OpenSpec.ofChange framePlaysWrong)

/-- 'deadwoodlaw15.FrameOrders': WHATEVER THE INPUT: true; the input reads as it did. -/
def frameOrdersSpec : ChangeSpec := { name := "frameOrders", fn := fun _ => fun
  | [d1, d2, d3] => { results := [.lit (.bool true)], args := [d1, d2, d3] }
  | _ => none }
def frameOrdersRow : OpenClaim := { program := "ytocmdcjbjhpooaa", sum := "afd4775ef2d934ef257b9eaeaedaa2a50da9f62dc3a05febc74dc3c79dc82f44", func := "deadwood/deadwoodlaw15.FrameOrders", spec := "frameOrders", inPlace := ["slices.overlaps[deadwood/api.Pair]"], unfollowed := true, recurses := true, apart := false }
def FrameOrdersSaid : Prop := frameOrdersRow.holds Try.pinned (OpenSpec.ofChange frameOrdersSpec)

/-- ITS FALSE NEIGHBOUR: 'it returns false'. Refute it at one input. -/
def frameOrdersWrong : ChangeSpec := { name := "frameOrders", fn := fun _ => fun
  | [d1, d2, d3] => { results := [.lit (.bool false)], args := [d1, d2, d3] }
  | _ => none }
def FrameOrdersWrongFalsely : Prop := frameOrdersRow.holds Try.pinned (OpenSpec.ofChange frameOrdersWrong)

/-- 'deadwoodlaw15.FrameNone': WHATEVER THE INPUT: true; the input reads as it did. -/
def frameNoneSpec : ChangeSpec := { name := "frameNone", fn := fun _ => fun
  | [d1, d2] => { results := [.lit (.bool true)], args := [d1, d2] }
  | _ => none }
def frameNoneRow : OpenClaim := { program := "ytocmdcjbjhpooaa", sum := "afd4775ef2d934ef257b9eaeaedaa2a50da9f62dc3a05febc74dc3c79dc82f44", func := "deadwood/deadwoodlaw15.FrameNone", spec := "frameNone", inPlace := ["slices.overlaps[deadwood/api.Pair]"], unfollowed := true, recurses := true, apart := false }
def FrameNoneSaid : Prop := frameNoneRow.holds Try.pinned (OpenSpec.ofChange frameNoneSpec)

/-- ITS FALSE NEIGHBOUR: 'it returns false'. Refute it at one input. -/
def frameNoneWrong : ChangeSpec := { name := "frameNone", fn := fun _ => fun
  | [d1, d2] => { results := [.lit (.bool false)], args := [d1, d2] }
  | _ => none }
def FrameNoneWrongFalsely : Prop := frameNoneRow.holds Try.pinned (OpenSpec.ofChange frameNoneWrong)

/-- 'deadwoodlaw16.CoreSteps': WHATEVER THE INPUT: true; the input reads as it did. -/
def coreStepsSpec : ChangeSpec := { name := "coreSteps", fn := fun _ => fun
  | [d1, d2, d3] => { results := [.lit (.bool true)], args := [d1, d2, d3] }
  | _ => none }
def coreStepsRow : OpenClaim := { program := "ytocmdcjbjhpooaa", sum := "afd4775ef2d934ef257b9eaeaedaa2a50da9f62dc3a05febc74dc3c79dc82f44", func := "deadwood/deadwoodlaw16.CoreSteps", spec := "coreSteps", unfollowed := true, recurses := true, apart := false }
def CoreStepsSaid : Prop := coreStepsRow.holds Try.pinned (OpenSpec.ofChange coreStepsSpec)

/-- ITS FALSE NEIGHBOUR: 'it returns false'. Refute it at one input. -/
def coreStepsWrong : ChangeSpec := { name := "coreSteps", fn := fun _ => fun
  | [d1, d2, d3] => { results := [.lit (.bool false)], args := [d1, d2, d3] }
  | _ => none }
def CoreStepsWrongFalsely : Prop := coreStepsRow.holds Try.pinned (OpenSpec.ofChange coreStepsWrong)

/-- 'deadwoodlaw16.CoreHolds': WHATEVER THE INPUT: true; the input reads as it did. -/
def coreHoldsSpec : ChangeSpec := { name := "coreHolds", fn := fun _ => fun
  | [d1, d2, d3] => { results := [.lit (.bool true)], args := [d1, d2, d3] }
  | _ => none }
def coreHoldsRow : OpenClaim := { program := "ytocmdcjbjhpooaa", sum := "afd4775ef2d934ef257b9eaeaedaa2a50da9f62dc3a05febc74dc3c79dc82f44", func := "deadwood/deadwoodlaw16.CoreHolds", spec := "coreHolds", unfollowed := true, recurses := true, apart := false }
def CoreHoldsSaid : Prop := coreHoldsRow.holds Try.pinned (OpenSpec.ofChange coreHoldsSpec)

/-- ITS FALSE NEIGHBOUR: 'it returns false'. Refute it at one input. -/
def coreHoldsWrong : ChangeSpec := { name := "coreHolds", fn := fun _ => fun
  | [d1, d2, d3] => { results := [.lit (.bool false)], args := [d1, d2, d3] }
  | _ => none }
def CoreHoldsWrongFalsely : Prop := coreHoldsRow.holds Try.pinned (OpenSpec.ofChange coreHoldsWrong)

/-- 'deadwoodlaw16.CoreNodes': WHATEVER THE INPUT: true; the input reads as it did. -/
def coreNodesSpec : ChangeSpec := { name := "coreNodes", fn := fun _ => fun
  | [d1, d2, d3] => { results := [.lit (.bool true)], args := [d1, d2, d3] }
  | _ => none }
def coreNodesRow : OpenClaim := { program := "ytocmdcjbjhpooaa", sum := "afd4775ef2d934ef257b9eaeaedaa2a50da9f62dc3a05febc74dc3c79dc82f44", func := "deadwood/deadwoodlaw16.CoreNodes", spec := "coreNodes", inPlace := ["maps.clone"], unfollowed := true, recurses := true, apart := false }
def CoreNodesSaid : Prop := coreNodesRow.holds Try.pinned (OpenSpec.ofChange coreNodesSpec)

/-- ITS FALSE NEIGHBOUR: 'it returns false'. Refute it at one input. -/
def coreNodesWrong : ChangeSpec := { name := "coreNodes", fn := fun _ => fun
  | [d1, d2, d3] => { results := [.lit (.bool false)], args := [d1, d2, d3] }
  | _ => none }
def CoreNodesWrongFalsely : Prop := coreNodesRow.holds Try.pinned (OpenSpec.ofChange coreNodesWrong)

/-- 'deadwoodlaw16.CoreLays': WHATEVER THE INPUT: true; the input reads as it did. -/
def coreLaysSpec : ChangeSpec := { name := "coreLays", fn := fun _ => fun
  | [d1, d2] => { results := [.lit (.bool true)], args := [d1, d2] }
  | _ => none }
def coreLaysRow : OpenClaim := { program := "ytocmdcjbjhpooaa", sum := "afd4775ef2d934ef257b9eaeaedaa2a50da9f62dc3a05febc74dc3c79dc82f44", func := "deadwood/deadwoodlaw16.CoreLays", spec := "coreLays", inPlace := ["maps.clone"], unfollowed := true, recurses := true, apart := false }
def CoreLaysSaid : Prop := coreLaysRow.holds Try.pinned (OpenSpec.ofChange coreLaysSpec)

/-- ITS FALSE NEIGHBOUR: 'it returns false'. Refute it at one input. -/
def coreLaysWrong : ChangeSpec := { name := "coreLays", fn := fun _ => fun
  | [d1, d2] => { results := [.lit (.bool false)], args := [d1, d2] }
  | _ => none }
def CoreLaysWrongFalsely : Prop := coreLaysRow.holds Try.pinned (OpenSpec.ofChange coreLaysWrong)

/- THE SECOND FORM. 'bulk': how many values and letters a reading holds, each counted each time it is reached (what is shared counts as often as it is met; a slice's spare places count too). A statement '..UptoSaid' is the law's where the arguments, and the package variables that the reading takes, are together of bulk at most 1048576: NARROWER than '..Said'. Prove '..Said' where nothing that the law and all that it calls make is longer than what came in: it says more and counts as full. Else prove '..UptoSaid'. A law counts once. -/
mutual
def uptoBulk {H : Type} : DataW H → Nat
  | .lit (.string bytes) => bytes.length + 1
  | .lit _ => 1
  | .nil => 1
  | .ptr d => uptoBulk d + 1
  | .slice elems spare => uptoBulkAll elems + uptoBulkAll spare + 1
  | .agg parts => uptoBulkAll parts + 1
  | .iface _ d => uptoBulk d + 1
  | .map entries => uptoBulkEntries entries + 1
  | .held _ => 1
def uptoBulkAll {H : Type} : List (DataW H) → Nat
  | [] => 0
  | d :: r => uptoBulk d + uptoBulkAll r
def uptoBulkEntries {H : Type} : List (Lit × DataW H) → Nat
  | [] => 0
  | x :: r => uptoBulkEntry x + uptoBulkEntries r
def uptoBulkEntry {H : Type} : Lit × DataW H → Nat
  | (.string bytes, d) => bytes.length + uptoBulk d + 1
  | (_, d) => uptoBulk d + 1
 end
def uptoSmall : (H : Type) → List (DataW H) → Bool := fun _ ds => decide (uptoBulkAll ds ≤ 1048576)
def OpenSpec.upto (s : _root_.Go.ChangeSpec) : _root_.Go.OpenSpec := { _root_.Go.OpenSpec.ofChange s with cond := some uptoSmall }

/-- 'deadwoodlaw15.FramePlays', WHERE WHAT IT READS IS OF BULK AT MOST 1048576: true; the input reads as it did. -/
def framePlaysUptoRow : OpenClaim := { program := "ytocmdcjbjhpooaa", sum := "afd4775ef2d934ef257b9eaeaedaa2a50da9f62dc3a05febc74dc3c79dc82f44", func := "deadwood/deadwoodlaw15.FramePlays", spec := "framePlays", inPlace := ["slices.overlaps[deadwood/api.Pair]"], unfollowed := true, recurses := true, apart := false, narrowed := true }
def FramePlaysUptoSaid : Prop := framePlaysUptoRow.holds Try.pinned (OpenSpec.upto framePlaysSpec)

/-- 'deadwoodlaw15.FrameOrders', WHERE WHAT IT READS IS OF BULK AT MOST 1048576: true; the input reads as it did. -/
def frameOrdersUptoRow : OpenClaim := { program := "ytocmdcjbjhpooaa", sum := "afd4775ef2d934ef257b9eaeaedaa2a50da9f62dc3a05febc74dc3c79dc82f44", func := "deadwood/deadwoodlaw15.FrameOrders", spec := "frameOrders", inPlace := ["slices.overlaps[deadwood/api.Pair]"], unfollowed := true, recurses := true, apart := false, narrowed := true }
def FrameOrdersUptoSaid : Prop := frameOrdersUptoRow.holds Try.pinned (OpenSpec.upto frameOrdersSpec)

/-- 'deadwoodlaw15.FrameNone', WHERE WHAT IT READS IS OF BULK AT MOST 1048576: true; the input reads as it did. -/
def frameNoneUptoRow : OpenClaim := { program := "ytocmdcjbjhpooaa", sum := "afd4775ef2d934ef257b9eaeaedaa2a50da9f62dc3a05febc74dc3c79dc82f44", func := "deadwood/deadwoodlaw15.FrameNone", spec := "frameNone", inPlace := ["slices.overlaps[deadwood/api.Pair]"], unfollowed := true, recurses := true, apart := false, narrowed := true }
def FrameNoneUptoSaid : Prop := frameNoneUptoRow.holds Try.pinned (OpenSpec.upto frameNoneSpec)

/-- 'deadwoodlaw16.CoreSteps', WHERE WHAT IT READS IS OF BULK AT MOST 1048576: true; the input reads as it did. -/
def coreStepsUptoRow : OpenClaim := { program := "ytocmdcjbjhpooaa", sum := "afd4775ef2d934ef257b9eaeaedaa2a50da9f62dc3a05febc74dc3c79dc82f44", func := "deadwood/deadwoodlaw16.CoreSteps", spec := "coreSteps", unfollowed := true, recurses := true, apart := false, narrowed := true }
def CoreStepsUptoSaid : Prop := coreStepsUptoRow.holds Try.pinned (OpenSpec.upto coreStepsSpec)

/-- 'deadwoodlaw16.CoreHolds', WHERE WHAT IT READS IS OF BULK AT MOST 1048576: true; the input reads as it did. -/
def coreHoldsUptoRow : OpenClaim := { program := "ytocmdcjbjhpooaa", sum := "afd4775ef2d934ef257b9eaeaedaa2a50da9f62dc3a05febc74dc3c79dc82f44", func := "deadwood/deadwoodlaw16.CoreHolds", spec := "coreHolds", unfollowed := true, recurses := true, apart := false, narrowed := true }
def CoreHoldsUptoSaid : Prop := coreHoldsUptoRow.holds Try.pinned (OpenSpec.upto coreHoldsSpec)

/-- 'deadwoodlaw16.CoreNodes', WHERE WHAT IT READS IS OF BULK AT MOST 1048576: true; the input reads as it did. -/
def coreNodesUptoRow : OpenClaim := { program := "ytocmdcjbjhpooaa", sum := "afd4775ef2d934ef257b9eaeaedaa2a50da9f62dc3a05febc74dc3c79dc82f44", func := "deadwood/deadwoodlaw16.CoreNodes", spec := "coreNodes", inPlace := ["maps.clone"], unfollowed := true, recurses := true, apart := false, narrowed := true }
def CoreNodesUptoSaid : Prop := coreNodesUptoRow.holds Try.pinned (OpenSpec.upto coreNodesSpec)

/-- 'deadwoodlaw16.CoreLays', WHERE WHAT IT READS IS OF BULK AT MOST 1048576: true; the input reads as it did. -/
def coreLaysUptoRow : OpenClaim := { program := "ytocmdcjbjhpooaa", sum := "afd4775ef2d934ef257b9eaeaedaa2a50da9f62dc3a05febc74dc3c79dc82f44", func := "deadwood/deadwoodlaw16.CoreLays", spec := "coreLays", inPlace := ["maps.clone"], unfollowed := true, recurses := true, apart := false, narrowed := true }
def CoreLaysUptoSaid : Prop := coreLaysUptoRow.holds Try.pinned (OpenSpec.upto coreLaysSpec)

end Rows
end Go.Proofs.Ytocmdcjbjhpooaa
