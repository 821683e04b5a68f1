/-
  No cell of these rows narrows 'for every input' (looked for: loops, veiled, ifaces, maps, wideKeys, modest, calm, conditions, laid).
  DERIVED. THE GIVEN ROWS OF THIS SEAT. 10 by the template 'for every input the law returns true; each argument reads behind the call as it read before'; 0 by the template 'total and deterministic' (their statements: YtacajonkkfmibaaTotals.lean).
  GIVEN WITH THE SEED: the statements are not yours to turn. If you find one false, say at which input.
  Laid BY PROGRAM, IN A SANDBOX (cutbox-rows.mjs): the forced cells as the released guide's own fill.sh prints them over the translation d320c697f682c6ee… (all of the seat's roots in one cut). By AI agents, Wed Nov 11 2026. No macro, syntax, notation, axiom, sorry.
-/
import Derived.Test.YtacajonkkfmibaaChecked
import GoSem.Claim
import GoSem.ClaimJoined
import GoSem.ClaimMapViews
import Derived.JoinedTies
import Derived.KernelRfl
namespace Go.Proofs.Ytacajonkkfmibaa
/- THE CELL 'sum', in the pinned program and in every row, IS THE sha256 OF THE DUMP (.gsa) THAT YtacajonkkfmibaaProg.lean LOADS. Nothing in Lean hashes anything: it is a label: what it is worth is what the hold of that sum in a sandbox is worth. -/
noncomputable def Try.pinned : Pinned := { name := "ytacajonkkfmibaa", sum := "d320c697f682c6ee0328e838a855becdb824f812f67afac7f81c19f48eb180da", checked := Try.checked }
namespace Rows
def none {H : Type} : Left H := { results := [], args := [] }

/-- 'deadwoodlaw11.HistOrders': WHATEVER THE INPUT: true; the input reads as it did. -/
def histOrdersSpec : ChangeSpec := { name := "histOrders", fn := fun _ => fun
  | [d] => { results := [.lit (.bool true)], args := [d] }
  | _ => none }
def histOrdersRow : OpenClaim := { program := "ytacajonkkfmibaa", sum := "d320c697f682c6ee0328e838a855becdb824f812f67afac7f81c19f48eb180da", func := "deadwood/deadwoodlaw11.HistOrders", spec := "histOrders", apart := false }
def HistOrdersSaid : Prop := histOrdersRow.holds Try.pinned (OpenSpec.ofChange histOrdersSpec)

/-- ITS FALSE NEIGHBOUR: 'it returns false'. Refute it at one input. -/
def histOrdersWrong : ChangeSpec := { name := "histOrders", fn := fun _ => fun
  | [d] => { results := [.lit (.bool false)], args := [d] }
  | _ => none }
def HistOrdersWrongFalsely : Prop := histOrdersRow.holds Try.pinned (OpenSpec.ofChange histOrdersWrong)

/-- 'deadwoodlaw11.HistEach': WHATEVER THE INPUT: true; the input reads as it did. -/
def histEachSpec : ChangeSpec := { name := "histEach", fn := fun _ => fun
  | [d1, d2, d3] => { results := [.lit (.bool true)], args := [d1, d2, d3] }
  | _ => none }
def histEachRow : OpenClaim := { program := "ytacajonkkfmibaa", sum := "d320c697f682c6ee0328e838a855becdb824f812f67afac7f81c19f48eb180da", func := "deadwood/deadwoodlaw11.HistEach", spec := "histEach", unfollowed := true, recurses := true, apart := false }
def HistEachSaid : Prop := histEachRow.holds Try.pinned (OpenSpec.ofChange histEachSpec)

/-- ITS FALSE NEIGHBOUR: 'it returns false'. Refute it at one input. -/
def histEachWrong : ChangeSpec := { name := "histEach", fn := fun _ => fun
  | [d1, d2, d3] => { results := [.lit (.bool false)], args := [d1, d2, d3] }
  | _ => none }
def HistEachWrongFalsely : Prop := histEachRow.holds Try.pinned (OpenSpec.ofChange histEachWrong)

/-- 'deadwoodlaw05.PlanWords': WHATEVER THE INPUT: true; the input reads as it did. -/
def planWordsSpec : ChangeSpec := { name := "planWords", fn := fun _ => fun
  | [d1, d2, d3] => { results := [.lit (.bool true)], args := [d1, d2, d3] }
  | _ => none }
def planWordsRow : OpenClaim := { program := "ytacajonkkfmibaa", sum := "d320c697f682c6ee0328e838a855becdb824f812f67afac7f81c19f48eb180da", func := "deadwood/deadwoodlaw05.PlanWords", spec := "planWords", apart := false }
def PlanWordsSaid : Prop := planWordsRow.holds Try.pinned (OpenSpec.ofChange planWordsSpec)

/-- ITS FALSE NEIGHBOUR: 'it returns false'. Refute it at one input. -/
def planWordsWrong : ChangeSpec := { name := "planWords", fn := fun _ => fun
  | [d1, d2, d3] => { results := [.lit (.bool false)], args := [d1, d2, d3] }
  | _ => none }
def PlanWordsWrongFalsely : Prop := planWordsRow.holds Try.pinned (OpenSpec.ofChange planWordsWrong)

/-- 'deadwoodlaw11.HistOpers': WHATEVER THE INPUT: true; the input reads as it did. -/
def histOpersSpec : ChangeSpec := { name := "histOpers", fn := fun _ => fun
  | [d] => { results := [.lit (.bool true)], args := [d] }
  | _ => none }
def histOpersRow : OpenClaim := { program := "ytacajonkkfmibaa", sum := "d320c697f682c6ee0328e838a855becdb824f812f67afac7f81c19f48eb180da", func := "deadwood/deadwoodlaw11.HistOpers", spec := "histOpers", unfollowed := true, recurses := true, apart := false }
def HistOpersSaid : Prop := histOpersRow.holds Try.pinned (OpenSpec.ofChange histOpersSpec)

/-- ITS FALSE NEIGHBOUR: 'it returns false'. Refute it at one input. -/
def histOpersWrong : ChangeSpec := { name := "histOpers", fn := fun _ => fun
  | [d] => { results := [.lit (.bool false)], args := [d] }
  | _ => none }
def HistOpersWrongFalsely : Prop := histOpersRow.holds Try.pinned (OpenSpec.ofChange histOpersWrong)

/-- 'deadwoodlaw05.PlanApart': WHATEVER THE INPUT: true; the input reads as it did. -/
def planApartSpec : ChangeSpec := { name := "planApart", fn := fun _ => fun
  | [d1, d2, d3] => { results := [.lit (.bool true)], args := [d1, d2, d3] }
  | _ => none }
def planApartRow : OpenClaim := { program := "ytacajonkkfmibaa", sum := "d320c697f682c6ee0328e838a855becdb824f812f67afac7f81c19f48eb180da", func := "deadwood/deadwoodlaw05.PlanApart", spec := "planApart", apart := false }
def PlanApartSaid : Prop := planApartRow.holds Try.pinned (OpenSpec.ofChange planApartSpec)

/-- ITS FALSE NEIGHBOUR: 'it returns false'. Refute it at one input. -/
def planApartWrong : ChangeSpec := { name := "planApart", fn := fun _ => fun
  | [d1, d2, d3] => { results := [.lit (.bool false)], args := [d1, d2, d3] }
  | _ => none }
def PlanApartWrongFalsely : Prop := planApartRow.holds Try.pinned (OpenSpec.ofChange planApartWrong)

/-- 'deadwoodlaw05.PlanWhats': WHATEVER THE INPUT: true; the input reads as it did. -/
def planWhatsSpec : ChangeSpec := { name := "planWhats", fn := fun _ => fun
  | [d1, d2] => { results := [.lit (.bool true)], args := [d1, d2] }
  | _ => none }
def planWhatsRow : OpenClaim := { program := "ytacajonkkfmibaa", sum := "d320c697f682c6ee0328e838a855becdb824f812f67afac7f81c19f48eb180da", func := "deadwood/deadwoodlaw05.PlanWhats", spec := "planWhats", apart := false }
def PlanWhatsSaid : Prop := planWhatsRow.holds Try.pinned (OpenSpec.ofChange planWhatsSpec)

/-- ITS FALSE NEIGHBOUR: 'it returns false'. Refute it at one input. -/
def planWhatsWrong : ChangeSpec := { name := "planWhats", fn := fun _ => fun
  | [d1, d2] => { results := [.lit (.bool false)], args := [d1, d2] }
  | _ => none }
def PlanWhatsWrongFalsely : Prop := planWhatsRow.holds Try.pinned (OpenSpec.ofChange planWhatsWrong)

/-- 'deadwoodlaw02.OrderKeys': WHATEVER THE INPUT: true; the input reads as it did. -/
def orderKeysSpec : ChangeSpec := { name := "orderKeys", fn := fun _ => fun
  | [d1, d2, d3] => { results := [.lit (.bool true)], args := [d1, d2, d3] }
  | _ => none }
def orderKeysRow : OpenClaim := { program := "ytacajonkkfmibaa", sum := "d320c697f682c6ee0328e838a855becdb824f812f67afac7f81c19f48eb180da", func := "deadwood/deadwoodlaw02.OrderKeys", spec := "orderKeys", apart := false }
def OrderKeysSaid : Prop := orderKeysRow.holds Try.pinned (OpenSpec.ofChange orderKeysSpec)

/-- ITS FALSE NEIGHBOUR: 'it returns false'. Refute it at one input. -/
def orderKeysWrong : ChangeSpec := { name := "orderKeys", fn := fun _ => fun
  | [d1, d2, d3] => { results := [.lit (.bool false)], args := [d1, d2, d3] }
  | _ => none }
def OrderKeysWrongFalsely : Prop := orderKeysRow.holds Try.pinned (OpenSpec.ofChange orderKeysWrong)

/-- 'deadwoodlaw02.OrderInfos': WHATEVER THE INPUT: true; the input reads as it did. -/
def orderInfosSpec : ChangeSpec := { name := "orderInfos", fn := fun _ => fun
  | [d1, d2, d3] => { results := [.lit (.bool true)], args := [d1, d2, d3] }
  | _ => none }
def orderInfosRow : OpenClaim := { program := "ytacajonkkfmibaa", sum := "d320c697f682c6ee0328e838a855becdb824f812f67afac7f81c19f48eb180da", func := "deadwood/deadwoodlaw02.OrderInfos", spec := "orderInfos", apart := false }
def OrderInfosSaid : Prop := orderInfosRow.holds Try.pinned (OpenSpec.ofChange orderInfosSpec)

/-- ITS FALSE NEIGHBOUR: 'it returns false'. Refute it at one input. -/
def orderInfosWrong : ChangeSpec := { name := "orderInfos", fn := fun _ => fun
  | [d1, d2, d3] => { results := [.lit (.bool false)], args := [d1, d2, d3] }
  | _ => none }
def OrderInfosWrongFalsely : Prop := orderInfosRow.holds Try.pinned (OpenSpec.ofChange orderInfosWrong)

/-- 'deadwoodlaw02.OrderCmps': WHATEVER THE INPUT: true; the input reads as it did. -/
def orderCmpsSpec : ChangeSpec := { name := "orderCmps", fn := fun _ => fun
  | [d1, d2] => { results := [.lit (.bool true)], args := [d1, d2] }
  | _ => none }
def orderCmpsRow : OpenClaim := { program := "ytacajonkkfmibaa", sum := "d320c697f682c6ee0328e838a855becdb824f812f67afac7f81c19f48eb180da", func := "deadwood/deadwoodlaw02.OrderCmps", spec := "orderCmps", apart := false }
def OrderCmpsSaid : Prop := orderCmpsRow.holds Try.pinned (OpenSpec.ofChange orderCmpsSpec)

/-- ITS FALSE NEIGHBOUR: 'it returns false'. Refute it at one input. -/
def orderCmpsWrong : ChangeSpec := { name := "orderCmps", fn := fun _ => fun
  | [d1, d2] => { results := [.lit (.bool false)], args := [d1, d2] }
  | _ => none }
def OrderCmpsWrongFalsely : Prop := orderCmpsRow.holds Try.pinned (OpenSpec.ofChange orderCmpsWrong)

/-- 'deadwoodlaw02.OrderTotal': WHATEVER THE INPUT: true; the input reads as it did. -/
def orderTotalSpec : ChangeSpec := { name := "orderTotal", fn := fun _ => fun
  | [d1, d2, d3] => { results := [.lit (.bool true)], args := [d1, d2, d3] }
  | _ => none }
def orderTotalRow : OpenClaim := { program := "ytacajonkkfmibaa", sum := "d320c697f682c6ee0328e838a855becdb824f812f67afac7f81c19f48eb180da", func := "deadwood/deadwoodlaw02.OrderTotal", spec := "orderTotal", apart := false }
def OrderTotalSaid : Prop := orderTotalRow.holds Try.pinned (OpenSpec.ofChange orderTotalSpec)

/-- ITS FALSE NEIGHBOUR: 'it returns false'. Refute it at one input. -/
def orderTotalWrong : ChangeSpec := { name := "orderTotal", fn := fun _ => fun
  | [d1, d2, d3] => { results := [.lit (.bool false)], args := [d1, d2, d3] }
  | _ => none }
def OrderTotalWrongFalsely : Prop := orderTotalRow.holds Try.pinned (OpenSpec.ofChange orderTotalWrong)

/- THE SECOND FORM. 'bulk': how many values and letters a reading holds, each counted each time it is reached (what is shared counts as often as it is met; a slice's spare places count too). A statement '..UptoSaid' is the law's where the arguments, and the package variables that the reading takes, are together of bulk at most 1048576: NARROWER than '..Said'. Prove '..Said' where nothing that the law and all that it calls make is longer than what came in: it says more and counts as full. Else prove '..UptoSaid'. A law counts once. -/
mutual
def uptoBulk {H : Type} : DataW H → Nat
  | .lit (.string bytes) => bytes.length + 1
  | .lit _ => 1
  | .nil => 1
  | .ptr d => uptoBulk d + 1
  | .slice elems spare => uptoBulkAll elems + uptoBulkAll spare + 1
  | .agg parts => uptoBulkAll parts + 1
  | .iface _ d => uptoBulk d + 1
  | .map entries => uptoBulkEntries entries + 1
  | .held _ => 1
def uptoBulkAll {H : Type} : List (DataW H) → Nat
  | [] => 0
  | d :: r => uptoBulk d + uptoBulkAll r
def uptoBulkEntries {H : Type} : List (Lit × DataW H) → Nat
  | [] => 0
  | x :: r => uptoBulkEntry x + uptoBulkEntries r
def uptoBulkEntry {H : Type} : Lit × DataW H → Nat
  | (.string bytes, d) => bytes.length + uptoBulk d + 1
  | (_, d) => uptoBulk d + 1
 end
def uptoSmall : (H : Type) → List (DataW H) → Bool := fun _ ds => decide (uptoBulkAll ds ≤ 1048576)
def OpenSpec.upto (s : _root_.Go.ChangeSpec) : _root_.Go.OpenSpec := { _root_.Go.OpenSpec.ofChange s with cond := some uptoSmall }

/-- 'deadwoodlaw11.HistOrders', WHERE WHAT IT READS IS OF BULK AT MOST 1048576: true; the input reads as it did. -/
def histOrdersUptoRow : OpenClaim := { program := "ytacajonkkfmibaa", sum := "d320c697f682c6ee0328e838a855becdb824f812f67afac7f81c19f48eb180da", func := "deadwood/deadwoodlaw11.HistOrders", spec := "histOrders", apart := false, narrowed := true }
def HistOrdersUptoSaid : Prop := histOrdersUptoRow.holds Try.pinned (OpenSpec.upto histOrdersSpec)

/-- 'deadwoodlaw11.HistEach', WHERE WHAT IT READS IS OF BULK AT MOST 1048576: true; the input reads as it did. -/
def histEachUptoRow : OpenClaim := { program := "ytacajonkkfmibaa", sum := "d320c697f682c6ee0328e838a855becdb824f812f67afac7f81c19f48eb180da", func := "deadwood/deadwoodlaw11.HistEach", spec := "histEach", unfollowed := true, recurses := true, apart := false, narrowed := true }
def HistEachUptoSaid : Prop := histEachUptoRow.holds Try.pinned (OpenSpec.upto histEachSpec)

/-- 'deadwoodlaw05.PlanWords', WHERE WHAT IT READS IS OF BULK AT MOST 1048576: true; the input reads as it did. -/
def planWordsUptoRow : OpenClaim := { program := "ytacajonkkfmibaa", sum := "d320c697f682c6ee0328e838a855becdb824f812f67afac7f81c19f48eb180da", func := "deadwood/deadwoodlaw05.PlanWords", spec := "planWords", apart := false, narrowed := true }
def PlanWordsUptoSaid : Prop := planWordsUptoRow.holds Try.pinned (OpenSpec.upto planWordsSpec)

/-- 'deadwoodlaw11.HistOpers', WHERE WHAT IT READS IS OF BULK AT MOST 1048576: true; the input reads as it did. -/
def histOpersUptoRow : OpenClaim := { program := "ytacajonkkfmibaa", sum := "d320c697f682c6ee0328e838a855becdb824f812f67afac7f81c19f48eb180da", func := "deadwood/deadwoodlaw11.HistOpers", spec := "histOpers", unfollowed := true, recurses := true, apart := false, narrowed := true }
def HistOpersUptoSaid : Prop := histOpersUptoRow.holds Try.pinned (OpenSpec.upto histOpersSpec)

/-- 'deadwoodlaw05.PlanApart', WHERE WHAT IT READS IS OF BULK AT MOST 1048576: true; the input reads as it did. -/
def planApartUptoRow : OpenClaim := { program := "ytacajonkkfmibaa", sum := "d320c697f682c6ee0328e838a855becdb824f812f67afac7f81c19f48eb180da", func := "deadwood/deadwoodlaw05.PlanApart", spec := "planApart", apart := false, narrowed := true }
def PlanApartUptoSaid : Prop := planApartUptoRow.holds Try.pinned (OpenSpec.upto planApartSpec)

/-- 'deadwoodlaw05.PlanWhats', WHERE WHAT IT READS IS OF BULK AT MOST 1048576: true; the input reads as it did. -/
def planWhatsUptoRow : OpenClaim := { program := "ytacajonkkfmibaa", sum := "d320c697f682c6ee0328e838a855becdb824f812f67afac7f81c19f48eb180da", func := "deadwood/deadwoodlaw05.PlanWhats", spec := "planWhats", apart := false, narrowed := true }
def PlanWhatsUptoSaid : Prop := planWhatsUptoRow.holds Try.pinned (OpenSpec.upto planWhatsSpec)

/-- 'deadwoodlaw02.OrderKeys', WHERE WHAT IT READS IS OF BULK AT MOST 1048576: true; the input reads as it did. -/
def orderKeysUptoRow : OpenClaim := { program := "ytacajonkkfmibaa", sum := "d320c697f682c6ee0328e838a855becdb824f812f67afac7f81c19f48eb180da", func := "deadwood/deadwoodlaw02.OrderKeys", spec := "orderKeys", apart := false, narrowed := true }
def OrderKeysUptoSaid : Prop := orderKeysUptoRow.holds Try.pinned (OpenSpec.upto orderKeysSpec)

/-- 'deadwoodlaw02.OrderInfos', WHERE WHAT IT READS IS OF BULK AT MOST 1048576: true; the input reads as it did. -/
def orderInfosUptoRow : OpenClaim := { program := "ytacajonkkfmibaa", sum := "d320c697f682c6ee0328e838a855becdb824f812f67afac7f81c19f48eb180da", func := "deadwood/deadwoodlaw02.OrderInfos", spec := "orderInfos", apart := false, narrowed := true }
def OrderInfosUptoSaid : Prop := orderInfosUptoRow.holds Try.pinned (OpenSpec.upto orderInfosSpec)

/-- 'deadwoodlaw02.OrderCmps', WHERE WHAT IT READS IS OF BULK AT MOST 1048576: true; the input reads as it did. -/
def orderCmpsUptoRow : OpenClaim := { program := "ytacajonkkfmibaa", sum := "d320c697f682c6ee0328e838a855becdb824f812f67afac7f81c19f48eb180da", func := "deadwood/deadwoodlaw02.OrderCmps", spec := "orderCmps", apart := false, narrowed := true }
def OrderCmpsUptoSaid : Prop := orderCmpsUptoRow.holds Try.pinned (OpenSpec.upto orderCmpsSpec)

/-- 'deadwoodlaw02.OrderTotal', WHERE WHAT IT READS IS OF BULK AT MOST 1048576: true; the input reads as it did. -/
def orderTotalUptoRow : OpenClaim := { program := "ytacajonkkfmibaa", sum := "d320c697f682c6ee0328e838a855becdb824f812f67afac7f81c19f48eb180da", func := "deadwood/deadwoodlaw02.OrderTotal", spec := "orderTotal", apart := false, narrowed := true }
def OrderTotalUptoSaid : Prop := orderTotalUptoRow.holds Try.pinned (OpenSpec.upto orderTotalSpec)

end Rows
end Go.Proofs.Ytacajonkkfmibaa
