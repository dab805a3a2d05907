/-
  No cell of these rows narrows 'for every input' (looked for: loops, veiled, ifaces, maps, wideKeys, modest, calm, conditions, laid).
  DERIVED. THE GIVEN ROWS OF THIS SEAT. 9 by the template 'for every input the law returns true; each argument reads behind the call as it read before'; 0 by the template 'total and deterministic' (their statements: YtgoofaeifbfblaaGreatTotals.lean).
  GIVEN WITH THE SEED: the statements are not yours to turn. If you find one false, say at which input.
  Laid BY PROGRAM, IN A SANDBOX (cutbox-rows.mjs): the forced cells as the released guide's own fill.sh prints them over the translation 9df545bc909241f3… (all of the seat's roots in one cut). By AI agents, Wed Nov 11 2026. No macro, syntax, notation, axiom, sorry.
-/
import Derived.Test.YtgoofaeifbfblaaGreatChecked
import GoSem.Claim
import GoSem.ClaimJoined
import GoSem.ClaimMapViews
import Derived.JoinedTies
import Derived.KernelRfl
namespace Go.Proofs.YtgoofaeifbfblaaGreat
/- THE CELL 'sum', in the pinned program and in every row, IS THE sha256 OF THE DUMP (.gsa) THAT YtgoofaeifbfblaaGreatProg.lean LOADS. Nothing in Lean hashes anything: it is a label: what it is worth is what the hold of that sum in a sandbox is worth. -/
noncomputable def Tryz.pinned : Pinned := { name := "ytgoofaeifbfblaagreat", sum := "9df545bc909241f3871e0e54632eca9e6e2e7f54b062a2b6255f34ff885f6670", checked := Tryz.checked }
namespace Rows
def none {H : Type} : Left H := { results := [], args := [] }

/-- 'marginalialaw13.FlowNodes': WHATEVER THE INPUT: true; the input reads as it did. -/
def flowNodesSpec : ChangeSpec := { name := "flowNodes", fn := fun _ => fun
  | [d1, d2, d3, d4, d5] => { results := [.lit (.bool true)], args := [d1, d2, d3, d4, d5] }
  | _ => none }
def flowNodesRow : OpenClaim := { program := "ytgoofaeifbfblaagreat", sum := "9df545bc909241f3871e0e54632eca9e6e2e7f54b062a2b6255f34ff885f6670", func := "marginalia/marginalialaw13.FlowNodes", spec := "flowNodes", unfollowed := true, recurses := true, apart := false }
def FlowNodesSaid : Prop := flowNodesRow.holds Tryz.pinned (OpenSpec.ofChange flowNodesSpec)

/-- ITS FALSE NEIGHBOUR: 'it returns false'. Refute it at one input. -/
def flowNodesWrong : ChangeSpec := { name := "flowNodes", fn := fun _ => fun
  | [d1, d2, d3, d4, d5] => { results := [.lit (.bool false)], args := [d1, d2, d3, d4, d5] }
  | _ => none }
def FlowNodesWrongFalsely : Prop := flowNodesRow.holds Tryz.pinned (OpenSpec.ofChange flowNodesWrong)

/-- 'marginalialaw13.FlowTexts': WHATEVER THE INPUT: true; the input reads as it did. -/
def flowTextsSpec : ChangeSpec := { name := "flowTexts", fn := fun _ => fun
  | [d] => { results := [.lit (.bool true)], args := [d] }
  | _ => none }
def flowTextsRow : OpenClaim := { program := "ytgoofaeifbfblaagreat", sum := "9df545bc909241f3871e0e54632eca9e6e2e7f54b062a2b6255f34ff885f6670", func := "marginalia/marginalialaw13.FlowTexts", spec := "flowTexts", unfollowed := true, recurses := true, apart := false }
def FlowTextsSaid : Prop := flowTextsRow.holds Tryz.pinned (OpenSpec.ofChange flowTextsSpec)

/-- ITS FALSE NEIGHBOUR: 'it returns false'. Refute it at one input. -/
def flowTextsWrong : ChangeSpec := { name := "flowTexts", fn := fun _ => fun
  | [d] => { results := [.lit (.bool false)], args := [d] }
  | _ => none }
def FlowTextsWrongFalsely : Prop := flowTextsRow.holds Tryz.pinned (OpenSpec.ofChange flowTextsWrong)

/-- 'marginalialaw13.FlowLists': WHATEVER THE INPUT: true; the input reads as it did. -/
def flowListsSpec : ChangeSpec := { name := "flowLists", fn := fun _ => fun
  | [d1, d2, d3, d4] => { results := [.lit (.bool true)], args := [d1, d2, d3, d4] }
  | _ => none }
def flowListsRow : OpenClaim := { program := "ytgoofaeifbfblaagreat", sum := "9df545bc909241f3871e0e54632eca9e6e2e7f54b062a2b6255f34ff885f6670", func := "marginalia/marginalialaw13.FlowLists", spec := "flowLists", unfollowed := true, recurses := true, apart := false }
def FlowListsSaid : Prop := flowListsRow.holds Tryz.pinned (OpenSpec.ofChange flowListsSpec)

/-- ITS FALSE NEIGHBOUR: 'it returns false'. Refute it at one input. -/
def flowListsWrong : ChangeSpec := { name := "flowLists", fn := fun _ => fun
  | [d1, d2, d3, d4] => { results := [.lit (.bool false)], args := [d1, d2, d3, d4] }
  | _ => none }
def FlowListsWrongFalsely : Prop := flowListsRow.holds Tryz.pinned (OpenSpec.ofChange flowListsWrong)

/-- 'marginalialaw13.FlowDeep': WHATEVER THE INPUT: true; the input reads as it did. -/
def flowDeepSpec : ChangeSpec := { name := "flowDeep", fn := fun _ => fun
  | [d1, d2, d3] => { results := [.lit (.bool true)], args := [d1, d2, d3] }
  | _ => none }
def flowDeepRow : OpenClaim := { program := "ytgoofaeifbfblaagreat", sum := "9df545bc909241f3871e0e54632eca9e6e2e7f54b062a2b6255f34ff885f6670", func := "marginalia/marginalialaw13.FlowDeep", spec := "flowDeep", unfollowed := true, recurses := true, apart := false }
def FlowDeepSaid : Prop := flowDeepRow.holds Tryz.pinned (OpenSpec.ofChange flowDeepSpec)

/-- ITS FALSE NEIGHBOUR: 'it returns false'. Refute it at one input. -/
def flowDeepWrong : ChangeSpec := { name := "flowDeep", fn := fun _ => fun
  | [d1, d2, d3] => { results := [.lit (.bool false)], args := [d1, d2, d3] }
  | _ => none }
def FlowDeepWrongFalsely : Prop := flowDeepRow.holds Tryz.pinned (OpenSpec.ofChange flowDeepWrong)

/-- 'marginalialaw13.FlowWrong': WHATEVER THE INPUT: true; the input reads as it did. -/
def flowWrongSpec : ChangeSpec := { name := "flowWrong", fn := fun _ => fun
  | [d] => { results := [.lit (.bool true)], args := [d] }
  | _ => none }
def flowWrongRow : OpenClaim := { program := "ytgoofaeifbfblaagreat", sum := "9df545bc909241f3871e0e54632eca9e6e2e7f54b062a2b6255f34ff885f6670", func := "marginalia/marginalialaw13.FlowWrong", spec := "flowWrong", unfollowed := true, recurses := true, apart := false }
def FlowWrongSaid : Prop := flowWrongRow.holds Tryz.pinned (OpenSpec.ofChange flowWrongSpec)

/-- ITS FALSE NEIGHBOUR: 'it returns false'. Refute it at one input. -/
def flowWrongWrong : ChangeSpec := { name := "flowWrong", fn := fun _ => fun
  | [d] => { results := [.lit (.bool false)], args := [d] }
  | _ => none }
def FlowWrongWrongFalsely : Prop := flowWrongRow.holds Tryz.pinned (OpenSpec.ofChange flowWrongWrong)

/-- 'marginalialaw13.FlowPairs': WHATEVER THE INPUT: true; the input reads as it did. -/
def flowPairsSpec : ChangeSpec := { name := "flowPairs", fn := fun _ => fun
  | [d] => { results := [.lit (.bool true)], args := [d] }
  | _ => none }
def flowPairsRow : OpenClaim := { program := "ytgoofaeifbfblaagreat", sum := "9df545bc909241f3871e0e54632eca9e6e2e7f54b062a2b6255f34ff885f6670", func := "marginalia/marginalialaw13.FlowPairs", spec := "flowPairs", unfollowed := true, recurses := true, apart := false }
def FlowPairsSaid : Prop := flowPairsRow.holds Tryz.pinned (OpenSpec.ofChange flowPairsSpec)

/-- ITS FALSE NEIGHBOUR: 'it returns false'. Refute it at one input. -/
def flowPairsWrong : ChangeSpec := { name := "flowPairs", fn := fun _ => fun
  | [d] => { results := [.lit (.bool false)], args := [d] }
  | _ => none }
def FlowPairsWrongFalsely : Prop := flowPairsRow.holds Tryz.pinned (OpenSpec.ofChange flowPairsWrong)

/-- 'marginalialaw13.FlowProps': WHATEVER THE INPUT: true; the input reads as it did. -/
def flowPropsSpec : ChangeSpec := { name := "flowProps", fn := fun _ => fun
  | [d1, d2, d3, d4] => { results := [.lit (.bool true)], args := [d1, d2, d3, d4] }
  | _ => none }
def flowPropsRow : OpenClaim := { program := "ytgoofaeifbfblaagreat", sum := "9df545bc909241f3871e0e54632eca9e6e2e7f54b062a2b6255f34ff885f6670", func := "marginalia/marginalialaw13.FlowProps", spec := "flowProps", unfollowed := true, recurses := true, apart := false }
def FlowPropsSaid : Prop := flowPropsRow.holds Tryz.pinned (OpenSpec.ofChange flowPropsSpec)

/-- ITS FALSE NEIGHBOUR: 'it returns false'. Refute it at one input. -/
def flowPropsWrong : ChangeSpec := { name := "flowProps", fn := fun _ => fun
  | [d1, d2, d3, d4] => { results := [.lit (.bool false)], args := [d1, d2, d3, d4] }
  | _ => none }
def FlowPropsWrongFalsely : Prop := flowPropsRow.holds Tryz.pinned (OpenSpec.ofChange flowPropsWrong)

/-- 'marginalialaw13.FlowLong': WHATEVER THE INPUT: true; the input reads as it did. -/
def flowLongSpec : ChangeSpec := { name := "flowLong", fn := fun _ => fun
  | [d] => { results := [.lit (.bool true)], args := [d] }
  | _ => none }
def flowLongRow : OpenClaim := { program := "ytgoofaeifbfblaagreat", sum := "9df545bc909241f3871e0e54632eca9e6e2e7f54b062a2b6255f34ff885f6670", func := "marginalia/marginalialaw13.FlowLong", spec := "flowLong", unfollowed := true, recurses := true, apart := false }
def FlowLongSaid : Prop := flowLongRow.holds Tryz.pinned (OpenSpec.ofChange flowLongSpec)

/-- ITS FALSE NEIGHBOUR: 'it returns false'. Refute it at one input. -/
def flowLongWrong : ChangeSpec := { name := "flowLong", fn := fun _ => fun
  | [d] => { results := [.lit (.bool false)], args := [d] }
  | _ => none }
def FlowLongWrongFalsely : Prop := flowLongRow.holds Tryz.pinned (OpenSpec.ofChange flowLongWrong)

/-- 'marginalialaw13.FlowKeys': WHATEVER THE INPUT: true; the input reads as it did. -/
def flowKeysSpec : ChangeSpec := { name := "flowKeys", fn := fun _ => fun
  | [d1, d2, d3] => { results := [.lit (.bool true)], args := [d1, d2, d3] }
  | _ => none }
def flowKeysRow : OpenClaim := { program := "ytgoofaeifbfblaagreat", sum := "9df545bc909241f3871e0e54632eca9e6e2e7f54b062a2b6255f34ff885f6670", func := "marginalia/marginalialaw13.FlowKeys", spec := "flowKeys", unfollowed := true, recurses := true, apart := false }
def FlowKeysSaid : Prop := flowKeysRow.holds Tryz.pinned (OpenSpec.ofChange flowKeysSpec)

/-- ITS FALSE NEIGHBOUR: 'it returns false'. Refute it at one input. -/
def flowKeysWrong : ChangeSpec := { name := "flowKeys", fn := fun _ => fun
  | [d1, d2, d3] => { results := [.lit (.bool false)], args := [d1, d2, d3] }
  | _ => none }
def FlowKeysWrongFalsely : Prop := flowKeysRow.holds Tryz.pinned (OpenSpec.ofChange flowKeysWrong)

/- THE SECOND FORM. 'bulk': how many values and letters a reading holds, each counted each time it is reached (what is shared counts as often as it is met; a slice's spare places count too). A statement '..UptoSaid' is the law's where the arguments, and the package variables that the reading takes, are together of bulk at most 1048576: NARROWER than '..Said'. Prove '..Said' where nothing that the law and all that it calls make is longer than what came in: it says more and counts as full. Else prove '..UptoSaid'. A law counts once. -/
mutual
def uptoBulk {H : Type} : DataW H → Nat
  | .lit (.string bytes) => bytes.length + 1
  | .lit _ => 1
  | .nil => 1
  | .ptr d => uptoBulk d + 1
  | .slice elems spare => uptoBulkAll elems + uptoBulkAll spare + 1
  | .agg parts => uptoBulkAll parts + 1
  | .iface _ d => uptoBulk d + 1
  | .map entries => uptoBulkEntries entries + 1
  | .held _ => 1
def uptoBulkAll {H : Type} : List (DataW H) → Nat
  | [] => 0
  | d :: r => uptoBulk d + uptoBulkAll r
def uptoBulkEntries {H : Type} : List (Lit × DataW H) → Nat
  | [] => 0
  | x :: r => uptoBulkEntry x + uptoBulkEntries r
def uptoBulkEntry {H : Type} : Lit × DataW H → Nat
  | (.string bytes, d) => bytes.length + uptoBulk d + 1
  | (_, d) => uptoBulk d + 1
 end
def uptoSmall : (H : Type) → List (DataW H) → Bool := fun _ ds => decide (uptoBulkAll ds ≤ 1048576)
def OpenSpec.upto (s : _root_.Go.ChangeSpec) : _root_.Go.OpenSpec := { _root_.Go.OpenSpec.ofChange s with cond := some uptoSmall }

/-- 'marginalialaw13.FlowNodes', WHERE WHAT IT READS IS OF BULK AT MOST 1048576: true; the input reads as it did. -/
def flowNodesUptoRow : OpenClaim := { program := "ytgoofaeifbfblaagreat", sum := "9df545bc909241f3871e0e54632eca9e6e2e7f54b062a2b6255f34ff885f6670", func := "marginalia/marginalialaw13.FlowNodes", spec := "flowNodes", unfollowed := true, recurses := true, apart := false, narrowed := true }
def FlowNodesUptoSaid : Prop := flowNodesUptoRow.holds Tryz.pinned (OpenSpec.upto flowNodesSpec)

/-- 'marginalialaw13.FlowTexts', WHERE WHAT IT READS IS OF BULK AT MOST 1048576: true; the input reads as it did. -/
def flowTextsUptoRow : OpenClaim := { program := "ytgoofaeifbfblaagreat", sum := "9df545bc909241f3871e0e54632eca9e6e2e7f54b062a2b6255f34ff885f6670", func := "marginalia/marginalialaw13.FlowTexts", spec := "flowTexts", unfollowed := true, recurses := true, apart := false, narrowed := true }
def FlowTextsUptoSaid : Prop := flowTextsUptoRow.holds Tryz.pinned (OpenSpec.upto flowTextsSpec)

/-- 'marginalialaw13.FlowLists', WHERE WHAT IT READS IS OF BULK AT MOST 1048576: true; the input reads as it did. -/
def flowListsUptoRow : OpenClaim := { program := "ytgoofaeifbfblaagreat", sum := "9df545bc909241f3871e0e54632eca9e6e2e7f54b062a2b6255f34ff885f6670", func := "marginalia/marginalialaw13.FlowLists", spec := "flowLists", unfollowed := true, recurses := true, apart := false, narrowed := true }
def FlowListsUptoSaid : Prop := flowListsUptoRow.holds Tryz.pinned (OpenSpec.upto flowListsSpec)

/-- 'marginalialaw13.FlowDeep', WHERE WHAT IT READS IS OF BULK AT MOST 1048576: true; the input reads as it did. -/
def flowDeepUptoRow : OpenClaim := { program := "ytgoofaeifbfblaagreat", sum := "9df545bc909241f3871e0e54632eca9e6e2e7f54b062a2b6255f34ff885f6670", func := "marginalia/marginalialaw13.FlowDeep", spec := "flowDeep", unfollowed := true, recurses := true, apart := false, narrowed := true }
def FlowDeepUptoSaid : Prop := flowDeepUptoRow.holds Tryz.pinned (OpenSpec.upto flowDeepSpec)

/-- 'marginalialaw13.FlowWrong', WHERE WHAT IT READS IS OF BULK AT MOST 1048576: true; the input reads as it did. -/
def flowWrongUptoRow : OpenClaim := { program := "ytgoofaeifbfblaagreat", sum := "9df545bc909241f3871e0e54632eca9e6e2e7f54b062a2b6255f34ff885f6670", func := "marginalia/marginalialaw13.FlowWrong", spec := "flowWrong", unfollowed := true, recurses := true, apart := false, narrowed := true }
def FlowWrongUptoSaid : Prop := flowWrongUptoRow.holds Tryz.pinned (OpenSpec.upto flowWrongSpec)

/-- 'marginalialaw13.FlowPairs', WHERE WHAT IT READS IS OF BULK AT MOST 1048576: true; the input reads as it did. -/
def flowPairsUptoRow : OpenClaim := { program := "ytgoofaeifbfblaagreat", sum := "9df545bc909241f3871e0e54632eca9e6e2e7f54b062a2b6255f34ff885f6670", func := "marginalia/marginalialaw13.FlowPairs", spec := "flowPairs", unfollowed := true, recurses := true, apart := false, narrowed := true }
def FlowPairsUptoSaid : Prop := flowPairsUptoRow.holds Tryz.pinned (OpenSpec.upto flowPairsSpec)

/-- 'marginalialaw13.FlowProps', WHERE WHAT IT READS IS OF BULK AT MOST 1048576: true; the input reads as it did. -/
def flowPropsUptoRow : OpenClaim := { program := "ytgoofaeifbfblaagreat", sum := "9df545bc909241f3871e0e54632eca9e6e2e7f54b062a2b6255f34ff885f6670", func := "marginalia/marginalialaw13.FlowProps", spec := "flowProps", unfollowed := true, recurses := true, apart := false, narrowed := true }
def FlowPropsUptoSaid : Prop := flowPropsUptoRow.holds Tryz.pinned (OpenSpec.upto flowPropsSpec)

/-- 'marginalialaw13.FlowLong', WHERE WHAT IT READS IS OF BULK AT MOST 1048576: true; the input reads as it did. -/
def flowLongUptoRow : OpenClaim := { program := "ytgoofaeifbfblaagreat", sum := "9df545bc909241f3871e0e54632eca9e6e2e7f54b062a2b6255f34ff885f6670", func := "marginalia/marginalialaw13.FlowLong", spec := "flowLong", unfollowed := true, recurses := true, apart := false, narrowed := true }
def FlowLongUptoSaid : Prop := flowLongUptoRow.holds Tryz.pinned (OpenSpec.upto flowLongSpec)

/-- 'marginalialaw13.FlowKeys', WHERE WHAT IT READS IS OF BULK AT MOST 1048576: true; the input reads as it did. -/
def flowKeysUptoRow : OpenClaim := { program := "ytgoofaeifbfblaagreat", sum := "9df545bc909241f3871e0e54632eca9e6e2e7f54b062a2b6255f34ff885f6670", func := "marginalia/marginalialaw13.FlowKeys", spec := "flowKeys", unfollowed := true, recurses := true, apart := false, narrowed := true }
def FlowKeysUptoSaid : Prop := flowKeysUptoRow.holds Tryz.pinned (OpenSpec.upto flowKeysSpec)

end Rows
end Go.Proofs.YtgoofaeifbfblaaGreat
