/-
  No cell of these rows narrows 'for every input' (looked for: loops, veiled, ifaces, maps, wideKeys, modest, calm, conditions, laid).
  DERIVED. THE GIVEN ROWS OF THIS SEAT. 5 by the template 'for every input the law returns true; each argument reads behind the call as it read before'; 0 by the template 'total and deterministic' (their statements: YtmeijmmfkgpamaaGreatTotals.lean).
  GIVEN WITH THE SEED: the statements are not yours to turn. If you find one false, say at which input.
  Laid BY PROGRAM, IN A SANDBOX (cutbox-rows.mjs): the forced cells as the released guide's own fill.sh prints them over the translation 6c7db45198bcc609… (all of the seat's roots in one cut). By AI agents, Wed Nov 11 2026. No macro, syntax, notation, axiom, sorry.
-/
import Derived.Test.YtmeijmmfkgpamaaGreatChecked
import GoSem.Claim
import GoSem.ClaimJoined
import GoSem.ClaimMapViews
import Derived.JoinedTies
import Derived.KernelRfl
namespace Go.Proofs.YtmeijmmfkgpamaaGreat
/- THE CELL 'sum', in the pinned program and in every row, IS THE sha256 OF THE DUMP (.gsa) THAT YtmeijmmfkgpamaaGreatProg.lean LOADS. Nothing in Lean hashes anything: it is a label: what it is worth is what the hold of that sum in a sandbox is worth. -/
noncomputable def Tryz.pinned : Pinned := { name := "ytmeijmmfkgpamaagreat", sum := "6c7db45198bcc6095c8b39a91c46c7be8ad529a57edef7002efc6d0d1f62736f", checked := Tryz.checked }
namespace Rows
def none {H : Type} : Left H := { results := [], args := [] }

/-- 'marginalialaw13.FlowWrong': WHATEVER THE INPUT: true; the input reads as it did. -/
def flowWrongSpec : ChangeSpec := { name := "flowWrong", fn := fun _ => fun
  | [d] => { results := [.lit (.bool true)], args := [d] }
  | _ => none }
def flowWrongRow : OpenClaim := { program := "ytmeijmmfkgpamaagreat", sum := "6c7db45198bcc6095c8b39a91c46c7be8ad529a57edef7002efc6d0d1f62736f", func := "marginalia/marginalialaw13.FlowWrong", spec := "flowWrong", unfollowed := true, recurses := true, apart := false }
def FlowWrongSaid : Prop := flowWrongRow.holds Tryz.pinned (OpenSpec.ofChange flowWrongSpec)

/-- ITS FALSE NEIGHBOUR: 'it returns false'. Refute it at one input. -/
def flowWrongWrong : ChangeSpec := { name := "flowWrong", fn := fun _ => fun
  | [d] => { results := [.lit (.bool false)], args := [d] }
  | _ => none }
def FlowWrongWrongFalsely : Prop := flowWrongRow.holds Tryz.pinned (OpenSpec.ofChange flowWrongWrong)

/-- 'marginalialaw13.FlowPairs': WHATEVER THE INPUT: true; the input reads as it did. -/
def flowPairsSpec : ChangeSpec := { name := "flowPairs", fn := fun _ => fun
  | [d] => { results := [.lit (.bool true)], args := [d] }
  | _ => none }
def flowPairsRow : OpenClaim := { program := "ytmeijmmfkgpamaagreat", sum := "6c7db45198bcc6095c8b39a91c46c7be8ad529a57edef7002efc6d0d1f62736f", func := "marginalia/marginalialaw13.FlowPairs", spec := "flowPairs", unfollowed := true, recurses := true, apart := false }
def FlowPairsSaid : Prop := flowPairsRow.holds Tryz.pinned (OpenSpec.ofChange flowPairsSpec)

/-- ITS FALSE NEIGHBOUR: 'it returns false'. Refute it at one input. -/
def flowPairsWrong : ChangeSpec := { name := "flowPairs", fn := fun _ => fun
  | [d] => { results := [.lit (.bool false)], args := [d] }
  | _ => none }
def FlowPairsWrongFalsely : Prop := flowPairsRow.holds Tryz.pinned (OpenSpec.ofChange flowPairsWrong)

/-- 'marginalialaw13.FlowProps': WHATEVER THE INPUT: true; the input reads as it did. -/
def flowPropsSpec : ChangeSpec := { name := "flowProps", fn := fun _ => fun
  | [d1, d2, d3, d4] => { results := [.lit (.bool true)], args := [d1, d2, d3, d4] }
  | _ => none }
def flowPropsRow : OpenClaim := { program := "ytmeijmmfkgpamaagreat", sum := "6c7db45198bcc6095c8b39a91c46c7be8ad529a57edef7002efc6d0d1f62736f", func := "marginalia/marginalialaw13.FlowProps", spec := "flowProps", unfollowed := true, recurses := true, apart := false }
def FlowPropsSaid : Prop := flowPropsRow.holds Tryz.pinned (OpenSpec.ofChange flowPropsSpec)

/-- ITS FALSE NEIGHBOUR: 'it returns false'. Refute it at one input. -/
def flowPropsWrong : ChangeSpec := { name := "flowProps", fn := fun _ => fun
  | [d1, d2, d3, d4] => { results := [.lit (.bool false)], args := [d1, d2, d3, d4] }
  | _ => none }
def FlowPropsWrongFalsely : Prop := flowPropsRow.holds Tryz.pinned (OpenSpec.ofChange flowPropsWrong)

/-- 'marginalialaw14.ParserWrong': WHATEVER THE INPUT: true; the input reads as it did. -/
def parserWrongSpec : ChangeSpec := { name := "parserWrong", fn := fun _ => fun
  | [d] => { results := [.lit (.bool true)], args := [d] }
  | _ => none }
def parserWrongRow : OpenClaim := { program := "ytmeijmmfkgpamaagreat", sum := "6c7db45198bcc6095c8b39a91c46c7be8ad529a57edef7002efc6d0d1f62736f", func := "marginalia/marginalialaw14.ParserWrong", spec := "parserWrong", unfollowed := true, recurses := true, apart := false }
def ParserWrongSaid : Prop := parserWrongRow.holds Tryz.pinned (OpenSpec.ofChange parserWrongSpec)

/-- ITS FALSE NEIGHBOUR: 'it returns false'. Refute it at one input. -/
def parserWrongWrong : ChangeSpec := { name := "parserWrong", fn := fun _ => fun
  | [d] => { results := [.lit (.bool false)], args := [d] }
  | _ => none }
def ParserWrongWrongFalsely : Prop := parserWrongRow.holds Tryz.pinned (OpenSpec.ofChange parserWrongWrong)

/-- 'marginalialaw14.ParserShapes': WHATEVER THE INPUT: true; the input reads as it did. -/
def parserShapesSpec : ChangeSpec := { name := "parserShapes", fn := fun _ => fun
  | [d] => { results := [.lit (.bool true)], args := [d] }
  | _ => none }
def parserShapesRow : OpenClaim := { program := "ytmeijmmfkgpamaagreat", sum := "6c7db45198bcc6095c8b39a91c46c7be8ad529a57edef7002efc6d0d1f62736f", func := "marginalia/marginalialaw14.ParserShapes", spec := "parserShapes", unfollowed := true, recurses := true, apart := false }
def ParserShapesSaid : Prop := parserShapesRow.holds Tryz.pinned (OpenSpec.ofChange parserShapesSpec)

/-- ITS FALSE NEIGHBOUR: 'it returns false'. Refute it at one input. -/
def parserShapesWrong : ChangeSpec := { name := "parserShapes", fn := fun _ => fun
  | [d] => { results := [.lit (.bool false)], args := [d] }
  | _ => none }
def ParserShapesWrongFalsely : Prop := parserShapesRow.holds Tryz.pinned (OpenSpec.ofChange parserShapesWrong)

/- THE SECOND FORM. 'bulk': how many values and letters a reading holds, each counted each time it is reached (what is shared counts as often as it is met; a slice's spare places count too). A statement '..UptoSaid' is the law's where the arguments, and the package variables that the reading takes, are together of bulk at most 1048576: NARROWER than '..Said'. Prove '..Said' where nothing that the law and all that it calls make is longer than what came in: it says more and counts as full. Else prove '..UptoSaid'. A law counts once. -/
mutual
def uptoBulk {H : Type} : DataW H → Nat
  | .lit (.string bytes) => bytes.length + 1
  | .lit _ => 1
  | .nil => 1
  | .ptr d => uptoBulk d + 1
  | .slice elems spare => uptoBulkAll elems + uptoBulkAll spare + 1
  | .agg parts => uptoBulkAll parts + 1
  | .iface _ d => uptoBulk d + 1
  | .map entries => uptoBulkEntries entries + 1
  | .held _ => 1
def uptoBulkAll {H : Type} : List (DataW H) → Nat
  | [] => 0
  | d :: r => uptoBulk d + uptoBulkAll r
def uptoBulkEntries {H : Type} : List (Lit × DataW H) → Nat
  | [] => 0
  | x :: r => uptoBulkEntry x + uptoBulkEntries r
def uptoBulkEntry {H : Type} : Lit × DataW H → Nat
  | (.string bytes, d) => bytes.length + uptoBulk d + 1
  | (_, d) => uptoBulk d + 1
 end
def uptoSmall : (H : Type) → List (DataW H) → Bool := fun _ ds => decide (uptoBulkAll ds ≤ 1048576)
def OpenSpec.upto (s : _root_.Go.ChangeSpec) : _root_.Go.OpenSpec := { _root_.Go.OpenSpec.ofChange s with cond := some uptoSmall }

/-- 'marginalialaw13.FlowWrong', WHERE WHAT IT READS IS OF BULK AT MOST 1048576: true; the input reads as it did. -/
def flowWrongUptoRow : OpenClaim := { program := "ytmeijmmfkgpamaagreat", sum := "6c7db45198bcc6095c8b39a91c46c7be8ad529a57edef7002efc6d0d1f62736f", func := "marginalia/marginalialaw13.FlowWrong", spec := "flowWrong", unfollowed := true, recurses := true, apart := false, narrowed := true }
def FlowWrongUptoSaid : Prop := flowWrongUptoRow.holds Tryz.pinned (OpenSpec.upto flowWrongSpec)

/-- 'marginalialaw13.FlowPairs', WHERE WHAT IT READS IS OF BULK AT MOST 1048576: true; the input reads as it did. -/
def flowPairsUptoRow : OpenClaim := { program := "ytmeijmmfkgpamaagreat", sum := "6c7db45198bcc6095c8b39a91c46c7be8ad529a57edef7002efc6d0d1f62736f", func := "marginalia/marginalialaw13.FlowPairs", spec := "flowPairs", unfollowed := true, recurses := true, apart := false, narrowed := true }
def FlowPairsUptoSaid : Prop := flowPairsUptoRow.holds Tryz.pinned (OpenSpec.upto flowPairsSpec)

/-- 'marginalialaw13.FlowProps', WHERE WHAT IT READS IS OF BULK AT MOST 1048576: true; the input reads as it did. -/
def flowPropsUptoRow : OpenClaim := { program := "ytmeijmmfkgpamaagreat", sum := "6c7db45198bcc6095c8b39a91c46c7be8ad529a57edef7002efc6d0d1f62736f", func := "marginalia/marginalialaw13.FlowProps", spec := "flowProps", unfollowed := true, recurses := true, apart := false, narrowed := true }
def FlowPropsUptoSaid : Prop := flowPropsUptoRow.holds Tryz.pinned (OpenSpec.upto flowPropsSpec)

/-- 'marginalialaw14.ParserWrong', WHERE WHAT IT READS IS OF BULK AT MOST 1048576: true; the input reads as it did. -/
def parserWrongUptoRow : OpenClaim := { program := "ytmeijmmfkgpamaagreat", sum := "6c7db45198bcc6095c8b39a91c46c7be8ad529a57edef7002efc6d0d1f62736f", func := "marginalia/marginalialaw14.ParserWrong", spec := "parserWrong", unfollowed := true, recurses := true, apart := false, narrowed := true }
def ParserWrongUptoSaid : Prop := parserWrongUptoRow.holds Tryz.pinned (OpenSpec.upto parserWrongSpec)

/-- 'marginalialaw14.ParserShapes', WHERE WHAT IT READS IS OF BULK AT MOST 1048576: true; the input reads as it did. -/
def parserShapesUptoRow : OpenClaim := { program := "ytmeijmmfkgpamaagreat", sum := "6c7db45198bcc6095c8b39a91c46c7be8ad529a57edef7002efc6d0d1f62736f", func := "marginalia/marginalialaw14.ParserShapes", spec := "parserShapes", unfollowed := true, recurses := true, apart := false, narrowed := true }
def ParserShapesUptoSaid : Prop := parserShapesUptoRow.holds Tryz.pinned (OpenSpec.upto parserShapesSpec)

end Rows
end Go.Proofs.YtmeijmmfkgpamaaGreat
