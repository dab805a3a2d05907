/-
  No cell of these rows narrows 'for every input' (looked for: loops, veiled, ifaces, maps, wideKeys, modest, calm, conditions, laid).
  DERIVED. THE GIVEN ROWS OF THIS SEAT. 13 by the template 'for every input the law returns true; each argument reads behind the call as it read before'; 0 by the template 'total and deterministic' (their statements: YthepmgdoophoaaaTotals.lean).
  GIVEN WITH THE SEED: the statements are not yours to turn. If you find one false, say at which input.
  Laid BY PROGRAM, IN A SANDBOX (cutbox-rows.mjs): the forced cells as the released guide's own fill.sh prints them over the translation 69e81a09518f34e2… (all of the seat's roots in one cut). By AI agents, Wed Nov 11 2026. No macro, syntax, notation, axiom, sorry.
-/
import Derived.Test.YthepmgdoophoaaaChecked
import GoSem.Claim
import GoSem.ClaimJoined
import GoSem.ClaimMapViews
import Derived.JoinedTies
import Derived.KernelRfl
namespace Go.Proofs.Ythepmgdoophoaaa
/- THE CELL 'sum', in the pinned program and in every row, IS THE sha256 OF THE DUMP (.gsa) THAT YthepmgdoophoaaaProg.lean LOADS. Nothing in Lean hashes anything: it is a label: what it is worth is what the hold of that sum in a sandbox is worth. -/
noncomputable def Try.pinned : Pinned := { name := "ythepmgdoophoaaa", sum := "69e81a09518f34e266ad0d92ab93a653506548b7d9883f12a52a868a0ac870e8", checked := Try.checked }
namespace Rows
def none {H : Type} : Left H := { results := [], args := [] }

/-- 'marginalialaw3.LinesRead': WHATEVER THE INPUT: true; the input reads as it did. -/
def linesReadSpec : ChangeSpec := { name := "linesRead", fn := fun _ => fun
  | [d] => { results := [.lit (.bool true)], args := [d] }
  | _ => none }
def linesReadRow : OpenClaim := { program := "ythepmgdoophoaaa", sum := "69e81a09518f34e266ad0d92ab93a653506548b7d9883f12a52a868a0ac870e8", func := "marginalia/marginalialaw3.LinesRead", spec := "linesRead", unfollowed := true, recurses := true, apart := false }
def LinesReadSaid : Prop := linesReadRow.holds Try.pinned (OpenSpec.ofChange linesReadSpec)

/-- ITS FALSE NEIGHBOUR: 'it returns false'. Refute it at one input. -/
def linesReadWrong : ChangeSpec := { name := "linesRead", fn := fun _ => fun
  | [d] => { results := [.lit (.bool false)], args := [d] }
  | _ => none }
def LinesReadWrongFalsely : Prop := linesReadRow.holds Try.pinned (OpenSpec.ofChange linesReadWrong)

/-- 'marginalialaw3.LinesParts': WHATEVER THE INPUT: true; the input reads as it did. -/
def linesPartsSpec : ChangeSpec := { name := "linesParts", fn := fun _ => fun
  | [d1, d2, d3] => { results := [.lit (.bool true)], args := [d1, d2, d3] }
  | _ => none }
def linesPartsRow : OpenClaim := { program := "ythepmgdoophoaaa", sum := "69e81a09518f34e266ad0d92ab93a653506548b7d9883f12a52a868a0ac870e8", func := "marginalia/marginalialaw3.LinesParts", spec := "linesParts", unfollowed := true, recurses := true, apart := false }
def LinesPartsSaid : Prop := linesPartsRow.holds Try.pinned (OpenSpec.ofChange linesPartsSpec)

/-- ITS FALSE NEIGHBOUR: 'it returns false'. Refute it at one input. -/
def linesPartsWrong : ChangeSpec := { name := "linesParts", fn := fun _ => fun
  | [d1, d2, d3] => { results := [.lit (.bool false)], args := [d1, d2, d3] }
  | _ => none }
def LinesPartsWrongFalsely : Prop := linesPartsRow.holds Try.pinned (OpenSpec.ofChange linesPartsWrong)

/-- 'marginalialaw3.LinesEnds': WHATEVER THE INPUT: true; the input reads as it did. -/
def linesEndsSpec : ChangeSpec := { name := "linesEnds", fn := fun _ => fun
  | [d1, d2] => { results := [.lit (.bool true)], args := [d1, d2] }
  | _ => none }
def linesEndsRow : OpenClaim := { program := "ythepmgdoophoaaa", sum := "69e81a09518f34e266ad0d92ab93a653506548b7d9883f12a52a868a0ac870e8", func := "marginalia/marginalialaw3.LinesEnds", spec := "linesEnds", unfollowed := true, recurses := true, apart := false }
def LinesEndsSaid : Prop := linesEndsRow.holds Try.pinned (OpenSpec.ofChange linesEndsSpec)

/-- ITS FALSE NEIGHBOUR: 'it returns false'. Refute it at one input. -/
def linesEndsWrong : ChangeSpec := { name := "linesEnds", fn := fun _ => fun
  | [d1, d2] => { results := [.lit (.bool false)], args := [d1, d2] }
  | _ => none }
def LinesEndsWrongFalsely : Prop := linesEndsRow.holds Try.pinned (OpenSpec.ofChange linesEndsWrong)

/-- 'marginalialaw3.LinesTell': WHATEVER THE INPUT: true; the input reads as it did. -/
def linesTellSpec : ChangeSpec := { name := "linesTell", fn := fun _ => fun
  | [d1, d2] => { results := [.lit (.bool true)], args := [d1, d2] }
  | _ => none }
def linesTellRow : OpenClaim := { program := "ythepmgdoophoaaa", sum := "69e81a09518f34e266ad0d92ab93a653506548b7d9883f12a52a868a0ac870e8", func := "marginalia/marginalialaw3.LinesTell", spec := "linesTell", unfollowed := true, recurses := true, apart := false }
def LinesTellSaid : Prop := linesTellRow.holds Try.pinned (OpenSpec.ofChange linesTellSpec)

/-- ITS FALSE NEIGHBOUR: 'it returns false'. Refute it at one input. -/
def linesTellWrong : ChangeSpec := { name := "linesTell", fn := fun _ => fun
  | [d1, d2] => { results := [.lit (.bool false)], args := [d1, d2] }
  | _ => none }
def LinesTellWrongFalsely : Prop := linesTellRow.holds Try.pinned (OpenSpec.ofChange linesTellWrong)

/-- 'marginalialaw6.FoldFlows': WHATEVER THE INPUT: true; the input reads as it did. -/
def foldFlowsSpec : ChangeSpec := { name := "foldFlows", fn := fun _ => fun
  | [d] => { results := [.lit (.bool true)], args := [d] }
  | _ => none }
def foldFlowsRow : OpenClaim := { program := "ythepmgdoophoaaa", sum := "69e81a09518f34e266ad0d92ab93a653506548b7d9883f12a52a868a0ac870e8", func := "marginalia/marginalialaw6.FoldFlows", spec := "foldFlows", unfollowed := true, recurses := true, apart := false }
def FoldFlowsSaid : Prop := foldFlowsRow.holds Try.pinned (OpenSpec.ofChange foldFlowsSpec)

/-- ITS FALSE NEIGHBOUR: 'it returns false'. Refute it at one input. -/
def foldFlowsWrong : ChangeSpec := { name := "foldFlows", fn := fun _ => fun
  | [d] => { results := [.lit (.bool false)], args := [d] }
  | _ => none }
def FoldFlowsWrongFalsely : Prop := foldFlowsRow.holds Try.pinned (OpenSpec.ofChange foldFlowsWrong)

/-- 'marginalialaw8.SingleFolds': WHATEVER THE INPUT: true; the input reads as it did. -/
def singleFoldsSpec : ChangeSpec := { name := "singleFolds", fn := fun _ => fun
  | [d] => { results := [.lit (.bool true)], args := [d] }
  | _ => none }
def singleFoldsRow : OpenClaim := { program := "ythepmgdoophoaaa", sum := "69e81a09518f34e266ad0d92ab93a653506548b7d9883f12a52a868a0ac870e8", func := "marginalia/marginalialaw8.SingleFolds", spec := "singleFolds", unfollowed := true, recurses := true, apart := false }
def SingleFoldsSaid : Prop := singleFoldsRow.holds Try.pinned (OpenSpec.ofChange singleFoldsSpec)

/-- ITS FALSE NEIGHBOUR: 'it returns false'. Refute it at one input. -/
def singleFoldsWrong : ChangeSpec := { name := "singleFolds", fn := fun _ => fun
  | [d] => { results := [.lit (.bool false)], args := [d] }
  | _ => none }
def SingleFoldsWrongFalsely : Prop := singleFoldsRow.holds Try.pinned (OpenSpec.ofChange singleFoldsWrong)

/-- 'marginalialaw6.FoldLines': WHATEVER THE INPUT: true; the input reads as it did. -/
def foldLinesSpec : ChangeSpec := { name := "foldLines", fn := fun _ => fun
  | [d] => { results := [.lit (.bool true)], args := [d] }
  | _ => none }
def foldLinesRow : OpenClaim := { program := "ythepmgdoophoaaa", sum := "69e81a09518f34e266ad0d92ab93a653506548b7d9883f12a52a868a0ac870e8", func := "marginalia/marginalialaw6.FoldLines", spec := "foldLines", unfollowed := true, recurses := true, apart := false }
def FoldLinesSaid : Prop := foldLinesRow.holds Try.pinned (OpenSpec.ofChange foldLinesSpec)

/-- ITS FALSE NEIGHBOUR: 'it returns false'. Refute it at one input. -/
def foldLinesWrong : ChangeSpec := { name := "foldLines", fn := fun _ => fun
  | [d] => { results := [.lit (.bool false)], args := [d] }
  | _ => none }
def FoldLinesWrongFalsely : Prop := foldLinesRow.holds Try.pinned (OpenSpec.ofChange foldLinesWrong)

/-- 'marginalialaw8.SingleReads': WHATEVER THE INPUT: true; the input reads as it did. -/
def singleReadsSpec : ChangeSpec := { name := "singleReads", fn := fun _ => fun
  | [d] => { results := [.lit (.bool true)], args := [d] }
  | _ => none }
def singleReadsRow : OpenClaim := { program := "ythepmgdoophoaaa", sum := "69e81a09518f34e266ad0d92ab93a653506548b7d9883f12a52a868a0ac870e8", func := "marginalia/marginalialaw8.SingleReads", spec := "singleReads", unfollowed := true, recurses := true, apart := false }
def SingleReadsSaid : Prop := singleReadsRow.holds Try.pinned (OpenSpec.ofChange singleReadsSpec)

/-- ITS FALSE NEIGHBOUR: 'it returns false'. Refute it at one input. -/
def singleReadsWrong : ChangeSpec := { name := "singleReads", fn := fun _ => fun
  | [d] => { results := [.lit (.bool false)], args := [d] }
  | _ => none }
def SingleReadsWrongFalsely : Prop := singleReadsRow.holds Try.pinned (OpenSpec.ofChange singleReadsWrong)

/-- 'marginalialaw6.FoldWords': WHATEVER THE INPUT: true; the input reads as it did. -/
def foldWordsSpec : ChangeSpec := { name := "foldWords", fn := fun _ => fun
  | [d1, d2, d3] => { results := [.lit (.bool true)], args := [d1, d2, d3] }
  | _ => none }
def foldWordsRow : OpenClaim := { program := "ythepmgdoophoaaa", sum := "69e81a09518f34e266ad0d92ab93a653506548b7d9883f12a52a868a0ac870e8", func := "marginalia/marginalialaw6.FoldWords", spec := "foldWords", unfollowed := true, recurses := true, apart := false }
def FoldWordsSaid : Prop := foldWordsRow.holds Try.pinned (OpenSpec.ofChange foldWordsSpec)

/-- ITS FALSE NEIGHBOUR: 'it returns false'. Refute it at one input. -/
def foldWordsWrong : ChangeSpec := { name := "foldWords", fn := fun _ => fun
  | [d1, d2, d3] => { results := [.lit (.bool false)], args := [d1, d2, d3] }
  | _ => none }
def FoldWordsWrongFalsely : Prop := foldWordsRow.holds Try.pinned (OpenSpec.ofChange foldWordsWrong)

/-- 'marginalialaw6.FoldSpaced': WHATEVER THE INPUT: true; the input reads as it did. -/
def foldSpacedSpec : ChangeSpec := { name := "foldSpaced", fn := fun _ => fun
  | [d1, d2] => { results := [.lit (.bool true)], args := [d1, d2] }
  | _ => none }
def foldSpacedRow : OpenClaim := { program := "ythepmgdoophoaaa", sum := "69e81a09518f34e266ad0d92ab93a653506548b7d9883f12a52a868a0ac870e8", func := "marginalia/marginalialaw6.FoldSpaced", spec := "foldSpaced", unfollowed := true, recurses := true, apart := false }
def FoldSpacedSaid : Prop := foldSpacedRow.holds Try.pinned (OpenSpec.ofChange foldSpacedSpec)

/-- ITS FALSE NEIGHBOUR: 'it returns false'. Refute it at one input. -/
def foldSpacedWrong : ChangeSpec := { name := "foldSpaced", fn := fun _ => fun
  | [d1, d2] => { results := [.lit (.bool false)], args := [d1, d2] }
  | _ => none }
def FoldSpacedWrongFalsely : Prop := foldSpacedRow.holds Try.pinned (OpenSpec.ofChange foldSpacedWrong)

/-- 'marginalialaw6.FoldBlocks': WHATEVER THE INPUT: true; the input reads as it did. -/
def foldBlocksSpec : ChangeSpec := { name := "foldBlocks", fn := fun _ => fun
  | [d1, d2] => { results := [.lit (.bool true)], args := [d1, d2] }
  | _ => none }
def foldBlocksRow : OpenClaim := { program := "ythepmgdoophoaaa", sum := "69e81a09518f34e266ad0d92ab93a653506548b7d9883f12a52a868a0ac870e8", func := "marginalia/marginalialaw6.FoldBlocks", spec := "foldBlocks", unfollowed := true, recurses := true, apart := false }
def FoldBlocksSaid : Prop := foldBlocksRow.holds Try.pinned (OpenSpec.ofChange foldBlocksSpec)

/-- ITS FALSE NEIGHBOUR: 'it returns false'. Refute it at one input. -/
def foldBlocksWrong : ChangeSpec := { name := "foldBlocks", fn := fun _ => fun
  | [d1, d2] => { results := [.lit (.bool false)], args := [d1, d2] }
  | _ => none }
def FoldBlocksWrongFalsely : Prop := foldBlocksRow.holds Try.pinned (OpenSpec.ofChange foldBlocksWrong)

/-- 'marginalialaw6.FoldChomps': WHATEVER THE INPUT: true; the input reads as it did. -/
def foldChompsSpec : ChangeSpec := { name := "foldChomps", fn := fun _ => fun
  | [d1, d2] => { results := [.lit (.bool true)], args := [d1, d2] }
  | _ => none }
def foldChompsRow : OpenClaim := { program := "ythepmgdoophoaaa", sum := "69e81a09518f34e266ad0d92ab93a653506548b7d9883f12a52a868a0ac870e8", func := "marginalia/marginalialaw6.FoldChomps", spec := "foldChomps", unfollowed := true, recurses := true, apart := false }
def FoldChompsSaid : Prop := foldChompsRow.holds Try.pinned (OpenSpec.ofChange foldChompsSpec)

/-- ITS FALSE NEIGHBOUR: 'it returns false'. Refute it at one input. -/
def foldChompsWrong : ChangeSpec := { name := "foldChomps", fn := fun _ => fun
  | [d1, d2] => { results := [.lit (.bool false)], args := [d1, d2] }
  | _ => none }
def FoldChompsWrongFalsely : Prop := foldChompsRow.holds Try.pinned (OpenSpec.ofChange foldChompsWrong)

/-- 'marginalialaw8.SingleBack': WHATEVER THE INPUT: true; the input reads as it did. -/
def singleBackSpec : ChangeSpec := { name := "singleBack", fn := fun _ => fun
  | [d] => { results := [.lit (.bool true)], args := [d] }
  | _ => none }
def singleBackRow : OpenClaim := { program := "ythepmgdoophoaaa", sum := "69e81a09518f34e266ad0d92ab93a653506548b7d9883f12a52a868a0ac870e8", func := "marginalia/marginalialaw8.SingleBack", spec := "singleBack", unfollowed := true, recurses := true, apart := false }
def SingleBackSaid : Prop := singleBackRow.holds Try.pinned (OpenSpec.ofChange singleBackSpec)

/-- ITS FALSE NEIGHBOUR: 'it returns false'. Refute it at one input. -/
def singleBackWrong : ChangeSpec := { name := "singleBack", fn := fun _ => fun
  | [d] => { results := [.lit (.bool false)], args := [d] }
  | _ => none }
def SingleBackWrongFalsely : Prop := singleBackRow.holds Try.pinned (OpenSpec.ofChange singleBackWrong)

/- THE SECOND FORM. 'bulk': how many values and letters a reading holds, each counted each time it is reached (what is shared counts as often as it is met; a slice's spare places count too). A statement '..UptoSaid' is the law's where the arguments, and the package variables that the reading takes, are together of bulk at most 1048576: NARROWER than '..Said'. Prove '..Said' where nothing that the law and all that it calls make is longer than what came in: it says more and counts as full. Else prove '..UptoSaid'. A law counts once. -/
mutual
def uptoBulk {H : Type} : DataW H → Nat
  | .lit (.string bytes) => bytes.length + 1
  | .lit _ => 1
  | .nil => 1
  | .ptr d => uptoBulk d + 1
  | .slice elems spare => uptoBulkAll elems + uptoBulkAll spare + 1
  | .agg parts => uptoBulkAll parts + 1
  | .iface _ d => uptoBulk d + 1
  | .map entries => uptoBulkEntries entries + 1
  | .held _ => 1
def uptoBulkAll {H : Type} : List (DataW H) → Nat
  | [] => 0
  | d :: r => uptoBulk d + uptoBulkAll r
def uptoBulkEntries {H : Type} : List (Lit × DataW H) → Nat
  | [] => 0
  | x :: r => uptoBulkEntry x + uptoBulkEntries r
def uptoBulkEntry {H : Type} : Lit × DataW H → Nat
  | (.string bytes, d) => bytes.length + uptoBulk d + 1
  | (_, d) => uptoBulk d + 1
 end
def uptoSmall : (H : Type) → List (DataW H) → Bool := fun _ ds => decide (uptoBulkAll ds ≤ 1048576)
def OpenSpec.upto (s : _root_.Go.ChangeSpec) : _root_.Go.OpenSpec := { _root_.Go.OpenSpec.ofChange s with cond := some uptoSmall }

/-- 'marginalialaw3.LinesRead', WHERE WHAT IT READS IS OF BULK AT MOST 1048576: true; the input reads as it did. -/
def linesReadUptoRow : OpenClaim := { program := "ythepmgdoophoaaa", sum := "69e81a09518f34e266ad0d92ab93a653506548b7d9883f12a52a868a0ac870e8", func := "marginalia/marginalialaw3.LinesRead", spec := "linesRead", unfollowed := true, recurses := true, apart := false, narrowed := true }
def LinesReadUptoSaid : Prop := linesReadUptoRow.holds Try.pinned (OpenSpec.upto linesReadSpec)

/-- 'marginalialaw3.LinesParts', WHERE WHAT IT READS IS OF BULK AT MOST 1048576: true; the input reads as it did. -/
def linesPartsUptoRow : OpenClaim := { program := "ythepmgdoophoaaa", sum := "69e81a09518f34e266ad0d92ab93a653506548b7d9883f12a52a868a0ac870e8", func := "marginalia/marginalialaw3.LinesParts", spec := "linesParts", unfollowed := true, recurses := true, apart := false, narrowed := true }
def LinesPartsUptoSaid : Prop := linesPartsUptoRow.holds Try.pinned (OpenSpec.upto linesPartsSpec)

/-- 'marginalialaw3.LinesEnds', WHERE WHAT IT READS IS OF BULK AT MOST 1048576: true; the input reads as it did. -/
def linesEndsUptoRow : OpenClaim := { program := "ythepmgdoophoaaa", sum := "69e81a09518f34e266ad0d92ab93a653506548b7d9883f12a52a868a0ac870e8", func := "marginalia/marginalialaw3.LinesEnds", spec := "linesEnds", unfollowed := true, recurses := true, apart := false, narrowed := true }
def LinesEndsUptoSaid : Prop := linesEndsUptoRow.holds Try.pinned (OpenSpec.upto linesEndsSpec)

/-- 'marginalialaw3.LinesTell', WHERE WHAT IT READS IS OF BULK AT MOST 1048576: true; the input reads as it did. -/
def linesTellUptoRow : OpenClaim := { program := "ythepmgdoophoaaa", sum := "69e81a09518f34e266ad0d92ab93a653506548b7d9883f12a52a868a0ac870e8", func := "marginalia/marginalialaw3.LinesTell", spec := "linesTell", unfollowed := true, recurses := true, apart := false, narrowed := true }
def LinesTellUptoSaid : Prop := linesTellUptoRow.holds Try.pinned (OpenSpec.upto linesTellSpec)

/-- 'marginalialaw6.FoldFlows', WHERE WHAT IT READS IS OF BULK AT MOST 1048576: true; the input reads as it did. -/
def foldFlowsUptoRow : OpenClaim := { program := "ythepmgdoophoaaa", sum := "69e81a09518f34e266ad0d92ab93a653506548b7d9883f12a52a868a0ac870e8", func := "marginalia/marginalialaw6.FoldFlows", spec := "foldFlows", unfollowed := true, recurses := true, apart := false, narrowed := true }
def FoldFlowsUptoSaid : Prop := foldFlowsUptoRow.holds Try.pinned (OpenSpec.upto foldFlowsSpec)

/-- 'marginalialaw8.SingleFolds', WHERE WHAT IT READS IS OF BULK AT MOST 1048576: true; the input reads as it did. -/
def singleFoldsUptoRow : OpenClaim := { program := "ythepmgdoophoaaa", sum := "69e81a09518f34e266ad0d92ab93a653506548b7d9883f12a52a868a0ac870e8", func := "marginalia/marginalialaw8.SingleFolds", spec := "singleFolds", unfollowed := true, recurses := true, apart := false, narrowed := true }
def SingleFoldsUptoSaid : Prop := singleFoldsUptoRow.holds Try.pinned (OpenSpec.upto singleFoldsSpec)

/-- 'marginalialaw6.FoldLines', WHERE WHAT IT READS IS OF BULK AT MOST 1048576: true; the input reads as it did. -/
def foldLinesUptoRow : OpenClaim := { program := "ythepmgdoophoaaa", sum := "69e81a09518f34e266ad0d92ab93a653506548b7d9883f12a52a868a0ac870e8", func := "marginalia/marginalialaw6.FoldLines", spec := "foldLines", unfollowed := true, recurses := true, apart := false, narrowed := true }
def FoldLinesUptoSaid : Prop := foldLinesUptoRow.holds Try.pinned (OpenSpec.upto foldLinesSpec)

/-- 'marginalialaw8.SingleReads', WHERE WHAT IT READS IS OF BULK AT MOST 1048576: true; the input reads as it did. -/
def singleReadsUptoRow : OpenClaim := { program := "ythepmgdoophoaaa", sum := "69e81a09518f34e266ad0d92ab93a653506548b7d9883f12a52a868a0ac870e8", func := "marginalia/marginalialaw8.SingleReads", spec := "singleReads", unfollowed := true, recurses := true, apart := false, narrowed := true }
def SingleReadsUptoSaid : Prop := singleReadsUptoRow.holds Try.pinned (OpenSpec.upto singleReadsSpec)

/-- 'marginalialaw6.FoldWords', WHERE WHAT IT READS IS OF BULK AT MOST 1048576: true; the input reads as it did. -/
def foldWordsUptoRow : OpenClaim := { program := "ythepmgdoophoaaa", sum := "69e81a09518f34e266ad0d92ab93a653506548b7d9883f12a52a868a0ac870e8", func := "marginalia/marginalialaw6.FoldWords", spec := "foldWords", unfollowed := true, recurses := true, apart := false, narrowed := true }
def FoldWordsUptoSaid : Prop := foldWordsUptoRow.holds Try.pinned (OpenSpec.upto foldWordsSpec)

/-- 'marginalialaw6.FoldSpaced', WHERE WHAT IT READS IS OF BULK AT MOST 1048576: true; the input reads as it did. -/
def foldSpacedUptoRow : OpenClaim := { program := "ythepmgdoophoaaa", sum := "69e81a09518f34e266ad0d92ab93a653506548b7d9883f12a52a868a0ac870e8", func := "marginalia/marginalialaw6.FoldSpaced", spec := "foldSpaced", unfollowed := true, recurses := true, apart := false, narrowed := true }
def FoldSpacedUptoSaid : Prop := foldSpacedUptoRow.holds Try.pinned (OpenSpec.upto foldSpacedSpec)

/-- 'marginalialaw6.FoldBlocks', WHERE WHAT IT READS IS OF BULK AT MOST 1048576: true; the input reads as it did. -/
def foldBlocksUptoRow : OpenClaim := { program := "ythepmgdoophoaaa", sum := "69e81a09518f34e266ad0d92ab93a653506548b7d9883f12a52a868a0ac870e8", func := "marginalia/marginalialaw6.FoldBlocks", spec := "foldBlocks", unfollowed := true, recurses := true, apart := false, narrowed := true }
def FoldBlocksUptoSaid : Prop := foldBlocksUptoRow.holds Try.pinned (OpenSpec.upto foldBlocksSpec)

/-- 'marginalialaw6.FoldChomps', WHERE WHAT IT READS IS OF BULK AT MOST 1048576: true; the input reads as it did. -/
def foldChompsUptoRow : OpenClaim := { program := "ythepmgdoophoaaa", sum := "69e81a09518f34e266ad0d92ab93a653506548b7d9883f12a52a868a0ac870e8", func := "marginalia/marginalialaw6.FoldChomps", spec := "foldChomps", unfollowed := true, recurses := true, apart := false, narrowed := true }
def FoldChompsUptoSaid : Prop := foldChompsUptoRow.holds Try.pinned (OpenSpec.upto foldChompsSpec)

/-- 'marginalialaw8.SingleBack', WHERE WHAT IT READS IS OF BULK AT MOST 1048576: true; the input reads as it did. -/
def singleBackUptoRow : OpenClaim := { program := "ythepmgdoophoaaa", sum := "69e81a09518f34e266ad0d92ab93a653506548b7d9883f12a52a868a0ac870e8", func := "marginalia/marginalialaw8.SingleBack", spec := "singleBack", unfollowed := true, recurses := true, apart := false, narrowed := true }
def SingleBackUptoSaid : Prop := singleBackUptoRow.holds Try.pinned (OpenSpec.upto singleBackSpec)

end Rows
end Go.Proofs.Ythepmgdoophoaaa
