/-
  No cell of these rows narrows 'for every input' (looked for: loops, veiled, ifaces, maps, wideKeys, modest, calm, conditions, laid).
  DERIVED. THE GIVEN ROWS OF THIS SEAT. 16 by the template 'for every input the law returns true; each argument reads behind the call as it read before'; 0 by the template 'total and deterministic' (their statements: YthnlcdcfbgfncaaTotals.lean).
  GIVEN WITH THE SEED: the statements are not yours to turn. If you find one false, say at which input.
  Laid BY PROGRAM, IN A SANDBOX (cutbox-rows.mjs): the forced cells as the released guide's own fill.sh prints them over the translation 6888843121f94130… (all of the seat's roots in one cut). By AI agents, Wed Nov 11 2026. No macro, syntax, notation, axiom, sorry.
-/
import Derived.Test.YthnlcdcfbgfncaaChecked
import GoSem.Claim
import GoSem.ClaimJoined
import GoSem.ClaimMapViews
import Derived.JoinedTies
import Derived.KernelRfl
namespace Go.Proofs.Ythnlcdcfbgfncaa
/- THE CELL 'sum', in the pinned program and in every row, IS THE sha256 OF THE DUMP (.gsa) THAT YthnlcdcfbgfncaaProg.lean LOADS. Nothing in Lean hashes anything: it is a label: what it is worth is what the hold of that sum in a sandbox is worth. -/
noncomputable def Try.pinned : Pinned := { name := "ythnlcdcfbgfncaa", sum := "6888843121f94130a1631174c8a9692d8153f77331866761b5613cc153356310", checked := Try.checked }
namespace Rows
def none {H : Type} : Left H := { results := [], args := [] }

/-- 'marginalialaw11.PropsWhole': WHATEVER THE INPUT: true; the input reads as it did. -/
def propsWholeSpec : ChangeSpec := { name := "propsWhole", fn := fun _ => fun
  | [d1, d2] => { results := [.lit (.bool true)], args := [d1, d2] }
  | _ => none }
def propsWholeRow : OpenClaim := { program := "ythnlcdcfbgfncaa", sum := "6888843121f94130a1631174c8a9692d8153f77331866761b5613cc153356310", func := "marginalia/marginalialaw11.PropsWhole", spec := "propsWhole", unfollowed := true, recurses := true, apart := false }
def PropsWholeSaid : Prop := propsWholeRow.holds Try.pinned (OpenSpec.ofChange propsWholeSpec)

/-- ITS FALSE NEIGHBOUR: 'it returns false'. Refute it at one input. -/
def propsWholeWrong : ChangeSpec := { name := "propsWhole", fn := fun _ => fun
  | [d1, d2] => { results := [.lit (.bool false)], args := [d1, d2] }
  | _ => none }
def PropsWholeWrongFalsely : Prop := propsWholeRow.holds Try.pinned (OpenSpec.ofChange propsWholeWrong)

/-- 'marginalialaw11.PropsValid': WHATEVER THE INPUT: true; the input reads as it did. -/
def propsValidSpec : ChangeSpec := { name := "propsValid", fn := fun _ => fun
  | [d] => { results := [.lit (.bool true)], args := [d] }
  | _ => none }
def propsValidRow : OpenClaim := { program := "ythnlcdcfbgfncaa", sum := "6888843121f94130a1631174c8a9692d8153f77331866761b5613cc153356310", func := "marginalia/marginalialaw11.PropsValid", spec := "propsValid", unfollowed := true, recurses := true, apart := false }
def PropsValidSaid : Prop := propsValidRow.holds Try.pinned (OpenSpec.ofChange propsValidSpec)

/-- ITS FALSE NEIGHBOUR: 'it returns false'. Refute it at one input. -/
def propsValidWrong : ChangeSpec := { name := "propsValid", fn := fun _ => fun
  | [d] => { results := [.lit (.bool false)], args := [d] }
  | _ => none }
def PropsValidWrongFalsely : Prop := propsValidRow.holds Try.pinned (OpenSpec.ofChange propsValidWrong)

/-- 'marginalialaw7.DoubleEscapes': WHATEVER THE INPUT: true; the input reads as it did. -/
def doubleEscapesSpec : ChangeSpec := { name := "doubleEscapes", fn := fun _ => fun
  | [d1, d2, d3] => { results := [.lit (.bool true)], args := [d1, d2, d3] }
  | _ => none }
def doubleEscapesRow : OpenClaim := { program := "ythnlcdcfbgfncaa", sum := "6888843121f94130a1631174c8a9692d8153f77331866761b5613cc153356310", func := "marginalia/marginalialaw7.DoubleEscapes", spec := "doubleEscapes", apart := false }
def DoubleEscapesSaid : Prop := doubleEscapesRow.holds Try.pinned (OpenSpec.ofChange doubleEscapesSpec)

/-- ITS FALSE NEIGHBOUR: 'it returns false'. Refute it at one input. -/
def doubleEscapesWrong : ChangeSpec := { name := "doubleEscapes", fn := fun _ => fun
  | [d1, d2, d3] => { results := [.lit (.bool false)], args := [d1, d2, d3] }
  | _ => none }
def DoubleEscapesWrongFalsely : Prop := doubleEscapesRow.holds Try.pinned (OpenSpec.ofChange doubleEscapesWrong)

/-- 'marginalialaw7.DoubleJoins': WHATEVER THE INPUT: true; the input reads as it did. -/
def doubleJoinsSpec : ChangeSpec := { name := "doubleJoins", fn := fun _ => fun
  | [d1, d2, d3] => { results := [.lit (.bool true)], args := [d1, d2, d3] }
  | _ => none }
def doubleJoinsRow : OpenClaim := { program := "ythnlcdcfbgfncaa", sum := "6888843121f94130a1631174c8a9692d8153f77331866761b5613cc153356310", func := "marginalia/marginalialaw7.DoubleJoins", spec := "doubleJoins", apart := false }
def DoubleJoinsSaid : Prop := doubleJoinsRow.holds Try.pinned (OpenSpec.ofChange doubleJoinsSpec)

/-- ITS FALSE NEIGHBOUR: 'it returns false'. Refute it at one input. -/
def doubleJoinsWrong : ChangeSpec := { name := "doubleJoins", fn := fun _ => fun
  | [d1, d2, d3] => { results := [.lit (.bool false)], args := [d1, d2, d3] }
  | _ => none }
def DoubleJoinsWrongFalsely : Prop := doubleJoinsRow.holds Try.pinned (OpenSpec.ofChange doubleJoinsWrong)

/-- 'marginalialaw7.DoubleFolds': WHATEVER THE INPUT: true; the input reads as it did. -/
def doubleFoldsSpec : ChangeSpec := { name := "doubleFolds", fn := fun _ => fun
  | [d] => { results := [.lit (.bool true)], args := [d] }
  | _ => none }
def doubleFoldsRow : OpenClaim := { program := "ythnlcdcfbgfncaa", sum := "6888843121f94130a1631174c8a9692d8153f77331866761b5613cc153356310", func := "marginalia/marginalialaw7.DoubleFolds", spec := "doubleFolds", apart := false }
def DoubleFoldsSaid : Prop := doubleFoldsRow.holds Try.pinned (OpenSpec.ofChange doubleFoldsSpec)

/-- ITS FALSE NEIGHBOUR: 'it returns false'. Refute it at one input. -/
def doubleFoldsWrong : ChangeSpec := { name := "doubleFolds", fn := fun _ => fun
  | [d] => { results := [.lit (.bool false)], args := [d] }
  | _ => none }
def DoubleFoldsWrongFalsely : Prop := doubleFoldsRow.holds Try.pinned (OpenSpec.ofChange doubleFoldsWrong)

/-- 'marginalialaw7.DoubleNames': WHATEVER THE INPUT: true; the input reads as it did. -/
def doubleNamesSpec : ChangeSpec := { name := "doubleNames", fn := fun _ => fun
  | [d] => { results := [.lit (.bool true)], args := [d] }
  | _ => none }
def doubleNamesRow : OpenClaim := { program := "ythnlcdcfbgfncaa", sum := "6888843121f94130a1631174c8a9692d8153f77331866761b5613cc153356310", func := "marginalia/marginalialaw7.DoubleNames", spec := "doubleNames", apart := false }
def DoubleNamesSaid : Prop := doubleNamesRow.holds Try.pinned (OpenSpec.ofChange doubleNamesSpec)

/-- ITS FALSE NEIGHBOUR: 'it returns false'. Refute it at one input. -/
def doubleNamesWrong : ChangeSpec := { name := "doubleNames", fn := fun _ => fun
  | [d] => { results := [.lit (.bool false)], args := [d] }
  | _ => none }
def DoubleNamesWrongFalsely : Prop := doubleNamesRow.holds Try.pinned (OpenSpec.ofChange doubleNamesWrong)

/-- 'marginalialaw7.DoubleEnds': WHATEVER THE INPUT: true; the input reads as it did. -/
def doubleEndsSpec : ChangeSpec := { name := "doubleEnds", fn := fun _ => fun
  | [d] => { results := [.lit (.bool true)], args := [d] }
  | _ => none }
def doubleEndsRow : OpenClaim := { program := "ythnlcdcfbgfncaa", sum := "6888843121f94130a1631174c8a9692d8153f77331866761b5613cc153356310", func := "marginalia/marginalialaw7.DoubleEnds", spec := "doubleEnds", apart := false }
def DoubleEndsSaid : Prop := doubleEndsRow.holds Try.pinned (OpenSpec.ofChange doubleEndsSpec)

/-- ITS FALSE NEIGHBOUR: 'it returns false'. Refute it at one input. -/
def doubleEndsWrong : ChangeSpec := { name := "doubleEnds", fn := fun _ => fun
  | [d] => { results := [.lit (.bool false)], args := [d] }
  | _ => none }
def DoubleEndsWrongFalsely : Prop := doubleEndsRow.holds Try.pinned (OpenSpec.ofChange doubleEndsWrong)

/-- 'marginalialaw11.PropsDirects': WHATEVER THE INPUT: true; the input reads as it did. -/
def propsDirectsSpec : ChangeSpec := { name := "propsDirects", fn := fun _ => fun
  | [d] => { results := [.lit (.bool true)], args := [d] }
  | _ => none }
def propsDirectsRow : OpenClaim := { program := "ythnlcdcfbgfncaa", sum := "6888843121f94130a1631174c8a9692d8153f77331866761b5613cc153356310", func := "marginalia/marginalialaw11.PropsDirects", spec := "propsDirects", unfollowed := true, recurses := true, apart := false }
def PropsDirectsSaid : Prop := propsDirectsRow.holds Try.pinned (OpenSpec.ofChange propsDirectsSpec)

/-- ITS FALSE NEIGHBOUR: 'it returns false'. Refute it at one input. -/
def propsDirectsWrong : ChangeSpec := { name := "propsDirects", fn := fun _ => fun
  | [d] => { results := [.lit (.bool false)], args := [d] }
  | _ => none }
def PropsDirectsWrongFalsely : Prop := propsDirectsRow.holds Try.pinned (OpenSpec.ofChange propsDirectsWrong)

/-- 'marginalialaw11.PropsVersions': WHATEVER THE INPUT: true; the input reads as it did. -/
def propsVersionsSpec : ChangeSpec := { name := "propsVersions", fn := fun _ => fun
  | [d1, d2, d3, d4] => { results := [.lit (.bool true)], args := [d1, d2, d3, d4] }
  | _ => none }
def propsVersionsRow : OpenClaim := { program := "ythnlcdcfbgfncaa", sum := "6888843121f94130a1631174c8a9692d8153f77331866761b5613cc153356310", func := "marginalia/marginalialaw11.PropsVersions", spec := "propsVersions", unfollowed := true, recurses := true, apart := false }
def PropsVersionsSaid : Prop := propsVersionsRow.holds Try.pinned (OpenSpec.ofChange propsVersionsSpec)

/-- ITS FALSE NEIGHBOUR: 'it returns false'. Refute it at one input. -/
def propsVersionsWrong : ChangeSpec := { name := "propsVersions", fn := fun _ => fun
  | [d1, d2, d3, d4] => { results := [.lit (.bool false)], args := [d1, d2, d3, d4] }
  | _ => none }
def PropsVersionsWrongFalsely : Prop := propsVersionsRow.holds Try.pinned (OpenSpec.ofChange propsVersionsWrong)

/-- 'marginalialaw7.DoublePlain': WHATEVER THE INPUT: true; the input reads as it did. -/
def doublePlainSpec : ChangeSpec := { name := "doublePlain", fn := fun _ => fun
  | [d] => { results := [.lit (.bool true)], args := [d] }
  | _ => none }
def doublePlainRow : OpenClaim := { program := "ythnlcdcfbgfncaa", sum := "6888843121f94130a1631174c8a9692d8153f77331866761b5613cc153356310", func := "marginalia/marginalialaw7.DoublePlain", spec := "doublePlain", unfollowed := true, recurses := true, apart := false }
def DoublePlainSaid : Prop := doublePlainRow.holds Try.pinned (OpenSpec.ofChange doublePlainSpec)

/-- ITS FALSE NEIGHBOUR: 'it returns false'. Refute it at one input. -/
def doublePlainWrong : ChangeSpec := { name := "doublePlain", fn := fun _ => fun
  | [d] => { results := [.lit (.bool false)], args := [d] }
  | _ => none }
def DoublePlainWrongFalsely : Prop := doublePlainRow.holds Try.pinned (OpenSpec.ofChange doublePlainWrong)

/-- 'marginalialaw16.TagsPlay': WHATEVER THE INPUT: true; the input reads as it did. -/
def tagsPlaySpec : ChangeSpec := { name := "tagsPlay", fn := fun _ => fun
  | [d1, d2] => { results := [.lit (.bool true)], args := [d1, d2] }
  | _ => none }
def tagsPlayRow : OpenClaim := { program := "ythnlcdcfbgfncaa", sum := "6888843121f94130a1631174c8a9692d8153f77331866761b5613cc153356310", func := "marginalia/marginalialaw16.TagsPlay", spec := "tagsPlay", inPlace := ["internal/bytealg.IndexByteString"], unfollowed := true, recurses := true, apart := false }
def TagsPlaySaid : Prop := tagsPlayRow.holds Try.pinned (OpenSpec.ofChange tagsPlaySpec)

/-- ITS FALSE NEIGHBOUR: 'it returns false'. Refute it at one input. -/
def tagsPlayWrong : ChangeSpec := { name := "tagsPlay", fn := fun _ => fun
  | [d1, d2] => { results := [.lit (.bool false)], args := [d1, d2] }
  | _ => none }
def TagsPlayWrongFalsely : Prop := tagsPlayRow.holds Try.pinned (OpenSpec.ofChange tagsPlayWrong)

/-- 'marginalialaw16.TagsBack': WHATEVER THE INPUT: true; the input reads as it did. -/
def tagsBackSpec : ChangeSpec := { name := "tagsBack", fn := fun _ => fun
  | [d] => { results := [.lit (.bool true)], args := [d] }
  | _ => none }
def tagsBackRow : OpenClaim := { program := "ythnlcdcfbgfncaa", sum := "6888843121f94130a1631174c8a9692d8153f77331866761b5613cc153356310", func := "marginalia/marginalialaw16.TagsBack", spec := "tagsBack", inPlace := ["internal/bytealg.IndexByteString"], unfollowed := true, recurses := true, apart := false }
def TagsBackSaid : Prop := tagsBackRow.holds Try.pinned (OpenSpec.ofChange tagsBackSpec)

/-- ITS FALSE NEIGHBOUR: 'it returns false'. Refute it at one input. -/
def tagsBackWrong : ChangeSpec := { name := "tagsBack", fn := fun _ => fun
  | [d] => { results := [.lit (.bool false)], args := [d] }
  | _ => none }
def TagsBackWrongFalsely : Prop := tagsBackRow.holds Try.pinned (OpenSpec.ofChange tagsBackWrong)

/-- 'marginalialaw10.BlockHeads': WHATEVER THE INPUT: true; the input reads as it did. -/
def blockHeadsSpec : ChangeSpec := { name := "blockHeads", fn := fun _ => fun
  | [d] => { results := [.lit (.bool true)], args := [d] }
  | _ => none }
def blockHeadsRow : OpenClaim := { program := "ythnlcdcfbgfncaa", sum := "6888843121f94130a1631174c8a9692d8153f77331866761b5613cc153356310", func := "marginalia/marginalialaw10.BlockHeads", spec := "blockHeads", unfollowed := true, recurses := true, apart := false }
def BlockHeadsSaid : Prop := blockHeadsRow.holds Try.pinned (OpenSpec.ofChange blockHeadsSpec)

/-- ITS FALSE NEIGHBOUR: 'it returns false'. Refute it at one input. -/
def blockHeadsWrong : ChangeSpec := { name := "blockHeads", fn := fun _ => fun
  | [d] => { results := [.lit (.bool false)], args := [d] }
  | _ => none }
def BlockHeadsWrongFalsely : Prop := blockHeadsRow.holds Try.pinned (OpenSpec.ofChange blockHeadsWrong)

/-- 'marginalialaw10.BlockReads': WHATEVER THE INPUT: true; the input reads as it did. -/
def blockReadsSpec : ChangeSpec := { name := "blockReads", fn := fun _ => fun
  | [d1, d2, d3, d4, d5] => { results := [.lit (.bool true)], args := [d1, d2, d3, d4, d5] }
  | _ => none }
def blockReadsRow : OpenClaim := { program := "ythnlcdcfbgfncaa", sum := "6888843121f94130a1631174c8a9692d8153f77331866761b5613cc153356310", func := "marginalia/marginalialaw10.BlockReads", spec := "blockReads", unfollowed := true, recurses := true, apart := false }
def BlockReadsSaid : Prop := blockReadsRow.holds Try.pinned (OpenSpec.ofChange blockReadsSpec)

/-- ITS FALSE NEIGHBOUR: 'it returns false'. Refute it at one input. -/
def blockReadsWrong : ChangeSpec := { name := "blockReads", fn := fun _ => fun
  | [d1, d2, d3, d4, d5] => { results := [.lit (.bool false)], args := [d1, d2, d3, d4, d5] }
  | _ => none }
def BlockReadsWrongFalsely : Prop := blockReadsRow.holds Try.pinned (OpenSpec.ofChange blockReadsWrong)

/-- 'marginalialaw10.BlockBack': WHATEVER THE INPUT: true; the input reads as it did. -/
def blockBackSpec : ChangeSpec := { name := "blockBack", fn := fun _ => fun
  | [d1, d2, d3] => { results := [.lit (.bool true)], args := [d1, d2, d3] }
  | _ => none }
def blockBackRow : OpenClaim := { program := "ythnlcdcfbgfncaa", sum := "6888843121f94130a1631174c8a9692d8153f77331866761b5613cc153356310", func := "marginalia/marginalialaw10.BlockBack", spec := "blockBack", unfollowed := true, recurses := true, apart := false }
def BlockBackSaid : Prop := blockBackRow.holds Try.pinned (OpenSpec.ofChange blockBackSpec)

/-- ITS FALSE NEIGHBOUR: 'it returns false'. Refute it at one input. -/
def blockBackWrong : ChangeSpec := { name := "blockBack", fn := fun _ => fun
  | [d1, d2, d3] => { results := [.lit (.bool false)], args := [d1, d2, d3] }
  | _ => none }
def BlockBackWrongFalsely : Prop := blockBackRow.holds Try.pinned (OpenSpec.ofChange blockBackWrong)

/-- 'marginalialaw10.BlockDetects': WHATEVER THE INPUT: true; the input reads as it did. -/
def blockDetectsSpec : ChangeSpec := { name := "blockDetects", fn := fun _ => fun
  | [d1, d2, d3, d4, d5] => { results := [.lit (.bool true)], args := [d1, d2, d3, d4, d5] }
  | _ => none }
def blockDetectsRow : OpenClaim := { program := "ythnlcdcfbgfncaa", sum := "6888843121f94130a1631174c8a9692d8153f77331866761b5613cc153356310", func := "marginalia/marginalialaw10.BlockDetects", spec := "blockDetects", unfollowed := true, recurses := true, apart := false }
def BlockDetectsSaid : Prop := blockDetectsRow.holds Try.pinned (OpenSpec.ofChange blockDetectsSpec)

/-- ITS FALSE NEIGHBOUR: 'it returns false'. Refute it at one input. -/
def blockDetectsWrong : ChangeSpec := { name := "blockDetects", fn := fun _ => fun
  | [d1, d2, d3, d4, d5] => { results := [.lit (.bool false)], args := [d1, d2, d3, d4, d5] }
  | _ => none }
def BlockDetectsWrongFalsely : Prop := blockDetectsRow.holds Try.pinned (OpenSpec.ofChange blockDetectsWrong)

/- THE SECOND FORM. 'bulk': how many values and letters a reading holds, each counted each time it is reached (what is shared counts as often as it is met; a slice's spare places count too). A statement '..UptoSaid' is the law's where the arguments, and the package variables that the reading takes, are together of bulk at most 1048576: NARROWER than '..Said'. Prove '..Said' where nothing that the law and all that it calls make is longer than what came in: it says more and counts as full. Else prove '..UptoSaid'. A law counts once. -/
mutual
def uptoBulk {H : Type} : DataW H → Nat
  | .lit (.string bytes) => bytes.length + 1
  | .lit _ => 1
  | .nil => 1
  | .ptr d => uptoBulk d + 1
  | .slice elems spare => uptoBulkAll elems + uptoBulkAll spare + 1
  | .agg parts => uptoBulkAll parts + 1
  | .iface _ d => uptoBulk d + 1
  | .map entries => uptoBulkEntries entries + 1
  | .held _ => 1
def uptoBulkAll {H : Type} : List (DataW H) → Nat
  | [] => 0
  | d :: r => uptoBulk d + uptoBulkAll r
def uptoBulkEntries {H : Type} : List (Lit × DataW H) → Nat
  | [] => 0
  | x :: r => uptoBulkEntry x + uptoBulkEntries r
def uptoBulkEntry {H : Type} : Lit × DataW H → Nat
  | (.string bytes, d) => bytes.length + uptoBulk d + 1
  | (_, d) => uptoBulk d + 1
 end
def uptoSmall : (H : Type) → List (DataW H) → Bool := fun _ ds => decide (uptoBulkAll ds ≤ 1048576)
def OpenSpec.upto (s : _root_.Go.ChangeSpec) : _root_.Go.OpenSpec := { _root_.Go.OpenSpec.ofChange s with cond := some uptoSmall }

/-- 'marginalialaw11.PropsWhole', WHERE WHAT IT READS IS OF BULK AT MOST 1048576: true; the input reads as it did. -/
def propsWholeUptoRow : OpenClaim := { program := "ythnlcdcfbgfncaa", sum := "6888843121f94130a1631174c8a9692d8153f77331866761b5613cc153356310", func := "marginalia/marginalialaw11.PropsWhole", spec := "propsWhole", unfollowed := true, recurses := true, apart := false, narrowed := true }
def PropsWholeUptoSaid : Prop := propsWholeUptoRow.holds Try.pinned (OpenSpec.upto propsWholeSpec)

/-- 'marginalialaw11.PropsValid', WHERE WHAT IT READS IS OF BULK AT MOST 1048576: true; the input reads as it did. -/
def propsValidUptoRow : OpenClaim := { program := "ythnlcdcfbgfncaa", sum := "6888843121f94130a1631174c8a9692d8153f77331866761b5613cc153356310", func := "marginalia/marginalialaw11.PropsValid", spec := "propsValid", unfollowed := true, recurses := true, apart := false, narrowed := true }
def PropsValidUptoSaid : Prop := propsValidUptoRow.holds Try.pinned (OpenSpec.upto propsValidSpec)

/-- 'marginalialaw7.DoubleEscapes', WHERE WHAT IT READS IS OF BULK AT MOST 1048576: true; the input reads as it did. -/
def doubleEscapesUptoRow : OpenClaim := { program := "ythnlcdcfbgfncaa", sum := "6888843121f94130a1631174c8a9692d8153f77331866761b5613cc153356310", func := "marginalia/marginalialaw7.DoubleEscapes", spec := "doubleEscapes", apart := false, narrowed := true }
def DoubleEscapesUptoSaid : Prop := doubleEscapesUptoRow.holds Try.pinned (OpenSpec.upto doubleEscapesSpec)

/-- 'marginalialaw7.DoubleJoins', WHERE WHAT IT READS IS OF BULK AT MOST 1048576: true; the input reads as it did. -/
def doubleJoinsUptoRow : OpenClaim := { program := "ythnlcdcfbgfncaa", sum := "6888843121f94130a1631174c8a9692d8153f77331866761b5613cc153356310", func := "marginalia/marginalialaw7.DoubleJoins", spec := "doubleJoins", apart := false, narrowed := true }
def DoubleJoinsUptoSaid : Prop := doubleJoinsUptoRow.holds Try.pinned (OpenSpec.upto doubleJoinsSpec)

/-- 'marginalialaw7.DoubleFolds', WHERE WHAT IT READS IS OF BULK AT MOST 1048576: true; the input reads as it did. -/
def doubleFoldsUptoRow : OpenClaim := { program := "ythnlcdcfbgfncaa", sum := "6888843121f94130a1631174c8a9692d8153f77331866761b5613cc153356310", func := "marginalia/marginalialaw7.DoubleFolds", spec := "doubleFolds", apart := false, narrowed := true }
def DoubleFoldsUptoSaid : Prop := doubleFoldsUptoRow.holds Try.pinned (OpenSpec.upto doubleFoldsSpec)

/-- 'marginalialaw7.DoubleNames', WHERE WHAT IT READS IS OF BULK AT MOST 1048576: true; the input reads as it did. -/
def doubleNamesUptoRow : OpenClaim := { program := "ythnlcdcfbgfncaa", sum := "6888843121f94130a1631174c8a9692d8153f77331866761b5613cc153356310", func := "marginalia/marginalialaw7.DoubleNames", spec := "doubleNames", apart := false, narrowed := true }
def DoubleNamesUptoSaid : Prop := doubleNamesUptoRow.holds Try.pinned (OpenSpec.upto doubleNamesSpec)

/-- 'marginalialaw7.DoubleEnds', WHERE WHAT IT READS IS OF BULK AT MOST 1048576: true; the input reads as it did. -/
def doubleEndsUptoRow : OpenClaim := { program := "ythnlcdcfbgfncaa", sum := "6888843121f94130a1631174c8a9692d8153f77331866761b5613cc153356310", func := "marginalia/marginalialaw7.DoubleEnds", spec := "doubleEnds", apart := false, narrowed := true }
def DoubleEndsUptoSaid : Prop := doubleEndsUptoRow.holds Try.pinned (OpenSpec.upto doubleEndsSpec)

/-- 'marginalialaw11.PropsDirects', WHERE WHAT IT READS IS OF BULK AT MOST 1048576: true; the input reads as it did. -/
def propsDirectsUptoRow : OpenClaim := { program := "ythnlcdcfbgfncaa", sum := "6888843121f94130a1631174c8a9692d8153f77331866761b5613cc153356310", func := "marginalia/marginalialaw11.PropsDirects", spec := "propsDirects", unfollowed := true, recurses := true, apart := false, narrowed := true }
def PropsDirectsUptoSaid : Prop := propsDirectsUptoRow.holds Try.pinned (OpenSpec.upto propsDirectsSpec)

/-- 'marginalialaw11.PropsVersions', WHERE WHAT IT READS IS OF BULK AT MOST 1048576: true; the input reads as it did. -/
def propsVersionsUptoRow : OpenClaim := { program := "ythnlcdcfbgfncaa", sum := "6888843121f94130a1631174c8a9692d8153f77331866761b5613cc153356310", func := "marginalia/marginalialaw11.PropsVersions", spec := "propsVersions", unfollowed := true, recurses := true, apart := false, narrowed := true }
def PropsVersionsUptoSaid : Prop := propsVersionsUptoRow.holds Try.pinned (OpenSpec.upto propsVersionsSpec)

/-- 'marginalialaw7.DoublePlain', WHERE WHAT IT READS IS OF BULK AT MOST 1048576: true; the input reads as it did. -/
def doublePlainUptoRow : OpenClaim := { program := "ythnlcdcfbgfncaa", sum := "6888843121f94130a1631174c8a9692d8153f77331866761b5613cc153356310", func := "marginalia/marginalialaw7.DoublePlain", spec := "doublePlain", unfollowed := true, recurses := true, apart := false, narrowed := true }
def DoublePlainUptoSaid : Prop := doublePlainUptoRow.holds Try.pinned (OpenSpec.upto doublePlainSpec)

/-- 'marginalialaw16.TagsPlay', WHERE WHAT IT READS IS OF BULK AT MOST 1048576: true; the input reads as it did. -/
def tagsPlayUptoRow : OpenClaim := { program := "ythnlcdcfbgfncaa", sum := "6888843121f94130a1631174c8a9692d8153f77331866761b5613cc153356310", func := "marginalia/marginalialaw16.TagsPlay", spec := "tagsPlay", inPlace := ["internal/bytealg.IndexByteString"], unfollowed := true, recurses := true, apart := false, narrowed := true }
def TagsPlayUptoSaid : Prop := tagsPlayUptoRow.holds Try.pinned (OpenSpec.upto tagsPlaySpec)

/-- 'marginalialaw16.TagsBack', WHERE WHAT IT READS IS OF BULK AT MOST 1048576: true; the input reads as it did. -/
def tagsBackUptoRow : OpenClaim := { program := "ythnlcdcfbgfncaa", sum := "6888843121f94130a1631174c8a9692d8153f77331866761b5613cc153356310", func := "marginalia/marginalialaw16.TagsBack", spec := "tagsBack", inPlace := ["internal/bytealg.IndexByteString"], unfollowed := true, recurses := true, apart := false, narrowed := true }
def TagsBackUptoSaid : Prop := tagsBackUptoRow.holds Try.pinned (OpenSpec.upto tagsBackSpec)

/-- 'marginalialaw10.BlockHeads', WHERE WHAT IT READS IS OF BULK AT MOST 1048576: true; the input reads as it did. -/
def blockHeadsUptoRow : OpenClaim := { program := "ythnlcdcfbgfncaa", sum := "6888843121f94130a1631174c8a9692d8153f77331866761b5613cc153356310", func := "marginalia/marginalialaw10.BlockHeads", spec := "blockHeads", unfollowed := true, recurses := true, apart := false, narrowed := true }
def BlockHeadsUptoSaid : Prop := blockHeadsUptoRow.holds Try.pinned (OpenSpec.upto blockHeadsSpec)

/-- 'marginalialaw10.BlockReads', WHERE WHAT IT READS IS OF BULK AT MOST 1048576: true; the input reads as it did. -/
def blockReadsUptoRow : OpenClaim := { program := "ythnlcdcfbgfncaa", sum := "6888843121f94130a1631174c8a9692d8153f77331866761b5613cc153356310", func := "marginalia/marginalialaw10.BlockReads", spec := "blockReads", unfollowed := true, recurses := true, apart := false, narrowed := true }
def BlockReadsUptoSaid : Prop := blockReadsUptoRow.holds Try.pinned (OpenSpec.upto blockReadsSpec)

/-- 'marginalialaw10.BlockBack', WHERE WHAT IT READS IS OF BULK AT MOST 1048576: true; the input reads as it did. -/
def blockBackUptoRow : OpenClaim := { program := "ythnlcdcfbgfncaa", sum := "6888843121f94130a1631174c8a9692d8153f77331866761b5613cc153356310", func := "marginalia/marginalialaw10.BlockBack", spec := "blockBack", unfollowed := true, recurses := true, apart := false, narrowed := true }
def BlockBackUptoSaid : Prop := blockBackUptoRow.holds Try.pinned (OpenSpec.upto blockBackSpec)

/-- 'marginalialaw10.BlockDetects', WHERE WHAT IT READS IS OF BULK AT MOST 1048576: true; the input reads as it did. -/
def blockDetectsUptoRow : OpenClaim := { program := "ythnlcdcfbgfncaa", sum := "6888843121f94130a1631174c8a9692d8153f77331866761b5613cc153356310", func := "marginalia/marginalialaw10.BlockDetects", spec := "blockDetects", unfollowed := true, recurses := true, apart := false, narrowed := true }
def BlockDetectsUptoSaid : Prop := blockDetectsUptoRow.holds Try.pinned (OpenSpec.upto blockDetectsSpec)

end Rows
end Go.Proofs.Ythnlcdcfbgfncaa
