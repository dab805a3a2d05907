/-
  No cell of these rows narrows 'for every input' (looked for: loops, veiled, ifaces, maps, wideKeys, modest, calm, conditions, laid).
  DERIVED. THE GIVEN ROWS OF THIS SEAT. 9 by the template 'for every input the law returns true; each argument reads behind the call as it read before'; 0 by the template 'total and deterministic' (their statements: YtaeacialcbahnaaTotals.lean).
  GIVEN WITH THE SEED: the statements are not yours to turn. If you find one false, say at which input.
  Laid BY PROGRAM, IN A SANDBOX (cutbox-rows.mjs): the forced cells as the released guide's own fill.sh prints them over the translation ef3d18d2309fda75… (all of the seat's roots in one cut). By AI agents, Wed Nov 11 2026. No macro, syntax, notation, axiom, sorry.
-/
import Derived.Test.YtaeacialcbahnaaChecked
import GoSem.Claim
import GoSem.ClaimJoined
import GoSem.ClaimMapViews
import Derived.JoinedTies
import Derived.KernelRfl
namespace Go.Proofs.Ytaeacialcbahnaa
/- THE CELL 'sum', in the pinned program and in every row, IS THE sha256 OF THE DUMP (.gsa) THAT YtaeacialcbahnaaProg.lean LOADS. Nothing in Lean hashes anything: it is a label: what it is worth is what the hold of that sum in a sandbox is worth. -/
noncomputable def Try.pinned : Pinned := { name := "ytaeacialcbahnaa", sum := "ef3d18d2309fda75b551a5ca73b62b12906e06399f2a1f4dd10a7f4558c122f4", checked := Try.checked }
namespace Rows
def none {H : Type} : Left H := { results := [], args := [] }

/-- 'marginalialaw11.PropsWhole': WHATEVER THE INPUT: true; the input reads as it did. -/
def propsWholeSpec : ChangeSpec := { name := "propsWhole", fn := fun _ => fun
  | [d1, d2] => { results := [.lit (.bool true)], args := [d1, d2] }
  | _ => none }
def propsWholeRow : OpenClaim := { program := "ytaeacialcbahnaa", sum := "ef3d18d2309fda75b551a5ca73b62b12906e06399f2a1f4dd10a7f4558c122f4", func := "marginalia/marginalialaw11.PropsWhole", spec := "propsWhole", unfollowed := true, recurses := true, apart := false }
def PropsWholeSaid : Prop := propsWholeRow.holds Try.pinned (OpenSpec.ofChange propsWholeSpec)

/-- ITS FALSE NEIGHBOUR: 'it returns false'. Refute it at one input. -/
def propsWholeWrong : ChangeSpec := { name := "propsWhole", fn := fun _ => fun
  | [d1, d2] => { results := [.lit (.bool false)], args := [d1, d2] }
  | _ => none }
def PropsWholeWrongFalsely : Prop := propsWholeRow.holds Try.pinned (OpenSpec.ofChange propsWholeWrong)

/-- 'marginalialaw11.PropsValid': WHATEVER THE INPUT: true; the input reads as it did. -/
def propsValidSpec : ChangeSpec := { name := "propsValid", fn := fun _ => fun
  | [d] => { results := [.lit (.bool true)], args := [d] }
  | _ => none }
def propsValidRow : OpenClaim := { program := "ytaeacialcbahnaa", sum := "ef3d18d2309fda75b551a5ca73b62b12906e06399f2a1f4dd10a7f4558c122f4", func := "marginalia/marginalialaw11.PropsValid", spec := "propsValid", unfollowed := true, recurses := true, apart := false }
def PropsValidSaid : Prop := propsValidRow.holds Try.pinned (OpenSpec.ofChange propsValidSpec)

/-- ITS FALSE NEIGHBOUR: 'it returns false'. Refute it at one input. -/
def propsValidWrong : ChangeSpec := { name := "propsValid", fn := fun _ => fun
  | [d] => { results := [.lit (.bool false)], args := [d] }
  | _ => none }
def PropsValidWrongFalsely : Prop := propsValidRow.holds Try.pinned (OpenSpec.ofChange propsValidWrong)

/-- 'marginalialaw11.PropsDirects': WHATEVER THE INPUT: true; the input reads as it did. -/
def propsDirectsSpec : ChangeSpec := { name := "propsDirects", fn := fun _ => fun
  | [d] => { results := [.lit (.bool true)], args := [d] }
  | _ => none }
def propsDirectsRow : OpenClaim := { program := "ytaeacialcbahnaa", sum := "ef3d18d2309fda75b551a5ca73b62b12906e06399f2a1f4dd10a7f4558c122f4", func := "marginalia/marginalialaw11.PropsDirects", spec := "propsDirects", unfollowed := true, recurses := true, apart := false }
def PropsDirectsSaid : Prop := propsDirectsRow.holds Try.pinned (OpenSpec.ofChange propsDirectsSpec)

/-- ITS FALSE NEIGHBOUR: 'it returns false'. Refute it at one input. -/
def propsDirectsWrong : ChangeSpec := { name := "propsDirects", fn := fun _ => fun
  | [d] => { results := [.lit (.bool false)], args := [d] }
  | _ => none }
def PropsDirectsWrongFalsely : Prop := propsDirectsRow.holds Try.pinned (OpenSpec.ofChange propsDirectsWrong)

/-- 'marginalialaw11.PropsVersions': WHATEVER THE INPUT: true; the input reads as it did. -/
def propsVersionsSpec : ChangeSpec := { name := "propsVersions", fn := fun _ => fun
  | [d1, d2, d3, d4] => { results := [.lit (.bool true)], args := [d1, d2, d3, d4] }
  | _ => none }
def propsVersionsRow : OpenClaim := { program := "ytaeacialcbahnaa", sum := "ef3d18d2309fda75b551a5ca73b62b12906e06399f2a1f4dd10a7f4558c122f4", func := "marginalia/marginalialaw11.PropsVersions", spec := "propsVersions", unfollowed := true, recurses := true, apart := false }
def PropsVersionsSaid : Prop := propsVersionsRow.holds Try.pinned (OpenSpec.ofChange propsVersionsSpec)

/-- ITS FALSE NEIGHBOUR: 'it returns false'. Refute it at one input. -/
def propsVersionsWrong : ChangeSpec := { name := "propsVersions", fn := fun _ => fun
  | [d1, d2, d3, d4] => { results := [.lit (.bool false)], args := [d1, d2, d3, d4] }
  | _ => none }
def PropsVersionsWrongFalsely : Prop := propsVersionsRow.holds Try.pinned (OpenSpec.ofChange propsVersionsWrong)

/-- 'marginalialaw16.TagsPlay': WHATEVER THE INPUT: true; the input reads as it did. -/
def tagsPlaySpec : ChangeSpec := { name := "tagsPlay", fn := fun _ => fun
  | [d1, d2] => { results := [.lit (.bool true)], args := [d1, d2] }
  | _ => none }
def tagsPlayRow : OpenClaim := { program := "ytaeacialcbahnaa", sum := "ef3d18d2309fda75b551a5ca73b62b12906e06399f2a1f4dd10a7f4558c122f4", func := "marginalia/marginalialaw16.TagsPlay", spec := "tagsPlay", inPlace := ["internal/bytealg.IndexByteString"], unfollowed := true, recurses := true, apart := false }
def TagsPlaySaid : Prop := tagsPlayRow.holds Try.pinned (OpenSpec.ofChange tagsPlaySpec)

/-- ITS FALSE NEIGHBOUR: 'it returns false'. Refute it at one input. -/
def tagsPlayWrong : ChangeSpec := { name := "tagsPlay", fn := fun _ => fun
  | [d1, d2] => { results := [.lit (.bool false)], args := [d1, d2] }
  | _ => none }
def TagsPlayWrongFalsely : Prop := tagsPlayRow.holds Try.pinned (OpenSpec.ofChange tagsPlayWrong)

/-- 'marginalialaw16.TagsBack': WHATEVER THE INPUT: true; the input reads as it did. -/
def tagsBackSpec : ChangeSpec := { name := "tagsBack", fn := fun _ => fun
  | [d] => { results := [.lit (.bool true)], args := [d] }
  | _ => none }
def tagsBackRow : OpenClaim := { program := "ytaeacialcbahnaa", sum := "ef3d18d2309fda75b551a5ca73b62b12906e06399f2a1f4dd10a7f4558c122f4", func := "marginalia/marginalialaw16.TagsBack", spec := "tagsBack", inPlace := ["internal/bytealg.IndexByteString"], unfollowed := true, recurses := true, apart := false }
def TagsBackSaid : Prop := tagsBackRow.holds Try.pinned (OpenSpec.ofChange tagsBackSpec)

/-- ITS FALSE NEIGHBOUR: 'it returns false'. Refute it at one input. -/
def tagsBackWrong : ChangeSpec := { name := "tagsBack", fn := fun _ => fun
  | [d] => { results := [.lit (.bool false)], args := [d] }
  | _ => none }
def TagsBackWrongFalsely : Prop := tagsBackRow.holds Try.pinned (OpenSpec.ofChange tagsBackWrong)

/-- 'marginalialaw10.BlockReads': WHATEVER THE INPUT: true; the input reads as it did. -/
def blockReadsSpec : ChangeSpec := { name := "blockReads", fn := fun _ => fun
  | [d1, d2, d3, d4, d5] => { results := [.lit (.bool true)], args := [d1, d2, d3, d4, d5] }
  | _ => none }
def blockReadsRow : OpenClaim := { program := "ytaeacialcbahnaa", sum := "ef3d18d2309fda75b551a5ca73b62b12906e06399f2a1f4dd10a7f4558c122f4", func := "marginalia/marginalialaw10.BlockReads", spec := "blockReads", unfollowed := true, recurses := true, apart := false }
def BlockReadsSaid : Prop := blockReadsRow.holds Try.pinned (OpenSpec.ofChange blockReadsSpec)

/-- ITS FALSE NEIGHBOUR: 'it returns false'. Refute it at one input. -/
def blockReadsWrong : ChangeSpec := { name := "blockReads", fn := fun _ => fun
  | [d1, d2, d3, d4, d5] => { results := [.lit (.bool false)], args := [d1, d2, d3, d4, d5] }
  | _ => none }
def BlockReadsWrongFalsely : Prop := blockReadsRow.holds Try.pinned (OpenSpec.ofChange blockReadsWrong)

/-- 'marginalialaw10.BlockBack': WHATEVER THE INPUT: true; the input reads as it did. -/
def blockBackSpec : ChangeSpec := { name := "blockBack", fn := fun _ => fun
  | [d1, d2, d3] => { results := [.lit (.bool true)], args := [d1, d2, d3] }
  | _ => none }
def blockBackRow : OpenClaim := { program := "ytaeacialcbahnaa", sum := "ef3d18d2309fda75b551a5ca73b62b12906e06399f2a1f4dd10a7f4558c122f4", func := "marginalia/marginalialaw10.BlockBack", spec := "blockBack", unfollowed := true, recurses := true, apart := false }
def BlockBackSaid : Prop := blockBackRow.holds Try.pinned (OpenSpec.ofChange blockBackSpec)

/-- ITS FALSE NEIGHBOUR: 'it returns false'. Refute it at one input. -/
def blockBackWrong : ChangeSpec := { name := "blockBack", fn := fun _ => fun
  | [d1, d2, d3] => { results := [.lit (.bool false)], args := [d1, d2, d3] }
  | _ => none }
def BlockBackWrongFalsely : Prop := blockBackRow.holds Try.pinned (OpenSpec.ofChange blockBackWrong)

/-- 'marginalialaw10.BlockDetects': WHATEVER THE INPUT: true; the input reads as it did. -/
def blockDetectsSpec : ChangeSpec := { name := "blockDetects", fn := fun _ => fun
  | [d1, d2, d3, d4, d5] => { results := [.lit (.bool true)], args := [d1, d2, d3, d4, d5] }
  | _ => none }
def blockDetectsRow : OpenClaim := { program := "ytaeacialcbahnaa", sum := "ef3d18d2309fda75b551a5ca73b62b12906e06399f2a1f4dd10a7f4558c122f4", func := "marginalia/marginalialaw10.BlockDetects", spec := "blockDetects", unfollowed := true, recurses := true, apart := false }
def BlockDetectsSaid : Prop := blockDetectsRow.holds Try.pinned (OpenSpec.ofChange blockDetectsSpec)

/-- ITS FALSE NEIGHBOUR: 'it returns false'. Refute it at one input. -/
def blockDetectsWrong : ChangeSpec := { name := "blockDetects", fn := fun _ => fun
  | [d1, d2, d3, d4, d5] => { results := [.lit (.bool false)], args := [d1, d2, d3, d4, d5] }
  | _ => none }
def BlockDetectsWrongFalsely : Prop := blockDetectsRow.holds Try.pinned (OpenSpec.ofChange blockDetectsWrong)

/- THE SECOND FORM. 'bulk': how many values and letters a reading holds, each counted each time it is reached (what is shared counts as often as it is met; a slice's spare places count too). A statement '..UptoSaid' is the law's where the arguments, and the package variables that the reading takes, are together of bulk at most 1048576: NARROWER than '..Said'. Prove '..Said' where nothing that the law and all that it calls make is longer than what came in: it says more and counts as full. Else prove '..UptoSaid'. A law counts once. -/
mutual
def uptoBulk {H : Type} : DataW H → Nat
  | .lit (.string bytes) => bytes.length + 1
  | .lit _ => 1
  | .nil => 1
  | .ptr d => uptoBulk d + 1
  | .slice elems spare => uptoBulkAll elems + uptoBulkAll spare + 1
  | .agg parts => uptoBulkAll parts + 1
  | .iface _ d => uptoBulk d + 1
  | .map entries => uptoBulkEntries entries + 1
  | .held _ => 1
def uptoBulkAll {H : Type} : List (DataW H) → Nat
  | [] => 0
  | d :: r => uptoBulk d + uptoBulkAll r
def uptoBulkEntries {H : Type} : List (Lit × DataW H) → Nat
  | [] => 0
  | x :: r => uptoBulkEntry x + uptoBulkEntries r
def uptoBulkEntry {H : Type} : Lit × DataW H → Nat
  | (.string bytes, d) => bytes.length + uptoBulk d + 1
  | (_, d) => uptoBulk d + 1
 end
def uptoSmall : (H : Type) → List (DataW H) → Bool := fun _ ds => decide (uptoBulkAll ds ≤ 1048576)
def OpenSpec.upto (s : _root_.Go.ChangeSpec) : _root_.Go.OpenSpec := { _root_.Go.OpenSpec.ofChange s with cond := some uptoSmall }

/-- 'marginalialaw11.PropsWhole', WHERE WHAT IT READS IS OF BULK AT MOST 1048576: true; the input reads as it did. -/
def propsWholeUptoRow : OpenClaim := { program := "ytaeacialcbahnaa", sum := "ef3d18d2309fda75b551a5ca73b62b12906e06399f2a1f4dd10a7f4558c122f4", func := "marginalia/marginalialaw11.PropsWhole", spec := "propsWhole", unfollowed := true, recurses := true, apart := false, narrowed := true }
def PropsWholeUptoSaid : Prop := propsWholeUptoRow.holds Try.pinned (OpenSpec.upto propsWholeSpec)

/-- 'marginalialaw11.PropsValid', WHERE WHAT IT READS IS OF BULK AT MOST 1048576: true; the input reads as it did. -/
def propsValidUptoRow : OpenClaim := { program := "ytaeacialcbahnaa", sum := "ef3d18d2309fda75b551a5ca73b62b12906e06399f2a1f4dd10a7f4558c122f4", func := "marginalia/marginalialaw11.PropsValid", spec := "propsValid", unfollowed := true, recurses := true, apart := false, narrowed := true }
def PropsValidUptoSaid : Prop := propsValidUptoRow.holds Try.pinned (OpenSpec.upto propsValidSpec)

/-- 'marginalialaw11.PropsDirects', WHERE WHAT IT READS IS OF BULK AT MOST 1048576: true; the input reads as it did. -/
def propsDirectsUptoRow : OpenClaim := { program := "ytaeacialcbahnaa", sum := "ef3d18d2309fda75b551a5ca73b62b12906e06399f2a1f4dd10a7f4558c122f4", func := "marginalia/marginalialaw11.PropsDirects", spec := "propsDirects", unfollowed := true, recurses := true, apart := false, narrowed := true }
def PropsDirectsUptoSaid : Prop := propsDirectsUptoRow.holds Try.pinned (OpenSpec.upto propsDirectsSpec)

/-- 'marginalialaw11.PropsVersions', WHERE WHAT IT READS IS OF BULK AT MOST 1048576: true; the input reads as it did. -/
def propsVersionsUptoRow : OpenClaim := { program := "ytaeacialcbahnaa", sum := "ef3d18d2309fda75b551a5ca73b62b12906e06399f2a1f4dd10a7f4558c122f4", func := "marginalia/marginalialaw11.PropsVersions", spec := "propsVersions", unfollowed := true, recurses := true, apart := false, narrowed := true }
def PropsVersionsUptoSaid : Prop := propsVersionsUptoRow.holds Try.pinned (OpenSpec.upto propsVersionsSpec)

/-- 'marginalialaw16.TagsPlay', WHERE WHAT IT READS IS OF BULK AT MOST 1048576: true; the input reads as it did. -/
def tagsPlayUptoRow : OpenClaim := { program := "ytaeacialcbahnaa", sum := "ef3d18d2309fda75b551a5ca73b62b12906e06399f2a1f4dd10a7f4558c122f4", func := "marginalia/marginalialaw16.TagsPlay", spec := "tagsPlay", inPlace := ["internal/bytealg.IndexByteString"], unfollowed := true, recurses := true, apart := false, narrowed := true }
def TagsPlayUptoSaid : Prop := tagsPlayUptoRow.holds Try.pinned (OpenSpec.upto tagsPlaySpec)

/-- 'marginalialaw16.TagsBack', WHERE WHAT IT READS IS OF BULK AT MOST 1048576: true; the input reads as it did. -/
def tagsBackUptoRow : OpenClaim := { program := "ytaeacialcbahnaa", sum := "ef3d18d2309fda75b551a5ca73b62b12906e06399f2a1f4dd10a7f4558c122f4", func := "marginalia/marginalialaw16.TagsBack", spec := "tagsBack", inPlace := ["internal/bytealg.IndexByteString"], unfollowed := true, recurses := true, apart := false, narrowed := true }
def TagsBackUptoSaid : Prop := tagsBackUptoRow.holds Try.pinned (OpenSpec.upto tagsBackSpec)

/-- 'marginalialaw10.BlockReads', WHERE WHAT IT READS IS OF BULK AT MOST 1048576: true; the input reads as it did. -/
def blockReadsUptoRow : OpenClaim := { program := "ytaeacialcbahnaa", sum := "ef3d18d2309fda75b551a5ca73b62b12906e06399f2a1f4dd10a7f4558c122f4", func := "marginalia/marginalialaw10.BlockReads", spec := "blockReads", unfollowed := true, recurses := true, apart := false, narrowed := true }
def BlockReadsUptoSaid : Prop := blockReadsUptoRow.holds Try.pinned (OpenSpec.upto blockReadsSpec)

/-- 'marginalialaw10.BlockBack', WHERE WHAT IT READS IS OF BULK AT MOST 1048576: true; the input reads as it did. -/
def blockBackUptoRow : OpenClaim := { program := "ytaeacialcbahnaa", sum := "ef3d18d2309fda75b551a5ca73b62b12906e06399f2a1f4dd10a7f4558c122f4", func := "marginalia/marginalialaw10.BlockBack", spec := "blockBack", unfollowed := true, recurses := true, apart := false, narrowed := true }
def BlockBackUptoSaid : Prop := blockBackUptoRow.holds Try.pinned (OpenSpec.upto blockBackSpec)

/-- 'marginalialaw10.BlockDetects', WHERE WHAT IT READS IS OF BULK AT MOST 1048576: true; the input reads as it did. -/
def blockDetectsUptoRow : OpenClaim := { program := "ytaeacialcbahnaa", sum := "ef3d18d2309fda75b551a5ca73b62b12906e06399f2a1f4dd10a7f4558c122f4", func := "marginalia/marginalialaw10.BlockDetects", spec := "blockDetects", unfollowed := true, recurses := true, apart := false, narrowed := true }
def BlockDetectsUptoSaid : Prop := blockDetectsUptoRow.holds Try.pinned (OpenSpec.upto blockDetectsSpec)

end Rows
end Go.Proofs.Ytaeacialcbahnaa
