/-
  No cell of these rows narrows 'for every input' (looked for: loops, veiled, ifaces, maps, wideKeys, modest, calm, conditions, laid).
  DERIVED. THE GIVEN ROWS OF THIS SEAT. 7 by the template 'for every input the law returns true; each argument reads behind the call as it read before'; 0 by the template 'total and deterministic' (their statements: YthkabaiamcjdbaaGreatTotals.lean).
  GIVEN WITH THE SEED: the statements are not yours to turn. If you find one false, say at which input.
  Laid BY PROGRAM, IN A SANDBOX (cutbox-rows.mjs): the forced cells as the released guide's own fill.sh prints them over the translation 0a7f287f52ef7bb0… (all of the seat's roots in one cut). By AI agents, Wed Nov 11 2026. No macro, syntax, notation, axiom, sorry.
-/
import Derived.Test.YthkabaiamcjdbaaGreatChecked
import GoSem.Claim
import GoSem.ClaimJoined
import GoSem.ClaimMapViews
import Derived.JoinedTies
import Derived.KernelRfl
namespace Go.Proofs.YthkabaiamcjdbaaGreat
/- THE CELL 'sum', in the pinned program and in every row, IS THE sha256 OF THE DUMP (.gsa) THAT YthkabaiamcjdbaaGreatProg.lean LOADS. Nothing in Lean hashes anything: it is a label: what it is worth is what the hold of that sum in a sandbox is worth. -/
noncomputable def Tryz.pinned : Pinned := { name := "ythkabaiamcjdbaagreat", sum := "0a7f287f52ef7bb0c0c118bdb53b0a2d21e8df57a5fe84c744ed92d8288e56ad", checked := Tryz.checked }
namespace Rows
def none {H : Type} : Left H := { results := [], args := [] }

/-- 'marginalialaw14.ParserLists': WHATEVER THE INPUT: true; the input reads as it did. -/
def parserListsSpec : ChangeSpec := { name := "parserLists", fn := fun _ => fun
  | [d1, d2, d3] => { results := [.lit (.bool true)], args := [d1, d2, d3] }
  | _ => none }
def parserListsRow : OpenClaim := { program := "ythkabaiamcjdbaagreat", sum := "0a7f287f52ef7bb0c0c118bdb53b0a2d21e8df57a5fe84c744ed92d8288e56ad", func := "marginalia/marginalialaw14.ParserLists", spec := "parserLists", unfollowed := true, recurses := true, apart := false }
def ParserListsSaid : Prop := parserListsRow.holds Tryz.pinned (OpenSpec.ofChange parserListsSpec)

/-- ITS FALSE NEIGHBOUR: 'it returns false'. Refute it at one input. -/
def parserListsWrong : ChangeSpec := { name := "parserLists", fn := fun _ => fun
  | [d1, d2, d3] => { results := [.lit (.bool false)], args := [d1, d2, d3] }
  | _ => none }
def ParserListsWrongFalsely : Prop := parserListsRow.holds Tryz.pinned (OpenSpec.ofChange parserListsWrong)

/-- 'marginalialaw14.ParserMaps': WHATEVER THE INPUT: true; the input reads as it did. -/
def parserMapsSpec : ChangeSpec := { name := "parserMaps", fn := fun _ => fun
  | [d1, d2] => { results := [.lit (.bool true)], args := [d1, d2] }
  | _ => none }
def parserMapsRow : OpenClaim := { program := "ythkabaiamcjdbaagreat", sum := "0a7f287f52ef7bb0c0c118bdb53b0a2d21e8df57a5fe84c744ed92d8288e56ad", func := "marginalia/marginalialaw14.ParserMaps", spec := "parserMaps", unfollowed := true, recurses := true, apart := false }
def ParserMapsSaid : Prop := parserMapsRow.holds Tryz.pinned (OpenSpec.ofChange parserMapsSpec)

/-- ITS FALSE NEIGHBOUR: 'it returns false'. Refute it at one input. -/
def parserMapsWrong : ChangeSpec := { name := "parserMaps", fn := fun _ => fun
  | [d1, d2] => { results := [.lit (.bool false)], args := [d1, d2] }
  | _ => none }
def ParserMapsWrongFalsely : Prop := parserMapsRow.holds Tryz.pinned (OpenSpec.ofChange parserMapsWrong)

/-- 'marginalialaw14.ParserDeep': WHATEVER THE INPUT: true; the input reads as it did. -/
def parserDeepSpec : ChangeSpec := { name := "parserDeep", fn := fun _ => fun
  | [d1, d2] => { results := [.lit (.bool true)], args := [d1, d2] }
  | _ => none }
def parserDeepRow : OpenClaim := { program := "ythkabaiamcjdbaagreat", sum := "0a7f287f52ef7bb0c0c118bdb53b0a2d21e8df57a5fe84c744ed92d8288e56ad", func := "marginalia/marginalialaw14.ParserDeep", spec := "parserDeep", unfollowed := true, recurses := true, apart := false }
def ParserDeepSaid : Prop := parserDeepRow.holds Tryz.pinned (OpenSpec.ofChange parserDeepSpec)

/-- ITS FALSE NEIGHBOUR: 'it returns false'. Refute it at one input. -/
def parserDeepWrong : ChangeSpec := { name := "parserDeep", fn := fun _ => fun
  | [d1, d2] => { results := [.lit (.bool false)], args := [d1, d2] }
  | _ => none }
def ParserDeepWrongFalsely : Prop := parserDeepRow.holds Tryz.pinned (OpenSpec.ofChange parserDeepWrong)

/-- 'marginalialaw14.ParserScalars': WHATEVER THE INPUT: true; the input reads as it did. -/
def parserScalarsSpec : ChangeSpec := { name := "parserScalars", fn := fun _ => fun
  | [d1, d2, d3] => { results := [.lit (.bool true)], args := [d1, d2, d3] }
  | _ => none }
def parserScalarsRow : OpenClaim := { program := "ythkabaiamcjdbaagreat", sum := "0a7f287f52ef7bb0c0c118bdb53b0a2d21e8df57a5fe84c744ed92d8288e56ad", func := "marginalia/marginalialaw14.ParserScalars", spec := "parserScalars", unfollowed := true, recurses := true, apart := false }
def ParserScalarsSaid : Prop := parserScalarsRow.holds Tryz.pinned (OpenSpec.ofChange parserScalarsSpec)

/-- ITS FALSE NEIGHBOUR: 'it returns false'. Refute it at one input. -/
def parserScalarsWrong : ChangeSpec := { name := "parserScalars", fn := fun _ => fun
  | [d1, d2, d3] => { results := [.lit (.bool false)], args := [d1, d2, d3] }
  | _ => none }
def ParserScalarsWrongFalsely : Prop := parserScalarsRow.holds Tryz.pinned (OpenSpec.ofChange parserScalarsWrong)

/-- 'marginalialaw14.ParserBehind': WHATEVER THE INPUT: true; the input reads as it did. -/
def parserBehindSpec : ChangeSpec := { name := "parserBehind", fn := fun _ => fun
  | [d1, d2] => { results := [.lit (.bool true)], args := [d1, d2] }
  | _ => none }
def parserBehindRow : OpenClaim := { program := "ythkabaiamcjdbaagreat", sum := "0a7f287f52ef7bb0c0c118bdb53b0a2d21e8df57a5fe84c744ed92d8288e56ad", func := "marginalia/marginalialaw14.ParserBehind", spec := "parserBehind", unfollowed := true, recurses := true, apart := false }
def ParserBehindSaid : Prop := parserBehindRow.holds Tryz.pinned (OpenSpec.ofChange parserBehindSpec)

/-- ITS FALSE NEIGHBOUR: 'it returns false'. Refute it at one input. -/
def parserBehindWrong : ChangeSpec := { name := "parserBehind", fn := fun _ => fun
  | [d1, d2] => { results := [.lit (.bool false)], args := [d1, d2] }
  | _ => none }
def ParserBehindWrongFalsely : Prop := parserBehindRow.holds Tryz.pinned (OpenSpec.ofChange parserBehindWrong)

/-- 'marginalialaw15.StreamDirects': WHATEVER THE INPUT: true; the input reads as it did. -/
def streamDirectsSpec : ChangeSpec := { name := "streamDirects", fn := fun _ => fun
  | [d1, d2, d3, d4] => { results := [.lit (.bool true)], args := [d1, d2, d3, d4] }
  | _ => none }
def streamDirectsRow : OpenClaim := { program := "ythkabaiamcjdbaagreat", sum := "0a7f287f52ef7bb0c0c118bdb53b0a2d21e8df57a5fe84c744ed92d8288e56ad", func := "marginalia/marginalialaw15.StreamDirects", spec := "streamDirects", inPlace := ["internal/bytealg.IndexByteString"], unfollowed := true, recurses := true, apart := false }
def StreamDirectsSaid : Prop := streamDirectsRow.holds Tryz.pinned (OpenSpec.ofChange streamDirectsSpec)

/-- ITS FALSE NEIGHBOUR: 'it returns false'. Refute it at one input. -/
def streamDirectsWrong : ChangeSpec := { name := "streamDirects", fn := fun _ => fun
  | [d1, d2, d3, d4] => { results := [.lit (.bool false)], args := [d1, d2, d3, d4] }
  | _ => none }
def StreamDirectsWrongFalsely : Prop := streamDirectsRow.holds Tryz.pinned (OpenSpec.ofChange streamDirectsWrong)

/-- 'marginalialaw15.StreamMarkers': WHATEVER THE INPUT: true; the input reads as it did. -/
def streamMarkersSpec : ChangeSpec := { name := "streamMarkers", fn := fun _ => fun
  | [d] => { results := [.lit (.bool true)], args := [d] }
  | _ => none }
def streamMarkersRow : OpenClaim := { program := "ythkabaiamcjdbaagreat", sum := "0a7f287f52ef7bb0c0c118bdb53b0a2d21e8df57a5fe84c744ed92d8288e56ad", func := "marginalia/marginalialaw15.StreamMarkers", spec := "streamMarkers", inPlace := ["internal/bytealg.IndexByteString"], unfollowed := true, recurses := true, apart := false }
def StreamMarkersSaid : Prop := streamMarkersRow.holds Tryz.pinned (OpenSpec.ofChange streamMarkersSpec)

/-- ITS FALSE NEIGHBOUR: 'it returns false'. Refute it at one input. -/
def streamMarkersWrong : ChangeSpec := { name := "streamMarkers", fn := fun _ => fun
  | [d] => { results := [.lit (.bool false)], args := [d] }
  | _ => none }
def StreamMarkersWrongFalsely : Prop := streamMarkersRow.holds Tryz.pinned (OpenSpec.ofChange streamMarkersWrong)

/- THE SECOND FORM. 'bulk': how many values and letters a reading holds, each counted each time it is reached (what is shared counts as often as it is met; a slice's spare places count too). A statement '..UptoSaid' is the law's where the arguments, and the package variables that the reading takes, are together of bulk at most 1048576: NARROWER than '..Said'. Prove '..Said' where nothing that the law and all that it calls make is longer than what came in: it says more and counts as full. Else prove '..UptoSaid'. A law counts once. -/
mutual
def uptoBulk {H : Type} : DataW H → Nat
  | .lit (.string bytes) => bytes.length + 1
  | .lit _ => 1
  | .nil => 1
  | .ptr d => uptoBulk d + 1
  | .slice elems spare => uptoBulkAll elems + uptoBulkAll spare + 1
  | .agg parts => uptoBulkAll parts + 1
  | .iface _ d => uptoBulk d + 1
  | .map entries => uptoBulkEntries entries + 1
  | .held _ => 1
def uptoBulkAll {H : Type} : List (DataW H) → Nat
  | [] => 0
  | d :: r => uptoBulk d + uptoBulkAll r
def uptoBulkEntries {H : Type} : List (Lit × DataW H) → Nat
  | [] => 0
  | x :: r => uptoBulkEntry x + uptoBulkEntries r
def uptoBulkEntry {H : Type} : Lit × DataW H → Nat
  | (.string bytes, d) => bytes.length + uptoBulk d + 1
  | (_, d) => uptoBulk d + 1
 end
def uptoSmall : (H : Type) → List (DataW H) → Bool := fun _ ds => decide (uptoBulkAll ds ≤ 1048576)
def OpenSpec.upto (s : _root_.Go.ChangeSpec) : _root_.Go.OpenSpec := { _root_.Go.OpenSpec.ofChange s with cond := some uptoSmall }

/-- 'marginalialaw14.ParserLists', WHERE WHAT IT READS IS OF BULK AT MOST 1048576: true; the input reads as it did. -/
def parserListsUptoRow : OpenClaim := { program := "ythkabaiamcjdbaagreat", sum := "0a7f287f52ef7bb0c0c118bdb53b0a2d21e8df57a5fe84c744ed92d8288e56ad", func := "marginalia/marginalialaw14.ParserLists", spec := "parserLists", unfollowed := true, recurses := true, apart := false, narrowed := true }
def ParserListsUptoSaid : Prop := parserListsUptoRow.holds Tryz.pinned (OpenSpec.upto parserListsSpec)

/-- 'marginalialaw14.ParserMaps', WHERE WHAT IT READS IS OF BULK AT MOST 1048576: true; the input reads as it did. -/
def parserMapsUptoRow : OpenClaim := { program := "ythkabaiamcjdbaagreat", sum := "0a7f287f52ef7bb0c0c118bdb53b0a2d21e8df57a5fe84c744ed92d8288e56ad", func := "marginalia/marginalialaw14.ParserMaps", spec := "parserMaps", unfollowed := true, recurses := true, apart := false, narrowed := true }
def ParserMapsUptoSaid : Prop := parserMapsUptoRow.holds Tryz.pinned (OpenSpec.upto parserMapsSpec)

/-- 'marginalialaw14.ParserDeep', WHERE WHAT IT READS IS OF BULK AT MOST 1048576: true; the input reads as it did. -/
def parserDeepUptoRow : OpenClaim := { program := "ythkabaiamcjdbaagreat", sum := "0a7f287f52ef7bb0c0c118bdb53b0a2d21e8df57a5fe84c744ed92d8288e56ad", func := "marginalia/marginalialaw14.ParserDeep", spec := "parserDeep", unfollowed := true, recurses := true, apart := false, narrowed := true }
def ParserDeepUptoSaid : Prop := parserDeepUptoRow.holds Tryz.pinned (OpenSpec.upto parserDeepSpec)

/-- 'marginalialaw14.ParserScalars', WHERE WHAT IT READS IS OF BULK AT MOST 1048576: true; the input reads as it did. -/
def parserScalarsUptoRow : OpenClaim := { program := "ythkabaiamcjdbaagreat", sum := "0a7f287f52ef7bb0c0c118bdb53b0a2d21e8df57a5fe84c744ed92d8288e56ad", func := "marginalia/marginalialaw14.ParserScalars", spec := "parserScalars", unfollowed := true, recurses := true, apart := false, narrowed := true }
def ParserScalarsUptoSaid : Prop := parserScalarsUptoRow.holds Tryz.pinned (OpenSpec.upto parserScalarsSpec)

/-- 'marginalialaw14.ParserBehind', WHERE WHAT IT READS IS OF BULK AT MOST 1048576: true; the input reads as it did. -/
def parserBehindUptoRow : OpenClaim := { program := "ythkabaiamcjdbaagreat", sum := "0a7f287f52ef7bb0c0c118bdb53b0a2d21e8df57a5fe84c744ed92d8288e56ad", func := "marginalia/marginalialaw14.ParserBehind", spec := "parserBehind", unfollowed := true, recurses := true, apart := false, narrowed := true }
def ParserBehindUptoSaid : Prop := parserBehindUptoRow.holds Tryz.pinned (OpenSpec.upto parserBehindSpec)

/-- 'marginalialaw15.StreamDirects', WHERE WHAT IT READS IS OF BULK AT MOST 1048576: true; the input reads as it did. -/
def streamDirectsUptoRow : OpenClaim := { program := "ythkabaiamcjdbaagreat", sum := "0a7f287f52ef7bb0c0c118bdb53b0a2d21e8df57a5fe84c744ed92d8288e56ad", func := "marginalia/marginalialaw15.StreamDirects", spec := "streamDirects", inPlace := ["internal/bytealg.IndexByteString"], unfollowed := true, recurses := true, apart := false, narrowed := true }
def StreamDirectsUptoSaid : Prop := streamDirectsUptoRow.holds Tryz.pinned (OpenSpec.upto streamDirectsSpec)

/-- 'marginalialaw15.StreamMarkers', WHERE WHAT IT READS IS OF BULK AT MOST 1048576: true; the input reads as it did. -/
def streamMarkersUptoRow : OpenClaim := { program := "ythkabaiamcjdbaagreat", sum := "0a7f287f52ef7bb0c0c118bdb53b0a2d21e8df57a5fe84c744ed92d8288e56ad", func := "marginalia/marginalialaw15.StreamMarkers", spec := "streamMarkers", inPlace := ["internal/bytealg.IndexByteString"], unfollowed := true, recurses := true, apart := false, narrowed := true }
def StreamMarkersUptoSaid : Prop := streamMarkersUptoRow.holds Tryz.pinned (OpenSpec.upto streamMarkersSpec)

end Rows
end Go.Proofs.YthkabaiamcjdbaaGreat
