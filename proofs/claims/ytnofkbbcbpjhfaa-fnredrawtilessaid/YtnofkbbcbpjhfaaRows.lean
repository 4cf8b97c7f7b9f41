/-
  No cell of these rows narrows 'for every input' (looked for: loops, veiled, ifaces, maps, wideKeys, modest, calm, conditions, laid).
  DERIVED. THE GIVEN ROWS OF THIS SEAT. 17 by the template 'for every input the law returns true; each argument reads behind the call as it read before'; 0 by the template 'total and deterministic' (their statements: YtnofkbbcbpjhfaaTotals.lean).
  GIVEN WITH THE SEED: the statements are not yours to turn. If you find one false, say at which input.
  Laid BY PROGRAM, IN A SANDBOX (cutbox-rows.mjs): the forced cells as the released guide's own fill.sh prints them over the translation 37322309042b5c58… (all of the seat's roots in one cut). By AI agents, Wed Nov 11 2026. No macro, syntax, notation, axiom, sorry.
-/
import Derived.Test.YtnofkbbcbpjhfaaChecked
import GoSem.Claim
import GoSem.ClaimJoined
import GoSem.ClaimMapViews
import Derived.JoinedTies
import Derived.KernelRfl
namespace Go.Proofs.Ytnofkbbcbpjhfaa
/- THE CELL 'sum', in the pinned program and in every row, IS THE sha256 OF THE DUMP (.gsa) THAT YtnofkbbcbpjhfaaProg.lean LOADS. Nothing in Lean hashes anything: it is a label: what it is worth is what the hold of that sum in a sandbox is worth. -/
noncomputable def Try.pinned : Pinned := { name := "ytnofkbbcbpjhfaa", sum := "37322309042b5c58c46fa96aa6a994488597a5d9b423ed0ed02dfca0b7422ee9", checked := Try.checked }
namespace Rows
def none {H : Type} : Left H := { results := [], args := [] }

/-- 'laws.FnExactGapOf': WHATEVER THE INPUT: true; the input reads as it did. -/
def fnExactGapOfSpec : ChangeSpec := { name := "fnExactGapOf", fn := fun _ => fun
  | [d1, d2] => { results := [.lit (.bool true)], args := [d1, d2] }
  | _ => none }
def fnExactGapOfRow : OpenClaim := { program := "ytnofkbbcbpjhfaa", sum := "37322309042b5c58c46fa96aa6a994488597a5d9b423ed0ed02dfca0b7422ee9", func := "loop.example/pixelworks/laws.FnExactGapOf", spec := "fnExactGapOf", unfollowed := true, recurses := true, apart := false }
def FnExactGapOfSaid : Prop := fnExactGapOfRow.holds Try.pinned (OpenSpec.ofChange fnExactGapOfSpec)

/-- ITS FALSE NEIGHBOUR: 'it returns false'. Refute it at one input. -/
def fnExactGapOfWrong : ChangeSpec := { name := "fnExactGapOf", fn := fun _ => fun
  | [d1, d2] => { results := [.lit (.bool false)], args := [d1, d2] }
  | _ => none }
def FnExactGapOfWrongFalsely : Prop := fnExactGapOfRow.holds Try.pinned (OpenSpec.ofChange fnExactGapOfWrong)

/-- 'laws.FnGapOf': WHATEVER THE INPUT: true; the input reads as it did. -/
def fnGapOfSpec : ChangeSpec := { name := "fnGapOf", fn := fun _ => fun
  | [d] => { results := [.lit (.bool true)], args := [d] }
  | _ => none }
def fnGapOfRow : OpenClaim := { program := "ytnofkbbcbpjhfaa", sum := "37322309042b5c58c46fa96aa6a994488597a5d9b423ed0ed02dfca0b7422ee9", func := "loop.example/pixelworks/laws.FnGapOf", spec := "fnGapOf", unfollowed := true, recurses := true, apart := false }
def FnGapOfSaid : Prop := fnGapOfRow.holds Try.pinned (OpenSpec.ofChange fnGapOfSpec)

/-- ITS FALSE NEIGHBOUR: 'it returns false'. Refute it at one input. -/
def fnGapOfWrong : ChangeSpec := { name := "fnGapOf", fn := fun _ => fun
  | [d] => { results := [.lit (.bool false)], args := [d] }
  | _ => none }
def FnGapOfWrongFalsely : Prop := fnGapOfRow.holds Try.pinned (OpenSpec.ofChange fnGapOfWrong)

/-- 'laws.FnExactTileBoxes': WHATEVER THE INPUT: true; the input reads as it did. -/
def fnExactTileBoxesSpec : ChangeSpec := { name := "fnExactTileBoxes", fn := fun _ => fun
  | [d] => { results := [.lit (.bool true)], args := [d] }
  | _ => none }
def fnExactTileBoxesRow : OpenClaim := { program := "ytnofkbbcbpjhfaa", sum := "37322309042b5c58c46fa96aa6a994488597a5d9b423ed0ed02dfca0b7422ee9", func := "loop.example/pixelworks/laws.FnExactTileBoxes", spec := "fnExactTileBoxes", unfollowed := true, recurses := true, apart := false }
def FnExactTileBoxesSaid : Prop := fnExactTileBoxesRow.holds Try.pinned (OpenSpec.ofChange fnExactTileBoxesSpec)

/-- ITS FALSE NEIGHBOUR: 'it returns false'. Refute it at one input. -/
def fnExactTileBoxesWrong : ChangeSpec := { name := "fnExactTileBoxes", fn := fun _ => fun
  | [d] => { results := [.lit (.bool false)], args := [d] }
  | _ => none }
def FnExactTileBoxesWrongFalsely : Prop := fnExactTileBoxesRow.holds Try.pinned (OpenSpec.ofChange fnExactTileBoxesWrong)

/-- 'laws.FnTileBoxes': WHATEVER THE INPUT: true; the input reads as it did. -/
def fnTileBoxesSpec : ChangeSpec := { name := "fnTileBoxes", fn := fun _ => fun
  | [d] => { results := [.lit (.bool true)], args := [d] }
  | _ => none }
def fnTileBoxesRow : OpenClaim := { program := "ytnofkbbcbpjhfaa", sum := "37322309042b5c58c46fa96aa6a994488597a5d9b423ed0ed02dfca0b7422ee9", func := "loop.example/pixelworks/laws.FnTileBoxes", spec := "fnTileBoxes", unfollowed := true, recurses := true, apart := false }
def FnTileBoxesSaid : Prop := fnTileBoxesRow.holds Try.pinned (OpenSpec.ofChange fnTileBoxesSpec)

/-- ITS FALSE NEIGHBOUR: 'it returns false'. Refute it at one input. -/
def fnTileBoxesWrong : ChangeSpec := { name := "fnTileBoxes", fn := fun _ => fun
  | [d] => { results := [.lit (.bool false)], args := [d] }
  | _ => none }
def FnTileBoxesWrongFalsely : Prop := fnTileBoxesRow.holds Try.pinned (OpenSpec.ofChange fnTileBoxesWrong)

/-- 'laws.FnExactDirtyTiles': WHATEVER THE INPUT: true; the input reads as it did. -/
def fnExactDirtyTilesSpec : ChangeSpec := { name := "fnExactDirtyTiles", fn := fun _ => fun
  | [d1, d2] => { results := [.lit (.bool true)], args := [d1, d2] }
  | _ => none }
def fnExactDirtyTilesRow : OpenClaim := { program := "ytnofkbbcbpjhfaa", sum := "37322309042b5c58c46fa96aa6a994488597a5d9b423ed0ed02dfca0b7422ee9", func := "loop.example/pixelworks/laws.FnExactDirtyTiles", spec := "fnExactDirtyTiles", unfollowed := true, recurses := true, apart := false }
def FnExactDirtyTilesSaid : Prop := fnExactDirtyTilesRow.holds Try.pinned (OpenSpec.ofChange fnExactDirtyTilesSpec)

/-- ITS FALSE NEIGHBOUR: 'it returns false'. Refute it at one input. -/
def fnExactDirtyTilesWrong : ChangeSpec := { name := "fnExactDirtyTiles", fn := fun _ => fun
  | [d1, d2] => { results := [.lit (.bool false)], args := [d1, d2] }
  | _ => none }
def FnExactDirtyTilesWrongFalsely : Prop := fnExactDirtyTilesRow.holds Try.pinned (OpenSpec.ofChange fnExactDirtyTilesWrong)

/-- 'laws.FnDirtyTiles': WHATEVER THE INPUT: true; the input reads as it did. -/
def fnDirtyTilesSpec : ChangeSpec := { name := "fnDirtyTiles", fn := fun _ => fun
  | [d] => { results := [.lit (.bool true)], args := [d] }
  | _ => none }
def fnDirtyTilesRow : OpenClaim := { program := "ytnofkbbcbpjhfaa", sum := "37322309042b5c58c46fa96aa6a994488597a5d9b423ed0ed02dfca0b7422ee9", func := "loop.example/pixelworks/laws.FnDirtyTiles", spec := "fnDirtyTiles", unfollowed := true, recurses := true, apart := false }
def FnDirtyTilesSaid : Prop := fnDirtyTilesRow.holds Try.pinned (OpenSpec.ofChange fnDirtyTilesSpec)

/-- ITS FALSE NEIGHBOUR: 'it returns false'. Refute it at one input. -/
def fnDirtyTilesWrong : ChangeSpec := { name := "fnDirtyTiles", fn := fun _ => fun
  | [d] => { results := [.lit (.bool false)], args := [d] }
  | _ => none }
def FnDirtyTilesWrongFalsely : Prop := fnDirtyTilesRow.holds Try.pinned (OpenSpec.ofChange fnDirtyTilesWrong)

/-- 'laws.FnExactMergePlanes': WHATEVER THE INPUT: true; the input reads as it did. -/
def fnExactMergePlanesSpec : ChangeSpec := { name := "fnExactMergePlanes", fn := fun _ => fun
  | [d] => { results := [.lit (.bool true)], args := [d] }
  | _ => none }
def fnExactMergePlanesRow : OpenClaim := { program := "ytnofkbbcbpjhfaa", sum := "37322309042b5c58c46fa96aa6a994488597a5d9b423ed0ed02dfca0b7422ee9", func := "loop.example/pixelworks/laws.FnExactMergePlanes", spec := "fnExactMergePlanes", unfollowed := true, recurses := true, apart := false }
def FnExactMergePlanesSaid : Prop := fnExactMergePlanesRow.holds Try.pinned (OpenSpec.ofChange fnExactMergePlanesSpec)

/-- ITS FALSE NEIGHBOUR: 'it returns false'. Refute it at one input. -/
def fnExactMergePlanesWrong : ChangeSpec := { name := "fnExactMergePlanes", fn := fun _ => fun
  | [d] => { results := [.lit (.bool false)], args := [d] }
  | _ => none }
def FnExactMergePlanesWrongFalsely : Prop := fnExactMergePlanesRow.holds Try.pinned (OpenSpec.ofChange fnExactMergePlanesWrong)

/-- 'laws.FnExactCoverImage': WHATEVER THE INPUT: true; the input reads as it did. -/
def fnExactCoverImageSpec : ChangeSpec := { name := "fnExactCoverImage", fn := fun _ => fun
  | [d1, d2] => { results := [.lit (.bool true)], args := [d1, d2] }
  | _ => none }
def fnExactCoverImageRow : OpenClaim := { program := "ytnofkbbcbpjhfaa", sum := "37322309042b5c58c46fa96aa6a994488597a5d9b423ed0ed02dfca0b7422ee9", func := "loop.example/pixelworks/laws.FnExactCoverImage", spec := "fnExactCoverImage", unfollowed := true, recurses := true, apart := false }
def FnExactCoverImageSaid : Prop := fnExactCoverImageRow.holds Try.pinned (OpenSpec.ofChange fnExactCoverImageSpec)

/-- ITS FALSE NEIGHBOUR: 'it returns false'. Refute it at one input. -/
def fnExactCoverImageWrong : ChangeSpec := { name := "fnExactCoverImage", fn := fun _ => fun
  | [d1, d2] => { results := [.lit (.bool false)], args := [d1, d2] }
  | _ => none }
def FnExactCoverImageWrongFalsely : Prop := fnExactCoverImageRow.holds Try.pinned (OpenSpec.ofChange fnExactCoverImageWrong)

/-- 'laws.FnCoverImage': WHATEVER THE INPUT: true; the input reads as it did. -/
def fnCoverImageSpec : ChangeSpec := { name := "fnCoverImage", fn := fun _ => fun
  | [d] => { results := [.lit (.bool true)], args := [d] }
  | _ => none }
def fnCoverImageRow : OpenClaim := { program := "ytnofkbbcbpjhfaa", sum := "37322309042b5c58c46fa96aa6a994488597a5d9b423ed0ed02dfca0b7422ee9", func := "loop.example/pixelworks/laws.FnCoverImage", spec := "fnCoverImage", unfollowed := true, recurses := true, apart := false }
def FnCoverImageSaid : Prop := fnCoverImageRow.holds Try.pinned (OpenSpec.ofChange fnCoverImageSpec)

/-- ITS FALSE NEIGHBOUR: 'it returns false'. Refute it at one input. -/
def fnCoverImageWrong : ChangeSpec := { name := "fnCoverImage", fn := fun _ => fun
  | [d] => { results := [.lit (.bool false)], args := [d] }
  | _ => none }
def FnCoverImageWrongFalsely : Prop := fnCoverImageRow.holds Try.pinned (OpenSpec.ofChange fnCoverImageWrong)

/-- 'laws.FnExactFlattenLayers': WHATEVER THE INPUT: true; the input reads as it did. -/
def fnExactFlattenLayersSpec : ChangeSpec := { name := "fnExactFlattenLayers", fn := fun _ => fun
  | [d1, d2] => { results := [.lit (.bool true)], args := [d1, d2] }
  | _ => none }
def fnExactFlattenLayersRow : OpenClaim := { program := "ytnofkbbcbpjhfaa", sum := "37322309042b5c58c46fa96aa6a994488597a5d9b423ed0ed02dfca0b7422ee9", func := "loop.example/pixelworks/laws.FnExactFlattenLayers", spec := "fnExactFlattenLayers", unfollowed := true, recurses := true, apart := false }
def FnExactFlattenLayersSaid : Prop := fnExactFlattenLayersRow.holds Try.pinned (OpenSpec.ofChange fnExactFlattenLayersSpec)

/-- ITS FALSE NEIGHBOUR: 'it returns false'. Refute it at one input. -/
def fnExactFlattenLayersWrong : ChangeSpec := { name := "fnExactFlattenLayers", fn := fun _ => fun
  | [d1, d2] => { results := [.lit (.bool false)], args := [d1, d2] }
  | _ => none }
def FnExactFlattenLayersWrongFalsely : Prop := fnExactFlattenLayersRow.holds Try.pinned (OpenSpec.ofChange fnExactFlattenLayersWrong)

/-- 'laws.FnFlattenLayers': WHATEVER THE INPUT: true; the input reads as it did. -/
def fnFlattenLayersSpec : ChangeSpec := { name := "fnFlattenLayers", fn := fun _ => fun
  | [d] => { results := [.lit (.bool true)], args := [d] }
  | _ => none }
def fnFlattenLayersRow : OpenClaim := { program := "ytnofkbbcbpjhfaa", sum := "37322309042b5c58c46fa96aa6a994488597a5d9b423ed0ed02dfca0b7422ee9", func := "loop.example/pixelworks/laws.FnFlattenLayers", spec := "fnFlattenLayers", unfollowed := true, recurses := true, apart := false }
def FnFlattenLayersSaid : Prop := fnFlattenLayersRow.holds Try.pinned (OpenSpec.ofChange fnFlattenLayersSpec)

/-- ITS FALSE NEIGHBOUR: 'it returns false'. Refute it at one input. -/
def fnFlattenLayersWrong : ChangeSpec := { name := "fnFlattenLayers", fn := fun _ => fun
  | [d] => { results := [.lit (.bool false)], args := [d] }
  | _ => none }
def FnFlattenLayersWrongFalsely : Prop := fnFlattenLayersRow.holds Try.pinned (OpenSpec.ofChange fnFlattenLayersWrong)

/-- 'laws.FnFlattenLayersHidden': WHATEVER THE INPUT: true; the input reads as it did. -/
def fnFlattenLayersHiddenSpec : ChangeSpec := { name := "fnFlattenLayersHidden", fn := fun _ => fun
  | [d] => { results := [.lit (.bool true)], args := [d] }
  | _ => none }
def fnFlattenLayersHiddenRow : OpenClaim := { program := "ytnofkbbcbpjhfaa", sum := "37322309042b5c58c46fa96aa6a994488597a5d9b423ed0ed02dfca0b7422ee9", func := "loop.example/pixelworks/laws.FnFlattenLayersHidden", spec := "fnFlattenLayersHidden", unfollowed := true, recurses := true, apart := false }
def FnFlattenLayersHiddenSaid : Prop := fnFlattenLayersHiddenRow.holds Try.pinned (OpenSpec.ofChange fnFlattenLayersHiddenSpec)

/-- ITS FALSE NEIGHBOUR: 'it returns false'. Refute it at one input. -/
def fnFlattenLayersHiddenWrong : ChangeSpec := { name := "fnFlattenLayersHidden", fn := fun _ => fun
  | [d] => { results := [.lit (.bool false)], args := [d] }
  | _ => none }
def FnFlattenLayersHiddenWrongFalsely : Prop := fnFlattenLayersHiddenRow.holds Try.pinned (OpenSpec.ofChange fnFlattenLayersHiddenWrong)

/-- 'laws.FnExactPatchImage': WHATEVER THE INPUT: true; the input reads as it did. -/
def fnExactPatchImageSpec : ChangeSpec := { name := "fnExactPatchImage", fn := fun _ => fun
  | [d1, d2, d3] => { results := [.lit (.bool true)], args := [d1, d2, d3] }
  | _ => none }
def fnExactPatchImageRow : OpenClaim := { program := "ytnofkbbcbpjhfaa", sum := "37322309042b5c58c46fa96aa6a994488597a5d9b423ed0ed02dfca0b7422ee9", func := "loop.example/pixelworks/laws.FnExactPatchImage", spec := "fnExactPatchImage", unfollowed := true, recurses := true, apart := false }
def FnExactPatchImageSaid : Prop := fnExactPatchImageRow.holds Try.pinned (OpenSpec.ofChange fnExactPatchImageSpec)

/-- ITS FALSE NEIGHBOUR: 'it returns false'. Refute it at one input. -/
def fnExactPatchImageWrong : ChangeSpec := { name := "fnExactPatchImage", fn := fun _ => fun
  | [d1, d2, d3] => { results := [.lit (.bool false)], args := [d1, d2, d3] }
  | _ => none }
def FnExactPatchImageWrongFalsely : Prop := fnExactPatchImageRow.holds Try.pinned (OpenSpec.ofChange fnExactPatchImageWrong)

/-- 'laws.FnPatchImageTwice': WHATEVER THE INPUT: true; the input reads as it did. -/
def fnPatchImageTwiceSpec : ChangeSpec := { name := "fnPatchImageTwice", fn := fun _ => fun
  | [d] => { results := [.lit (.bool true)], args := [d] }
  | _ => none }
def fnPatchImageTwiceRow : OpenClaim := { program := "ytnofkbbcbpjhfaa", sum := "37322309042b5c58c46fa96aa6a994488597a5d9b423ed0ed02dfca0b7422ee9", func := "loop.example/pixelworks/laws.FnPatchImageTwice", spec := "fnPatchImageTwice", unfollowed := true, recurses := true, apart := false }
def FnPatchImageTwiceSaid : Prop := fnPatchImageTwiceRow.holds Try.pinned (OpenSpec.ofChange fnPatchImageTwiceSpec)

/-- ITS FALSE NEIGHBOUR: 'it returns false'. Refute it at one input. -/
def fnPatchImageTwiceWrong : ChangeSpec := { name := "fnPatchImageTwice", fn := fun _ => fun
  | [d] => { results := [.lit (.bool false)], args := [d] }
  | _ => none }
def FnPatchImageTwiceWrongFalsely : Prop := fnPatchImageTwiceRow.holds Try.pinned (OpenSpec.ofChange fnPatchImageTwiceWrong)

/-- 'laws.FnExactRedrawTiles': WHATEVER THE INPUT: true; the input reads as it did. -/
def fnExactRedrawTilesSpec : ChangeSpec := { name := "fnExactRedrawTiles", fn := fun _ => fun
  | [d1, d2, d3, d4] => { results := [.lit (.bool true)], args := [d1, d2, d3, d4] }
  | _ => none }
def fnExactRedrawTilesRow : OpenClaim := { program := "ytnofkbbcbpjhfaa", sum := "37322309042b5c58c46fa96aa6a994488597a5d9b423ed0ed02dfca0b7422ee9", func := "loop.example/pixelworks/laws.FnExactRedrawTiles", spec := "fnExactRedrawTiles", unfollowed := true, recurses := true, apart := false }
def FnExactRedrawTilesSaid : Prop := fnExactRedrawTilesRow.holds Try.pinned (OpenSpec.ofChange fnExactRedrawTilesSpec)

/-- ITS FALSE NEIGHBOUR: 'it returns false'. Refute it at one input. -/
def fnExactRedrawTilesWrong : ChangeSpec := { name := "fnExactRedrawTiles", fn := fun _ => fun
  | [d1, d2, d3, d4] => { results := [.lit (.bool false)], args := [d1, d2, d3, d4] }
  | _ => none }
def FnExactRedrawTilesWrongFalsely : Prop := fnExactRedrawTilesRow.holds Try.pinned (OpenSpec.ofChange fnExactRedrawTilesWrong)

/-- 'laws.FnRedrawDirty': WHATEVER THE INPUT: true; the input reads as it did. -/
def fnRedrawDirtySpec : ChangeSpec := { name := "fnRedrawDirty", fn := fun _ => fun
  | [d] => { results := [.lit (.bool true)], args := [d] }
  | _ => none }
def fnRedrawDirtyRow : OpenClaim := { program := "ytnofkbbcbpjhfaa", sum := "37322309042b5c58c46fa96aa6a994488597a5d9b423ed0ed02dfca0b7422ee9", func := "loop.example/pixelworks/laws.FnRedrawDirty", spec := "fnRedrawDirty", unfollowed := true, recurses := true, apart := false }
def FnRedrawDirtySaid : Prop := fnRedrawDirtyRow.holds Try.pinned (OpenSpec.ofChange fnRedrawDirtySpec)

/-- ITS FALSE NEIGHBOUR: 'it returns false'. Refute it at one input. -/
def fnRedrawDirtyWrong : ChangeSpec := { name := "fnRedrawDirty", fn := fun _ => fun
  | [d] => { results := [.lit (.bool false)], args := [d] }
  | _ => none }
def FnRedrawDirtyWrongFalsely : Prop := fnRedrawDirtyRow.holds Try.pinned (OpenSpec.ofChange fnRedrawDirtyWrong)

/-- 'laws.FnRedrawTiles': WHATEVER THE INPUT: true; the input reads as it did. -/
def fnRedrawTilesSpec : ChangeSpec := { name := "fnRedrawTiles", fn := fun _ => fun
  | [d] => { results := [.lit (.bool true)], args := [d] }
  | _ => none }
def fnRedrawTilesRow : OpenClaim := { program := "ytnofkbbcbpjhfaa", sum := "37322309042b5c58c46fa96aa6a994488597a5d9b423ed0ed02dfca0b7422ee9", func := "loop.example/pixelworks/laws.FnRedrawTiles", spec := "fnRedrawTiles", unfollowed := true, recurses := true, apart := false }
def FnRedrawTilesSaid : Prop := fnRedrawTilesRow.holds Try.pinned (OpenSpec.ofChange fnRedrawTilesSpec)

/-- ITS FALSE NEIGHBOUR: 'it returns false'. Refute it at one input. -/
def fnRedrawTilesWrong : ChangeSpec := { name := "fnRedrawTiles", fn := fun _ => fun
  | [d] => { results := [.lit (.bool false)], args := [d] }
  | _ => none }
def FnRedrawTilesWrongFalsely : Prop := fnRedrawTilesRow.holds Try.pinned (OpenSpec.ofChange fnRedrawTilesWrong)

/- THE SECOND FORM. 'bulk': how many values and letters a reading holds, each counted each time it is reached (what is shared counts as often as it is met; a slice's spare places count too). A statement '..UptoSaid' is the law's where the arguments, and the package variables that the reading takes, are together of bulk at most 1048576: NARROWER than '..Said'. Prove '..Said' where nothing that the law and all that it calls make is longer than what came in: it says more and counts as full. Else prove '..UptoSaid'. A law counts once. -/
mutual
def uptoBulk {H : Type} : DataW H → Nat
  | .lit (.string bytes) => bytes.length + 1
  | .lit _ => 1
  | .nil => 1
  | .ptr d => uptoBulk d + 1
  | .slice elems spare => uptoBulkAll elems + uptoBulkAll spare + 1
  | .agg parts => uptoBulkAll parts + 1
  | .iface _ d => uptoBulk d + 1
  | .map entries => uptoBulkEntries entries + 1
  | .held _ => 1
def uptoBulkAll {H : Type} : List (DataW H) → Nat
  | [] => 0
  | d :: r => uptoBulk d + uptoBulkAll r
def uptoBulkEntries {H : Type} : List (Lit × DataW H) → Nat
  | [] => 0
  | x :: r => uptoBulkEntry x + uptoBulkEntries r
def uptoBulkEntry {H : Type} : Lit × DataW H → Nat
  | (.string bytes, d) => bytes.length + uptoBulk d + 1
  | (_, d) => uptoBulk d + 1
 end
def uptoSmall : (H : Type) → List (DataW H) → Bool := fun _ ds => decide (uptoBulkAll ds ≤ 1048576)
def OpenSpec.upto (s : _root_.Go.ChangeSpec) : _root_.Go.OpenSpec := { _root_.Go.OpenSpec.ofChange s with cond := some uptoSmall }

/-- 'laws.FnExactGapOf', WHERE WHAT IT READS IS OF BULK AT MOST 1048576: true; the input reads as it did. -/
def fnExactGapOfUptoRow : OpenClaim := { program := "ytnofkbbcbpjhfaa", sum := "37322309042b5c58c46fa96aa6a994488597a5d9b423ed0ed02dfca0b7422ee9", func := "loop.example/pixelworks/laws.FnExactGapOf", spec := "fnExactGapOf", unfollowed := true, recurses := true, apart := false, narrowed := true }
def FnExactGapOfUptoSaid : Prop := fnExactGapOfUptoRow.holds Try.pinned (OpenSpec.upto fnExactGapOfSpec)

/-- 'laws.FnGapOf', WHERE WHAT IT READS IS OF BULK AT MOST 1048576: true; the input reads as it did. -/
def fnGapOfUptoRow : OpenClaim := { program := "ytnofkbbcbpjhfaa", sum := "37322309042b5c58c46fa96aa6a994488597a5d9b423ed0ed02dfca0b7422ee9", func := "loop.example/pixelworks/laws.FnGapOf", spec := "fnGapOf", unfollowed := true, recurses := true, apart := false, narrowed := true }
def FnGapOfUptoSaid : Prop := fnGapOfUptoRow.holds Try.pinned (OpenSpec.upto fnGapOfSpec)

/-- 'laws.FnExactTileBoxes', WHERE WHAT IT READS IS OF BULK AT MOST 1048576: true; the input reads as it did. -/
def fnExactTileBoxesUptoRow : OpenClaim := { program := "ytnofkbbcbpjhfaa", sum := "37322309042b5c58c46fa96aa6a994488597a5d9b423ed0ed02dfca0b7422ee9", func := "loop.example/pixelworks/laws.FnExactTileBoxes", spec := "fnExactTileBoxes", unfollowed := true, recurses := true, apart := false, narrowed := true }
def FnExactTileBoxesUptoSaid : Prop := fnExactTileBoxesUptoRow.holds Try.pinned (OpenSpec.upto fnExactTileBoxesSpec)

/-- 'laws.FnTileBoxes', WHERE WHAT IT READS IS OF BULK AT MOST 1048576: true; the input reads as it did. -/
def fnTileBoxesUptoRow : OpenClaim := { program := "ytnofkbbcbpjhfaa", sum := "37322309042b5c58c46fa96aa6a994488597a5d9b423ed0ed02dfca0b7422ee9", func := "loop.example/pixelworks/laws.FnTileBoxes", spec := "fnTileBoxes", unfollowed := true, recurses := true, apart := false, narrowed := true }
def FnTileBoxesUptoSaid : Prop := fnTileBoxesUptoRow.holds Try.pinned (OpenSpec.upto fnTileBoxesSpec)

/-- 'laws.FnExactDirtyTiles', WHERE WHAT IT READS IS OF BULK AT MOST 1048576: true; the input reads as it did. -/
def fnExactDirtyTilesUptoRow : OpenClaim := { program := "ytnofkbbcbpjhfaa", sum := "37322309042b5c58c46fa96aa6a994488597a5d9b423ed0ed02dfca0b7422ee9", func := "loop.example/pixelworks/laws.FnExactDirtyTiles", spec := "fnExactDirtyTiles", unfollowed := true, recurses := true, apart := false, narrowed := true }
def FnExactDirtyTilesUptoSaid : Prop := fnExactDirtyTilesUptoRow.holds Try.pinned (OpenSpec.upto fnExactDirtyTilesSpec)

/-- 'laws.FnDirtyTiles', WHERE WHAT IT READS IS OF BULK AT MOST 1048576: true; the input reads as it did. -/
def fnDirtyTilesUptoRow : OpenClaim := { program := "ytnofkbbcbpjhfaa", sum := "37322309042b5c58c46fa96aa6a994488597a5d9b423ed0ed02dfca0b7422ee9", func := "loop.example/pixelworks/laws.FnDirtyTiles", spec := "fnDirtyTiles", unfollowed := true, recurses := true, apart := false, narrowed := true }
def FnDirtyTilesUptoSaid : Prop := fnDirtyTilesUptoRow.holds Try.pinned (OpenSpec.upto fnDirtyTilesSpec)

/-- 'laws.FnExactMergePlanes', WHERE WHAT IT READS IS OF BULK AT MOST 1048576: true; the input reads as it did. -/
def fnExactMergePlanesUptoRow : OpenClaim := { program := "ytnofkbbcbpjhfaa", sum := "37322309042b5c58c46fa96aa6a994488597a5d9b423ed0ed02dfca0b7422ee9", func := "loop.example/pixelworks/laws.FnExactMergePlanes", spec := "fnExactMergePlanes", unfollowed := true, recurses := true, apart := false, narrowed := true }
def FnExactMergePlanesUptoSaid : Prop := fnExactMergePlanesUptoRow.holds Try.pinned (OpenSpec.upto fnExactMergePlanesSpec)

/-- 'laws.FnExactCoverImage', WHERE WHAT IT READS IS OF BULK AT MOST 1048576: true; the input reads as it did. -/
def fnExactCoverImageUptoRow : OpenClaim := { program := "ytnofkbbcbpjhfaa", sum := "37322309042b5c58c46fa96aa6a994488597a5d9b423ed0ed02dfca0b7422ee9", func := "loop.example/pixelworks/laws.FnExactCoverImage", spec := "fnExactCoverImage", unfollowed := true, recurses := true, apart := false, narrowed := true }
def FnExactCoverImageUptoSaid : Prop := fnExactCoverImageUptoRow.holds Try.pinned (OpenSpec.upto fnExactCoverImageSpec)

/-- 'laws.FnCoverImage', WHERE WHAT IT READS IS OF BULK AT MOST 1048576: true; the input reads as it did. -/
def fnCoverImageUptoRow : OpenClaim := { program := "ytnofkbbcbpjhfaa", sum := "37322309042b5c58c46fa96aa6a994488597a5d9b423ed0ed02dfca0b7422ee9", func := "loop.example/pixelworks/laws.FnCoverImage", spec := "fnCoverImage", unfollowed := true, recurses := true, apart := false, narrowed := true }
def FnCoverImageUptoSaid : Prop := fnCoverImageUptoRow.holds Try.pinned (OpenSpec.upto fnCoverImageSpec)

/-- 'laws.FnExactFlattenLayers', WHERE WHAT IT READS IS OF BULK AT MOST 1048576: true; the input reads as it did. -/
def fnExactFlattenLayersUptoRow : OpenClaim := { program := "ytnofkbbcbpjhfaa", sum := "37322309042b5c58c46fa96aa6a994488597a5d9b423ed0ed02dfca0b7422ee9", func := "loop.example/pixelworks/laws.FnExactFlattenLayers", spec := "fnExactFlattenLayers", unfollowed := true, recurses := true, apart := false, narrowed := true }
def FnExactFlattenLayersUptoSaid : Prop := fnExactFlattenLayersUptoRow.holds Try.pinned (OpenSpec.upto fnExactFlattenLayersSpec)

/-- 'laws.FnFlattenLayers', WHERE WHAT IT READS IS OF BULK AT MOST 1048576: true; the input reads as it did. -/
def fnFlattenLayersUptoRow : OpenClaim := { program := "ytnofkbbcbpjhfaa", sum := "37322309042b5c58c46fa96aa6a994488597a5d9b423ed0ed02dfca0b7422ee9", func := "loop.example/pixelworks/laws.FnFlattenLayers", spec := "fnFlattenLayers", unfollowed := true, recurses := true, apart := false, narrowed := true }
def FnFlattenLayersUptoSaid : Prop := fnFlattenLayersUptoRow.holds Try.pinned (OpenSpec.upto fnFlattenLayersSpec)

/-- 'laws.FnFlattenLayersHidden', WHERE WHAT IT READS IS OF BULK AT MOST 1048576: true; the input reads as it did. -/
def fnFlattenLayersHiddenUptoRow : OpenClaim := { program := "ytnofkbbcbpjhfaa", sum := "37322309042b5c58c46fa96aa6a994488597a5d9b423ed0ed02dfca0b7422ee9", func := "loop.example/pixelworks/laws.FnFlattenLayersHidden", spec := "fnFlattenLayersHidden", unfollowed := true, recurses := true, apart := false, narrowed := true }
def FnFlattenLayersHiddenUptoSaid : Prop := fnFlattenLayersHiddenUptoRow.holds Try.pinned (OpenSpec.upto fnFlattenLayersHiddenSpec)

/-- 'laws.FnExactPatchImage', WHERE WHAT IT READS IS OF BULK AT MOST 1048576: true; the input reads as it did. -/
def fnExactPatchImageUptoRow : OpenClaim := { program := "ytnofkbbcbpjhfaa", sum := "37322309042b5c58c46fa96aa6a994488597a5d9b423ed0ed02dfca0b7422ee9", func := "loop.example/pixelworks/laws.FnExactPatchImage", spec := "fnExactPatchImage", unfollowed := true, recurses := true, apart := false, narrowed := true }
def FnExactPatchImageUptoSaid : Prop := fnExactPatchImageUptoRow.holds Try.pinned (OpenSpec.upto fnExactPatchImageSpec)

/-- 'laws.FnPatchImageTwice', WHERE WHAT IT READS IS OF BULK AT MOST 1048576: true; the input reads as it did. -/
def fnPatchImageTwiceUptoRow : OpenClaim := { program := "ytnofkbbcbpjhfaa", sum := "37322309042b5c58c46fa96aa6a994488597a5d9b423ed0ed02dfca0b7422ee9", func := "loop.example/pixelworks/laws.FnPatchImageTwice", spec := "fnPatchImageTwice", unfollowed := true, recurses := true, apart := false, narrowed := true }
def FnPatchImageTwiceUptoSaid : Prop := fnPatchImageTwiceUptoRow.holds Try.pinned (OpenSpec.upto fnPatchImageTwiceSpec)

/-- 'laws.FnExactRedrawTiles', WHERE WHAT IT READS IS OF BULK AT MOST 1048576: true; the input reads as it did. -/
def fnExactRedrawTilesUptoRow : OpenClaim := { program := "ytnofkbbcbpjhfaa", sum := "37322309042b5c58c46fa96aa6a994488597a5d9b423ed0ed02dfca0b7422ee9", func := "loop.example/pixelworks/laws.FnExactRedrawTiles", spec := "fnExactRedrawTiles", unfollowed := true, recurses := true, apart := false, narrowed := true }
def FnExactRedrawTilesUptoSaid : Prop := fnExactRedrawTilesUptoRow.holds Try.pinned (OpenSpec.upto fnExactRedrawTilesSpec)

/-- 'laws.FnRedrawDirty', WHERE WHAT IT READS IS OF BULK AT MOST 1048576: true; the input reads as it did. -/
def fnRedrawDirtyUptoRow : OpenClaim := { program := "ytnofkbbcbpjhfaa", sum := "37322309042b5c58c46fa96aa6a994488597a5d9b423ed0ed02dfca0b7422ee9", func := "loop.example/pixelworks/laws.FnRedrawDirty", spec := "fnRedrawDirty", unfollowed := true, recurses := true, apart := false, narrowed := true }
def FnRedrawDirtyUptoSaid : Prop := fnRedrawDirtyUptoRow.holds Try.pinned (OpenSpec.upto fnRedrawDirtySpec)

/-- 'laws.FnRedrawTiles', WHERE WHAT IT READS IS OF BULK AT MOST 1048576: true; the input reads as it did. -/
def fnRedrawTilesUptoRow : OpenClaim := { program := "ytnofkbbcbpjhfaa", sum := "37322309042b5c58c46fa96aa6a994488597a5d9b423ed0ed02dfca0b7422ee9", func := "loop.example/pixelworks/laws.FnRedrawTiles", spec := "fnRedrawTiles", unfollowed := true, recurses := true, apart := false, narrowed := true }
def FnRedrawTilesUptoSaid : Prop := fnRedrawTilesUptoRow.holds Try.pinned (OpenSpec.upto fnRedrawTilesSpec)

end Rows
end Go.Proofs.Ytnofkbbcbpjhfaa
