/-
  No cell of these rows narrows 'for every input' (looked for: loops, veiled, ifaces, maps, wideKeys, modest, calm, conditions, laid).
  DERIVED. THE GIVEN ROWS OF THIS SEAT. 8 by the template 'for every input the law returns true; each argument reads behind the call as it read before'; 0 by the template 'total and deterministic' (their statements: YtbgohbinonkhfaaTotals.lean).
  GIVEN WITH THE SEED: the statements are not yours to turn. If you find one false, say at which input.
  Laid BY PROGRAM, IN A SANDBOX (cutbox-rows.mjs): the forced cells as the released guide's own fill.sh prints them over the translation feabb98c1769a1c0… (all of the seat's roots in one cut). By AI agents, Wed Nov 11 2026. No macro, syntax, notation, axiom, sorry.
-/
import Derived.Test.YtbgohbinonkhfaaChecked
import GoSem.Claim
import GoSem.ClaimJoined
import GoSem.ClaimMapViews
import Derived.JoinedTies
import Derived.KernelRfl
namespace Go.Proofs.Ytbgohbinonkhfaa
/- THE CELL 'sum', in the pinned program and in every row, IS THE sha256 OF THE DUMP (.gsa) THAT YtbgohbinonkhfaaProg.lean LOADS. Nothing in Lean hashes anything: it is a label: what it is worth is what the hold of that sum in a sandbox is worth. -/
noncomputable def Try.pinned : Pinned := { name := "ytbgohbinonkhfaa", sum := "feabb98c1769a1c02af54dbe9bdc5763b95f0d3606340f22156dc9c1f300db4a", checked := Try.checked }
namespace Rows
def none {H : Type} : Left H := { results := [], args := [] }

/-- 'laws.FnExactChangedRegion': WHATEVER THE INPUT: true; the input reads as it did. -/
def fnExactChangedRegionSpec : ChangeSpec := { name := "fnExactChangedRegion", fn := fun _ => fun
  | [d1, d2] => { results := [.lit (.bool true)], args := [d1, d2] }
  | _ => none }
def fnExactChangedRegionRow : OpenClaim := { program := "ytbgohbinonkhfaa", sum := "feabb98c1769a1c02af54dbe9bdc5763b95f0d3606340f22156dc9c1f300db4a", func := "loop.example/pixelworks/laws.FnExactChangedRegion", spec := "fnExactChangedRegion", unfollowed := true, recurses := true, apart := false }
def FnExactChangedRegionSaid : Prop := fnExactChangedRegionRow.holds Try.pinned (OpenSpec.ofChange fnExactChangedRegionSpec)

/-- ITS FALSE NEIGHBOUR: 'it returns false'. Refute it at one input. -/
def fnExactChangedRegionWrong : ChangeSpec := { name := "fnExactChangedRegion", fn := fun _ => fun
  | [d1, d2] => { results := [.lit (.bool false)], args := [d1, d2] }
  | _ => none }
def FnExactChangedRegionWrongFalsely : Prop := fnExactChangedRegionRow.holds Try.pinned (OpenSpec.ofChange fnExactChangedRegionWrong)

/-- 'laws.FnChangedRegion': WHATEVER THE INPUT: true; the input reads as it did. -/
def fnChangedRegionSpec : ChangeSpec := { name := "fnChangedRegion", fn := fun _ => fun
  | [d] => { results := [.lit (.bool true)], args := [d] }
  | _ => none }
def fnChangedRegionRow : OpenClaim := { program := "ytbgohbinonkhfaa", sum := "feabb98c1769a1c02af54dbe9bdc5763b95f0d3606340f22156dc9c1f300db4a", func := "loop.example/pixelworks/laws.FnChangedRegion", spec := "fnChangedRegion", unfollowed := true, recurses := true, apart := false }
def FnChangedRegionSaid : Prop := fnChangedRegionRow.holds Try.pinned (OpenSpec.ofChange fnChangedRegionSpec)

/-- ITS FALSE NEIGHBOUR: 'it returns false'. Refute it at one input. -/
def fnChangedRegionWrong : ChangeSpec := { name := "fnChangedRegion", fn := fun _ => fun
  | [d] => { results := [.lit (.bool false)], args := [d] }
  | _ => none }
def FnChangedRegionWrongFalsely : Prop := fnChangedRegionRow.holds Try.pinned (OpenSpec.ofChange fnChangedRegionWrong)

/-- 'laws.FnExactFloodRegion': WHATEVER THE INPUT: true; the input reads as it did. -/
def fnExactFloodRegionSpec : ChangeSpec := { name := "fnExactFloodRegion", fn := fun _ => fun
  | [d1, d2, d3, d4] => { results := [.lit (.bool true)], args := [d1, d2, d3, d4] }
  | _ => none }
def fnExactFloodRegionRow : OpenClaim := { program := "ytbgohbinonkhfaa", sum := "feabb98c1769a1c02af54dbe9bdc5763b95f0d3606340f22156dc9c1f300db4a", func := "loop.example/pixelworks/laws.FnExactFloodRegion", spec := "fnExactFloodRegion", unfollowed := true, recurses := true, apart := false }
def FnExactFloodRegionSaid : Prop := fnExactFloodRegionRow.holds Try.pinned (OpenSpec.ofChange fnExactFloodRegionSpec)

/-- ITS FALSE NEIGHBOUR: 'it returns false'. Refute it at one input. -/
def fnExactFloodRegionWrong : ChangeSpec := { name := "fnExactFloodRegion", fn := fun _ => fun
  | [d1, d2, d3, d4] => { results := [.lit (.bool false)], args := [d1, d2, d3, d4] }
  | _ => none }
def FnExactFloodRegionWrongFalsely : Prop := fnExactFloodRegionRow.holds Try.pinned (OpenSpec.ofChange fnExactFloodRegionWrong)

/-- 'laws.FnFloodRegionSame': WHATEVER THE INPUT: true; the input reads as it did. -/
def fnFloodRegionSameSpec : ChangeSpec := { name := "fnFloodRegionSame", fn := fun _ => fun
  | [d] => { results := [.lit (.bool true)], args := [d] }
  | _ => none }
def fnFloodRegionSameRow : OpenClaim := { program := "ytbgohbinonkhfaa", sum := "feabb98c1769a1c02af54dbe9bdc5763b95f0d3606340f22156dc9c1f300db4a", func := "loop.example/pixelworks/laws.FnFloodRegionSame", spec := "fnFloodRegionSame", unfollowed := true, recurses := true, apart := false }
def FnFloodRegionSameSaid : Prop := fnFloodRegionSameRow.holds Try.pinned (OpenSpec.ofChange fnFloodRegionSameSpec)

/-- ITS FALSE NEIGHBOUR: 'it returns false'. Refute it at one input. -/
def fnFloodRegionSameWrong : ChangeSpec := { name := "fnFloodRegionSame", fn := fun _ => fun
  | [d] => { results := [.lit (.bool false)], args := [d] }
  | _ => none }
def FnFloodRegionSameWrongFalsely : Prop := fnFloodRegionSameRow.holds Try.pinned (OpenSpec.ofChange fnFloodRegionSameWrong)

/-- 'laws.FnFloodRegion': WHATEVER THE INPUT: true; the input reads as it did. -/
def fnFloodRegionSpec : ChangeSpec := { name := "fnFloodRegion", fn := fun _ => fun
  | [d] => { results := [.lit (.bool true)], args := [d] }
  | _ => none }
def fnFloodRegionRow : OpenClaim := { program := "ytbgohbinonkhfaa", sum := "feabb98c1769a1c02af54dbe9bdc5763b95f0d3606340f22156dc9c1f300db4a", func := "loop.example/pixelworks/laws.FnFloodRegion", spec := "fnFloodRegion", unfollowed := true, recurses := true, apart := false }
def FnFloodRegionSaid : Prop := fnFloodRegionRow.holds Try.pinned (OpenSpec.ofChange fnFloodRegionSpec)

/-- ITS FALSE NEIGHBOUR: 'it returns false'. Refute it at one input. -/
def fnFloodRegionWrong : ChangeSpec := { name := "fnFloodRegion", fn := fun _ => fun
  | [d] => { results := [.lit (.bool false)], args := [d] }
  | _ => none }
def FnFloodRegionWrongFalsely : Prop := fnFloodRegionRow.holds Try.pinned (OpenSpec.ofChange fnFloodRegionWrong)

/-- 'laws.FnExactChangedBoxes': WHATEVER THE INPUT: true; the input reads as it did. -/
def fnExactChangedBoxesSpec : ChangeSpec := { name := "fnExactChangedBoxes", fn := fun _ => fun
  | [d1, d2] => { results := [.lit (.bool true)], args := [d1, d2] }
  | _ => none }
def fnExactChangedBoxesRow : OpenClaim := { program := "ytbgohbinonkhfaa", sum := "feabb98c1769a1c02af54dbe9bdc5763b95f0d3606340f22156dc9c1f300db4a", func := "loop.example/pixelworks/laws.FnExactChangedBoxes", spec := "fnExactChangedBoxes", unfollowed := true, recurses := true, apart := false }
def FnExactChangedBoxesSaid : Prop := fnExactChangedBoxesRow.holds Try.pinned (OpenSpec.ofChange fnExactChangedBoxesSpec)

/-- ITS FALSE NEIGHBOUR: 'it returns false'. Refute it at one input. -/
def fnExactChangedBoxesWrong : ChangeSpec := { name := "fnExactChangedBoxes", fn := fun _ => fun
  | [d1, d2] => { results := [.lit (.bool false)], args := [d1, d2] }
  | _ => none }
def FnExactChangedBoxesWrongFalsely : Prop := fnExactChangedBoxesRow.holds Try.pinned (OpenSpec.ofChange fnExactChangedBoxesWrong)

/-- 'laws.FnChangedBoxes': WHATEVER THE INPUT: true; the input reads as it did. -/
def fnChangedBoxesSpec : ChangeSpec := { name := "fnChangedBoxes", fn := fun _ => fun
  | [d] => { results := [.lit (.bool true)], args := [d] }
  | _ => none }
def fnChangedBoxesRow : OpenClaim := { program := "ytbgohbinonkhfaa", sum := "feabb98c1769a1c02af54dbe9bdc5763b95f0d3606340f22156dc9c1f300db4a", func := "loop.example/pixelworks/laws.FnChangedBoxes", spec := "fnChangedBoxes", unfollowed := true, recurses := true, apart := false }
def FnChangedBoxesSaid : Prop := fnChangedBoxesRow.holds Try.pinned (OpenSpec.ofChange fnChangedBoxesSpec)

/-- ITS FALSE NEIGHBOUR: 'it returns false'. Refute it at one input. -/
def fnChangedBoxesWrong : ChangeSpec := { name := "fnChangedBoxes", fn := fun _ => fun
  | [d] => { results := [.lit (.bool false)], args := [d] }
  | _ => none }
def FnChangedBoxesWrongFalsely : Prop := fnChangedBoxesRow.holds Try.pinned (OpenSpec.ofChange fnChangedBoxesWrong)

/-- 'laws.FnPatchImage': WHATEVER THE INPUT: true; the input reads as it did. -/
def fnPatchImageSpec : ChangeSpec := { name := "fnPatchImage", fn := fun _ => fun
  | [d] => { results := [.lit (.bool true)], args := [d] }
  | _ => none }
def fnPatchImageRow : OpenClaim := { program := "ytbgohbinonkhfaa", sum := "feabb98c1769a1c02af54dbe9bdc5763b95f0d3606340f22156dc9c1f300db4a", func := "loop.example/pixelworks/laws.FnPatchImage", spec := "fnPatchImage", unfollowed := true, recurses := true, apart := false }
def FnPatchImageSaid : Prop := fnPatchImageRow.holds Try.pinned (OpenSpec.ofChange fnPatchImageSpec)

/-- ITS FALSE NEIGHBOUR: 'it returns false'. Refute it at one input. -/
def fnPatchImageWrong : ChangeSpec := { name := "fnPatchImage", fn := fun _ => fun
  | [d] => { results := [.lit (.bool false)], args := [d] }
  | _ => none }
def FnPatchImageWrongFalsely : Prop := fnPatchImageRow.holds Try.pinned (OpenSpec.ofChange fnPatchImageWrong)

/- THE SECOND FORM. 'bulk': how many values and letters a reading holds, each counted each time it is reached (what is shared counts as often as it is met; a slice's spare places count too). A statement '..UptoSaid' is the law's where the arguments, and the package variables that the reading takes, are together of bulk at most 1048576: NARROWER than '..Said'. Prove '..Said' where nothing that the law and all that it calls make is longer than what came in: it says more and counts as full. Else prove '..UptoSaid'. A law counts once. -/
mutual
def uptoBulk {H : Type} : DataW H → Nat
  | .lit (.string bytes) => bytes.length + 1
  | .lit _ => 1
  | .nil => 1
  | .ptr d => uptoBulk d + 1
  | .slice elems spare => uptoBulkAll elems + uptoBulkAll spare + 1
  | .agg parts => uptoBulkAll parts + 1
  | .iface _ d => uptoBulk d + 1
  | .map entries => uptoBulkEntries entries + 1
  | .held _ => 1
def uptoBulkAll {H : Type} : List (DataW H) → Nat
  | [] => 0
  | d :: r => uptoBulk d + uptoBulkAll r
def uptoBulkEntries {H : Type} : List (Lit × DataW H) → Nat
  | [] => 0
  | x :: r => uptoBulkEntry x + uptoBulkEntries r
def uptoBulkEntry {H : Type} : Lit × DataW H → Nat
  | (.string bytes, d) => bytes.length + uptoBulk d + 1
  | (_, d) => uptoBulk d + 1
 end
def uptoSmall : (H : Type) → List (DataW H) → Bool := fun _ ds => decide (uptoBulkAll ds ≤ 1048576)
def OpenSpec.upto (s : _root_.Go.ChangeSpec) : _root_.Go.OpenSpec := { _root_.Go.OpenSpec.ofChange s with cond := some uptoSmall }

/-- 'laws.FnExactChangedRegion', WHERE WHAT IT READS IS OF BULK AT MOST 1048576: true; the input reads as it did. -/
def fnExactChangedRegionUptoRow : OpenClaim := { program := "ytbgohbinonkhfaa", sum := "feabb98c1769a1c02af54dbe9bdc5763b95f0d3606340f22156dc9c1f300db4a", func := "loop.example/pixelworks/laws.FnExactChangedRegion", spec := "fnExactChangedRegion", unfollowed := true, recurses := true, apart := false, narrowed := true }
def FnExactChangedRegionUptoSaid : Prop := fnExactChangedRegionUptoRow.holds Try.pinned (OpenSpec.upto fnExactChangedRegionSpec)

/-- 'laws.FnChangedRegion', WHERE WHAT IT READS IS OF BULK AT MOST 1048576: true; the input reads as it did. -/
def fnChangedRegionUptoRow : OpenClaim := { program := "ytbgohbinonkhfaa", sum := "feabb98c1769a1c02af54dbe9bdc5763b95f0d3606340f22156dc9c1f300db4a", func := "loop.example/pixelworks/laws.FnChangedRegion", spec := "fnChangedRegion", unfollowed := true, recurses := true, apart := false, narrowed := true }
def FnChangedRegionUptoSaid : Prop := fnChangedRegionUptoRow.holds Try.pinned (OpenSpec.upto fnChangedRegionSpec)

/-- 'laws.FnExactFloodRegion', WHERE WHAT IT READS IS OF BULK AT MOST 1048576: true; the input reads as it did. -/
def fnExactFloodRegionUptoRow : OpenClaim := { program := "ytbgohbinonkhfaa", sum := "feabb98c1769a1c02af54dbe9bdc5763b95f0d3606340f22156dc9c1f300db4a", func := "loop.example/pixelworks/laws.FnExactFloodRegion", spec := "fnExactFloodRegion", unfollowed := true, recurses := true, apart := false, narrowed := true }
def FnExactFloodRegionUptoSaid : Prop := fnExactFloodRegionUptoRow.holds Try.pinned (OpenSpec.upto fnExactFloodRegionSpec)

/-- 'laws.FnFloodRegionSame', WHERE WHAT IT READS IS OF BULK AT MOST 1048576: true; the input reads as it did. -/
def fnFloodRegionSameUptoRow : OpenClaim := { program := "ytbgohbinonkhfaa", sum := "feabb98c1769a1c02af54dbe9bdc5763b95f0d3606340f22156dc9c1f300db4a", func := "loop.example/pixelworks/laws.FnFloodRegionSame", spec := "fnFloodRegionSame", unfollowed := true, recurses := true, apart := false, narrowed := true }
def FnFloodRegionSameUptoSaid : Prop := fnFloodRegionSameUptoRow.holds Try.pinned (OpenSpec.upto fnFloodRegionSameSpec)

/-- 'laws.FnFloodRegion', WHERE WHAT IT READS IS OF BULK AT MOST 1048576: true; the input reads as it did. -/
def fnFloodRegionUptoRow : OpenClaim := { program := "ytbgohbinonkhfaa", sum := "feabb98c1769a1c02af54dbe9bdc5763b95f0d3606340f22156dc9c1f300db4a", func := "loop.example/pixelworks/laws.FnFloodRegion", spec := "fnFloodRegion", unfollowed := true, recurses := true, apart := false, narrowed := true }
def FnFloodRegionUptoSaid : Prop := fnFloodRegionUptoRow.holds Try.pinned (OpenSpec.upto fnFloodRegionSpec)

/-- 'laws.FnExactChangedBoxes', WHERE WHAT IT READS IS OF BULK AT MOST 1048576: true; the input reads as it did. -/
def fnExactChangedBoxesUptoRow : OpenClaim := { program := "ytbgohbinonkhfaa", sum := "feabb98c1769a1c02af54dbe9bdc5763b95f0d3606340f22156dc9c1f300db4a", func := "loop.example/pixelworks/laws.FnExactChangedBoxes", spec := "fnExactChangedBoxes", unfollowed := true, recurses := true, apart := false, narrowed := true }
def FnExactChangedBoxesUptoSaid : Prop := fnExactChangedBoxesUptoRow.holds Try.pinned (OpenSpec.upto fnExactChangedBoxesSpec)

/-- 'laws.FnChangedBoxes', WHERE WHAT IT READS IS OF BULK AT MOST 1048576: true; the input reads as it did. -/
def fnChangedBoxesUptoRow : OpenClaim := { program := "ytbgohbinonkhfaa", sum := "feabb98c1769a1c02af54dbe9bdc5763b95f0d3606340f22156dc9c1f300db4a", func := "loop.example/pixelworks/laws.FnChangedBoxes", spec := "fnChangedBoxes", unfollowed := true, recurses := true, apart := false, narrowed := true }
def FnChangedBoxesUptoSaid : Prop := fnChangedBoxesUptoRow.holds Try.pinned (OpenSpec.upto fnChangedBoxesSpec)

/-- 'laws.FnPatchImage', WHERE WHAT IT READS IS OF BULK AT MOST 1048576: true; the input reads as it did. -/
def fnPatchImageUptoRow : OpenClaim := { program := "ytbgohbinonkhfaa", sum := "feabb98c1769a1c02af54dbe9bdc5763b95f0d3606340f22156dc9c1f300db4a", func := "loop.example/pixelworks/laws.FnPatchImage", spec := "fnPatchImage", unfollowed := true, recurses := true, apart := false, narrowed := true }
def FnPatchImageUptoSaid : Prop := fnPatchImageUptoRow.holds Try.pinned (OpenSpec.upto fnPatchImageSpec)

end Rows
end Go.Proofs.Ytbgohbinonkhfaa
