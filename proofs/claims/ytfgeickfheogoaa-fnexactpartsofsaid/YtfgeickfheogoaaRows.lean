/-
  No cell of these rows narrows 'for every input' (looked for: loops, veiled, ifaces, maps, wideKeys, modest, calm, conditions, laid).
  DERIVED. THE GIVEN ROWS OF THIS SEAT. 14 by the template 'for every input the law returns true; each argument reads behind the call as it read before'; 0 by the template 'total and deterministic' (their statements: YtfgeickfheogoaaTotals.lean).
  GIVEN WITH THE SEED: the statements are not yours to turn. If you find one false, say at which input.
  Laid BY PROGRAM, IN A SANDBOX (cutbox-rows.mjs): the forced cells as the released guide's own fill.sh prints them over the translation 0e77bc0a1a183358… (all of the seat's roots in one cut). By AI agents, Wed Nov 11 2026. No macro, syntax, notation, axiom, sorry.
-/
import Derived.Test.YtfgeickfheogoaaChecked
import GoSem.Claim
import GoSem.ClaimJoined
import GoSem.ClaimMapViews
import Derived.JoinedTies
import Derived.KernelRfl
namespace Go.Proofs.Ytfgeickfheogoaa
/- THE CELL 'sum', in the pinned program and in every row, IS THE sha256 OF THE DUMP (.gsa) THAT YtfgeickfheogoaaProg.lean LOADS. Nothing in Lean hashes anything: it is a label: what it is worth is what the hold of that sum in a sandbox is worth. -/
noncomputable def Try.pinned : Pinned := { name := "ytfgeickfheogoaa", sum := "0e77bc0a1a18335879edb729f198bf215b908375c810cc514fe256125df72d83", checked := Try.checked }
namespace Rows
def none {H : Type} : Left H := { results := [], args := [] }

/-- 'laws.FnExactValidRegion': WHATEVER THE INPUT: true; the input reads as it did. -/
def fnExactValidRegionSpec : ChangeSpec := { name := "fnExactValidRegion", fn := fun _ => fun
  | [d] => { results := [.lit (.bool true)], args := [d] }
  | _ => none }
def fnExactValidRegionRow : OpenClaim := { program := "ytfgeickfheogoaa", sum := "0e77bc0a1a18335879edb729f198bf215b908375c810cc514fe256125df72d83", func := "loop.example/pixelworks/laws.FnExactValidRegion", spec := "fnExactValidRegion", apart := false }
def FnExactValidRegionSaid : Prop := fnExactValidRegionRow.holds Try.pinned (OpenSpec.ofChange fnExactValidRegionSpec)

/-- ITS FALSE NEIGHBOUR: 'it returns false'. Refute it at one input. -/
def fnExactValidRegionWrong : ChangeSpec := { name := "fnExactValidRegion", fn := fun _ => fun
  | [d] => { results := [.lit (.bool false)], args := [d] }
  | _ => none }
def FnExactValidRegionWrongFalsely : Prop := fnExactValidRegionRow.holds Try.pinned (OpenSpec.ofChange fnExactValidRegionWrong)

/-- 'laws.FnExactAreaOf': WHATEVER THE INPUT: true; the input reads as it did. -/
def fnExactAreaOfSpec : ChangeSpec := { name := "fnExactAreaOf", fn := fun _ => fun
  | [d] => { results := [.lit (.bool true)], args := [d] }
  | _ => none }
def fnExactAreaOfRow : OpenClaim := { program := "ytfgeickfheogoaa", sum := "0e77bc0a1a18335879edb729f198bf215b908375c810cc514fe256125df72d83", func := "loop.example/pixelworks/laws.FnExactAreaOf", spec := "fnExactAreaOf", apart := false }
def FnExactAreaOfSaid : Prop := fnExactAreaOfRow.holds Try.pinned (OpenSpec.ofChange fnExactAreaOfSpec)

/-- ITS FALSE NEIGHBOUR: 'it returns false'. Refute it at one input. -/
def fnExactAreaOfWrong : ChangeSpec := { name := "fnExactAreaOf", fn := fun _ => fun
  | [d] => { results := [.lit (.bool false)], args := [d] }
  | _ => none }
def FnExactAreaOfWrongFalsely : Prop := fnExactAreaOfRow.holds Try.pinned (OpenSpec.ofChange fnExactAreaOfWrong)

/-- 'laws.FnExactRegionHas': WHATEVER THE INPUT: true; the input reads as it did. -/
def fnExactRegionHasSpec : ChangeSpec := { name := "fnExactRegionHas", fn := fun _ => fun
  | [d1, d2, d3] => { results := [.lit (.bool true)], args := [d1, d2, d3] }
  | _ => none }
def fnExactRegionHasRow : OpenClaim := { program := "ytfgeickfheogoaa", sum := "0e77bc0a1a18335879edb729f198bf215b908375c810cc514fe256125df72d83", func := "loop.example/pixelworks/laws.FnExactRegionHas", spec := "fnExactRegionHas", apart := false }
def FnExactRegionHasSaid : Prop := fnExactRegionHasRow.holds Try.pinned (OpenSpec.ofChange fnExactRegionHasSpec)

/-- ITS FALSE NEIGHBOUR: 'it returns false'. Refute it at one input. -/
def fnExactRegionHasWrong : ChangeSpec := { name := "fnExactRegionHas", fn := fun _ => fun
  | [d1, d2, d3] => { results := [.lit (.bool false)], args := [d1, d2, d3] }
  | _ => none }
def FnExactRegionHasWrongFalsely : Prop := fnExactRegionHasRow.holds Try.pinned (OpenSpec.ofChange fnExactRegionHasWrong)

/-- 'laws.FnExactBoxRegion': WHATEVER THE INPUT: true; the input reads as it did. -/
def fnExactBoxRegionSpec : ChangeSpec := { name := "fnExactBoxRegion", fn := fun _ => fun
  | [d] => { results := [.lit (.bool true)], args := [d] }
  | _ => none }
def fnExactBoxRegionRow : OpenClaim := { program := "ytfgeickfheogoaa", sum := "0e77bc0a1a18335879edb729f198bf215b908375c810cc514fe256125df72d83", func := "loop.example/pixelworks/laws.FnExactBoxRegion", spec := "fnExactBoxRegion", unfollowed := true, recurses := true, apart := false }
def FnExactBoxRegionSaid : Prop := fnExactBoxRegionRow.holds Try.pinned (OpenSpec.ofChange fnExactBoxRegionSpec)

/-- ITS FALSE NEIGHBOUR: 'it returns false'. Refute it at one input. -/
def fnExactBoxRegionWrong : ChangeSpec := { name := "fnExactBoxRegion", fn := fun _ => fun
  | [d] => { results := [.lit (.bool false)], args := [d] }
  | _ => none }
def FnExactBoxRegionWrongFalsely : Prop := fnExactBoxRegionRow.holds Try.pinned (OpenSpec.ofChange fnExactBoxRegionWrong)

/-- 'laws.FnExactBoundsOf': WHATEVER THE INPUT: true; the input reads as it did. -/
def fnExactBoundsOfSpec : ChangeSpec := { name := "fnExactBoundsOf", fn := fun _ => fun
  | [d] => { results := [.lit (.bool true)], args := [d] }
  | _ => none }
def fnExactBoundsOfRow : OpenClaim := { program := "ytfgeickfheogoaa", sum := "0e77bc0a1a18335879edb729f198bf215b908375c810cc514fe256125df72d83", func := "loop.example/pixelworks/laws.FnExactBoundsOf", spec := "fnExactBoundsOf", apart := false }
def FnExactBoundsOfSaid : Prop := fnExactBoundsOfRow.holds Try.pinned (OpenSpec.ofChange fnExactBoundsOfSpec)

/-- ITS FALSE NEIGHBOUR: 'it returns false'. Refute it at one input. -/
def fnExactBoundsOfWrong : ChangeSpec := { name := "fnExactBoundsOf", fn := fun _ => fun
  | [d] => { results := [.lit (.bool false)], args := [d] }
  | _ => none }
def FnExactBoundsOfWrongFalsely : Prop := fnExactBoundsOfRow.holds Try.pinned (OpenSpec.ofChange fnExactBoundsOfWrong)

/-- 'laws.FnBoxRegion': WHATEVER THE INPUT: true; the input reads as it did. -/
def fnBoxRegionSpec : ChangeSpec := { name := "fnBoxRegion", fn := fun _ => fun
  | [d] => { results := [.lit (.bool true)], args := [d] }
  | _ => none }
def fnBoxRegionRow : OpenClaim := { program := "ytfgeickfheogoaa", sum := "0e77bc0a1a18335879edb729f198bf215b908375c810cc514fe256125df72d83", func := "loop.example/pixelworks/laws.FnBoxRegion", spec := "fnBoxRegion", unfollowed := true, recurses := true, apart := false }
def FnBoxRegionSaid : Prop := fnBoxRegionRow.holds Try.pinned (OpenSpec.ofChange fnBoxRegionSpec)

/-- ITS FALSE NEIGHBOUR: 'it returns false'. Refute it at one input. -/
def fnBoxRegionWrong : ChangeSpec := { name := "fnBoxRegion", fn := fun _ => fun
  | [d] => { results := [.lit (.bool false)], args := [d] }
  | _ => none }
def FnBoxRegionWrongFalsely : Prop := fnBoxRegionRow.holds Try.pinned (OpenSpec.ofChange fnBoxRegionWrong)

/-- 'laws.FnEdgeOfBox': WHATEVER THE INPUT: true; the input reads as it did. -/
def fnEdgeOfBoxSpec : ChangeSpec := { name := "fnEdgeOfBox", fn := fun _ => fun
  | [d] => { results := [.lit (.bool true)], args := [d] }
  | _ => none }
def fnEdgeOfBoxRow : OpenClaim := { program := "ytfgeickfheogoaa", sum := "0e77bc0a1a18335879edb729f198bf215b908375c810cc514fe256125df72d83", func := "loop.example/pixelworks/laws.FnEdgeOfBox", spec := "fnEdgeOfBox", unfollowed := true, recurses := true, apart := false }
def FnEdgeOfBoxSaid : Prop := fnEdgeOfBoxRow.holds Try.pinned (OpenSpec.ofChange fnEdgeOfBoxSpec)

/-- ITS FALSE NEIGHBOUR: 'it returns false'. Refute it at one input. -/
def fnEdgeOfBoxWrong : ChangeSpec := { name := "fnEdgeOfBox", fn := fun _ => fun
  | [d] => { results := [.lit (.bool false)], args := [d] }
  | _ => none }
def FnEdgeOfBoxWrongFalsely : Prop := fnEdgeOfBoxRow.holds Try.pinned (OpenSpec.ofChange fnEdgeOfBoxWrong)

/-- 'laws.FnExactShiftRegion': WHATEVER THE INPUT: true; the input reads as it did. -/
def fnExactShiftRegionSpec : ChangeSpec := { name := "fnExactShiftRegion", fn := fun _ => fun
  | [d1, d2, d3] => { results := [.lit (.bool true)], args := [d1, d2, d3] }
  | _ => none }
def fnExactShiftRegionRow : OpenClaim := { program := "ytfgeickfheogoaa", sum := "0e77bc0a1a18335879edb729f198bf215b908375c810cc514fe256125df72d83", func := "loop.example/pixelworks/laws.FnExactShiftRegion", spec := "fnExactShiftRegion", unfollowed := true, recurses := true, apart := false }
def FnExactShiftRegionSaid : Prop := fnExactShiftRegionRow.holds Try.pinned (OpenSpec.ofChange fnExactShiftRegionSpec)

/-- ITS FALSE NEIGHBOUR: 'it returns false'. Refute it at one input. -/
def fnExactShiftRegionWrong : ChangeSpec := { name := "fnExactShiftRegion", fn := fun _ => fun
  | [d1, d2, d3] => { results := [.lit (.bool false)], args := [d1, d2, d3] }
  | _ => none }
def FnExactShiftRegionWrongFalsely : Prop := fnExactShiftRegionRow.holds Try.pinned (OpenSpec.ofChange fnExactShiftRegionWrong)

/-- 'laws.FnExactEdgeOf': WHATEVER THE INPUT: true; the input reads as it did. -/
def fnExactEdgeOfSpec : ChangeSpec := { name := "fnExactEdgeOf", fn := fun _ => fun
  | [d] => { results := [.lit (.bool true)], args := [d] }
  | _ => none }
def fnExactEdgeOfRow : OpenClaim := { program := "ytfgeickfheogoaa", sum := "0e77bc0a1a18335879edb729f198bf215b908375c810cc514fe256125df72d83", func := "loop.example/pixelworks/laws.FnExactEdgeOf", spec := "fnExactEdgeOf", unfollowed := true, recurses := true, apart := false }
def FnExactEdgeOfSaid : Prop := fnExactEdgeOfRow.holds Try.pinned (OpenSpec.ofChange fnExactEdgeOfSpec)

/-- ITS FALSE NEIGHBOUR: 'it returns false'. Refute it at one input. -/
def fnExactEdgeOfWrong : ChangeSpec := { name := "fnExactEdgeOf", fn := fun _ => fun
  | [d] => { results := [.lit (.bool false)], args := [d] }
  | _ => none }
def FnExactEdgeOfWrongFalsely : Prop := fnExactEdgeOfRow.holds Try.pinned (OpenSpec.ofChange fnExactEdgeOfWrong)

/-- 'laws.FnExactCombineRegions': WHATEVER THE INPUT: true; the input reads as it did. -/
def fnExactCombineRegionsSpec : ChangeSpec := { name := "fnExactCombineRegions", fn := fun _ => fun
  | [d1, d2, d3] => { results := [.lit (.bool true)], args := [d1, d2, d3] }
  | _ => none }
def fnExactCombineRegionsRow : OpenClaim := { program := "ytfgeickfheogoaa", sum := "0e77bc0a1a18335879edb729f198bf215b908375c810cc514fe256125df72d83", func := "loop.example/pixelworks/laws.FnExactCombineRegions", spec := "fnExactCombineRegions", unfollowed := true, recurses := true, apart := false }
def FnExactCombineRegionsSaid : Prop := fnExactCombineRegionsRow.holds Try.pinned (OpenSpec.ofChange fnExactCombineRegionsSpec)

/-- ITS FALSE NEIGHBOUR: 'it returns false'. Refute it at one input. -/
def fnExactCombineRegionsWrong : ChangeSpec := { name := "fnExactCombineRegions", fn := fun _ => fun
  | [d1, d2, d3] => { results := [.lit (.bool false)], args := [d1, d2, d3] }
  | _ => none }
def FnExactCombineRegionsWrongFalsely : Prop := fnExactCombineRegionsRow.holds Try.pinned (OpenSpec.ofChange fnExactCombineRegionsWrong)

/-- 'laws.FnExactGrowRegion': WHATEVER THE INPUT: true; the input reads as it did. -/
def fnExactGrowRegionSpec : ChangeSpec := { name := "fnExactGrowRegion", fn := fun _ => fun
  | [d1, d2] => { results := [.lit (.bool true)], args := [d1, d2] }
  | _ => none }
def fnExactGrowRegionRow : OpenClaim := { program := "ytfgeickfheogoaa", sum := "0e77bc0a1a18335879edb729f198bf215b908375c810cc514fe256125df72d83", func := "loop.example/pixelworks/laws.FnExactGrowRegion", spec := "fnExactGrowRegion", unfollowed := true, recurses := true, apart := false }
def FnExactGrowRegionSaid : Prop := fnExactGrowRegionRow.holds Try.pinned (OpenSpec.ofChange fnExactGrowRegionSpec)

/-- ITS FALSE NEIGHBOUR: 'it returns false'. Refute it at one input. -/
def fnExactGrowRegionWrong : ChangeSpec := { name := "fnExactGrowRegion", fn := fun _ => fun
  | [d1, d2] => { results := [.lit (.bool false)], args := [d1, d2] }
  | _ => none }
def FnExactGrowRegionWrongFalsely : Prop := fnExactGrowRegionRow.holds Try.pinned (OpenSpec.ofChange fnExactGrowRegionWrong)

/-- 'laws.FnExactShrinkRegion': WHATEVER THE INPUT: true; the input reads as it did. -/
def fnExactShrinkRegionSpec : ChangeSpec := { name := "fnExactShrinkRegion", fn := fun _ => fun
  | [d1, d2] => { results := [.lit (.bool true)], args := [d1, d2] }
  | _ => none }
def fnExactShrinkRegionRow : OpenClaim := { program := "ytfgeickfheogoaa", sum := "0e77bc0a1a18335879edb729f198bf215b908375c810cc514fe256125df72d83", func := "loop.example/pixelworks/laws.FnExactShrinkRegion", spec := "fnExactShrinkRegion", unfollowed := true, recurses := true, apart := false }
def FnExactShrinkRegionSaid : Prop := fnExactShrinkRegionRow.holds Try.pinned (OpenSpec.ofChange fnExactShrinkRegionSpec)

/-- ITS FALSE NEIGHBOUR: 'it returns false'. Refute it at one input. -/
def fnExactShrinkRegionWrong : ChangeSpec := { name := "fnExactShrinkRegion", fn := fun _ => fun
  | [d1, d2] => { results := [.lit (.bool false)], args := [d1, d2] }
  | _ => none }
def FnExactShrinkRegionWrongFalsely : Prop := fnExactShrinkRegionRow.holds Try.pinned (OpenSpec.ofChange fnExactShrinkRegionWrong)

/-- 'laws.FnExactOpenRegion': WHATEVER THE INPUT: true; the input reads as it did. -/
def fnExactOpenRegionSpec : ChangeSpec := { name := "fnExactOpenRegion", fn := fun _ => fun
  | [d1, d2] => { results := [.lit (.bool true)], args := [d1, d2] }
  | _ => none }
def fnExactOpenRegionRow : OpenClaim := { program := "ytfgeickfheogoaa", sum := "0e77bc0a1a18335879edb729f198bf215b908375c810cc514fe256125df72d83", func := "loop.example/pixelworks/laws.FnExactOpenRegion", spec := "fnExactOpenRegion", unfollowed := true, recurses := true, apart := false }
def FnExactOpenRegionSaid : Prop := fnExactOpenRegionRow.holds Try.pinned (OpenSpec.ofChange fnExactOpenRegionSpec)

/-- ITS FALSE NEIGHBOUR: 'it returns false'. Refute it at one input. -/
def fnExactOpenRegionWrong : ChangeSpec := { name := "fnExactOpenRegion", fn := fun _ => fun
  | [d1, d2] => { results := [.lit (.bool false)], args := [d1, d2] }
  | _ => none }
def FnExactOpenRegionWrongFalsely : Prop := fnExactOpenRegionRow.holds Try.pinned (OpenSpec.ofChange fnExactOpenRegionWrong)

/-- 'laws.FnExactPartsOf': WHATEVER THE INPUT: true; the input reads as it did. -/
def fnExactPartsOfSpec : ChangeSpec := { name := "fnExactPartsOf", fn := fun _ => fun
  | [d] => { results := [.lit (.bool true)], args := [d] }
  | _ => none }
def fnExactPartsOfRow : OpenClaim := { program := "ytfgeickfheogoaa", sum := "0e77bc0a1a18335879edb729f198bf215b908375c810cc514fe256125df72d83", func := "loop.example/pixelworks/laws.FnExactPartsOf", spec := "fnExactPartsOf", unfollowed := true, recurses := true, apart := false }
def FnExactPartsOfSaid : Prop := fnExactPartsOfRow.holds Try.pinned (OpenSpec.ofChange fnExactPartsOfSpec)

/-- ITS FALSE NEIGHBOUR: 'it returns false'. Refute it at one input. -/
def fnExactPartsOfWrong : ChangeSpec := { name := "fnExactPartsOf", fn := fun _ => fun
  | [d] => { results := [.lit (.bool false)], args := [d] }
  | _ => none }
def FnExactPartsOfWrongFalsely : Prop := fnExactPartsOfRow.holds Try.pinned (OpenSpec.ofChange fnExactPartsOfWrong)

/- THE SECOND FORM. 'bulk': how many values and letters a reading holds, each counted each time it is reached (what is shared counts as often as it is met; a slice's spare places count too). A statement '..UptoSaid' is the law's where the arguments, and the package variables that the reading takes, are together of bulk at most 1048576: NARROWER than '..Said'. Prove '..Said' where nothing that the law and all that it calls make is longer than what came in: it says more and counts as full. Else prove '..UptoSaid'. A law counts once. -/
mutual
def uptoBulk {H : Type} : DataW H → Nat
  | .lit (.string bytes) => bytes.length + 1
  | .lit _ => 1
  | .nil => 1
  | .ptr d => uptoBulk d + 1
  | .slice elems spare => uptoBulkAll elems + uptoBulkAll spare + 1
  | .agg parts => uptoBulkAll parts + 1
  | .iface _ d => uptoBulk d + 1
  | .map entries => uptoBulkEntries entries + 1
  | .held _ => 1
def uptoBulkAll {H : Type} : List (DataW H) → Nat
  | [] => 0
  | d :: r => uptoBulk d + uptoBulkAll r
def uptoBulkEntries {H : Type} : List (Lit × DataW H) → Nat
  | [] => 0
  | x :: r => uptoBulkEntry x + uptoBulkEntries r
def uptoBulkEntry {H : Type} : Lit × DataW H → Nat
  | (.string bytes, d) => bytes.length + uptoBulk d + 1
  | (_, d) => uptoBulk d + 1
 end
def uptoSmall : (H : Type) → List (DataW H) → Bool := fun _ ds => decide (uptoBulkAll ds ≤ 1048576)
def OpenSpec.upto (s : _root_.Go.ChangeSpec) : _root_.Go.OpenSpec := { _root_.Go.OpenSpec.ofChange s with cond := some uptoSmall }

/-- 'laws.FnExactValidRegion', WHERE WHAT IT READS IS OF BULK AT MOST 1048576: true; the input reads as it did. -/
def fnExactValidRegionUptoRow : OpenClaim := { program := "ytfgeickfheogoaa", sum := "0e77bc0a1a18335879edb729f198bf215b908375c810cc514fe256125df72d83", func := "loop.example/pixelworks/laws.FnExactValidRegion", spec := "fnExactValidRegion", apart := false, narrowed := true }
def FnExactValidRegionUptoSaid : Prop := fnExactValidRegionUptoRow.holds Try.pinned (OpenSpec.upto fnExactValidRegionSpec)

/-- 'laws.FnExactAreaOf', WHERE WHAT IT READS IS OF BULK AT MOST 1048576: true; the input reads as it did. -/
def fnExactAreaOfUptoRow : OpenClaim := { program := "ytfgeickfheogoaa", sum := "0e77bc0a1a18335879edb729f198bf215b908375c810cc514fe256125df72d83", func := "loop.example/pixelworks/laws.FnExactAreaOf", spec := "fnExactAreaOf", apart := false, narrowed := true }
def FnExactAreaOfUptoSaid : Prop := fnExactAreaOfUptoRow.holds Try.pinned (OpenSpec.upto fnExactAreaOfSpec)

/-- 'laws.FnExactRegionHas', WHERE WHAT IT READS IS OF BULK AT MOST 1048576: true; the input reads as it did. -/
def fnExactRegionHasUptoRow : OpenClaim := { program := "ytfgeickfheogoaa", sum := "0e77bc0a1a18335879edb729f198bf215b908375c810cc514fe256125df72d83", func := "loop.example/pixelworks/laws.FnExactRegionHas", spec := "fnExactRegionHas", apart := false, narrowed := true }
def FnExactRegionHasUptoSaid : Prop := fnExactRegionHasUptoRow.holds Try.pinned (OpenSpec.upto fnExactRegionHasSpec)

/-- 'laws.FnExactBoxRegion', WHERE WHAT IT READS IS OF BULK AT MOST 1048576: true; the input reads as it did. -/
def fnExactBoxRegionUptoRow : OpenClaim := { program := "ytfgeickfheogoaa", sum := "0e77bc0a1a18335879edb729f198bf215b908375c810cc514fe256125df72d83", func := "loop.example/pixelworks/laws.FnExactBoxRegion", spec := "fnExactBoxRegion", unfollowed := true, recurses := true, apart := false, narrowed := true }
def FnExactBoxRegionUptoSaid : Prop := fnExactBoxRegionUptoRow.holds Try.pinned (OpenSpec.upto fnExactBoxRegionSpec)

/-- 'laws.FnExactBoundsOf', WHERE WHAT IT READS IS OF BULK AT MOST 1048576: true; the input reads as it did. -/
def fnExactBoundsOfUptoRow : OpenClaim := { program := "ytfgeickfheogoaa", sum := "0e77bc0a1a18335879edb729f198bf215b908375c810cc514fe256125df72d83", func := "loop.example/pixelworks/laws.FnExactBoundsOf", spec := "fnExactBoundsOf", apart := false, narrowed := true }
def FnExactBoundsOfUptoSaid : Prop := fnExactBoundsOfUptoRow.holds Try.pinned (OpenSpec.upto fnExactBoundsOfSpec)

/-- 'laws.FnBoxRegion', WHERE WHAT IT READS IS OF BULK AT MOST 1048576: true; the input reads as it did. -/
def fnBoxRegionUptoRow : OpenClaim := { program := "ytfgeickfheogoaa", sum := "0e77bc0a1a18335879edb729f198bf215b908375c810cc514fe256125df72d83", func := "loop.example/pixelworks/laws.FnBoxRegion", spec := "fnBoxRegion", unfollowed := true, recurses := true, apart := false, narrowed := true }
def FnBoxRegionUptoSaid : Prop := fnBoxRegionUptoRow.holds Try.pinned (OpenSpec.upto fnBoxRegionSpec)

/-- 'laws.FnEdgeOfBox', WHERE WHAT IT READS IS OF BULK AT MOST 1048576: true; the input reads as it did. -/
def fnEdgeOfBoxUptoRow : OpenClaim := { program := "ytfgeickfheogoaa", sum := "0e77bc0a1a18335879edb729f198bf215b908375c810cc514fe256125df72d83", func := "loop.example/pixelworks/laws.FnEdgeOfBox", spec := "fnEdgeOfBox", unfollowed := true, recurses := true, apart := false, narrowed := true }
def FnEdgeOfBoxUptoSaid : Prop := fnEdgeOfBoxUptoRow.holds Try.pinned (OpenSpec.upto fnEdgeOfBoxSpec)

/-- 'laws.FnExactShiftRegion', WHERE WHAT IT READS IS OF BULK AT MOST 1048576: true; the input reads as it did. -/
def fnExactShiftRegionUptoRow : OpenClaim := { program := "ytfgeickfheogoaa", sum := "0e77bc0a1a18335879edb729f198bf215b908375c810cc514fe256125df72d83", func := "loop.example/pixelworks/laws.FnExactShiftRegion", spec := "fnExactShiftRegion", unfollowed := true, recurses := true, apart := false, narrowed := true }
def FnExactShiftRegionUptoSaid : Prop := fnExactShiftRegionUptoRow.holds Try.pinned (OpenSpec.upto fnExactShiftRegionSpec)

/-- 'laws.FnExactEdgeOf', WHERE WHAT IT READS IS OF BULK AT MOST 1048576: true; the input reads as it did. -/
def fnExactEdgeOfUptoRow : OpenClaim := { program := "ytfgeickfheogoaa", sum := "0e77bc0a1a18335879edb729f198bf215b908375c810cc514fe256125df72d83", func := "loop.example/pixelworks/laws.FnExactEdgeOf", spec := "fnExactEdgeOf", unfollowed := true, recurses := true, apart := false, narrowed := true }
def FnExactEdgeOfUptoSaid : Prop := fnExactEdgeOfUptoRow.holds Try.pinned (OpenSpec.upto fnExactEdgeOfSpec)

/-- 'laws.FnExactCombineRegions', WHERE WHAT IT READS IS OF BULK AT MOST 1048576: true; the input reads as it did. -/
def fnExactCombineRegionsUptoRow : OpenClaim := { program := "ytfgeickfheogoaa", sum := "0e77bc0a1a18335879edb729f198bf215b908375c810cc514fe256125df72d83", func := "loop.example/pixelworks/laws.FnExactCombineRegions", spec := "fnExactCombineRegions", unfollowed := true, recurses := true, apart := false, narrowed := true }
def FnExactCombineRegionsUptoSaid : Prop := fnExactCombineRegionsUptoRow.holds Try.pinned (OpenSpec.upto fnExactCombineRegionsSpec)

/-- 'laws.FnExactGrowRegion', WHERE WHAT IT READS IS OF BULK AT MOST 1048576: true; the input reads as it did. -/
def fnExactGrowRegionUptoRow : OpenClaim := { program := "ytfgeickfheogoaa", sum := "0e77bc0a1a18335879edb729f198bf215b908375c810cc514fe256125df72d83", func := "loop.example/pixelworks/laws.FnExactGrowRegion", spec := "fnExactGrowRegion", unfollowed := true, recurses := true, apart := false, narrowed := true }
def FnExactGrowRegionUptoSaid : Prop := fnExactGrowRegionUptoRow.holds Try.pinned (OpenSpec.upto fnExactGrowRegionSpec)

/-- 'laws.FnExactShrinkRegion', WHERE WHAT IT READS IS OF BULK AT MOST 1048576: true; the input reads as it did. -/
def fnExactShrinkRegionUptoRow : OpenClaim := { program := "ytfgeickfheogoaa", sum := "0e77bc0a1a18335879edb729f198bf215b908375c810cc514fe256125df72d83", func := "loop.example/pixelworks/laws.FnExactShrinkRegion", spec := "fnExactShrinkRegion", unfollowed := true, recurses := true, apart := false, narrowed := true }
def FnExactShrinkRegionUptoSaid : Prop := fnExactShrinkRegionUptoRow.holds Try.pinned (OpenSpec.upto fnExactShrinkRegionSpec)

/-- 'laws.FnExactOpenRegion', WHERE WHAT IT READS IS OF BULK AT MOST 1048576: true; the input reads as it did. -/
def fnExactOpenRegionUptoRow : OpenClaim := { program := "ytfgeickfheogoaa", sum := "0e77bc0a1a18335879edb729f198bf215b908375c810cc514fe256125df72d83", func := "loop.example/pixelworks/laws.FnExactOpenRegion", spec := "fnExactOpenRegion", unfollowed := true, recurses := true, apart := false, narrowed := true }
def FnExactOpenRegionUptoSaid : Prop := fnExactOpenRegionUptoRow.holds Try.pinned (OpenSpec.upto fnExactOpenRegionSpec)

/-- 'laws.FnExactPartsOf', WHERE WHAT IT READS IS OF BULK AT MOST 1048576: true; the input reads as it did. -/
def fnExactPartsOfUptoRow : OpenClaim := { program := "ytfgeickfheogoaa", sum := "0e77bc0a1a18335879edb729f198bf215b908375c810cc514fe256125df72d83", func := "loop.example/pixelworks/laws.FnExactPartsOf", spec := "fnExactPartsOf", unfollowed := true, recurses := true, apart := false, narrowed := true }
def FnExactPartsOfUptoSaid : Prop := fnExactPartsOfUptoRow.holds Try.pinned (OpenSpec.upto fnExactPartsOfSpec)

end Rows
end Go.Proofs.Ytfgeickfheogoaa
