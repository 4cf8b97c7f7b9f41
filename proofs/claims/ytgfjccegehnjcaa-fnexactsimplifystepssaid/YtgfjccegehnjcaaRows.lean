/-
  No cell of these rows narrows 'for every input' (looked for: loops, veiled, ifaces, maps, wideKeys, modest, calm, conditions, laid).
  DERIVED. THE GIVEN ROWS OF THIS SEAT. 14 by the template 'for every input the law returns true; each argument reads behind the call as it read before'; 0 by the template 'total and deterministic' (their statements: YtgfjccegehnjcaaTotals.lean).
  GIVEN WITH THE SEED: the statements are not yours to turn. If you find one false, say at which input.
  Laid BY PROGRAM, IN A SANDBOX (cutbox-rows.mjs): the forced cells as the released guide's own fill.sh prints them over the translation 8787e1d9a4e070b1… (all of the seat's roots in one cut). By AI agents, Wed Nov 11 2026. No macro, syntax, notation, axiom, sorry.
-/
import Derived.Test.YtgfjccegehnjcaaChecked
import GoSem.Claim
import GoSem.ClaimJoined
import GoSem.ClaimMapViews
import Derived.JoinedTies
import Derived.KernelRfl
namespace Go.Proofs.Ytgfjccegehnjcaa
/- THE CELL 'sum', in the pinned program and in every row, IS THE sha256 OF THE DUMP (.gsa) THAT YtgfjccegehnjcaaProg.lean LOADS. Nothing in Lean hashes anything: it is a label: what it is worth is what the hold of that sum in a sandbox is worth. -/
noncomputable def Try.pinned : Pinned := { name := "ytgfjccegehnjcaa", sum := "8787e1d9a4e070b17420185ddea55eb32190858537fe39dcb187018847761f7a", checked := Try.checked }
namespace Rows
def none {H : Type} : Left H := { results := [], args := [] }

/-- 'laws.FnExactBlendNumber': WHATEVER THE INPUT: true; the input reads as it did. -/
def fnExactBlendNumberSpec : ChangeSpec := { name := "fnExactBlendNumber", fn := fun _ => fun
  | [d1, d2, d3, d4] => { results := [.lit (.bool true)], args := [d1, d2, d3, d4] }
  | _ => none }
def fnExactBlendNumberRow : OpenClaim := { program := "ytgfjccegehnjcaa", sum := "8787e1d9a4e070b17420185ddea55eb32190858537fe39dcb187018847761f7a", func := "loop.example/pixelworks/laws.FnExactBlendNumber", spec := "fnExactBlendNumber", unfollowed := true, recurses := true, apart := false }
def FnExactBlendNumberSaid : Prop := fnExactBlendNumberRow.holds Try.pinned (OpenSpec.ofChange fnExactBlendNumberSpec)

/-- ITS FALSE NEIGHBOUR: 'it returns false'. Refute it at one input. -/
def fnExactBlendNumberWrong : ChangeSpec := { name := "fnExactBlendNumber", fn := fun _ => fun
  | [d1, d2, d3, d4] => { results := [.lit (.bool false)], args := [d1, d2, d3, d4] }
  | _ => none }
def FnExactBlendNumberWrongFalsely : Prop := fnExactBlendNumberRow.holds Try.pinned (OpenSpec.ofChange fnExactBlendNumberWrong)

/-- 'laws.FnExactValidPacking': WHATEVER THE INPUT: true; the input reads as it did. -/
def fnExactValidPackingSpec : ChangeSpec := { name := "fnExactValidPacking", fn := fun _ => fun
  | [d1, d2, d3] => { results := [.lit (.bool true)], args := [d1, d2, d3] }
  | _ => none }
def fnExactValidPackingRow : OpenClaim := { program := "ytgfjccegehnjcaa", sum := "8787e1d9a4e070b17420185ddea55eb32190858537fe39dcb187018847761f7a", func := "loop.example/pixelworks/laws.FnExactValidPacking", spec := "fnExactValidPacking", apart := false }
def FnExactValidPackingSaid : Prop := fnExactValidPackingRow.holds Try.pinned (OpenSpec.ofChange fnExactValidPackingSpec)

/-- ITS FALSE NEIGHBOUR: 'it returns false'. Refute it at one input. -/
def fnExactValidPackingWrong : ChangeSpec := { name := "fnExactValidPacking", fn := fun _ => fun
  | [d1, d2, d3] => { results := [.lit (.bool false)], args := [d1, d2, d3] }
  | _ => none }
def FnExactValidPackingWrongFalsely : Prop := fnExactValidPackingRow.holds Try.pinned (OpenSpec.ofChange fnExactValidPackingWrong)

/-- 'laws.FnExactLeastHeight': WHATEVER THE INPUT: true; the input reads as it did. -/
def fnExactLeastHeightSpec : ChangeSpec := { name := "fnExactLeastHeight", fn := fun _ => fun
  | [d1, d2] => { results := [.lit (.bool true)], args := [d1, d2] }
  | _ => none }
def fnExactLeastHeightRow : OpenClaim := { program := "ytgfjccegehnjcaa", sum := "8787e1d9a4e070b17420185ddea55eb32190858537fe39dcb187018847761f7a", func := "loop.example/pixelworks/laws.FnExactLeastHeight", spec := "fnExactLeastHeight", unfollowed := true, recurses := true, apart := false }
def FnExactLeastHeightSaid : Prop := fnExactLeastHeightRow.holds Try.pinned (OpenSpec.ofChange fnExactLeastHeightSpec)

/-- ITS FALSE NEIGHBOUR: 'it returns false'. Refute it at one input. -/
def fnExactLeastHeightWrong : ChangeSpec := { name := "fnExactLeastHeight", fn := fun _ => fun
  | [d1, d2] => { results := [.lit (.bool false)], args := [d1, d2] }
  | _ => none }
def FnExactLeastHeightWrongFalsely : Prop := fnExactLeastHeightRow.holds Try.pinned (OpenSpec.ofChange fnExactLeastHeightWrong)

/-- 'laws.FnLeastHeight': WHATEVER THE INPUT: true; the input reads as it did. -/
def fnLeastHeightSpec : ChangeSpec := { name := "fnLeastHeight", fn := fun _ => fun
  | [d] => { results := [.lit (.bool true)], args := [d] }
  | _ => none }
def fnLeastHeightRow : OpenClaim := { program := "ytgfjccegehnjcaa", sum := "8787e1d9a4e070b17420185ddea55eb32190858537fe39dcb187018847761f7a", func := "loop.example/pixelworks/laws.FnLeastHeight", spec := "fnLeastHeight", unfollowed := true, recurses := true, apart := false }
def FnLeastHeightSaid : Prop := fnLeastHeightRow.holds Try.pinned (OpenSpec.ofChange fnLeastHeightSpec)

/-- ITS FALSE NEIGHBOUR: 'it returns false'. Refute it at one input. -/
def fnLeastHeightWrong : ChangeSpec := { name := "fnLeastHeight", fn := fun _ => fun
  | [d] => { results := [.lit (.bool false)], args := [d] }
  | _ => none }
def FnLeastHeightWrongFalsely : Prop := fnLeastHeightRow.holds Try.pinned (OpenSpec.ofChange fnLeastHeightWrong)

/-- 'laws.FnBlendNumber': WHATEVER THE INPUT: true; the input reads as it did. -/
def fnBlendNumberSpec : ChangeSpec := { name := "fnBlendNumber", fn := fun _ => fun
  | [d] => { results := [.lit (.bool true)], args := [d] }
  | _ => none }
def fnBlendNumberRow : OpenClaim := { program := "ytgfjccegehnjcaa", sum := "8787e1d9a4e070b17420185ddea55eb32190858537fe39dcb187018847761f7a", func := "loop.example/pixelworks/laws.FnBlendNumber", spec := "fnBlendNumber", unfollowed := true, recurses := true, apart := false }
def FnBlendNumberSaid : Prop := fnBlendNumberRow.holds Try.pinned (OpenSpec.ofChange fnBlendNumberSpec)

/-- ITS FALSE NEIGHBOUR: 'it returns false'. Refute it at one input. -/
def fnBlendNumberWrong : ChangeSpec := { name := "fnBlendNumber", fn := fun _ => fun
  | [d] => { results := [.lit (.bool false)], args := [d] }
  | _ => none }
def FnBlendNumberWrongFalsely : Prop := fnBlendNumberRow.holds Try.pinned (OpenSpec.ofChange fnBlendNumberWrong)

/-- 'laws.FnBlendNumberInvert': WHATEVER THE INPUT: true; the input reads as it did. -/
def fnBlendNumberInvertSpec : ChangeSpec := { name := "fnBlendNumberInvert", fn := fun _ => fun
  | [d] => { results := [.lit (.bool true)], args := [d] }
  | _ => none }
def fnBlendNumberInvertRow : OpenClaim := { program := "ytgfjccegehnjcaa", sum := "8787e1d9a4e070b17420185ddea55eb32190858537fe39dcb187018847761f7a", func := "loop.example/pixelworks/laws.FnBlendNumberInvert", spec := "fnBlendNumberInvert", unfollowed := true, recurses := true, apart := false }
def FnBlendNumberInvertSaid : Prop := fnBlendNumberInvertRow.holds Try.pinned (OpenSpec.ofChange fnBlendNumberInvertSpec)

/-- ITS FALSE NEIGHBOUR: 'it returns false'. Refute it at one input. -/
def fnBlendNumberInvertWrong : ChangeSpec := { name := "fnBlendNumberInvert", fn := fun _ => fun
  | [d] => { results := [.lit (.bool false)], args := [d] }
  | _ => none }
def FnBlendNumberInvertWrongFalsely : Prop := fnBlendNumberInvertRow.holds Try.pinned (OpenSpec.ofChange fnBlendNumberInvertWrong)

/-- 'laws.FnBlendNumberModes': WHATEVER THE INPUT: true; the input reads as it did. -/
def fnBlendNumberModesSpec : ChangeSpec := { name := "fnBlendNumberModes", fn := fun _ => fun
  | [d] => { results := [.lit (.bool true)], args := [d] }
  | _ => none }
def fnBlendNumberModesRow : OpenClaim := { program := "ytgfjccegehnjcaa", sum := "8787e1d9a4e070b17420185ddea55eb32190858537fe39dcb187018847761f7a", func := "loop.example/pixelworks/laws.FnBlendNumberModes", spec := "fnBlendNumberModes", unfollowed := true, recurses := true, apart := false }
def FnBlendNumberModesSaid : Prop := fnBlendNumberModesRow.holds Try.pinned (OpenSpec.ofChange fnBlendNumberModesSpec)

/-- ITS FALSE NEIGHBOUR: 'it returns false'. Refute it at one input. -/
def fnBlendNumberModesWrong : ChangeSpec := { name := "fnBlendNumberModes", fn := fun _ => fun
  | [d] => { results := [.lit (.bool false)], args := [d] }
  | _ => none }
def FnBlendNumberModesWrongFalsely : Prop := fnBlendNumberModesRow.holds Try.pinned (OpenSpec.ofChange fnBlendNumberModesWrong)

/-- 'laws.FnBlendNumberAlpha': WHATEVER THE INPUT: true; the input reads as it did. -/
def fnBlendNumberAlphaSpec : ChangeSpec := { name := "fnBlendNumberAlpha", fn := fun _ => fun
  | [d] => { results := [.lit (.bool true)], args := [d] }
  | _ => none }
def fnBlendNumberAlphaRow : OpenClaim := { program := "ytgfjccegehnjcaa", sum := "8787e1d9a4e070b17420185ddea55eb32190858537fe39dcb187018847761f7a", func := "loop.example/pixelworks/laws.FnBlendNumberAlpha", spec := "fnBlendNumberAlpha", unfollowed := true, recurses := true, apart := false }
def FnBlendNumberAlphaSaid : Prop := fnBlendNumberAlphaRow.holds Try.pinned (OpenSpec.ofChange fnBlendNumberAlphaSpec)

/-- ITS FALSE NEIGHBOUR: 'it returns false'. Refute it at one input. -/
def fnBlendNumberAlphaWrong : ChangeSpec := { name := "fnBlendNumberAlpha", fn := fun _ => fun
  | [d] => { results := [.lit (.bool false)], args := [d] }
  | _ => none }
def FnBlendNumberAlphaWrongFalsely : Prop := fnBlendNumberAlphaRow.holds Try.pinned (OpenSpec.ofChange fnBlendNumberAlphaWrong)

/-- 'laws.FnValidPacking': WHATEVER THE INPUT: true; the input reads as it did. -/
def fnValidPackingSpec : ChangeSpec := { name := "fnValidPacking", fn := fun _ => fun
  | [d] => { results := [.lit (.bool true)], args := [d] }
  | _ => none }
def fnValidPackingRow : OpenClaim := { program := "ytgfjccegehnjcaa", sum := "8787e1d9a4e070b17420185ddea55eb32190858537fe39dcb187018847761f7a", func := "loop.example/pixelworks/laws.FnValidPacking", spec := "fnValidPacking", apart := false }
def FnValidPackingSaid : Prop := fnValidPackingRow.holds Try.pinned (OpenSpec.ofChange fnValidPackingSpec)

/-- ITS FALSE NEIGHBOUR: 'it returns false'. Refute it at one input. -/
def fnValidPackingWrong : ChangeSpec := { name := "fnValidPacking", fn := fun _ => fun
  | [d] => { results := [.lit (.bool false)], args := [d] }
  | _ => none }
def FnValidPackingWrongFalsely : Prop := fnValidPackingRow.holds Try.pinned (OpenSpec.ofChange fnValidPackingWrong)

/-- 'laws.FnValidPackingTwice': WHATEVER THE INPUT: true; the input reads as it did. -/
def fnValidPackingTwiceSpec : ChangeSpec := { name := "fnValidPackingTwice", fn := fun _ => fun
  | [d] => { results := [.lit (.bool true)], args := [d] }
  | _ => none }
def fnValidPackingTwiceRow : OpenClaim := { program := "ytgfjccegehnjcaa", sum := "8787e1d9a4e070b17420185ddea55eb32190858537fe39dcb187018847761f7a", func := "loop.example/pixelworks/laws.FnValidPackingTwice", spec := "fnValidPackingTwice", apart := false }
def FnValidPackingTwiceSaid : Prop := fnValidPackingTwiceRow.holds Try.pinned (OpenSpec.ofChange fnValidPackingTwiceSpec)

/-- ITS FALSE NEIGHBOUR: 'it returns false'. Refute it at one input. -/
def fnValidPackingTwiceWrong : ChangeSpec := { name := "fnValidPackingTwice", fn := fun _ => fun
  | [d] => { results := [.lit (.bool false)], args := [d] }
  | _ => none }
def FnValidPackingTwiceWrongFalsely : Prop := fnValidPackingTwiceRow.holds Try.pinned (OpenSpec.ofChange fnValidPackingTwiceWrong)

/-- 'laws.FnPackSpritesOne': WHATEVER THE INPUT: true; the input reads as it did. -/
def fnPackSpritesOneSpec : ChangeSpec := { name := "fnPackSpritesOne", fn := fun _ => fun
  | [d] => { results := [.lit (.bool true)], args := [d] }
  | _ => none }
def fnPackSpritesOneRow : OpenClaim := { program := "ytgfjccegehnjcaa", sum := "8787e1d9a4e070b17420185ddea55eb32190858537fe39dcb187018847761f7a", func := "loop.example/pixelworks/laws.FnPackSpritesOne", spec := "fnPackSpritesOne", unfollowed := true, recurses := true, apart := false }
def FnPackSpritesOneSaid : Prop := fnPackSpritesOneRow.holds Try.pinned (OpenSpec.ofChange fnPackSpritesOneSpec)

/-- ITS FALSE NEIGHBOUR: 'it returns false'. Refute it at one input. -/
def fnPackSpritesOneWrong : ChangeSpec := { name := "fnPackSpritesOne", fn := fun _ => fun
  | [d] => { results := [.lit (.bool false)], args := [d] }
  | _ => none }
def FnPackSpritesOneWrongFalsely : Prop := fnPackSpritesOneRow.holds Try.pinned (OpenSpec.ofChange fnPackSpritesOneWrong)

/-- 'laws.FnPackSpritesHeight': WHATEVER THE INPUT: true; the input reads as it did. -/
def fnPackSpritesHeightSpec : ChangeSpec := { name := "fnPackSpritesHeight", fn := fun _ => fun
  | [d] => { results := [.lit (.bool true)], args := [d] }
  | _ => none }
def fnPackSpritesHeightRow : OpenClaim := { program := "ytgfjccegehnjcaa", sum := "8787e1d9a4e070b17420185ddea55eb32190858537fe39dcb187018847761f7a", func := "loop.example/pixelworks/laws.FnPackSpritesHeight", spec := "fnPackSpritesHeight", unfollowed := true, recurses := true, apart := false }
def FnPackSpritesHeightSaid : Prop := fnPackSpritesHeightRow.holds Try.pinned (OpenSpec.ofChange fnPackSpritesHeightSpec)

/-- ITS FALSE NEIGHBOUR: 'it returns false'. Refute it at one input. -/
def fnPackSpritesHeightWrong : ChangeSpec := { name := "fnPackSpritesHeight", fn := fun _ => fun
  | [d] => { results := [.lit (.bool false)], args := [d] }
  | _ => none }
def FnPackSpritesHeightWrongFalsely : Prop := fnPackSpritesHeightRow.holds Try.pinned (OpenSpec.ofChange fnPackSpritesHeightWrong)

/-- 'laws.FnSimplifyStepsTwice': WHATEVER THE INPUT: true; the input reads as it did. -/
def fnSimplifyStepsTwiceSpec : ChangeSpec := { name := "fnSimplifyStepsTwice", fn := fun _ => fun
  | [d] => { results := [.lit (.bool true)], args := [d] }
  | _ => none }
def fnSimplifyStepsTwiceRow : OpenClaim := { program := "ytgfjccegehnjcaa", sum := "8787e1d9a4e070b17420185ddea55eb32190858537fe39dcb187018847761f7a", func := "loop.example/pixelworks/laws.FnSimplifyStepsTwice", spec := "fnSimplifyStepsTwice", unfollowed := true, recurses := true, apart := false }
def FnSimplifyStepsTwiceSaid : Prop := fnSimplifyStepsTwiceRow.holds Try.pinned (OpenSpec.ofChange fnSimplifyStepsTwiceSpec)

/-- ITS FALSE NEIGHBOUR: 'it returns false'. Refute it at one input. -/
def fnSimplifyStepsTwiceWrong : ChangeSpec := { name := "fnSimplifyStepsTwice", fn := fun _ => fun
  | [d] => { results := [.lit (.bool false)], args := [d] }
  | _ => none }
def FnSimplifyStepsTwiceWrongFalsely : Prop := fnSimplifyStepsTwiceRow.holds Try.pinned (OpenSpec.ofChange fnSimplifyStepsTwiceWrong)

/-- 'laws.FnExactSimplifySteps': WHATEVER THE INPUT: true; the input reads as it did. -/
def fnExactSimplifyStepsSpec : ChangeSpec := { name := "fnExactSimplifySteps", fn := fun _ => fun
  | [d] => { results := [.lit (.bool true)], args := [d] }
  | _ => none }
def fnExactSimplifyStepsRow : OpenClaim := { program := "ytgfjccegehnjcaa", sum := "8787e1d9a4e070b17420185ddea55eb32190858537fe39dcb187018847761f7a", func := "loop.example/pixelworks/laws.FnExactSimplifySteps", spec := "fnExactSimplifySteps", unfollowed := true, recurses := true, apart := false }
def FnExactSimplifyStepsSaid : Prop := fnExactSimplifyStepsRow.holds Try.pinned (OpenSpec.ofChange fnExactSimplifyStepsSpec)

/-- ITS FALSE NEIGHBOUR: 'it returns false'. Refute it at one input. -/
def fnExactSimplifyStepsWrong : ChangeSpec := { name := "fnExactSimplifySteps", fn := fun _ => fun
  | [d] => { results := [.lit (.bool false)], args := [d] }
  | _ => none }
def FnExactSimplifyStepsWrongFalsely : Prop := fnExactSimplifyStepsRow.holds Try.pinned (OpenSpec.ofChange fnExactSimplifyStepsWrong)

/- THE SECOND FORM. 'bulk': how many values and letters a reading holds, each counted each time it is reached (what is shared counts as often as it is met; a slice's spare places count too). A statement '..UptoSaid' is the law's where the arguments, and the package variables that the reading takes, are together of bulk at most 1048576: NARROWER than '..Said'. Prove '..Said' where nothing that the law and all that it calls make is longer than what came in: it says more and counts as full. Else prove '..UptoSaid'. A law counts once. -/
mutual
def uptoBulk {H : Type} : DataW H → Nat
  | .lit (.string bytes) => bytes.length + 1
  | .lit _ => 1
  | .nil => 1
  | .ptr d => uptoBulk d + 1
  | .slice elems spare => uptoBulkAll elems + uptoBulkAll spare + 1
  | .agg parts => uptoBulkAll parts + 1
  | .iface _ d => uptoBulk d + 1
  | .map entries => uptoBulkEntries entries + 1
  | .held _ => 1
def uptoBulkAll {H : Type} : List (DataW H) → Nat
  | [] => 0
  | d :: r => uptoBulk d + uptoBulkAll r
def uptoBulkEntries {H : Type} : List (Lit × DataW H) → Nat
  | [] => 0
  | x :: r => uptoBulkEntry x + uptoBulkEntries r
def uptoBulkEntry {H : Type} : Lit × DataW H → Nat
  | (.string bytes, d) => bytes.length + uptoBulk d + 1
  | (_, d) => uptoBulk d + 1
 end
def uptoSmall : (H : Type) → List (DataW H) → Bool := fun _ ds => decide (uptoBulkAll ds ≤ 1048576)
def OpenSpec.upto (s : _root_.Go.ChangeSpec) : _root_.Go.OpenSpec := { _root_.Go.OpenSpec.ofChange s with cond := some uptoSmall }

/-- 'laws.FnExactBlendNumber', WHERE WHAT IT READS IS OF BULK AT MOST 1048576: true; the input reads as it did. -/
def fnExactBlendNumberUptoRow : OpenClaim := { program := "ytgfjccegehnjcaa", sum := "8787e1d9a4e070b17420185ddea55eb32190858537fe39dcb187018847761f7a", func := "loop.example/pixelworks/laws.FnExactBlendNumber", spec := "fnExactBlendNumber", unfollowed := true, recurses := true, apart := false, narrowed := true }
def FnExactBlendNumberUptoSaid : Prop := fnExactBlendNumberUptoRow.holds Try.pinned (OpenSpec.upto fnExactBlendNumberSpec)

/-- 'laws.FnExactValidPacking', WHERE WHAT IT READS IS OF BULK AT MOST 1048576: true; the input reads as it did. -/
def fnExactValidPackingUptoRow : OpenClaim := { program := "ytgfjccegehnjcaa", sum := "8787e1d9a4e070b17420185ddea55eb32190858537fe39dcb187018847761f7a", func := "loop.example/pixelworks/laws.FnExactValidPacking", spec := "fnExactValidPacking", apart := false, narrowed := true }
def FnExactValidPackingUptoSaid : Prop := fnExactValidPackingUptoRow.holds Try.pinned (OpenSpec.upto fnExactValidPackingSpec)

/-- 'laws.FnExactLeastHeight', WHERE WHAT IT READS IS OF BULK AT MOST 1048576: true; the input reads as it did. -/
def fnExactLeastHeightUptoRow : OpenClaim := { program := "ytgfjccegehnjcaa", sum := "8787e1d9a4e070b17420185ddea55eb32190858537fe39dcb187018847761f7a", func := "loop.example/pixelworks/laws.FnExactLeastHeight", spec := "fnExactLeastHeight", unfollowed := true, recurses := true, apart := false, narrowed := true }
def FnExactLeastHeightUptoSaid : Prop := fnExactLeastHeightUptoRow.holds Try.pinned (OpenSpec.upto fnExactLeastHeightSpec)

/-- 'laws.FnLeastHeight', WHERE WHAT IT READS IS OF BULK AT MOST 1048576: true; the input reads as it did. -/
def fnLeastHeightUptoRow : OpenClaim := { program := "ytgfjccegehnjcaa", sum := "8787e1d9a4e070b17420185ddea55eb32190858537fe39dcb187018847761f7a", func := "loop.example/pixelworks/laws.FnLeastHeight", spec := "fnLeastHeight", unfollowed := true, recurses := true, apart := false, narrowed := true }
def FnLeastHeightUptoSaid : Prop := fnLeastHeightUptoRow.holds Try.pinned (OpenSpec.upto fnLeastHeightSpec)

/-- 'laws.FnBlendNumber', WHERE WHAT IT READS IS OF BULK AT MOST 1048576: true; the input reads as it did. -/
def fnBlendNumberUptoRow : OpenClaim := { program := "ytgfjccegehnjcaa", sum := "8787e1d9a4e070b17420185ddea55eb32190858537fe39dcb187018847761f7a", func := "loop.example/pixelworks/laws.FnBlendNumber", spec := "fnBlendNumber", unfollowed := true, recurses := true, apart := false, narrowed := true }
def FnBlendNumberUptoSaid : Prop := fnBlendNumberUptoRow.holds Try.pinned (OpenSpec.upto fnBlendNumberSpec)

/-- 'laws.FnBlendNumberInvert', WHERE WHAT IT READS IS OF BULK AT MOST 1048576: true; the input reads as it did. -/
def fnBlendNumberInvertUptoRow : OpenClaim := { program := "ytgfjccegehnjcaa", sum := "8787e1d9a4e070b17420185ddea55eb32190858537fe39dcb187018847761f7a", func := "loop.example/pixelworks/laws.FnBlendNumberInvert", spec := "fnBlendNumberInvert", unfollowed := true, recurses := true, apart := false, narrowed := true }
def FnBlendNumberInvertUptoSaid : Prop := fnBlendNumberInvertUptoRow.holds Try.pinned (OpenSpec.upto fnBlendNumberInvertSpec)

/-- 'laws.FnBlendNumberModes', WHERE WHAT IT READS IS OF BULK AT MOST 1048576: true; the input reads as it did. -/
def fnBlendNumberModesUptoRow : OpenClaim := { program := "ytgfjccegehnjcaa", sum := "8787e1d9a4e070b17420185ddea55eb32190858537fe39dcb187018847761f7a", func := "loop.example/pixelworks/laws.FnBlendNumberModes", spec := "fnBlendNumberModes", unfollowed := true, recurses := true, apart := false, narrowed := true }
def FnBlendNumberModesUptoSaid : Prop := fnBlendNumberModesUptoRow.holds Try.pinned (OpenSpec.upto fnBlendNumberModesSpec)

/-- 'laws.FnBlendNumberAlpha', WHERE WHAT IT READS IS OF BULK AT MOST 1048576: true; the input reads as it did. -/
def fnBlendNumberAlphaUptoRow : OpenClaim := { program := "ytgfjccegehnjcaa", sum := "8787e1d9a4e070b17420185ddea55eb32190858537fe39dcb187018847761f7a", func := "loop.example/pixelworks/laws.FnBlendNumberAlpha", spec := "fnBlendNumberAlpha", unfollowed := true, recurses := true, apart := false, narrowed := true }
def FnBlendNumberAlphaUptoSaid : Prop := fnBlendNumberAlphaUptoRow.holds Try.pinned (OpenSpec.upto fnBlendNumberAlphaSpec)

/-- 'laws.FnValidPacking', WHERE WHAT IT READS IS OF BULK AT MOST 1048576: true; the input reads as it did. -/
def fnValidPackingUptoRow : OpenClaim := { program := "ytgfjccegehnjcaa", sum := "8787e1d9a4e070b17420185ddea55eb32190858537fe39dcb187018847761f7a", func := "loop.example/pixelworks/laws.FnValidPacking", spec := "fnValidPacking", apart := false, narrowed := true }
def FnValidPackingUptoSaid : Prop := fnValidPackingUptoRow.holds Try.pinned (OpenSpec.upto fnValidPackingSpec)

/-- 'laws.FnValidPackingTwice', WHERE WHAT IT READS IS OF BULK AT MOST 1048576: true; the input reads as it did. -/
def fnValidPackingTwiceUptoRow : OpenClaim := { program := "ytgfjccegehnjcaa", sum := "8787e1d9a4e070b17420185ddea55eb32190858537fe39dcb187018847761f7a", func := "loop.example/pixelworks/laws.FnValidPackingTwice", spec := "fnValidPackingTwice", apart := false, narrowed := true }
def FnValidPackingTwiceUptoSaid : Prop := fnValidPackingTwiceUptoRow.holds Try.pinned (OpenSpec.upto fnValidPackingTwiceSpec)

/-- 'laws.FnPackSpritesOne', WHERE WHAT IT READS IS OF BULK AT MOST 1048576: true; the input reads as it did. -/
def fnPackSpritesOneUptoRow : OpenClaim := { program := "ytgfjccegehnjcaa", sum := "8787e1d9a4e070b17420185ddea55eb32190858537fe39dcb187018847761f7a", func := "loop.example/pixelworks/laws.FnPackSpritesOne", spec := "fnPackSpritesOne", unfollowed := true, recurses := true, apart := false, narrowed := true }
def FnPackSpritesOneUptoSaid : Prop := fnPackSpritesOneUptoRow.holds Try.pinned (OpenSpec.upto fnPackSpritesOneSpec)

/-- 'laws.FnPackSpritesHeight', WHERE WHAT IT READS IS OF BULK AT MOST 1048576: true; the input reads as it did. -/
def fnPackSpritesHeightUptoRow : OpenClaim := { program := "ytgfjccegehnjcaa", sum := "8787e1d9a4e070b17420185ddea55eb32190858537fe39dcb187018847761f7a", func := "loop.example/pixelworks/laws.FnPackSpritesHeight", spec := "fnPackSpritesHeight", unfollowed := true, recurses := true, apart := false, narrowed := true }
def FnPackSpritesHeightUptoSaid : Prop := fnPackSpritesHeightUptoRow.holds Try.pinned (OpenSpec.upto fnPackSpritesHeightSpec)

/-- 'laws.FnSimplifyStepsTwice', WHERE WHAT IT READS IS OF BULK AT MOST 1048576: true; the input reads as it did. -/
def fnSimplifyStepsTwiceUptoRow : OpenClaim := { program := "ytgfjccegehnjcaa", sum := "8787e1d9a4e070b17420185ddea55eb32190858537fe39dcb187018847761f7a", func := "loop.example/pixelworks/laws.FnSimplifyStepsTwice", spec := "fnSimplifyStepsTwice", unfollowed := true, recurses := true, apart := false, narrowed := true }
def FnSimplifyStepsTwiceUptoSaid : Prop := fnSimplifyStepsTwiceUptoRow.holds Try.pinned (OpenSpec.upto fnSimplifyStepsTwiceSpec)

/-- 'laws.FnExactSimplifySteps', WHERE WHAT IT READS IS OF BULK AT MOST 1048576: true; the input reads as it did. -/
def fnExactSimplifyStepsUptoRow : OpenClaim := { program := "ytgfjccegehnjcaa", sum := "8787e1d9a4e070b17420185ddea55eb32190858537fe39dcb187018847761f7a", func := "loop.example/pixelworks/laws.FnExactSimplifySteps", spec := "fnExactSimplifySteps", unfollowed := true, recurses := true, apart := false, narrowed := true }
def FnExactSimplifyStepsUptoSaid : Prop := fnExactSimplifyStepsUptoRow.holds Try.pinned (OpenSpec.upto fnExactSimplifyStepsSpec)

end Rows
end Go.Proofs.Ytgfjccegehnjcaa
