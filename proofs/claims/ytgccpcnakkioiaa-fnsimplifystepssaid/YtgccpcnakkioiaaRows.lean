/-
  No cell of these rows narrows 'for every input' (looked for: loops, veiled, ifaces, maps, wideKeys, modest, calm, conditions, laid).
  DERIVED. THE GIVEN ROWS OF THIS SEAT. 7 by the template 'for every input the law returns true; each argument reads behind the call as it read before'; 0 by the template 'total and deterministic' (their statements: YtgccpcnakkioiaaTotals.lean).
  GIVEN WITH THE SEED: the statements are not yours to turn. If you find one false, say at which input.
  Laid BY PROGRAM, IN A SANDBOX (cutbox-rows.mjs): the forced cells as the released guide's own fill.sh prints them over the translation 50866b01ee1ccd2b… (all of the seat's roots in one cut). By AI agents, Wed Nov 11 2026. No macro, syntax, notation, axiom, sorry.
-/
import Derived.Test.YtgccpcnakkioiaaChecked
import GoSem.Claim
import GoSem.ClaimJoined
import GoSem.ClaimMapViews
import Derived.JoinedTies
import Derived.KernelRfl
namespace Go.Proofs.Ytgccpcnakkioiaa
/- THE CELL 'sum', in the pinned program and in every row, IS THE sha256 OF THE DUMP (.gsa) THAT YtgccpcnakkioiaaProg.lean LOADS. Nothing in Lean hashes anything: it is a label: what it is worth is what the hold of that sum in a sandbox is worth. -/
noncomputable def Try.pinned : Pinned := { name := "ytgccpcnakkioiaa", sum := "50866b01ee1ccd2bbe789a2bed59bbbf2d69cafe84525e15aa304b2541a912ac", checked := Try.checked }
namespace Rows
def none {H : Type} : Left H := { results := [], args := [] }

/-- 'laws.FnExactRunSteps': WHATEVER THE INPUT: true; the input reads as it did. -/
def fnExactRunStepsSpec : ChangeSpec := { name := "fnExactRunSteps", fn := fun _ => fun
  | [d1, d2] => { results := [.lit (.bool true)], args := [d1, d2] }
  | _ => none }
def fnExactRunStepsRow : OpenClaim := { program := "ytgccpcnakkioiaa", sum := "50866b01ee1ccd2bbe789a2bed59bbbf2d69cafe84525e15aa304b2541a912ac", func := "loop.example/pixelworks/laws.FnExactRunSteps", spec := "fnExactRunSteps", unfollowed := true, recurses := true, apart := false }
def FnExactRunStepsSaid : Prop := fnExactRunStepsRow.holds Try.pinned (OpenSpec.ofChange fnExactRunStepsSpec)

/-- ITS FALSE NEIGHBOUR: 'it returns false'. Refute it at one input. -/
def fnExactRunStepsWrong : ChangeSpec := { name := "fnExactRunSteps", fn := fun _ => fun
  | [d1, d2] => { results := [.lit (.bool false)], args := [d1, d2] }
  | _ => none }
def FnExactRunStepsWrongFalsely : Prop := fnExactRunStepsRow.holds Try.pinned (OpenSpec.ofChange fnExactRunStepsWrong)

/-- 'laws.FnDoStep': WHATEVER THE INPUT: true; the input reads as it did. -/
def fnDoStepSpec : ChangeSpec := { name := "fnDoStep", fn := fun _ => fun
  | [d] => { results := [.lit (.bool true)], args := [d] }
  | _ => none }
def fnDoStepRow : OpenClaim := { program := "ytgccpcnakkioiaa", sum := "50866b01ee1ccd2bbe789a2bed59bbbf2d69cafe84525e15aa304b2541a912ac", func := "loop.example/pixelworks/laws.FnDoStep", spec := "fnDoStep", unfollowed := true, recurses := true, apart := false }
def FnDoStepSaid : Prop := fnDoStepRow.holds Try.pinned (OpenSpec.ofChange fnDoStepSpec)

/-- ITS FALSE NEIGHBOUR: 'it returns false'. Refute it at one input. -/
def fnDoStepWrong : ChangeSpec := { name := "fnDoStep", fn := fun _ => fun
  | [d] => { results := [.lit (.bool false)], args := [d] }
  | _ => none }
def FnDoStepWrongFalsely : Prop := fnDoStepRow.holds Try.pinned (OpenSpec.ofChange fnDoStepWrong)

/-- 'laws.FnDoStepFill': WHATEVER THE INPUT: true; the input reads as it did. -/
def fnDoStepFillSpec : ChangeSpec := { name := "fnDoStepFill", fn := fun _ => fun
  | [d] => { results := [.lit (.bool true)], args := [d] }
  | _ => none }
def fnDoStepFillRow : OpenClaim := { program := "ytgccpcnakkioiaa", sum := "50866b01ee1ccd2bbe789a2bed59bbbf2d69cafe84525e15aa304b2541a912ac", func := "loop.example/pixelworks/laws.FnDoStepFill", spec := "fnDoStepFill", unfollowed := true, recurses := true, apart := false }
def FnDoStepFillSaid : Prop := fnDoStepFillRow.holds Try.pinned (OpenSpec.ofChange fnDoStepFillSpec)

/-- ITS FALSE NEIGHBOUR: 'it returns false'. Refute it at one input. -/
def fnDoStepFillWrong : ChangeSpec := { name := "fnDoStepFill", fn := fun _ => fun
  | [d] => { results := [.lit (.bool false)], args := [d] }
  | _ => none }
def FnDoStepFillWrongFalsely : Prop := fnDoStepFillRow.holds Try.pinned (OpenSpec.ofChange fnDoStepFillWrong)

/-- 'laws.FnExactDoStep': WHATEVER THE INPUT: true; the input reads as it did. -/
def fnExactDoStepSpec : ChangeSpec := { name := "fnExactDoStep", fn := fun _ => fun
  | [d1, d2] => { results := [.lit (.bool true)], args := [d1, d2] }
  | _ => none }
def fnExactDoStepRow : OpenClaim := { program := "ytgccpcnakkioiaa", sum := "50866b01ee1ccd2bbe789a2bed59bbbf2d69cafe84525e15aa304b2541a912ac", func := "loop.example/pixelworks/laws.FnExactDoStep", spec := "fnExactDoStep", unfollowed := true, recurses := true, apart := false }
def FnExactDoStepSaid : Prop := fnExactDoStepRow.holds Try.pinned (OpenSpec.ofChange fnExactDoStepSpec)

/-- ITS FALSE NEIGHBOUR: 'it returns false'. Refute it at one input. -/
def fnExactDoStepWrong : ChangeSpec := { name := "fnExactDoStep", fn := fun _ => fun
  | [d1, d2] => { results := [.lit (.bool false)], args := [d1, d2] }
  | _ => none }
def FnExactDoStepWrongFalsely : Prop := fnExactDoStepRow.holds Try.pinned (OpenSpec.ofChange fnExactDoStepWrong)

/-- 'laws.FnRunStepsParts': WHATEVER THE INPUT: true; the input reads as it did. -/
def fnRunStepsPartsSpec : ChangeSpec := { name := "fnRunStepsParts", fn := fun _ => fun
  | [d] => { results := [.lit (.bool true)], args := [d] }
  | _ => none }
def fnRunStepsPartsRow : OpenClaim := { program := "ytgccpcnakkioiaa", sum := "50866b01ee1ccd2bbe789a2bed59bbbf2d69cafe84525e15aa304b2541a912ac", func := "loop.example/pixelworks/laws.FnRunStepsParts", spec := "fnRunStepsParts", unfollowed := true, recurses := true, apart := false }
def FnRunStepsPartsSaid : Prop := fnRunStepsPartsRow.holds Try.pinned (OpenSpec.ofChange fnRunStepsPartsSpec)

/-- ITS FALSE NEIGHBOUR: 'it returns false'. Refute it at one input. -/
def fnRunStepsPartsWrong : ChangeSpec := { name := "fnRunStepsParts", fn := fun _ => fun
  | [d] => { results := [.lit (.bool false)], args := [d] }
  | _ => none }
def FnRunStepsPartsWrongFalsely : Prop := fnRunStepsPartsRow.holds Try.pinned (OpenSpec.ofChange fnRunStepsPartsWrong)

/-- 'laws.FnRunSteps': WHATEVER THE INPUT: true; the input reads as it did. -/
def fnRunStepsSpec : ChangeSpec := { name := "fnRunSteps", fn := fun _ => fun
  | [d] => { results := [.lit (.bool true)], args := [d] }
  | _ => none }
def fnRunStepsRow : OpenClaim := { program := "ytgccpcnakkioiaa", sum := "50866b01ee1ccd2bbe789a2bed59bbbf2d69cafe84525e15aa304b2541a912ac", func := "loop.example/pixelworks/laws.FnRunSteps", spec := "fnRunSteps", unfollowed := true, recurses := true, apart := false }
def FnRunStepsSaid : Prop := fnRunStepsRow.holds Try.pinned (OpenSpec.ofChange fnRunStepsSpec)

/-- ITS FALSE NEIGHBOUR: 'it returns false'. Refute it at one input. -/
def fnRunStepsWrong : ChangeSpec := { name := "fnRunSteps", fn := fun _ => fun
  | [d] => { results := [.lit (.bool false)], args := [d] }
  | _ => none }
def FnRunStepsWrongFalsely : Prop := fnRunStepsRow.holds Try.pinned (OpenSpec.ofChange fnRunStepsWrong)

/-- 'laws.FnSimplifySteps': WHATEVER THE INPUT: true; the input reads as it did. -/
def fnSimplifyStepsSpec : ChangeSpec := { name := "fnSimplifySteps", fn := fun _ => fun
  | [d] => { results := [.lit (.bool true)], args := [d] }
  | _ => none }
def fnSimplifyStepsRow : OpenClaim := { program := "ytgccpcnakkioiaa", sum := "50866b01ee1ccd2bbe789a2bed59bbbf2d69cafe84525e15aa304b2541a912ac", func := "loop.example/pixelworks/laws.FnSimplifySteps", spec := "fnSimplifySteps", unfollowed := true, recurses := true, apart := false }
def FnSimplifyStepsSaid : Prop := fnSimplifyStepsRow.holds Try.pinned (OpenSpec.ofChange fnSimplifyStepsSpec)

/-- ITS FALSE NEIGHBOUR: 'it returns false'. Refute it at one input. -/
def fnSimplifyStepsWrong : ChangeSpec := { name := "fnSimplifySteps", fn := fun _ => fun
  | [d] => { results := [.lit (.bool false)], args := [d] }
  | _ => none }
def FnSimplifyStepsWrongFalsely : Prop := fnSimplifyStepsRow.holds Try.pinned (OpenSpec.ofChange fnSimplifyStepsWrong)

/- THE SECOND FORM. 'bulk': how many values and letters a reading holds, each counted each time it is reached (what is shared counts as often as it is met; a slice's spare places count too). A statement '..UptoSaid' is the law's where the arguments, and the package variables that the reading takes, are together of bulk at most 1048576: NARROWER than '..Said'. Prove '..Said' where nothing that the law and all that it calls make is longer than what came in: it says more and counts as full. Else prove '..UptoSaid'. A law counts once. -/
mutual
def uptoBulk {H : Type} : DataW H → Nat
  | .lit (.string bytes) => bytes.length + 1
  | .lit _ => 1
  | .nil => 1
  | .ptr d => uptoBulk d + 1
  | .slice elems spare => uptoBulkAll elems + uptoBulkAll spare + 1
  | .agg parts => uptoBulkAll parts + 1
  | .iface _ d => uptoBulk d + 1
  | .map entries => uptoBulkEntries entries + 1
  | .held _ => 1
def uptoBulkAll {H : Type} : List (DataW H) → Nat
  | [] => 0
  | d :: r => uptoBulk d + uptoBulkAll r
def uptoBulkEntries {H : Type} : List (Lit × DataW H) → Nat
  | [] => 0
  | x :: r => uptoBulkEntry x + uptoBulkEntries r
def uptoBulkEntry {H : Type} : Lit × DataW H → Nat
  | (.string bytes, d) => bytes.length + uptoBulk d + 1
  | (_, d) => uptoBulk d + 1
 end
def uptoSmall : (H : Type) → List (DataW H) → Bool := fun _ ds => decide (uptoBulkAll ds ≤ 1048576)
def OpenSpec.upto (s : _root_.Go.ChangeSpec) : _root_.Go.OpenSpec := { _root_.Go.OpenSpec.ofChange s with cond := some uptoSmall }

/-- 'laws.FnExactRunSteps', WHERE WHAT IT READS IS OF BULK AT MOST 1048576: true; the input reads as it did. -/
def fnExactRunStepsUptoRow : OpenClaim := { program := "ytgccpcnakkioiaa", sum := "50866b01ee1ccd2bbe789a2bed59bbbf2d69cafe84525e15aa304b2541a912ac", func := "loop.example/pixelworks/laws.FnExactRunSteps", spec := "fnExactRunSteps", unfollowed := true, recurses := true, apart := false, narrowed := true }
def FnExactRunStepsUptoSaid : Prop := fnExactRunStepsUptoRow.holds Try.pinned (OpenSpec.upto fnExactRunStepsSpec)

/-- 'laws.FnDoStep', WHERE WHAT IT READS IS OF BULK AT MOST 1048576: true; the input reads as it did. -/
def fnDoStepUptoRow : OpenClaim := { program := "ytgccpcnakkioiaa", sum := "50866b01ee1ccd2bbe789a2bed59bbbf2d69cafe84525e15aa304b2541a912ac", func := "loop.example/pixelworks/laws.FnDoStep", spec := "fnDoStep", unfollowed := true, recurses := true, apart := false, narrowed := true }
def FnDoStepUptoSaid : Prop := fnDoStepUptoRow.holds Try.pinned (OpenSpec.upto fnDoStepSpec)

/-- 'laws.FnDoStepFill', WHERE WHAT IT READS IS OF BULK AT MOST 1048576: true; the input reads as it did. -/
def fnDoStepFillUptoRow : OpenClaim := { program := "ytgccpcnakkioiaa", sum := "50866b01ee1ccd2bbe789a2bed59bbbf2d69cafe84525e15aa304b2541a912ac", func := "loop.example/pixelworks/laws.FnDoStepFill", spec := "fnDoStepFill", unfollowed := true, recurses := true, apart := false, narrowed := true }
def FnDoStepFillUptoSaid : Prop := fnDoStepFillUptoRow.holds Try.pinned (OpenSpec.upto fnDoStepFillSpec)

/-- 'laws.FnExactDoStep', WHERE WHAT IT READS IS OF BULK AT MOST 1048576: true; the input reads as it did. -/
def fnExactDoStepUptoRow : OpenClaim := { program := "ytgccpcnakkioiaa", sum := "50866b01ee1ccd2bbe789a2bed59bbbf2d69cafe84525e15aa304b2541a912ac", func := "loop.example/pixelworks/laws.FnExactDoStep", spec := "fnExactDoStep", unfollowed := true, recurses := true, apart := false, narrowed := true }
def FnExactDoStepUptoSaid : Prop := fnExactDoStepUptoRow.holds Try.pinned (OpenSpec.upto fnExactDoStepSpec)

/-- 'laws.FnRunStepsParts', WHERE WHAT IT READS IS OF BULK AT MOST 1048576: true; the input reads as it did. -/
def fnRunStepsPartsUptoRow : OpenClaim := { program := "ytgccpcnakkioiaa", sum := "50866b01ee1ccd2bbe789a2bed59bbbf2d69cafe84525e15aa304b2541a912ac", func := "loop.example/pixelworks/laws.FnRunStepsParts", spec := "fnRunStepsParts", unfollowed := true, recurses := true, apart := false, narrowed := true }
def FnRunStepsPartsUptoSaid : Prop := fnRunStepsPartsUptoRow.holds Try.pinned (OpenSpec.upto fnRunStepsPartsSpec)

/-- 'laws.FnRunSteps', WHERE WHAT IT READS IS OF BULK AT MOST 1048576: true; the input reads as it did. -/
def fnRunStepsUptoRow : OpenClaim := { program := "ytgccpcnakkioiaa", sum := "50866b01ee1ccd2bbe789a2bed59bbbf2d69cafe84525e15aa304b2541a912ac", func := "loop.example/pixelworks/laws.FnRunSteps", spec := "fnRunSteps", unfollowed := true, recurses := true, apart := false, narrowed := true }
def FnRunStepsUptoSaid : Prop := fnRunStepsUptoRow.holds Try.pinned (OpenSpec.upto fnRunStepsSpec)

/-- 'laws.FnSimplifySteps', WHERE WHAT IT READS IS OF BULK AT MOST 1048576: true; the input reads as it did. -/
def fnSimplifyStepsUptoRow : OpenClaim := { program := "ytgccpcnakkioiaa", sum := "50866b01ee1ccd2bbe789a2bed59bbbf2d69cafe84525e15aa304b2541a912ac", func := "loop.example/pixelworks/laws.FnSimplifySteps", spec := "fnSimplifySteps", unfollowed := true, recurses := true, apart := false, narrowed := true }
def FnSimplifyStepsUptoSaid : Prop := fnSimplifyStepsUptoRow.holds Try.pinned (OpenSpec.upto fnSimplifyStepsSpec)

end Rows
end Go.Proofs.Ytgccpcnakkioiaa
