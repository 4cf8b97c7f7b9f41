/- A part of the proof that the statement FnExactRunStepsSaid holds, under no condition of its own: The program's RunSteps and the reference's return the same, and what is returned is held by nobody else: over lists of numbers alone. -/
import Derived.Test.YtgccpcnakkioiaaRows
import Derived.JoinedOf
import Derived.KernelRfl
import Derived.Test.YtgccpcnakkioiaaCFnExactRunSteps4
import Derived.WalkKit
import Derived.ProofKit
import Derived.OpenShut
import Derived.ShutString
import Derived.ChangeOld
import Derived.Below
import Derived.SizedLaws
import Derived.Carry
/- The head of the translation reads as a plain cut. -/
namespace Go.Proofs.Ytgccpcnakkioiaa.Head
set_option maxRecDepth 100000
theorem wordsSigns_word (w r : List Char) (h : w.all (fun c => !(c == Char.ofNat 32)) = true) : wordsSigns (w ++ Char.ofNat 32 :: r) = w :: wordsSigns r := by
  induction w with
  | nil => rfl
  | cons c w ih =>
    simp only [List.all_cons, Bool.and_eq_true, Bool.not_eq_true', beq_eq_false_iff_ne, ne_eq] at h
    have h1 := ih (by simpa using h.2)
    rw [List.cons_append, wordsSigns.eq_3 c _ h.1, h1]
def w1 : List Char := [104, 97, 114, 110, 101, 115, 115].map Char.ofNat
def w2 : List Char := [52, 49, 100, 48, 51, 48, 57, 101, 54, 52, 50, 98, 53, 55, 98, 54, 49, 99, 54, 49, 56, 48, 55, 53, 48, 48, 51, 50, 51, 98, 100, 52, 101, 99, 48, 51, 97, 52, 49, 54, 56, 100, 48, 98, 55, 54, 100, 54, 97, 97, 98, 98, 100, 98, 51, 102, 53, 102, 100, 102, 101, 51, 100, 56].map Char.ofNat
def w3 : List Char := [99, 117, 116].map Char.ofNat
def w4 : List Char := [97, 116, 32, 108, 111, 111, 112, 46, 101, 120, 97, 109, 112, 108, 101, 47, 112, 105, 120, 101, 108, 119, 111, 114, 107, 115, 47, 108, 97, 119, 115, 46, 70, 110, 69, 120, 97, 99, 116, 82, 117, 110, 83, 116, 101, 112, 115, 32, 108, 111, 111, 112, 46, 101, 120, 97, 109, 112, 108, 101, 47, 112, 105, 120, 101, 108, 119, 111, 114, 107, 115, 47, 108, 97, 119, 115, 46, 70, 110, 68, 111, 83, 116, 101, 112, 32, 108, 111, 111, 112, 46, 101, 120, 97, 109, 112, 108, 101, 47, 112, 105, 120, 101, 108, 119, 111, 114, 107, 115, 47, 108, 97, 119, 115, 46, 70, 110, 68, 111, 83, 116, 101, 112, 70, 105, 108, 108, 32, 108, 111, 111, 112, 46, 101, 120, 97, 109, 112, 108, 101, 47, 112, 105, 120, 101, 108, 119, 111, 114, 107, 115, 47, 108, 97, 119, 115, 46, 70, 110, 69, 120, 97, 99, 116, 68, 111, 83, 116, 101, 112, 32, 108, 111, 111, 112, 46, 101, 120, 97, 109, 112, 108, 101, 47, 112, 105, 120, 101, 108, 119, 111, 114, 107, 115, 47, 108, 97, 119, 115, 46, 70, 110, 82, 117, 110, 83, 116, 101, 112, 115, 80, 97, 114, 116, 115, 32, 108, 111, 111, 112, 46, 101, 120, 97, 109, 112, 108, 101, 47, 112, 105, 120, 101, 108, 119, 111, 114, 107, 115, 47, 108, 97, 119, 115, 46, 70, 110, 82, 117, 110, 83, 116, 101, 112, 115, 32, 108, 111, 111, 112, 46, 101, 120, 97, 109, 112, 108, 101, 47, 112, 105, 120, 101, 108, 119, 111, 114, 107, 115, 47, 108, 97, 119, 115, 46, 70, 110, 83, 105, 109, 112, 108, 105, 102, 121, 83, 116, 101, 112, 115].map Char.ofNat
theorem signs0 : Try.prog.initOrder = String.ofList (w1 ++ Char.ofNat 32 :: (w2 ++ Char.ofNat 32 :: (w3 ++ Char.ofNat 32 :: w4))) := by kernel_rfl
theorem behind : behindMainWord (wordsSigns Try.prog.initOrder.toList) = w3 :: wordsSigns w4 := by
  rw [signs0, String.toList_ofList, wordsSigns_word w1 _ (by kernel_rfl), wordsSigns_word w2 _ (by kernel_rfl), wordsSigns_word w3 _ (by kernel_rfl)]
  unfold behindMainWord
  dsimp only
  rw [if_pos (by kernel_rfl)]
theorem strip_cut (R : List (List Char)) : stripLifts liftWords (w3 :: R) = ([], w3 :: R) := by kernel_rfl
theorem mayEnter_of (P : Program) (R : List (List Char)) (h : behindMainWord (wordsSigns P.initOrder.toList) = w3 :: R) (h1 : P.laysLater = false) (h2 : P.bearsReflect = false) (h3 : P.doorFits [] = true) : P.mayEnter = true := by
  unfold Program.mayEnter
  rw [h]
  dsimp only
  rw [strip_cut, h1, h2, h3]
  kernel_rfl
theorem liftsFinal_of (P : Program) (R : List (List Char)) (h : behindMainWord (wordsSigns P.initOrder.toList) = w3 :: R) : P.liftsFinal = false := by
  unfold Program.liftsFinal Program.headLifts
  rw [h]
  dsimp only
  rw [strip_cut]
  kernel_rfl
theorem make_of (P : Program) (R : List (List Char)) (h : behindMainWord (wordsSigns P.initOrder.toList) = w3 :: R) : P.make = some .cut := by
  unfold Program.make
  rw [h]
  kernel_rfl
theorem mayEnter : Try.prog.mayEnter = true := mayEnter_of _ _ behind (by kernel_rfl) (by kernel_rfl) (by kernel_rfl)
theorem liftsFinal : Try.prog.liftsFinal = false := liftsFinal_of _ _ behind
theorem make : Try.prog.make = some .cut := make_of _ _ behind
end Go.Proofs.Ytgccpcnakkioiaa.Head

-- the row of the law FnExactRunSteps
namespace Go.Proofs.Ytgccpcnakkioiaa.fnExactRunSteps
open Go.ChangeShapes Go.WideShapes Go.ChangeAt Go.RowKit Go.Proofs.Ytgccpcnakkioiaa.Q Go.Proofs.YtgccpcnakkioiaaW.PrintWords
open Go.ChangeMaps (open_string shut_string)
set_option linter.unusedVariables false
theorem own : ownKnob Try.prog.godebug = none := by kernel_rfl
theorem laidOut : laidOutB Try.prog = true := by kernel_rfl
set_option maxHeartbeats 4000000 in
set_option maxRecDepth 100000 in
theorem lifted (os : Os) (started : os.Started) (H : Type) (enc : TypeId × Value → H) :
    ReturnsInHanded {} Try.checked os 3 .any (Rows.fnExactRunStepsSpec.pre6 enc Try.prog Try.f3 Rows.fnExactRunStepsRow.domain false) (Rows.fnExactRunStepsSpec.post enc Try.prog Try.f3 false true false false) := by
  refine returnsInHanded_of_change_sized (C := Try.checked) own started (by kernel_rfl) Try.func3
    (ChangeSpec.witness6 (enc := enc) (C := Try.checked) false ⟨#[], #[.agg #[.int .i64 0, .int .i64 0, .int .i64 0, .slice none 0 0], .slice none 0 0], []⟩ 8 (by kernel_rfl) (by kernel_rfl) (by kernel_rfl) (by kernel_rfl)) ?_
  intro W base args ds gs before hval0 hW hcnd hsz0 _
  have hval : ∀ (j : Nat) t v, Try.f3.params[j]? = some t → args[j]? = some v → Value.okWide Try.prog W .any base t v := hval0
  have hW' := hW
  obtain ⟨p, q, hA0, hV, rfl, hfz, hnd⟩ := hW
  have hA : DataW.TrodAll enc Try.prog W 0 (fun _ => true) true Try.f3.params.toList args.toList ds p := hA0
  rw [Try.params3] at hA hval
  obtain ⟨v0, vs0, d0, ds0, p0, q0, hargs, rfl, rfl, h0, r0⟩ := trodAll_cons hA
  obtain ⟨v1, vs1, d1, ds1, p1, q1, rfl, rfl, rfl, h1, r1⟩ := trodAll_cons r0
  obtain ⟨rfl, rfl, rfl⟩ := trodAll_nil r1
  obtain rfl : args = #[v0, v1] := by cases args; simp_all
  obtain ⟨rfl, rfl⟩ := trodVars_none hV
  have k0 := h0
  have lt0 : ∀ x ∈ p0, x.block < W.heap.size := by obtain ⟨m, hm⟩ := k0; exact DataW.trod_lt m _ _ _ hm
  obtain ⟨fuel0, hf0⟩ := h0
  obtain ⟨cs0, rfl, hsz0⟩ := okWide_struct Try.underlying24 (hval 0 24 v0 rfl rfl)
  obtain ⟨y0, hK0, hq0⟩ := o24 _ _ _ _ _ _ hf0
  obtain ⟨A0_3, c0_3, hcs0, hc0_3, hr0_3⟩ := k24_open hK0
  obtain rfl : cs0 = #[.int .i64 y0.f0, .int .i64 y0.f1, .int .i64 y0.f2, .slice A0_3 y0.f3.length c0_3] := by cases cs0; simpa [Value.cells] using hcs0
  have k1 := h1
  have lt1 : ∀ x ∈ p1, x.block < W.heap.size := by obtain ⟨m, hm⟩ := k1; exact DataW.trod_lt m _ _ _ hm
  obtain ⟨fuel1, hf1⟩ := h1
  obtain ⟨aa1, len1, cap1, rfl⟩ := okWide_slice Try.underlying25 (hval 1 25 v1 rfl rfl)
  obtain ⟨l1, ⟨A1, c1, hcs1, hc1, hr1⟩, hq1⟩ := (opens_slice Try.underlying25 (by kernel_rfl) og57) _ _ _ _ _ _ hf1
  have hcs1' : [Value.slice aa1 len1 cap1] = [.slice A1 l1.length c1] := hcs1
  injection hcs1' with hcs1' _
  injection hcs1' with e11 e21 e31
  subst e11 e21 e31
  clear hA0 hval0 hsz0
  obtain ⟨k, hh⟩ := Pure.FnExactRunSteps y0.f0 y0.f1 y0.f2 y0.f3 l1 hq0.1 hq0.2.1 hq0.2.2.1 hq0.2.2.2 hr0_3.2.1 hq1 hr1.2.1
  refine (Q.laws_FnExactRunSteps.calls k y0.f0 y0.f1 y0.f2 _ _ y0.f3 _ _ l1 true W hr0_3 hc0_3 hr1 hc1 hh).mono fun e W' hpost => ?_
  obtain ⟨he, bel0⟩ := hpost
  have bel : Below W.heap.size W W' := bel0
  subst he
  exact ⟨_, rfl, _, _, _, [], _, [], hW', trodAll_mk1 (shut_bool Try.underlying4 _), (trodAll_cons_mk (Below.trod laidOut (by kernel_rfl) (of_decide_eq_true (by kernel_rfl)) k0 bel lt0) (trodAll_cons_mk (Below.trod laidOut (by kernel_rfl) (of_decide_eq_true (by kernel_rfl)) k1 bel lt1) trodAll_mk0)), rfl, bel.frame _, fun h => by cases h⟩
set_option maxHeartbeats 4000000 in
theorem closed : joinedFacts Try.prog 3 Try.f3 Rows.fnExactRunStepsSpec Rows.fnExactRunStepsRow = true := by
  unfold joinedFacts
  rw [Head.mayEnter, Head.liftsFinal, Head.make]
  simp only [Bool.and_eq_true]
  repeat' apply And.intro
  all_goals first | exact True.intro | (as_aux_lemma => kernel_rfl)
set_option maxHeartbeats 4000000 in
theorem over : Rows.fnExactRunStepsRow.holds Try.pinned (OpenSpec.ofChange Rows.fnExactRunStepsSpec) :=
  OpenClaim.holds_of_wide 3 Try.f3 rfl rfl rfl rfl rfl rfl rfl ⟨rfl, rfl, rfl, rfl, rfl⟩ rfl rfl rfl rfl rfl (by kernel_rfl) Try.func3 closed
    (of_decide_eq_true (by kernel_rfl)) (by unfold Func.isWrapper; first | (rw [if_pos (by decide +kernel)]; kernel_rfl) | (rw [if_neg (by decide +kernel)]; exact ⟨rfl, rfl⟩))
    (fun os started H enc _ => lifted os started H enc)
theorem proved : Rows.FnExactRunStepsSaid := over
#print axioms proved
end Go.Proofs.Ytgccpcnakkioiaa.fnExactRunSteps
namespace Go.Proofs.Ytgccpcnakkioiaa
/-- The row, under a short name, for the claim. -/
theorem fnExactRunSteps_holds : Rows.FnExactRunStepsSaid := fnExactRunSteps.proved
end Go.Proofs.Ytgccpcnakkioiaa
