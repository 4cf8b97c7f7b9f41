/- A part of the proof that the statement FnExactTileBoxesSaid holds, under no condition of its own: The program's TileBoxes and the reference's return the same, and what is returned is held by nobody else: over lists of numbers alone. -/
import Derived.Test.YtnofkbbcbpjhfaaRows
import Derived.Test.YtnofkbbcbpjhfaaCFnExactTileBoxes2
import Derived.WalkKit
import Derived.ProofKit
import Derived.OpenShut
import Derived.ShutString
import Derived.ChangeOld
import Derived.Below
import Derived.SizedLaws
import Derived.Carry
import Derived.JoinedOf
-- the row of the law FnExactTileBoxes
namespace Go.Proofs.Ytnofkbbcbpjhfaa.fnExactTileBoxes
open Go.ChangeShapes Go.WideShapes Go.ChangeAt Go.RowKit Go.Proofs.Ytnofkbbcbpjhfaa.Q Go.Proofs.YtnofkbbcbpjhfaaW.PrintWords
open Go.ChangeMaps (open_string shut_string)
set_option linter.unusedVariables false
theorem own : ownKnob Try.prog.godebug = none := by kernel_rfl
theorem laidOut : laidOutB Try.prog = true := by kernel_rfl
set_option maxRecDepth 100000 in
theorem lifted (os : Os) (started : os.Started) (H : Type) (enc : TypeId × Value → H) :
    ReturnsInHanded {} Try.checked os 5 .any (Rows.fnExactTileBoxesSpec.pre6 enc Try.prog Try.f5 Rows.fnExactTileBoxesRow.domain false) (Rows.fnExactTileBoxesSpec.post enc Try.prog Try.f5 false true false false) := by
  refine returnsInHanded_of_change_sized (C := Try.checked) own started (by kernel_rfl) Try.func5
    (ChangeSpec.witness6 (enc := enc) (C := Try.checked) false ⟨#[], #[.agg #[.int .i64 0, .int .i64 0, .int .i64 0, .slice none 0 0]], []⟩ 8 (by kernel_rfl) (by kernel_rfl) (by kernel_rfl) (by kernel_rfl)) ?_
  intro W base args ds gs before hval0 hW hcnd hsz0 _
  have hval : ∀ (j : Nat) t v, Try.f5.params[j]? = some t → args[j]? = some v → Value.okWide Try.prog W .any base t v := hval0
  have hW' := hW
  obtain ⟨p, q, hA0, hV, rfl, hfz, hnd⟩ := hW
  have hA : DataW.TrodAll enc Try.prog W 0 (fun _ => true) true Try.f5.params.toList args.toList ds p := hA0
  rw [Try.params5] at hA hval
  obtain ⟨v0, vs0, d0, ds0, p0, q0, hargs, rfl, rfl, h0, r0⟩ := trodAll_cons hA
  obtain ⟨rfl, rfl, rfl⟩ := trodAll_nil r0
  obtain rfl : args = #[v0] := by cases args; simp_all
  obtain ⟨rfl, rfl⟩ := trodVars_none hV
  have k0 := h0
  have lt0 : ∀ x ∈ p0, x.block < W.heap.size := by obtain ⟨m, hm⟩ := k0; exact DataW.trod_lt m _ _ _ hm
  obtain ⟨fuel0, hf0⟩ := h0
  obtain ⟨cs0, rfl, hsz0⟩ := okWide_struct Try.underlying24 (hval 0 24 v0 rfl rfl)
  obtain ⟨y0, hK0, hq0⟩ := o24 _ _ _ _ _ _ hf0
  obtain ⟨A0_3, c0_3, hcs0, hc0_3, hr0_3⟩ := k24_open hK0
  obtain rfl : cs0 = #[.int .i64 y0.f0, .int .i64 y0.f1, .int .i64 y0.f2, .slice A0_3 y0.f3.length c0_3] := by cases cs0; simpa [Value.cells] using hcs0
  clear hA0 hval0 hsz0
  obtain ⟨k, hh⟩ := Pure.FnExactTileBoxes y0.f0 y0.f1 y0.f2 y0.f3 hq0.1 hq0.2.1 hq0.2.2.1 hq0.2.2.2 hr0_3.2.1
  refine (Q.laws_FnExactTileBoxes.calls k y0.f0 y0.f1 y0.f2 _ _ y0.f3 true W hr0_3 hc0_3 hh rfl).mono fun e W' hpost => ?_
  obtain ⟨he, bel0⟩ := hpost
  have bel : Below W.heap.size W W' := bel0
  subst he
  exact ⟨_, rfl, _, _, _, [], _, [], hW', trodAll_mk1 (shut_bool Try.underlying4 _), (trodAll_cons_mk (Below.trod laidOut (by kernel_rfl) (of_decide_eq_true (by kernel_rfl)) k0 bel lt0) trodAll_mk0), rfl, bel.frame _, fun h => by cases h⟩
theorem closed : joinedFacts Try.prog 5 Try.f5 Rows.fnExactTileBoxesSpec Rows.fnExactTileBoxesRow = true := by
  unfold joinedFacts
  rw [Head.mayEnter, Head.liftsFinal, Head.make]
  simp only [Bool.and_eq_true]
  repeat' apply And.intro
  all_goals first | exact True.intro | (as_aux_lemma => kernel_rfl)
theorem over : Rows.fnExactTileBoxesRow.holds Try.pinned (OpenSpec.ofChange Rows.fnExactTileBoxesSpec) :=
  OpenClaim.holds_of_wide 5 Try.f5 rfl rfl rfl rfl rfl rfl rfl ⟨rfl, rfl, rfl, rfl, rfl⟩ rfl rfl rfl rfl rfl (by kernel_rfl) Try.func5 closed
    (of_decide_eq_true (by kernel_rfl)) (by unfold Func.isWrapper; first | (rw [if_pos (by decide +kernel)]; kernel_rfl) | (rw [if_neg (by decide +kernel)]; exact ⟨rfl, rfl⟩))
    (fun os started H enc _ => lifted os started H enc)
theorem proved : Rows.FnExactTileBoxesSaid := over
#print axioms proved
end Go.Proofs.Ytnofkbbcbpjhfaa.fnExactTileBoxes
namespace Go.Proofs.Ytnofkbbcbpjhfaa
/-- The row, under a short name, for the claim. -/
theorem fnExactTileBoxes_holds : Rows.FnExactTileBoxesSaid := fnExactTileBoxes.proved
end Go.Proofs.Ytnofkbbcbpjhfaa
