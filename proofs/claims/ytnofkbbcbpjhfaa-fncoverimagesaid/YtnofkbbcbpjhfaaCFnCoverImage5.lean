/- A part of the proof that the statement FnCoverImageSaid holds, under no condition of its own: Opaque layers are pasted: the law FnCoverImage over lists of numbers alone. -/
import Derived.Test.YtnofkbbcbpjhfaaCFnCoverImage1
import Derived.Test.YtnofkbbcbpjhfaaCFnCoverImage2
import Derived.Test.YtnofkbbcbpjhfaaCFnCoverImage3
import Derived.Test.YtnofkbbcbpjhfaaCFnCoverImage4
import Derived.Test.YtnofkbbcbpjhfaaRows
import Derived.JoinedOf
import Derived.KernelRfl
import Derived.WalkKit
import Derived.ProofKit
import Derived.OpenShut
import Derived.ShutString
import Derived.ChangeOld
import Derived.Below
import Derived.SizedLaws
import Derived.Test.YtnofkbbcbpjhfaaCFnCoverImageW1
namespace Go.Proofs.Ytnofkbbcbpjhfaa.Q
open Go.RowKit Go.Proofs.YtnofkbbcbpjhfaaW.PrintWords Go.Proofs.YtnofkbbcbpjhfaaW.PrintLast Go.Proofs.YtnofkbbcbpjhfaaW.PrintMore
attribute [local go_sem] max2_int min2_int max_two min_two max_three min_three max_four min_four
set_option linter.unusedVariables false
set_option linter.unusedSimpArgs false
def laws_FnCoverImage.j0 : Nat → Bool → Bool → Bool → Int → Int → Int → List Int → Int → Int → Int → List Int → Int → Int → Int → Int → Bool → Int → Int → Int → List Int → Int → Int → Int → List Int → Option (Bool)
  | 0, _, _, _, _, _, _, _, _, _, _, _, _, _, _, _, _, _, _, _, _, _, _, _, _ => none
  | k + 1, x6, x8, x47, x12019000, x12019001, x12019002, x12019003, x12020000, x12020001, x12020002, x12020003, x12020004, x12020005, x12020006, x12020007, x12020008, x12028000, x12028001, x12028002, x12028003, x12036000, x12036001, x12036002, x12036003 => if x47 = true then ((laws_equalImage.f k x12028000 x12028001 x12028002 x12028003 x12036000 x12036001 x12036002 x12036003).bind fun t12037 => (if t12037 = true then (some (x6 == x8)) else (some false))) else ((impl_CoverImage.f x12019000 x12019001 x12019002 x12019003 x12020000 x12020001 x12020002 x12020003 x12020004 x12020005 0 255 false).bind fun bt12038 => ((impl_PasteImage.f x12019000 x12019001 x12019002 x12019003 x12020004 x12020005 x12020000 x12020001 x12020002 x12020003).bind fun bt12046 => ((impl_CoverImage.f x12019000 x12019001 x12019002 x12019003 x12020000 x12020001 x12020002 x12020003 x12020004 x12020005 x12020006 0 false).bind fun bt12054 => (if bt12038.2.2.2.2 = true then (if bt12046.2.2.2.2 = true then ((laws_equalImage.f k bt12038.1 bt12038.2.1 bt12038.2.2.1 bt12038.2.2.2.1 bt12046.1 bt12046.2.1 bt12046.2.2.1 bt12046.2.2.2.1).bind fun t12062 => (if t12062 = true then (if bt12054.2.2.2.2 = true then ((laws_equalImage.f k bt12054.1 bt12054.2.1 bt12054.2.2.1 bt12054.2.2.2.1 x12019000 x12019001 x12019002 x12019003).bind fun t12063 => (if t12063 = true then ((impl_ValidImage.f x12028000 x12028001 x12028002 x12028003).bind fun t12064 => (some t12064)) else (some false))) else (some false)) else (some false))) else (some false)) else (some false)))))
def laws_FnCoverImage.f (k : Nat) (l0 : List Int) : Option Bool := if (l0.length : Int) > 1048576 then (some true) else ((spec_DrawCoverImage.f k l0).bind fun bt12001 => ((impl_CoverImage.f bt12001.1 bt12001.2.1 bt12001.2.2.1 bt12001.2.2.2.1 bt12001.2.2.2.2.1 bt12001.2.2.2.2.2.1 bt12001.2.2.2.2.2.2.1 bt12001.2.2.2.2.2.2.2.1 bt12001.2.2.2.2.2.2.2.2.1 bt12001.2.2.2.2.2.2.2.2.2.1 bt12001.2.2.2.2.2.2.2.2.2.2.1 bt12001.2.2.2.2.2.2.2.2.2.2.2.1 bt12001.2.2.2.2.2.2.2.2.2.2.2.2).bind fun bt12020 => ((spec_CoverImage.f k bt12001.1 bt12001.2.1 bt12001.2.2.1 bt12001.2.2.2.1 bt12001.2.2.2.2.1 bt12001.2.2.2.2.2.1 bt12001.2.2.2.2.2.2.1 bt12001.2.2.2.2.2.2.2.1 bt12001.2.2.2.2.2.2.2.2.1 bt12001.2.2.2.2.2.2.2.2.2.1 bt12001.2.2.2.2.2.2.2.2.2.2.1 bt12001.2.2.2.2.2.2.2.2.2.2.2.1 bt12001.2.2.2.2.2.2.2.2.2.2.2.2).bind fun bt12028 => ((laws_equalImage.f k bt12020.1 bt12020.2.1 bt12020.2.2.1 bt12020.2.2.2.1 bt12028.1 bt12028.2.1 bt12028.2.2.1 bt12028.2.2.2.1).bind fun t12036 => (if t12036 = true then (if (bt12020.2.2.2.2 != bt12028.2.2.2.2) = true then (laws_FnCoverImage.j0 k bt12020.2.2.2.2 bt12028.2.2.2.2 true bt12001.1 bt12001.2.1 bt12001.2.2.1 bt12001.2.2.2.1 bt12001.2.2.2.2.1 bt12001.2.2.2.2.2.1 bt12001.2.2.2.2.2.2.1 bt12001.2.2.2.2.2.2.2.1 bt12001.2.2.2.2.2.2.2.2.1 bt12001.2.2.2.2.2.2.2.2.2.1 bt12001.2.2.2.2.2.2.2.2.2.2.1 bt12001.2.2.2.2.2.2.2.2.2.2.2.1 bt12001.2.2.2.2.2.2.2.2.2.2.2.2 bt12020.1 bt12020.2.1 bt12020.2.2.1 bt12020.2.2.2.1 bt12028.1 bt12028.2.1 bt12028.2.2.1 bt12028.2.2.2.1) else (laws_FnCoverImage.j0 k bt12020.2.2.2.2 bt12028.2.2.2.2 (!bt12020.2.2.2.2) bt12001.1 bt12001.2.1 bt12001.2.2.1 bt12001.2.2.2.1 bt12001.2.2.2.2.1 bt12001.2.2.2.2.2.1 bt12001.2.2.2.2.2.2.1 bt12001.2.2.2.2.2.2.2.1 bt12001.2.2.2.2.2.2.2.2.1 bt12001.2.2.2.2.2.2.2.2.2.1 bt12001.2.2.2.2.2.2.2.2.2.2.1 bt12001.2.2.2.2.2.2.2.2.2.2.2.1 bt12001.2.2.2.2.2.2.2.2.2.2.2.2 bt12020.1 bt12020.2.1 bt12020.2.2.1 bt12020.2.2.2.1 bt12028.1 bt12028.2.1 bt12028.2.2.1 bt12028.2.2.2.1)) else (laws_FnCoverImage.j0 k bt12020.2.2.2.2 bt12028.2.2.2.2 true bt12001.1 bt12001.2.1 bt12001.2.2.1 bt12001.2.2.2.1 bt12001.2.2.2.2.1 bt12001.2.2.2.2.2.1 bt12001.2.2.2.2.2.2.1 bt12001.2.2.2.2.2.2.2.1 bt12001.2.2.2.2.2.2.2.2.1 bt12001.2.2.2.2.2.2.2.2.2.1 bt12001.2.2.2.2.2.2.2.2.2.2.1 bt12001.2.2.2.2.2.2.2.2.2.2.2.1 bt12001.2.2.2.2.2.2.2.2.2.2.2.2 bt12020.1 bt12020.2.1 bt12020.2.2.1 bt12020.2.2.2.1 bt12028.1 bt12028.2.1 bt12028.2.2.1 bt12028.2.2.2.1))))))
theorem laws_FnCoverImage.mono_l : ∀ k, (∀ y0 y1 y2 y3 y4 y5 y6 y7 y8 y9 y10 y11 y12 y13 y14 y15 y16 y17 y18 y19 y20 y21 y22 y23, LeO (laws_FnCoverImage.j0 k y0 y1 y2 y3 y4 y5 y6 y7 y8 y9 y10 y11 y12 y13 y14 y15 y16 y17 y18 y19 y20 y21 y22 y23) (laws_FnCoverImage.j0 (k + 1) y0 y1 y2 y3 y4 y5 y6 y7 y8 y9 y10 y11 y12 y13 y14 y15 y16 y17 y18 y19 y20 y21 y22 y23))
  | 0 => fun _ _ _ _ _ _ _ _ _ _ _ _ _ _ _ _ _ _ _ _ _ _ _ _ r h => by simp [laws_FnCoverImage.j0] at h
  | k + 1 => by
    have ih0 := laws_FnCoverImage.mono_l k
    · intro y0 y1 y2 y3 y4 y5 y6 y7 y8 y9 y10 y11 y12 y13 y14 y15 y16 y17 y18 y19 y20 y21 y22 y23
      unfold laws_FnCoverImage.j0
      repeat' first | (with_reducible exact laws_equalImage.mono _ _ _ _ _ _ _ _ _) | (with_reducible exact LeO.refl _) | (with_reducible refine LeO.ite ?_ ?_) | (with_reducible refine LeO.bind ?_ (fun _ => ?_))
theorem laws_FnCoverImage.mono : ∀ a0 k, LeO (laws_FnCoverImage.f k a0) (laws_FnCoverImage.f (k + 1) a0) := by
  intro a0 k
  have ih0 := laws_FnCoverImage.mono_l k
  unfold laws_FnCoverImage.f
  repeat' first | (with_reducible exact ih0 _ _ _ _ _ _ _ _ _ _ _ _ _ _ _ _ _ _ _ _ _ _ _ _) | (with_reducible exact laws_equalImage.mono _ _ _ _ _ _ _ _ _) | (with_reducible exact spec_CoverImage.mono _ _ _ _ _ _ _ _ _ _ _ _ _ _) | (with_reducible exact spec_DrawCoverImage.mono _ _) | (with_reducible exact LeO.refl _) | (with_reducible refine LeO.ite ?_ ?_) | (with_reducible refine LeO.bind ?_ (fun _ => ?_))
set_option maxHeartbeats 8000000 in
set_option maxRecDepth 100000 in
theorem laws_FnCoverImage.calls (k : Nat) (A0 : Option Addr) (c0 : Nat) (l0 : List Int) (r : Bool) (w : World) (hr0 : Kd.C (Kd.int .u8) w A0 l0.length l0) (hc0 : l0.length ≤ c0) (h : laws_FnCoverImage.f k l0 = some r) (hrt : r = true) :
    Calls Try.prog 11 #[.slice A0 l0.length c0] w fun e w' => e = .returned (.bool r) ∧ Below w.heap.size w w' := by
  have HRT := Aside0.mk hrt
  clear hrt
  have hu27 := Try.underlying27
  have hu55 := Try.underlying55
  have HR0 := Aside0.mk hr0
  have HC0 := Aside0.mk hc0
  clear hr0 hc0
  have HB := Aside0.mk (Below.refl w.heap.size w)
  have H : (if (l0.length : Int) > 1048576 then (some true) else ((spec_DrawCoverImage.f k l0).bind fun bt12001 => ((impl_CoverImage.f bt12001.1 bt12001.2.1 bt12001.2.2.1 bt12001.2.2.2.1 bt12001.2.2.2.2.1 bt12001.2.2.2.2.2.1 bt12001.2.2.2.2.2.2.1 bt12001.2.2.2.2.2.2.2.1 bt12001.2.2.2.2.2.2.2.2.1 bt12001.2.2.2.2.2.2.2.2.2.1 bt12001.2.2.2.2.2.2.2.2.2.2.1 bt12001.2.2.2.2.2.2.2.2.2.2.2.1 bt12001.2.2.2.2.2.2.2.2.2.2.2.2).bind fun bt12020 => ((spec_CoverImage.f k bt12001.1 bt12001.2.1 bt12001.2.2.1 bt12001.2.2.2.1 bt12001.2.2.2.2.1 bt12001.2.2.2.2.2.1 bt12001.2.2.2.2.2.2.1 bt12001.2.2.2.2.2.2.2.1 bt12001.2.2.2.2.2.2.2.2.1 bt12001.2.2.2.2.2.2.2.2.2.1 bt12001.2.2.2.2.2.2.2.2.2.2.1 bt12001.2.2.2.2.2.2.2.2.2.2.2.1 bt12001.2.2.2.2.2.2.2.2.2.2.2.2).bind fun bt12028 => ((laws_equalImage.f k bt12020.1 bt12020.2.1 bt12020.2.2.1 bt12020.2.2.2.1 bt12028.1 bt12028.2.1 bt12028.2.2.1 bt12028.2.2.2.1).bind fun t12036 => (if t12036 = true then (if (bt12020.2.2.2.2 != bt12028.2.2.2.2) = true then (laws_FnCoverImage.j0 k bt12020.2.2.2.2 bt12028.2.2.2.2 true bt12001.1 bt12001.2.1 bt12001.2.2.1 bt12001.2.2.2.1 bt12001.2.2.2.2.1 bt12001.2.2.2.2.2.1 bt12001.2.2.2.2.2.2.1 bt12001.2.2.2.2.2.2.2.1 bt12001.2.2.2.2.2.2.2.2.1 bt12001.2.2.2.2.2.2.2.2.2.1 bt12001.2.2.2.2.2.2.2.2.2.2.1 bt12001.2.2.2.2.2.2.2.2.2.2.2.1 bt12001.2.2.2.2.2.2.2.2.2.2.2.2 bt12020.1 bt12020.2.1 bt12020.2.2.1 bt12020.2.2.2.1 bt12028.1 bt12028.2.1 bt12028.2.2.1 bt12028.2.2.2.1) else (laws_FnCoverImage.j0 k bt12020.2.2.2.2 bt12028.2.2.2.2 (!bt12020.2.2.2.2) bt12001.1 bt12001.2.1 bt12001.2.2.1 bt12001.2.2.2.1 bt12001.2.2.2.2.1 bt12001.2.2.2.2.2.1 bt12001.2.2.2.2.2.2.1 bt12001.2.2.2.2.2.2.2.1 bt12001.2.2.2.2.2.2.2.2.1 bt12001.2.2.2.2.2.2.2.2.2.1 bt12001.2.2.2.2.2.2.2.2.2.2.1 bt12001.2.2.2.2.2.2.2.2.2.2.2.1 bt12001.2.2.2.2.2.2.2.2.2.2.2.2 bt12020.1 bt12020.2.1 bt12020.2.2.1 bt12020.2.2.2.1 bt12028.1 bt12028.2.1 bt12028.2.2.1 bt12028.2.2.2.1)) else (laws_FnCoverImage.j0 k bt12020.2.2.2.2 bt12028.2.2.2.2 true bt12001.1 bt12001.2.1 bt12001.2.2.1 bt12001.2.2.2.1 bt12001.2.2.2.2.1 bt12001.2.2.2.2.2.1 bt12001.2.2.2.2.2.2.1 bt12001.2.2.2.2.2.2.2.1 bt12001.2.2.2.2.2.2.2.2.1 bt12001.2.2.2.2.2.2.2.2.2.1 bt12001.2.2.2.2.2.2.2.2.2.2.1 bt12001.2.2.2.2.2.2.2.2.2.2.2.1 bt12001.2.2.2.2.2.2.2.2.2.2.2.2 bt12020.1 bt12020.2.1 bt12020.2.2.1 bt12020.2.2.2.1 bt12028.1 bt12028.2.1 bt12028.2.2.1 bt12028.2.2.2.1))))))) = some r := h
  clear h
  by_cases c2 : (l0.length : Int) > 1048576
  · rw [if_pos c2] at H
    have c2b0 : decide (1048576 < (l0.length : Int)) = true := decide_eq_true c2
    have c2b1 : decide (1048576 < l0.length) = true := decide_eq_true (by omega)
    clear c2
    obtain rfl := Option.some.inj H
    go_enter Try.func11, Try.ntmps11
    go_wp2
    go_ret
    exact ⟨by rfl, by exact HB.out⟩
  · rw [if_neg c2] at H
    have c2b0 : decide (1048576 < (l0.length : Int)) = false := decide_eq_false c2
    have c2b1 : decide (1048576 < l0.length) = false := decide_eq_false (by omega)
    clear c2
    replace H := Option.bind_eq_some_iff.mp H
    obtain ⟨⟨t12001, t12002, t12003, t12004, t12007, t12008, t12009, t12010, t12013, t12014, t12015, t12016, t12017⟩, A30, H⟩ := H
    replace H : ((impl_CoverImage.f t12001 t12002 t12003 t12004 t12007 t12008 t12009 t12010 t12013 t12014 t12015 t12016 t12017).bind fun bt12020 => ((spec_CoverImage.f k t12001 t12002 t12003 t12004 t12007 t12008 t12009 t12010 t12013 t12014 t12015 t12016 t12017).bind fun bt12028 => ((laws_equalImage.f k bt12020.1 bt12020.2.1 bt12020.2.2.1 bt12020.2.2.2.1 bt12028.1 bt12028.2.1 bt12028.2.2.1 bt12028.2.2.2.1).bind fun t12036 => (if t12036 = true then (if (bt12020.2.2.2.2 != bt12028.2.2.2.2) = true then (laws_FnCoverImage.j0 k bt12020.2.2.2.2 bt12028.2.2.2.2 true t12001 t12002 t12003 t12004 t12007 t12008 t12009 t12010 t12013 t12014 t12015 t12016 t12017 bt12020.1 bt12020.2.1 bt12020.2.2.1 bt12020.2.2.2.1 bt12028.1 bt12028.2.1 bt12028.2.2.1 bt12028.2.2.2.1) else (laws_FnCoverImage.j0 k bt12020.2.2.2.2 bt12028.2.2.2.2 (!bt12020.2.2.2.2) t12001 t12002 t12003 t12004 t12007 t12008 t12009 t12010 t12013 t12014 t12015 t12016 t12017 bt12020.1 bt12020.2.1 bt12020.2.2.1 bt12020.2.2.2.1 bt12028.1 bt12028.2.1 bt12028.2.2.1 bt12028.2.2.2.1)) else (laws_FnCoverImage.j0 k bt12020.2.2.2.2 bt12028.2.2.2.2 true t12001 t12002 t12003 t12004 t12007 t12008 t12009 t12010 t12013 t12014 t12015 t12016 t12017 bt12020.1 bt12020.2.1 bt12020.2.2.1 bt12020.2.2.2.1 bt12028.1 bt12028.2.1 bt12028.2.2.1 bt12028.2.2.2.1))))) = some r := H
    have A3 := Aside0.mk A30
    clear A30
    replace H := Option.bind_eq_some_iff.mp H
    obtain ⟨⟨t12020, t12021, t12022, t12023, t12026⟩, A40, H⟩ := H
    replace H : ((spec_CoverImage.f k t12001 t12002 t12003 t12004 t12007 t12008 t12009 t12010 t12013 t12014 t12015 t12016 t12017).bind fun bt12028 => ((laws_equalImage.f k t12020 t12021 t12022 t12023 bt12028.1 bt12028.2.1 bt12028.2.2.1 bt12028.2.2.2.1).bind fun t12036 => (if t12036 = true then (if (t12026 != bt12028.2.2.2.2) = true then (laws_FnCoverImage.j0 k t12026 bt12028.2.2.2.2 true t12001 t12002 t12003 t12004 t12007 t12008 t12009 t12010 t12013 t12014 t12015 t12016 t12017 t12020 t12021 t12022 t12023 bt12028.1 bt12028.2.1 bt12028.2.2.1 bt12028.2.2.2.1) else (laws_FnCoverImage.j0 k t12026 bt12028.2.2.2.2 (!t12026) t12001 t12002 t12003 t12004 t12007 t12008 t12009 t12010 t12013 t12014 t12015 t12016 t12017 t12020 t12021 t12022 t12023 bt12028.1 bt12028.2.1 bt12028.2.2.1 bt12028.2.2.2.1)) else (laws_FnCoverImage.j0 k t12026 bt12028.2.2.2.2 true t12001 t12002 t12003 t12004 t12007 t12008 t12009 t12010 t12013 t12014 t12015 t12016 t12017 t12020 t12021 t12022 t12023 bt12028.1 bt12028.2.1 bt12028.2.2.1 bt12028.2.2.2.1)))) = some r := H
    have A4 := Aside0.mk A40
    clear A40
    replace H := Option.bind_eq_some_iff.mp H
    obtain ⟨⟨t12028, t12029, t12030, t12031, t12034⟩, A50, H⟩ := H
    replace H : ((laws_equalImage.f k t12020 t12021 t12022 t12023 t12028 t12029 t12030 t12031).bind fun t12036 => (if t12036 = true then (if (t12026 != t12034) = true then (laws_FnCoverImage.j0 k t12026 t12034 true t12001 t12002 t12003 t12004 t12007 t12008 t12009 t12010 t12013 t12014 t12015 t12016 t12017 t12020 t12021 t12022 t12023 t12028 t12029 t12030 t12031) else (laws_FnCoverImage.j0 k t12026 t12034 (!t12026) t12001 t12002 t12003 t12004 t12007 t12008 t12009 t12010 t12013 t12014 t12015 t12016 t12017 t12020 t12021 t12022 t12023 t12028 t12029 t12030 t12031)) else (laws_FnCoverImage.j0 k t12026 t12034 true t12001 t12002 t12003 t12004 t12007 t12008 t12009 t12010 t12013 t12014 t12015 t12016 t12017 t12020 t12021 t12022 t12023 t12028 t12029 t12030 t12031))) = some r := H
    have A5 := Aside0.mk A50
    clear A50
    have HC6 := Aside0.mk H
    clear H
    go_enter Try.func11, Try.ntmps11
    go_upto_region 6 with (first | ((with_reducible refine gate_callee (f := 61) rfl ?_); refine goesL_ (some 20) rfl rfl Try.func61 (by kernel_rfl) rfl #[.slice A0 l0.length c0] rfl (by (try simp only [List.map_toArray, List.map_cons, List.map_nil]); rfl) ?_; (with_reducible refine (spec_DrawCoverImage.calls k _ _ l0 t12001 t12002 t12003 t12004 t12007 t12008 t12009 t12010 t12013 t12014 t12015 t12016 t12017 _ ?side1 ?side2 A3.out).mono ?_); (case side1 => repeat (exact HR0.out)); (case side2 => exact HC0.out); rintro e w7 ⟨v12005, v12011, rfl, ho0, ho1, hb⟩; refine ⟨_, rfl, ?_⟩; have n0_ := Aside0.mk (Kd.Q_lower ho0 (below_size HB.out)); have n1_ := Aside0.mk (Kd.Q_lower ho1 (below_size HB.out)); have n2_ := Aside0.mk (below_step HB.out hb); clear HB; have HO12006 := n0_; have HO12012 := n1_; have HB := n2_; clear n0_ n1_ n2_; (try clear hb); (try clear ho0); (try clear ho1)) | ((with_reducible refine gate_dst (N := 3) rfl ?_); refine box_event ?hg (N := 3) ?hd (cs := #[.int .i64 0, .int .i64 0, .int .i64 0, .slice none 0 0]) (t := 27) ?hr ?_; (case hd => rfl); (case hg => rfl); (case hr => (go_simp; done)); intro gb12018 hg w8 hbox hb; have n0_ := Aside0.mk (Kd.Q_below HO12006.out hb); have n1_ := Aside0.mk (Kd.Q_below HO12012.out hb); have n2_ := Aside0.mk (below_step HB.out hb); have n3_ := Aside0.mk (hbox); have n4_ := Aside0.mk ((by rw [hg]; exact (below_size HB.out) : w.heap.size ≤ gb12018)); have n5_ := Aside0.mk ((by rw [hg]; exact (below_size HB.out) : w.heap.size ≤ gb12018)); clear HO12006; clear HO12012; clear HB; have HO12006 := n0_; have HO12012 := n1_; have HB := n2_; have BK12018 := n3_; have GW12018 := n4_; have GE12018 := n5_; clear n0_ n1_ n2_ n3_ n4_ n5_; clear hb hbox hg) | ((with_reducible refine gate_dst (N := 4) rfl ?_); refine box_event ?hg (N := 4) ?hd (cs := #[.int .i64 0, .int .i64 0, .int .i64 0, .slice none 0 0, .int .i64 0, .int .i64 0, .int .i64 0, .int .i64 0, .bool false]) (t := 55) ?hr ?_; (case hd => rfl); (case hg => rfl); (case hr => (go_simp; done)); intro gb12019 hg w9 hbox hb; have n0_ := Aside0.mk (Kd.Q_below HO12006.out hb); have n1_ := Aside0.mk (Kd.Q_below HO12012.out hb); have n2_ := Aside0.mk (blk_below BK12018.out hb); have n3_ := Aside0.mk (below_step HB.out hb); have n4_ := Aside0.mk (hbox); have n5_ := Aside0.mk ((by rw [hg]; exact (below_size HB.out) : w.heap.size ≤ gb12019)); have n6_ := Aside0.mk ((by rw [hg]; exact (below_size HB.out) : w.heap.size ≤ gb12019)); have n7_ := Aside0.mk ((by rw [hg]; exact Nat.ne_of_lt (blk_lt BK12018.out) : gb12018 ≠ gb12019)); have n8_ := Aside0.mk ((by rw [hg]; exact Nat.ne_of_gt (blk_lt BK12018.out) : gb12019 ≠ gb12018)); clear HO12006; clear HO12012; clear BK12018; clear HB; have HO12006 := n0_; have HO12012 := n1_; have BK12018 := n2_; have HB := n3_; have BK12019 := n4_; have GW12019 := n5_; have GE12019 := n6_; have NB12018_12019 := n7_; have NB12019_12018 := n8_; clear n0_ n1_ n2_ n3_ n4_ n5_ n6_ n7_ n8_; clear hb hbox hg; have hnb10 := NB12018_12019.out; have hnc10 := NB12019_12018.out; have hcz11_0 : w9.cell? ⟨gb12018, 0, none⟩ = some (.int .i64 0) := (blk_cell BK12018.out 0).trans rfl; have hcz11_1 : w9.cell? ⟨gb12018, 1, none⟩ = some (.int .i64 0) := (blk_cell BK12018.out 1).trans rfl; have hcz11_2 : w9.cell? ⟨gb12018, 2, none⟩ = some (.int .i64 0) := (blk_cell BK12018.out 2).trans rfl; have hcz11_3 : w9.cell? ⟨gb12018, 3, none⟩ = some (.slice none 0 0) := (blk_cell BK12018.out 3).trans rfl; have hfz11_0 := blk_frozen BK12018.out 0; have hfz11_1 := blk_frozen BK12018.out 1; have hfz11_2 := blk_frozen BK12018.out 2; have hfz11_3 := blk_frozen BK12018.out 3; obtain ⟨Ao12, co12, eo12, _⟩ := Kd.Q_slice HO12006.out; subst eo12; have hcz13_0 : w9.cell? ⟨gb12019, 0, none⟩ = some (.int .i64 0) := (blk_cell BK12019.out 0).trans rfl; have hcz13_1 : w9.cell? ⟨gb12019, 1, none⟩ = some (.int .i64 0) := (blk_cell BK12019.out 1).trans rfl; have hcz13_2 : w9.cell? ⟨gb12019, 2, none⟩ = some (.int .i64 0) := (blk_cell BK12019.out 2).trans rfl; have hcz13_3 : w9.cell? ⟨gb12019, 3, none⟩ = some (.slice none 0 0) := (blk_cell BK12019.out 3).trans rfl; have hcz13_4 : w9.cell? ⟨gb12019, 4, none⟩ = some (.int .i64 0) := (blk_cell BK12019.out 4).trans rfl; have hcz13_5 : w9.cell? ⟨gb12019, 5, none⟩ = some (.int .i64 0) := (blk_cell BK12019.out 5).trans rfl; have hcz13_6 : w9.cell? ⟨gb12019, 6, none⟩ = some (.int .i64 0) := (blk_cell BK12019.out 6).trans rfl; have hcz13_7 : w9.cell? ⟨gb12019, 7, none⟩ = some (.int .i64 0) := (blk_cell BK12019.out 7).trans rfl; have hcz13_8 : w9.cell? ⟨gb12019, 8, none⟩ = some (.bool false) := (blk_cell BK12019.out 8).trans rfl; have hfz13_0 := blk_frozen BK12019.out 0; have hfz13_1 := blk_frozen BK12019.out 1; have hfz13_2 := blk_frozen BK12019.out 2; have hfz13_3 := blk_frozen BK12019.out 3; have hfz13_4 := blk_frozen BK12019.out 4; have hfz13_5 := blk_frozen BK12019.out 5; have hfz13_6 := blk_frozen BK12019.out 6; have hfz13_7 := blk_frozen BK12019.out 7; have hfz13_8 := blk_frozen BK12019.out 8; obtain ⟨Ao14, co14, eo14, _⟩ := Kd.Q_slice HO12012.out; subst eo14) | ((with_reducible refine gate_callee (f := 49) rfl ?_); refine goesL_ (some 26) rfl rfl Try.func49 (by kernel_rfl) rfl #[.agg #[.int .i64 t12001, .int .i64 t12002, .int .i64 t12003, .slice Ao12 t12004.length co12], .agg #[.int .i64 t12007, .int .i64 t12008, .int .i64 t12009, .slice Ao14 t12010.length co14, .int .i64 t12013, .int .i64 t12014, .int .i64 t12015, .int .i64 t12016, .bool t12017]] rfl (by (try simp only [List.map_toArray, List.map_cons, List.map_nil]); rfl) ?_; (with_reducible refine (impl_CoverImage.calls t12001 t12002 t12003 _ _ t12004 t12007 t12008 t12009 _ _ t12010 t12013 t12014 t12015 t12016 t12017 t12020 t12021 t12022 t12023 t12026 _ ?side1 ?side2 ?side3 ?side4 A4.out).mono ?_); (case side1 => refine (Kd.Q_reads' (e := 3) (base := w.heap.size) (ok := fun k_ => some k_ ≠ (.slice Ao14 t12010.length co14 : Value).ownBlock) (n := t12004.length) (c := co12) ?_).2.2; exact (by exact (Kd.Q_mono (Kd.Q_mono (Kd.Q_far (p := ⟨gb12019, 8, none⟩) (Kd.Q_far (p := ⟨gb12019, 7, none⟩) (Kd.Q_far (p := ⟨gb12019, 6, none⟩) (Kd.Q_far (p := ⟨gb12019, 5, none⟩) (Kd.Q_far (p := ⟨gb12019, 4, none⟩) (Kd.Q_far (p := ⟨gb12019, 3, none⟩) (Kd.Q_far (p := ⟨gb12019, 2, none⟩) (Kd.Q_far (p := ⟨gb12019, 1, none⟩) (Kd.Q_far (p := ⟨gb12019, 0, none⟩) (Kd.Q_far (p := ⟨gb12018, 3, none⟩) (Kd.Q_far (p := ⟨gb12018, 2, none⟩) (Kd.Q_far (p := ⟨gb12018, 1, none⟩) (Kd.Q_far (p := ⟨gb12018, 0, none⟩) (Kd.Q_types (Kd.Q_types HO12006.out BK12018.out (by decide)) BK12019.out (by decide)) (fun _ hk => hk.1.2) (.int .i64 t12001)) (fun _ hk => hk.1.2) (.int .i64 t12002)) (fun _ hk => hk.1.2) (.int .i64 t12003)) (fun _ hk => hk.1.2) (.slice Ao12 t12004.length co12)) (fun _ hk => hk.2) (.int .i64 t12007)) (fun _ hk => hk.2) (.int .i64 t12008)) (fun _ hk => hk.2) (.int .i64 t12009)) (fun _ hk => hk.2) (.slice Ao14 t12010.length co14)) (fun _ hk => hk.2) (.int .i64 t12013)) (fun _ hk => hk.2) (.int .i64 t12014)) (fun _ hk => hk.2) (.int .i64 t12015)) (fun _ hk => hk.2) (.int .i64 t12016)) (fun _ hk => hk.2) (.bool t12017)) (fun _ h_ => h_.1)) (fun _ h_ => h_.1)))); (case side2 => exact (Kd.Q_reads' HO12006.out).2.1); (case side3 => refine (Kd.Q_reads' (e := 3) (base := w.heap.size) (ok := fun k_ => some k_ ≠ (.slice Ao12 t12004.length co12 : Value).ownBlock) (n := t12010.length) (c := co14) ?_).2.2; exact (by exact (Kd.Q_mono (Kd.Q_mono (Kd.Q_far (p := ⟨gb12019, 8, none⟩) (Kd.Q_far (p := ⟨gb12019, 7, none⟩) (Kd.Q_far (p := ⟨gb12019, 6, none⟩) (Kd.Q_far (p := ⟨gb12019, 5, none⟩) (Kd.Q_far (p := ⟨gb12019, 4, none⟩) (Kd.Q_far (p := ⟨gb12019, 3, none⟩) (Kd.Q_far (p := ⟨gb12019, 2, none⟩) (Kd.Q_far (p := ⟨gb12019, 1, none⟩) (Kd.Q_far (p := ⟨gb12019, 0, none⟩) (Kd.Q_far (p := ⟨gb12018, 3, none⟩) (Kd.Q_far (p := ⟨gb12018, 2, none⟩) (Kd.Q_far (p := ⟨gb12018, 1, none⟩) (Kd.Q_far (p := ⟨gb12018, 0, none⟩) (Kd.Q_types (Kd.Q_types HO12012.out BK12018.out (by decide)) BK12019.out (by decide)) (fun _ hk => hk.1.2) (.int .i64 t12001)) (fun _ hk => hk.1.2) (.int .i64 t12002)) (fun _ hk => hk.1.2) (.int .i64 t12003)) (fun _ hk => hk.1.2) (.slice Ao12 t12004.length co12)) (fun _ hk => hk.2) (.int .i64 t12007)) (fun _ hk => hk.2) (.int .i64 t12008)) (fun _ hk => hk.2) (.int .i64 t12009)) (fun _ hk => hk.2) (.slice Ao14 t12010.length co14)) (fun _ hk => hk.2) (.int .i64 t12013)) (fun _ hk => hk.2) (.int .i64 t12014)) (fun _ hk => hk.2) (.int .i64 t12015)) (fun _ hk => hk.2) (.int .i64 t12016)) (fun _ hk => hk.2) (.bool t12017)) (fun _ h_ => h_.1)) (fun _ h_ => h_.1)))); (case side4 => exact (Kd.Q_reads' HO12012.out).2.1); rintro e w15 ⟨v12024, rfl, ho0, hb⟩; refine ⟨_, rfl, ?_⟩; have n0_ := Aside0.mk (Kd.Q_elder' (by exact (Kd.Q_mono (Kd.Q_mono (Kd.Q_far (p := ⟨gb12019, 8, none⟩) (Kd.Q_far (p := ⟨gb12019, 7, none⟩) (Kd.Q_far (p := ⟨gb12019, 6, none⟩) (Kd.Q_far (p := ⟨gb12019, 5, none⟩) (Kd.Q_far (p := ⟨gb12019, 4, none⟩) (Kd.Q_far (p := ⟨gb12019, 3, none⟩) (Kd.Q_far (p := ⟨gb12019, 2, none⟩) (Kd.Q_far (p := ⟨gb12019, 1, none⟩) (Kd.Q_far (p := ⟨gb12019, 0, none⟩) (Kd.Q_far (p := ⟨gb12018, 3, none⟩) (Kd.Q_far (p := ⟨gb12018, 2, none⟩) (Kd.Q_far (p := ⟨gb12018, 1, none⟩) (Kd.Q_far (p := ⟨gb12018, 0, none⟩) (Kd.Q_types (Kd.Q_types HO12006.out BK12018.out (by decide)) BK12019.out (by decide)) (fun _ hk => hk.1.2) (.int .i64 t12001)) (fun _ hk => hk.1.2) (.int .i64 t12002)) (fun _ hk => hk.1.2) (.int .i64 t12003)) (fun _ hk => hk.1.2) (.slice Ao12 t12004.length co12)) (fun _ hk => hk.2) (.int .i64 t12007)) (fun _ hk => hk.2) (.int .i64 t12008)) (fun _ hk => hk.2) (.int .i64 t12009)) (fun _ hk => hk.2) (.slice Ao14 t12010.length co14)) (fun _ hk => hk.2) (.int .i64 t12013)) (fun _ hk => hk.2) (.int .i64 t12014)) (fun _ hk => hk.2) (.int .i64 t12015)) (fun _ hk => hk.2) (.int .i64 t12016)) (fun _ hk => hk.2) (.bool t12017)) (fun _ h_ => h_.1)) (fun _ h_ => h_.1))) (Kd.R_base ho0) hb); have n1_ := Aside0.mk (Kd.Q_elder' (by exact (Kd.Q_mono (Kd.Q_mono (Kd.Q_far (p := ⟨gb12019, 8, none⟩) (Kd.Q_far (p := ⟨gb12019, 7, none⟩) (Kd.Q_far (p := ⟨gb12019, 6, none⟩) (Kd.Q_far (p := ⟨gb12019, 5, none⟩) (Kd.Q_far (p := ⟨gb12019, 4, none⟩) (Kd.Q_far (p := ⟨gb12019, 3, none⟩) (Kd.Q_far (p := ⟨gb12019, 2, none⟩) (Kd.Q_far (p := ⟨gb12019, 1, none⟩) (Kd.Q_far (p := ⟨gb12019, 0, none⟩) (Kd.Q_far (p := ⟨gb12018, 3, none⟩) (Kd.Q_far (p := ⟨gb12018, 2, none⟩) (Kd.Q_far (p := ⟨gb12018, 1, none⟩) (Kd.Q_far (p := ⟨gb12018, 0, none⟩) (Kd.Q_types (Kd.Q_types HO12012.out BK12018.out (by decide)) BK12019.out (by decide)) (fun _ hk => hk.1.2) (.int .i64 t12001)) (fun _ hk => hk.1.2) (.int .i64 t12002)) (fun _ hk => hk.1.2) (.int .i64 t12003)) (fun _ hk => hk.1.2) (.slice Ao12 t12004.length co12)) (fun _ hk => hk.2) (.int .i64 t12007)) (fun _ hk => hk.2) (.int .i64 t12008)) (fun _ hk => hk.2) (.int .i64 t12009)) (fun _ hk => hk.2) (.slice Ao14 t12010.length co14)) (fun _ hk => hk.2) (.int .i64 t12013)) (fun _ hk => hk.2) (.int .i64 t12014)) (fun _ hk => hk.2) (.int .i64 t12015)) (fun _ hk => hk.2) (.int .i64 t12016)) (fun _ hk => hk.2) (.bool t12017)) (fun _ h_ => h_.1)) (fun _ h_ => h_.1))) (Kd.R_base ho0) hb); have n2_ := Aside0.mk (Kd.R_lower (Kd.R_new' (Kd.R_new' ho0 (Kd.Q_lt (by exact (Kd.Q_mono (Kd.Q_mono (Kd.Q_far (p := ⟨gb12019, 8, none⟩) (Kd.Q_far (p := ⟨gb12019, 7, none⟩) (Kd.Q_far (p := ⟨gb12019, 6, none⟩) (Kd.Q_far (p := ⟨gb12019, 5, none⟩) (Kd.Q_far (p := ⟨gb12019, 4, none⟩) (Kd.Q_far (p := ⟨gb12019, 3, none⟩) (Kd.Q_far (p := ⟨gb12019, 2, none⟩) (Kd.Q_far (p := ⟨gb12019, 1, none⟩) (Kd.Q_far (p := ⟨gb12019, 0, none⟩) (Kd.Q_far (p := ⟨gb12018, 3, none⟩) (Kd.Q_far (p := ⟨gb12018, 2, none⟩) (Kd.Q_far (p := ⟨gb12018, 1, none⟩) (Kd.Q_far (p := ⟨gb12018, 0, none⟩) (Kd.Q_types (Kd.Q_types HO12006.out BK12018.out (by decide)) BK12019.out (by decide)) (fun _ hk => hk.1.2) (.int .i64 t12001)) (fun _ hk => hk.1.2) (.int .i64 t12002)) (fun _ hk => hk.1.2) (.int .i64 t12003)) (fun _ hk => hk.1.2) (.slice Ao12 t12004.length co12)) (fun _ hk => hk.2) (.int .i64 t12007)) (fun _ hk => hk.2) (.int .i64 t12008)) (fun _ hk => hk.2) (.int .i64 t12009)) (fun _ hk => hk.2) (.slice Ao14 t12010.length co14)) (fun _ hk => hk.2) (.int .i64 t12013)) (fun _ hk => hk.2) (.int .i64 t12014)) (fun _ hk => hk.2) (.int .i64 t12015)) (fun _ hk => hk.2) (.int .i64 t12016)) (fun _ hk => hk.2) (.bool t12017)) (fun _ h_ => h_.1)) (fun _ h_ => h_.1))))) (Kd.Q_lt (by exact (Kd.Q_mono (Kd.Q_mono (Kd.Q_far (p := ⟨gb12019, 8, none⟩) (Kd.Q_far (p := ⟨gb12019, 7, none⟩) (Kd.Q_far (p := ⟨gb12019, 6, none⟩) (Kd.Q_far (p := ⟨gb12019, 5, none⟩) (Kd.Q_far (p := ⟨gb12019, 4, none⟩) (Kd.Q_far (p := ⟨gb12019, 3, none⟩) (Kd.Q_far (p := ⟨gb12019, 2, none⟩) (Kd.Q_far (p := ⟨gb12019, 1, none⟩) (Kd.Q_far (p := ⟨gb12019, 0, none⟩) (Kd.Q_far (p := ⟨gb12018, 3, none⟩) (Kd.Q_far (p := ⟨gb12018, 2, none⟩) (Kd.Q_far (p := ⟨gb12018, 1, none⟩) (Kd.Q_far (p := ⟨gb12018, 0, none⟩) (Kd.Q_types (Kd.Q_types HO12012.out BK12018.out (by decide)) BK12019.out (by decide)) (fun _ hk => hk.1.2) (.int .i64 t12001)) (fun _ hk => hk.1.2) (.int .i64 t12002)) (fun _ hk => hk.1.2) (.int .i64 t12003)) (fun _ hk => hk.1.2) (.slice Ao12 t12004.length co12)) (fun _ hk => hk.2) (.int .i64 t12007)) (fun _ hk => hk.2) (.int .i64 t12008)) (fun _ hk => hk.2) (.int .i64 t12009)) (fun _ hk => hk.2) (.slice Ao14 t12010.length co14)) (fun _ hk => hk.2) (.int .i64 t12013)) (fun _ hk => hk.2) (.int .i64 t12014)) (fun _ hk => hk.2) (.int .i64 t12015)) (fun _ hk => hk.2) (.int .i64 t12016)) (fun _ hk => hk.2) (.bool t12017)) (fun _ h_ => h_.1)) (fun _ h_ => h_.1))))) (below_size (by repeat (with_reducible first | exact HB.out | refine below_set ?_ GE12018.out | refine below_set ?_ GE12019.out)))); have n3_ := Aside0.mk (blk_below (g := gb12018) (o := .cells #[.int .i64 t12001, .int .i64 t12002, .int .i64 t12003, .slice Ao12 t12004.length co12] 27 (0, 0)) (by refine blk_far ?_ NB12018_12019.out _; (with_reducible repeat (first | refine blk_drewN ?_ _ | refine blk_drew ?_ | refine blk_alloc ?_ _)); refine blk_far ?_ NB12018_12019.out _; (with_reducible repeat (first | refine blk_drewN ?_ _ | refine blk_drew ?_ | refine blk_alloc ?_ _)); refine blk_far ?_ NB12018_12019.out _; (with_reducible repeat (first | refine blk_drewN ?_ _ | refine blk_drew ?_ | refine blk_alloc ?_ _)); refine blk_far ?_ NB12018_12019.out _; (with_reducible repeat (first | refine blk_drewN ?_ _ | refine blk_drew ?_ | refine blk_alloc ?_ _)); refine blk_far ?_ NB12018_12019.out _; (with_reducible repeat (first | refine blk_drewN ?_ _ | refine blk_drew ?_ | refine blk_alloc ?_ _)); refine blk_far ?_ NB12018_12019.out _; (with_reducible repeat (first | refine blk_drewN ?_ _ | refine blk_drew ?_ | refine blk_alloc ?_ _)); refine blk_far ?_ NB12018_12019.out _; (with_reducible repeat (first | refine blk_drewN ?_ _ | refine blk_drew ?_ | refine blk_alloc ?_ _)); refine blk_far ?_ NB12018_12019.out _; (with_reducible repeat (first | refine blk_drewN ?_ _ | refine blk_drew ?_ | refine blk_alloc ?_ _)); refine blk_far ?_ NB12018_12019.out _; (with_reducible repeat (first | refine blk_drewN ?_ _ | refine blk_drew ?_ | refine blk_alloc ?_ _)); refine blk_put (cs := #[.int .i64 t12001, .int .i64 t12002, .int .i64 t12003, .slice none 0 0]) ?_ 3 _ rfl; (with_reducible repeat (first | refine blk_drewN ?_ _ | refine blk_drew ?_ | refine blk_alloc ?_ _)); refine blk_put (cs := #[.int .i64 t12001, .int .i64 t12002, .int .i64 0, .slice none 0 0]) ?_ 2 _ rfl; (with_reducible repeat (first | refine blk_drewN ?_ _ | refine blk_drew ?_ | refine blk_alloc ?_ _)); refine blk_put (cs := #[.int .i64 t12001, .int .i64 0, .int .i64 0, .slice none 0 0]) ?_ 1 _ rfl; (with_reducible repeat (first | refine blk_drewN ?_ _ | refine blk_drew ?_ | refine blk_alloc ?_ _)); refine blk_put (cs := #[.int .i64 0, .int .i64 0, .int .i64 0, .slice none 0 0]) ?_ 0 _ rfl; (with_reducible repeat (first | refine blk_drewN ?_ _ | refine blk_drew ?_ | refine blk_alloc ?_ _)); exact BK12018.out) hb); have n4_ := Aside0.mk (blk_below (g := gb12019) (o := .cells #[.int .i64 t12007, .int .i64 t12008, .int .i64 t12009, .slice Ao14 t12010.length co14, .int .i64 t12013, .int .i64 t12014, .int .i64 t12015, .int .i64 t12016, .bool t12017] 55 (0, 0)) (by refine blk_put (cs := #[.int .i64 t12007, .int .i64 t12008, .int .i64 t12009, .slice Ao14 t12010.length co14, .int .i64 t12013, .int .i64 t12014, .int .i64 t12015, .int .i64 t12016, .bool false]) ?_ 8 _ rfl; (with_reducible repeat (first | refine blk_drewN ?_ _ | refine blk_drew ?_ | refine blk_alloc ?_ _)); refine blk_put (cs := #[.int .i64 t12007, .int .i64 t12008, .int .i64 t12009, .slice Ao14 t12010.length co14, .int .i64 t12013, .int .i64 t12014, .int .i64 t12015, .int .i64 0, .bool false]) ?_ 7 _ rfl; (with_reducible repeat (first | refine blk_drewN ?_ _ | refine blk_drew ?_ | refine blk_alloc ?_ _)); refine blk_put (cs := #[.int .i64 t12007, .int .i64 t12008, .int .i64 t12009, .slice Ao14 t12010.length co14, .int .i64 t12013, .int .i64 t12014, .int .i64 0, .int .i64 0, .bool false]) ?_ 6 _ rfl; (with_reducible repeat (first | refine blk_drewN ?_ _ | refine blk_drew ?_ | refine blk_alloc ?_ _)); refine blk_put (cs := #[.int .i64 t12007, .int .i64 t12008, .int .i64 t12009, .slice Ao14 t12010.length co14, .int .i64 t12013, .int .i64 0, .int .i64 0, .int .i64 0, .bool false]) ?_ 5 _ rfl; (with_reducible repeat (first | refine blk_drewN ?_ _ | refine blk_drew ?_ | refine blk_alloc ?_ _)); refine blk_put (cs := #[.int .i64 t12007, .int .i64 t12008, .int .i64 t12009, .slice Ao14 t12010.length co14, .int .i64 0, .int .i64 0, .int .i64 0, .int .i64 0, .bool false]) ?_ 4 _ rfl; (with_reducible repeat (first | refine blk_drewN ?_ _ | refine blk_drew ?_ | refine blk_alloc ?_ _)); refine blk_put (cs := #[.int .i64 t12007, .int .i64 t12008, .int .i64 t12009, .slice none 0 0, .int .i64 0, .int .i64 0, .int .i64 0, .int .i64 0, .bool false]) ?_ 3 _ rfl; (with_reducible repeat (first | refine blk_drewN ?_ _ | refine blk_drew ?_ | refine blk_alloc ?_ _)); refine blk_put (cs := #[.int .i64 t12007, .int .i64 t12008, .int .i64 0, .slice none 0 0, .int .i64 0, .int .i64 0, .int .i64 0, .int .i64 0, .bool false]) ?_ 2 _ rfl; (with_reducible repeat (first | refine blk_drewN ?_ _ | refine blk_drew ?_ | refine blk_alloc ?_ _)); refine blk_put (cs := #[.int .i64 t12007, .int .i64 0, .int .i64 0, .slice none 0 0, .int .i64 0, .int .i64 0, .int .i64 0, .int .i64 0, .bool false]) ?_ 1 _ rfl; (with_reducible repeat (first | refine blk_drewN ?_ _ | refine blk_drew ?_ | refine blk_alloc ?_ _)); refine blk_put (cs := #[.int .i64 0, .int .i64 0, .int .i64 0, .slice none 0 0, .int .i64 0, .int .i64 0, .int .i64 0, .int .i64 0, .bool false]) ?_ 0 _ rfl; (with_reducible repeat (first | refine blk_drewN ?_ _ | refine blk_drew ?_ | refine blk_alloc ?_ _)); refine blk_far ?_ NB12019_12018.out _; (with_reducible repeat (first | refine blk_drewN ?_ _ | refine blk_drew ?_ | refine blk_alloc ?_ _)); refine blk_far ?_ NB12019_12018.out _; (with_reducible repeat (first | refine blk_drewN ?_ _ | refine blk_drew ?_ | refine blk_alloc ?_ _)); refine blk_far ?_ NB12019_12018.out _; (with_reducible repeat (first | refine blk_drewN ?_ _ | refine blk_drew ?_ | refine blk_alloc ?_ _)); refine blk_far ?_ NB12019_12018.out _; (with_reducible repeat (first | refine blk_drewN ?_ _ | refine blk_drew ?_ | refine blk_alloc ?_ _)); exact BK12019.out) hb); have n5_ := Aside0.mk (below_step (by repeat (with_reducible first | exact HB.out | refine below_set ?_ GE12018.out | refine below_set ?_ GE12019.out)) hb); clear HO12006; clear HO12012; clear BK12018; clear BK12019; clear HB; have HO12006 := n0_; have HO12012 := n1_; have HO12025 := n2_; have BK12018 := n3_; have BK12019 := n4_; have HB := n5_; clear n0_ n1_ n2_ n3_ n4_ n5_; (try clear hb); (try clear ho0)) | ((with_reducible refine gate_dst (N := 5) rfl ?_); refine box_event ?hg (N := 5) ?hd (cs := #[.int .i64 0, .int .i64 0, .int .i64 0, .slice none 0 0]) (t := 27) ?hr ?_; (case hd => rfl); (case hg => rfl); (case hr => (go_simp; done)); intro gb12027 hg w16 hbox hb; have n0_ := Aside0.mk (Kd.Q_below HO12006.out hb); have n1_ := Aside0.mk (Kd.Q_below HO12012.out hb); have n2_ := Aside0.mk (Kd.R_below HO12025.out hb); have n3_ := Aside0.mk (blk_below BK12018.out hb); have n4_ := Aside0.mk (blk_below BK12019.out hb); have n5_ := Aside0.mk (below_step HB.out hb); have n6_ := Aside0.mk (hbox); have n7_ := Aside0.mk ((by rw [hg]; exact (below_size HB.out) : w.heap.size ≤ gb12027)); have n8_ := Aside0.mk ((by rw [hg]; exact (below_size HB.out) : w.heap.size ≤ gb12027)); have n9_ := Aside0.mk ((by rw [hg]; exact Nat.ne_of_lt (blk_lt BK12018.out) : gb12018 ≠ gb12027)); have n10_ := Aside0.mk ((by rw [hg]; exact Nat.ne_of_gt (blk_lt BK12018.out) : gb12027 ≠ gb12018)); have n11_ := Aside0.mk ((by rw [hg]; exact Nat.ne_of_lt (blk_lt BK12019.out) : gb12019 ≠ gb12027)); have n12_ := Aside0.mk ((by rw [hg]; exact Nat.ne_of_gt (blk_lt BK12019.out) : gb12027 ≠ gb12019)); clear HO12006; clear HO12012; clear HO12025; clear BK12018; clear BK12019; clear HB; have HO12006 := n0_; have HO12012 := n1_; have HO12025 := n2_; have BK12018 := n3_; have BK12019 := n4_; have HB := n5_; have BK12027 := n6_; have GW12027 := n7_; have GE12027 := n8_; have NB12018_12027 := n9_; have NB12027_12018 := n10_; have NB12019_12027 := n11_; have NB12027_12019 := n12_; clear n0_ n1_ n2_ n3_ n4_ n5_ n6_ n7_ n8_ n9_ n10_ n11_ n12_; clear hb hbox hg; have hnb17 := NB12027_12018.out; have hnc17 := NB12018_12027.out; have hnb18 := NB12027_12019.out; have hnc18 := NB12019_12027.out; have hcz19_0 : w16.cell? ⟨gb12027, 0, none⟩ = some (.int .i64 0) := (blk_cell BK12027.out 0).trans rfl; have hcz19_1 : w16.cell? ⟨gb12027, 1, none⟩ = some (.int .i64 0) := (blk_cell BK12027.out 1).trans rfl; have hcz19_2 : w16.cell? ⟨gb12027, 2, none⟩ = some (.int .i64 0) := (blk_cell BK12027.out 2).trans rfl; have hcz19_3 : w16.cell? ⟨gb12027, 3, none⟩ = some (.slice none 0 0) := (blk_cell BK12027.out 3).trans rfl; have hfz19_0 := blk_frozen BK12027.out 0; have hfz19_1 := blk_frozen BK12027.out 1; have hfz19_2 := blk_frozen BK12027.out 2; have hfz19_3 := blk_frozen BK12027.out 3; obtain ⟨Ao20, co20, eo20⟩ := Kd.R_slice HO12025.out; subst eo20; have hcz21_0 : w16.cell? ⟨gb12018, 0, none⟩ = some (.int .i64 t12001) := (blk_cell BK12018.out 0).trans rfl; have hcz21_1 : w16.cell? ⟨gb12018, 1, none⟩ = some (.int .i64 t12002) := (blk_cell BK12018.out 1).trans rfl; have hcz21_2 : w16.cell? ⟨gb12018, 2, none⟩ = some (.int .i64 t12003) := (blk_cell BK12018.out 2).trans rfl; have hcz21_3 : w16.cell? ⟨gb12018, 3, none⟩ = some (.slice Ao12 t12004.length co12) := (blk_cell BK12018.out 3).trans rfl; have hfz21_0 := blk_frozen BK12018.out 0; have hfz21_1 := blk_frozen BK12018.out 1; have hfz21_2 := blk_frozen BK12018.out 2; have hfz21_3 := blk_frozen BK12018.out 3; have hcz22_0 : w16.cell? ⟨gb12019, 0, none⟩ = some (.int .i64 t12007) := (blk_cell BK12019.out 0).trans rfl; have hcz22_1 : w16.cell? ⟨gb12019, 1, none⟩ = some (.int .i64 t12008) := (blk_cell BK12019.out 1).trans rfl; have hcz22_2 : w16.cell? ⟨gb12019, 2, none⟩ = some (.int .i64 t12009) := (blk_cell BK12019.out 2).trans rfl; have hcz22_3 : w16.cell? ⟨gb12019, 3, none⟩ = some (.slice Ao14 t12010.length co14) := (blk_cell BK12019.out 3).trans rfl; have hcz22_4 : w16.cell? ⟨gb12019, 4, none⟩ = some (.int .i64 t12013) := (blk_cell BK12019.out 4).trans rfl; have hcz22_5 : w16.cell? ⟨gb12019, 5, none⟩ = some (.int .i64 t12014) := (blk_cell BK12019.out 5).trans rfl; have hcz22_6 : w16.cell? ⟨gb12019, 6, none⟩ = some (.int .i64 t12015) := (blk_cell BK12019.out 6).trans rfl; have hcz22_7 : w16.cell? ⟨gb12019, 7, none⟩ = some (.int .i64 t12016) := (blk_cell BK12019.out 7).trans rfl; have hcz22_8 : w16.cell? ⟨gb12019, 8, none⟩ = some (.bool t12017) := (blk_cell BK12019.out 8).trans rfl; have hfz22_0 := blk_frozen BK12019.out 0; have hfz22_1 := blk_frozen BK12019.out 1; have hfz22_2 := blk_frozen BK12019.out 2; have hfz22_3 := blk_frozen BK12019.out 3; have hfz22_4 := blk_frozen BK12019.out 4; have hfz22_5 := blk_frozen BK12019.out 5; have hfz22_6 := blk_frozen BK12019.out 6; have hfz22_7 := blk_frozen BK12019.out 7; have hfz22_8 := blk_frozen BK12019.out 8) | ((with_reducible refine gate_callee (f := 60) rfl ?_); refine goesL_ (some 32) rfl rfl Try.func60 (by kernel_rfl) rfl #[.agg #[.int .i64 t12001, .int .i64 t12002, .int .i64 t12003, .slice Ao12 t12004.length co12], .agg #[.int .i64 t12007, .int .i64 t12008, .int .i64 t12009, .slice Ao14 t12010.length co14, .int .i64 t12013, .int .i64 t12014, .int .i64 t12015, .int .i64 t12016, .bool t12017]] rfl (by (try simp only [List.map_toArray, List.map_cons, List.map_nil]); rfl) ?_; (with_reducible refine (spec_CoverImage.calls k t12001 t12002 t12003 _ _ t12004 t12007 t12008 t12009 _ _ t12010 t12013 t12014 t12015 t12016 t12017 t12028 t12029 t12030 t12031 t12034 _ ?side1 ?side2 ?side3 ?side4 A5.out).mono ?_); (case side1 => refine (Kd.Q_reads' (e := 3) (base := w.heap.size) (ok := fun k_ => (some k_ ≠ (.slice Ao14 t12010.length co14 : Value).ownBlock ∧ some k_ ≠ (.slice Ao20 t12023.length co20 : Value).ownBlock)) (n := t12004.length) (c := co12) ?_).2.2; exact (by exact (Kd.Q_mono (Kd.Q_far (p := ⟨gb12027, 3, none⟩) (Kd.Q_far (p := ⟨gb12027, 2, none⟩) (Kd.Q_far (p := ⟨gb12027, 1, none⟩) (Kd.Q_far (p := ⟨gb12027, 0, none⟩) (Kd.Q_types HO12006.out BK12027.out (by decide)) (fun _ hk => hk.2) (.int .i64 t12020)) (fun _ hk => hk.2) (.int .i64 t12021)) (fun _ hk => hk.2) (.int .i64 t12022)) (fun _ hk => hk.2) (.slice Ao20 t12023.length co20)) (fun _ h_ => h_.1)))); (case side2 => exact (Kd.Q_reads' HO12006.out).2.1); (case side3 => refine (Kd.Q_reads' (e := 3) (base := w.heap.size) (ok := fun k_ => (some k_ ≠ (.slice Ao12 t12004.length co12 : Value).ownBlock ∧ some k_ ≠ (.slice Ao20 t12023.length co20 : Value).ownBlock)) (n := t12010.length) (c := co14) ?_).2.2; exact (by exact (Kd.Q_mono (Kd.Q_far (p := ⟨gb12027, 3, none⟩) (Kd.Q_far (p := ⟨gb12027, 2, none⟩) (Kd.Q_far (p := ⟨gb12027, 1, none⟩) (Kd.Q_far (p := ⟨gb12027, 0, none⟩) (Kd.Q_types HO12012.out BK12027.out (by decide)) (fun _ hk => hk.2) (.int .i64 t12020)) (fun _ hk => hk.2) (.int .i64 t12021)) (fun _ hk => hk.2) (.int .i64 t12022)) (fun _ hk => hk.2) (.slice Ao20 t12023.length co20)) (fun _ h_ => h_.1)))); (case side4 => exact (Kd.Q_reads' HO12012.out).2.1); rintro e w23 ⟨v12032, rfl, ho0, hb⟩; refine ⟨_, rfl, ?_⟩; have n0_ := Aside0.mk (Kd.Q_elder' (by exact (Kd.Q_mono (Kd.Q_far (p := ⟨gb12027, 3, none⟩) (Kd.Q_far (p := ⟨gb12027, 2, none⟩) (Kd.Q_far (p := ⟨gb12027, 1, none⟩) (Kd.Q_far (p := ⟨gb12027, 0, none⟩) (Kd.Q_types HO12006.out BK12027.out (by decide)) (fun _ hk => hk.2) (.int .i64 t12020)) (fun _ hk => hk.2) (.int .i64 t12021)) (fun _ hk => hk.2) (.int .i64 t12022)) (fun _ hk => hk.2) (.slice Ao20 t12023.length co20)) (fun _ h_ => h_.1))) (Kd.R_base ho0) hb); have n1_ := Aside0.mk (Kd.Q_elder' (by exact (Kd.Q_mono (Kd.Q_far (p := ⟨gb12027, 3, none⟩) (Kd.Q_far (p := ⟨gb12027, 2, none⟩) (Kd.Q_far (p := ⟨gb12027, 1, none⟩) (Kd.Q_far (p := ⟨gb12027, 0, none⟩) (Kd.Q_types HO12012.out BK12027.out (by decide)) (fun _ hk => hk.2) (.int .i64 t12020)) (fun _ hk => hk.2) (.int .i64 t12021)) (fun _ hk => hk.2) (.int .i64 t12022)) (fun _ hk => hk.2) (.slice Ao20 t12023.length co20)) (fun _ h_ => h_.1))) (Kd.R_base ho0) hb); have n2_ := Aside0.mk (Kd.R_elder' (by exact (Kd.R_mono (Kd.R_far (p := ⟨gb12027, 3, none⟩) (Kd.R_far (p := ⟨gb12027, 2, none⟩) (Kd.R_far (p := ⟨gb12027, 1, none⟩) (Kd.R_far (p := ⟨gb12027, 0, none⟩) (Kd.R_types HO12025.out BK12027.out (by decide)) (fun _ hk => hk.2) (.int .i64 t12020)) (fun _ hk => hk.2) (.int .i64 t12021)) (fun _ hk => hk.2) (.int .i64 t12022)) (fun _ hk => hk.2) (.slice Ao20 t12023.length co20)) (fun _ h_ => h_.1))) (Kd.R_base ho0) hb); have n3_ := Aside0.mk (Kd.R_lower (Kd.R_new' (Kd.R_new' (Kd.R_new' ho0 (Kd.Q_lt (by exact (Kd.Q_mono (Kd.Q_far (p := ⟨gb12027, 3, none⟩) (Kd.Q_far (p := ⟨gb12027, 2, none⟩) (Kd.Q_far (p := ⟨gb12027, 1, none⟩) (Kd.Q_far (p := ⟨gb12027, 0, none⟩) (Kd.Q_types HO12006.out BK12027.out (by decide)) (fun _ hk => hk.2) (.int .i64 t12020)) (fun _ hk => hk.2) (.int .i64 t12021)) (fun _ hk => hk.2) (.int .i64 t12022)) (fun _ hk => hk.2) (.slice Ao20 t12023.length co20)) (fun _ h_ => h_.1))))) (Kd.Q_lt (by exact (Kd.Q_mono (Kd.Q_far (p := ⟨gb12027, 3, none⟩) (Kd.Q_far (p := ⟨gb12027, 2, none⟩) (Kd.Q_far (p := ⟨gb12027, 1, none⟩) (Kd.Q_far (p := ⟨gb12027, 0, none⟩) (Kd.Q_types HO12012.out BK12027.out (by decide)) (fun _ hk => hk.2) (.int .i64 t12020)) (fun _ hk => hk.2) (.int .i64 t12021)) (fun _ hk => hk.2) (.int .i64 t12022)) (fun _ hk => hk.2) (.slice Ao20 t12023.length co20)) (fun _ h_ => h_.1))))) (Kd.R_lt (by exact (Kd.R_mono (Kd.R_far (p := ⟨gb12027, 3, none⟩) (Kd.R_far (p := ⟨gb12027, 2, none⟩) (Kd.R_far (p := ⟨gb12027, 1, none⟩) (Kd.R_far (p := ⟨gb12027, 0, none⟩) (Kd.R_types HO12025.out BK12027.out (by decide)) (fun _ hk => hk.2) (.int .i64 t12020)) (fun _ hk => hk.2) (.int .i64 t12021)) (fun _ hk => hk.2) (.int .i64 t12022)) (fun _ hk => hk.2) (.slice Ao20 t12023.length co20)) (fun _ h_ => h_.1))))) (below_size (by repeat (with_reducible first | exact HB.out | refine below_set ?_ GE12027.out)))); have n4_ := Aside0.mk (blk_below (g := gb12018) (o := .cells #[.int .i64 t12001, .int .i64 t12002, .int .i64 t12003, .slice Ao12 t12004.length co12] 27 (0, 0)) (by refine blk_far ?_ NB12018_12027.out _; (with_reducible repeat (first | refine blk_drewN ?_ _ | refine blk_drew ?_ | refine blk_alloc ?_ _)); refine blk_far ?_ NB12018_12027.out _; (with_reducible repeat (first | refine blk_drewN ?_ _ | refine blk_drew ?_ | refine blk_alloc ?_ _)); refine blk_far ?_ NB12018_12027.out _; (with_reducible repeat (first | refine blk_drewN ?_ _ | refine blk_drew ?_ | refine blk_alloc ?_ _)); refine blk_far ?_ NB12018_12027.out _; (with_reducible repeat (first | refine blk_drewN ?_ _ | refine blk_drew ?_ | refine blk_alloc ?_ _)); exact BK12018.out) hb); have n5_ := Aside0.mk (blk_below (g := gb12019) (o := .cells #[.int .i64 t12007, .int .i64 t12008, .int .i64 t12009, .slice Ao14 t12010.length co14, .int .i64 t12013, .int .i64 t12014, .int .i64 t12015, .int .i64 t12016, .bool t12017] 55 (0, 0)) (by refine blk_far ?_ NB12019_12027.out _; (with_reducible repeat (first | refine blk_drewN ?_ _ | refine blk_drew ?_ | refine blk_alloc ?_ _)); refine blk_far ?_ NB12019_12027.out _; (with_reducible repeat (first | refine blk_drewN ?_ _ | refine blk_drew ?_ | refine blk_alloc ?_ _)); refine blk_far ?_ NB12019_12027.out _; (with_reducible repeat (first | refine blk_drewN ?_ _ | refine blk_drew ?_ | refine blk_alloc ?_ _)); refine blk_far ?_ NB12019_12027.out _; (with_reducible repeat (first | refine blk_drewN ?_ _ | refine blk_drew ?_ | refine blk_alloc ?_ _)); exact BK12019.out) hb); have n6_ := Aside0.mk (blk_below (g := gb12027) (o := .cells #[.int .i64 t12020, .int .i64 t12021, .int .i64 t12022, .slice Ao20 t12023.length co20] 27 (0, 0)) (by refine blk_put (cs := #[.int .i64 t12020, .int .i64 t12021, .int .i64 t12022, .slice none 0 0]) ?_ 3 _ rfl; (with_reducible repeat (first | refine blk_drewN ?_ _ | refine blk_drew ?_ | refine blk_alloc ?_ _)); refine blk_put (cs := #[.int .i64 t12020, .int .i64 t12021, .int .i64 0, .slice none 0 0]) ?_ 2 _ rfl; (with_reducible repeat (first | refine blk_drewN ?_ _ | refine blk_drew ?_ | refine blk_alloc ?_ _)); refine blk_put (cs := #[.int .i64 t12020, .int .i64 0, .int .i64 0, .slice none 0 0]) ?_ 1 _ rfl; (with_reducible repeat (first | refine blk_drewN ?_ _ | refine blk_drew ?_ | refine blk_alloc ?_ _)); refine blk_put (cs := #[.int .i64 0, .int .i64 0, .int .i64 0, .slice none 0 0]) ?_ 0 _ rfl; (with_reducible repeat (first | refine blk_drewN ?_ _ | refine blk_drew ?_ | refine blk_alloc ?_ _)); exact BK12027.out) hb); have n7_ := Aside0.mk (below_step (by repeat (with_reducible first | exact HB.out | refine below_set ?_ GE12027.out)) hb); clear HO12006; clear HO12012; clear HO12025; clear BK12018; clear BK12019; clear BK12027; clear HB; have HO12006 := n0_; have HO12012 := n1_; have HO12025 := n2_; have HO12033 := n3_; have BK12018 := n4_; have BK12019 := n5_; have BK12027 := n6_; have HB := n7_; clear n0_ n1_ n2_ n3_ n4_ n5_ n6_ n7_; (try clear hb); (try clear ho0)) | ((with_reducible refine gate_dst (N := 7) rfl ?_); refine box_event ?hg (N := 7) ?hd (cs := #[.int .i64 0, .int .i64 0, .int .i64 0, .slice none 0 0]) (t := 27) ?hr ?_; (case hd => rfl); (case hg => rfl); (case hr => (go_simp; done)); intro gb12035 hg w24 hbox hb; have n0_ := Aside0.mk (Kd.Q_below HO12006.out hb); have n1_ := Aside0.mk (Kd.Q_below HO12012.out hb); have n2_ := Aside0.mk (Kd.R_below HO12025.out hb); have n3_ := Aside0.mk (Kd.R_below HO12033.out hb); have n4_ := Aside0.mk (blk_below BK12018.out hb); have n5_ := Aside0.mk (blk_below BK12019.out hb); have n6_ := Aside0.mk (blk_below BK12027.out hb); have n7_ := Aside0.mk (below_step HB.out hb); have n8_ := Aside0.mk (hbox); have n9_ := Aside0.mk ((by rw [hg]; exact (below_size HB.out) : w.heap.size ≤ gb12035)); have n10_ := Aside0.mk ((by rw [hg]; exact (below_size HB.out) : w.heap.size ≤ gb12035)); have n11_ := Aside0.mk ((by rw [hg]; exact Nat.ne_of_lt (blk_lt BK12018.out) : gb12018 ≠ gb12035)); have n12_ := Aside0.mk ((by rw [hg]; exact Nat.ne_of_gt (blk_lt BK12018.out) : gb12035 ≠ gb12018)); have n13_ := Aside0.mk ((by rw [hg]; exact Nat.ne_of_lt (blk_lt BK12019.out) : gb12019 ≠ gb12035)); have n14_ := Aside0.mk ((by rw [hg]; exact Nat.ne_of_gt (blk_lt BK12019.out) : gb12035 ≠ gb12019)); have n15_ := Aside0.mk ((by rw [hg]; exact Nat.ne_of_lt (blk_lt BK12027.out) : gb12027 ≠ gb12035)); have n16_ := Aside0.mk ((by rw [hg]; exact Nat.ne_of_gt (blk_lt BK12027.out) : gb12035 ≠ gb12027)); clear HO12006; clear HO12012; clear HO12025; clear HO12033; clear BK12018; clear BK12019; clear BK12027; clear HB; have HO12006 := n0_; have HO12012 := n1_; have HO12025 := n2_; have HO12033 := n3_; have BK12018 := n4_; have BK12019 := n5_; have BK12027 := n6_; have HB := n7_; have BK12035 := n8_; have GW12035 := n9_; have GE12035 := n10_; have NB12018_12035 := n11_; have NB12035_12018 := n12_; have NB12019_12035 := n13_; have NB12035_12019 := n14_; have NB12027_12035 := n15_; have NB12035_12027 := n16_; clear n0_ n1_ n2_ n3_ n4_ n5_ n6_ n7_ n8_ n9_ n10_ n11_ n12_ n13_ n14_ n15_ n16_; clear hb hbox hg; have hnb25 := NB12035_12018.out; have hnc25 := NB12018_12035.out; have hnb26 := NB12035_12019.out; have hnc26 := NB12019_12035.out; have hnb27 := NB12035_12027.out; have hnc27 := NB12027_12035.out; have hcz28_0 : w24.cell? ⟨gb12035, 0, none⟩ = some (.int .i64 0) := (blk_cell BK12035.out 0).trans rfl; have hcz28_1 : w24.cell? ⟨gb12035, 1, none⟩ = some (.int .i64 0) := (blk_cell BK12035.out 1).trans rfl; have hcz28_2 : w24.cell? ⟨gb12035, 2, none⟩ = some (.int .i64 0) := (blk_cell BK12035.out 2).trans rfl; have hcz28_3 : w24.cell? ⟨gb12035, 3, none⟩ = some (.slice none 0 0) := (blk_cell BK12035.out 3).trans rfl; have hfz28_0 := blk_frozen BK12035.out 0; have hfz28_1 := blk_frozen BK12035.out 1; have hfz28_2 := blk_frozen BK12035.out 2; have hfz28_3 := blk_frozen BK12035.out 3; obtain ⟨Ao29, co29, eo29⟩ := Kd.R_slice HO12033.out; subst eo29))
    go_cut [47] (fun v47 wc => ∃ (kq : Nat) (x47_5 : Bool), v47 = .bool x47_5 ∧ Aside0 (laws_FnCoverImage.j0 kq t12026 t12034 x47_5 t12001 t12002 t12003 t12004 t12007 t12008 t12009 t12010 t12013 t12014 t12015 t12016 t12017 t12020 t12021 t12022 t12023 t12028 t12029 t12030 t12031 = some r) ∧ Aside0 (kq ≤ k) ∧ Aside0 (Kd.Q (Kd.int .i64) 3 wc w.heap.size (fun k_ => some k_ ≠ ((.slice Ao14 t12010.length co14) : Value).ownBlock ∧ some k_ ≠ ((.slice Ao20 t12023.length co20) : Value).ownBlock ∧ some k_ ≠ ((.slice Ao29 t12031.length co29) : Value).ownBlock) (.slice Ao12 t12004.length co12) t12004) ∧ Aside0 (Kd.Q (Kd.int .i64) 3 wc w.heap.size (fun k_ => some k_ ≠ ((.slice Ao12 t12004.length co12) : Value).ownBlock ∧ some k_ ≠ ((.slice Ao20 t12023.length co20) : Value).ownBlock ∧ some k_ ≠ ((.slice Ao29 t12031.length co29) : Value).ownBlock) (.slice Ao14 t12010.length co14) t12010) ∧ Aside0 (Kd.Q (Kd.int .i64) 3 wc w.heap.size (fun k_ => some k_ ≠ ((.slice Ao12 t12004.length co12) : Value).ownBlock ∧ some k_ ≠ ((.slice Ao14 t12010.length co14) : Value).ownBlock ∧ some k_ ≠ ((.slice Ao29 t12031.length co29) : Value).ownBlock) (.slice Ao20 t12023.length co20) t12023) ∧ Aside0 (Kd.Q (Kd.int .i64) 3 wc w.heap.size (fun k_ => some k_ ≠ ((.slice Ao12 t12004.length co12) : Value).ownBlock ∧ some k_ ≠ ((.slice Ao14 t12010.length co14) : Value).ownBlock ∧ some k_ ≠ ((.slice Ao20 t12023.length co20) : Value).ownBlock) (.slice Ao29 t12031.length co29) t12031) ∧ Aside0 (wc.heap[gb12018]? = some (.cells #[.int .i64 t12001, .int .i64 t12002, .int .i64 t12003, (.slice Ao12 t12004.length co12)] 27 (0, 0))) ∧ Aside0 (wc.heap[gb12019]? = some (.cells #[.int .i64 t12007, .int .i64 t12008, .int .i64 t12009, (.slice Ao14 t12010.length co14), .int .i64 t12013, .int .i64 t12014, .int .i64 t12015, .int .i64 t12016, .bool t12017] 55 (0, 0))) ∧ Aside0 (wc.heap[gb12027]? = some (.cells #[.int .i64 t12020, .int .i64 t12021, .int .i64 t12022, (.slice Ao20 t12023.length co20)] 27 (0, 0))) ∧ Aside0 (wc.heap[gb12035]? = some (.cells #[.int .i64 t12028, .int .i64 t12029, .int .i64 t12030, (.slice Ao29 t12031.length co29)] 27 (0, 0))) ∧ Aside0 (Below w.heap.size w wc))
    case first =>
      have H := HC6.out
      clear HC6
      replace H := Option.bind_eq_some_iff.mp H
      obtain ⟨t12036, A300, H⟩ := H
      replace H : (if t12036 = true then (if (t12026 != t12034) = true then (laws_FnCoverImage.j0 k t12026 t12034 true t12001 t12002 t12003 t12004 t12007 t12008 t12009 t12010 t12013 t12014 t12015 t12016 t12017 t12020 t12021 t12022 t12023 t12028 t12029 t12030 t12031) else (laws_FnCoverImage.j0 k t12026 t12034 (!t12026) t12001 t12002 t12003 t12004 t12007 t12008 t12009 t12010 t12013 t12014 t12015 t12016 t12017 t12020 t12021 t12022 t12023 t12028 t12029 t12030 t12031)) else (laws_FnCoverImage.j0 k t12026 t12034 true t12001 t12002 t12003 t12004 t12007 t12008 t12009 t12010 t12013 t12014 t12015 t12016 t12017 t12020 t12021 t12022 t12023 t12028 t12029 t12030 t12031)) = some r := H
      have A30 := Aside0.mk A300
      clear A300
      by_cases c31 : t12036 = true
      · subst c31
        have H1 : (if (t12026 != t12034) = true then (laws_FnCoverImage.j0 k t12026 t12034 true t12001 t12002 t12003 t12004 t12007 t12008 t12009 t12010 t12013 t12014 t12015 t12016 t12017 t12020 t12021 t12022 t12023 t12028 t12029 t12030 t12031) else (laws_FnCoverImage.j0 k t12026 t12034 (!t12026) t12001 t12002 t12003 t12004 t12007 t12008 t12009 t12010 t12013 t12014 t12015 t12016 t12017 t12020 t12021 t12022 t12023 t12028 t12029 t12030 t12031)) = some r := by rw [if_pos rfl] at H; exact H
        clear H
        have H := H1
        clear H1
        by_cases c32 : (t12026 != t12034) = true
        · rw [if_pos c32] at H
          have c32b0 : (t12026 != t12034) = true := c32
          (try (have c32b1 : decide (t12026 = t12034) = false := by simpa using c32))
          (try (have c32b2 : (t12026 == t12034) = false := by simpa using c32))
          (try (have c32b3 : ¬ (t12026 = t12034) := by simpa using c32))
          clear c32
          (skip)
          have H' := Aside0.mk H
          clear H
          have hnb33 := NB12027_12018.out
          have hnc33 := NB12018_12027.out
          have hnb34 := NB12027_12019.out
          have hnc34 := NB12019_12027.out
          have hnb35 := NB12027_12035.out
          have hnc35 := NB12035_12027.out
          have hcz36_0 : w24.cell? ⟨gb12027, 0, none⟩ = some (.int .i64 t12020) := (blk_cell BK12027.out 0).trans rfl
          have hcz36_1 : w24.cell? ⟨gb12027, 1, none⟩ = some (.int .i64 t12021) := (blk_cell BK12027.out 1).trans rfl
          have hcz36_2 : w24.cell? ⟨gb12027, 2, none⟩ = some (.int .i64 t12022) := (blk_cell BK12027.out 2).trans rfl
          have hcz36_3 : w24.cell? ⟨gb12027, 3, none⟩ = some (.slice Ao20 t12023.length co20) := (blk_cell BK12027.out 3).trans rfl
          have hfz36_0 := blk_frozen BK12027.out 0
          have hfz36_1 := blk_frozen BK12027.out 1
          have hfz36_2 := blk_frozen BK12027.out 2
          have hfz36_3 := blk_frozen BK12027.out 3
          have hnb37 := NB12035_12018.out
          have hnc37 := NB12018_12035.out
          have hnb38 := NB12035_12019.out
          have hnc38 := NB12019_12035.out
          have hcz39_0 : w24.cell? ⟨gb12035, 0, none⟩ = some (.int .i64 0) := (blk_cell BK12035.out 0).trans rfl
          have hcz39_1 : w24.cell? ⟨gb12035, 1, none⟩ = some (.int .i64 0) := (blk_cell BK12035.out 1).trans rfl
          have hcz39_2 : w24.cell? ⟨gb12035, 2, none⟩ = some (.int .i64 0) := (blk_cell BK12035.out 2).trans rfl
          have hcz39_3 : w24.cell? ⟨gb12035, 3, none⟩ = some (.slice none 0 0) := (blk_cell BK12035.out 3).trans rfl
          have hfz39_0 := blk_frozen BK12035.out 0
          have hfz39_1 := blk_frozen BK12035.out 1
          have hfz39_2 := blk_frozen BK12035.out 2
          have hfz39_3 := blk_frozen BK12035.out 3
          go_wp2_with (first | ((with_reducible refine gate_callee (f := 26) rfl ?_); refine goesL_ (some 37) rfl rfl Try.func26 (by kernel_rfl) rfl #[.agg #[.int .i64 t12020, .int .i64 t12021, .int .i64 t12022, .slice Ao20 t12023.length co20], .agg #[.int .i64 t12028, .int .i64 t12029, .int .i64 t12030, .slice Ao29 t12031.length co29]] rfl (by (try simp only [List.map_toArray, List.map_cons, List.map_nil]); rfl) ?_; (with_reducible refine (laws_equalImage.calls k t12020 t12021 t12022 _ _ t12023 t12028 t12029 t12030 _ _ t12031 true _ ?side1 ?side2 ?side3 ?side4 A30.out).mono ?_); (case side1 => refine (Kd.R_reads' (e := 3) (base := w.heap.size) (ok := fun k_ => (((True ∧ some k_ ≠ (.slice Ao12 t12004.length co12 : Value).ownBlock) ∧ some k_ ≠ (.slice Ao14 t12010.length co14 : Value).ownBlock) ∧ some k_ ≠ (.slice Ao29 t12031.length co29 : Value).ownBlock)) (n := t12023.length) (c := co20) ?_).2.2; exact (by exact (Kd.R_mono (Kd.R_far (p := ⟨gb12035, 3, none⟩) (Kd.R_far (p := ⟨gb12035, 2, none⟩) (Kd.R_far (p := ⟨gb12035, 1, none⟩) (Kd.R_far (p := ⟨gb12035, 0, none⟩) (Kd.R_types HO12025.out BK12035.out (by decide)) (fun _ hk => hk.2) (.int .i64 t12028)) (fun _ hk => hk.2) (.int .i64 t12029)) (fun _ hk => hk.2) (.int .i64 t12030)) (fun _ hk => hk.2) (.slice Ao29 t12031.length co29)) (fun _ h_ => h_.1)))); (case side2 => exact (Kd.R_reads' HO12025.out).2.1); (case side3 => refine (Kd.R_reads' (e := 3) (base := w.heap.size) (ok := fun k_ => (((True ∧ some k_ ≠ (.slice Ao12 t12004.length co12 : Value).ownBlock) ∧ some k_ ≠ (.slice Ao14 t12010.length co14 : Value).ownBlock) ∧ some k_ ≠ (.slice Ao20 t12023.length co20 : Value).ownBlock)) (n := t12031.length) (c := co29) ?_).2.2; exact (by exact (Kd.R_mono (Kd.R_far (p := ⟨gb12035, 3, none⟩) (Kd.R_far (p := ⟨gb12035, 2, none⟩) (Kd.R_far (p := ⟨gb12035, 1, none⟩) (Kd.R_far (p := ⟨gb12035, 0, none⟩) (Kd.R_types HO12033.out BK12035.out (by decide)) (fun _ hk => hk.2) (.int .i64 t12028)) (fun _ hk => hk.2) (.int .i64 t12029)) (fun _ hk => hk.2) (.int .i64 t12030)) (fun _ hk => hk.2) (.slice Ao29 t12031.length co29)) (fun _ h_ => h_.1)))); (case side4 => exact (Kd.R_reads' HO12033.out).2.1); rintro e w40 ⟨rfl, hb⟩; refine ⟨_, rfl, ?_⟩; have n0_ := Aside0.mk (Kd.Q_below (by exact (Kd.Q_mono (Kd.Q_far (p := ⟨gb12035, 3, none⟩) (Kd.Q_far (p := ⟨gb12035, 2, none⟩) (Kd.Q_far (p := ⟨gb12035, 1, none⟩) (Kd.Q_far (p := ⟨gb12035, 0, none⟩) (Kd.Q_types HO12006.out BK12035.out (by decide)) (fun _ hk => hk.2) (.int .i64 t12028)) (fun _ hk => hk.2) (.int .i64 t12029)) (fun _ hk => hk.2) (.int .i64 t12030)) (fun _ hk => hk.2) (.slice Ao29 t12031.length co29)) (fun _ h_ => h_.1))) hb); have n1_ := Aside0.mk (Kd.Q_below (by exact (Kd.Q_mono (Kd.Q_far (p := ⟨gb12035, 3, none⟩) (Kd.Q_far (p := ⟨gb12035, 2, none⟩) (Kd.Q_far (p := ⟨gb12035, 1, none⟩) (Kd.Q_far (p := ⟨gb12035, 0, none⟩) (Kd.Q_types HO12012.out BK12035.out (by decide)) (fun _ hk => hk.2) (.int .i64 t12028)) (fun _ hk => hk.2) (.int .i64 t12029)) (fun _ hk => hk.2) (.int .i64 t12030)) (fun _ hk => hk.2) (.slice Ao29 t12031.length co29)) (fun _ h_ => h_.1))) hb); have n2_ := Aside0.mk (Kd.R_below (by exact (Kd.R_mono (Kd.R_far (p := ⟨gb12035, 3, none⟩) (Kd.R_far (p := ⟨gb12035, 2, none⟩) (Kd.R_far (p := ⟨gb12035, 1, none⟩) (Kd.R_far (p := ⟨gb12035, 0, none⟩) (Kd.R_types HO12025.out BK12035.out (by decide)) (fun _ hk => hk.2) (.int .i64 t12028)) (fun _ hk => hk.2) (.int .i64 t12029)) (fun _ hk => hk.2) (.int .i64 t12030)) (fun _ hk => hk.2) (.slice Ao29 t12031.length co29)) (fun _ h_ => h_.1))) hb); have n3_ := Aside0.mk (Kd.R_below (by exact (Kd.R_mono (Kd.R_far (p := ⟨gb12035, 3, none⟩) (Kd.R_far (p := ⟨gb12035, 2, none⟩) (Kd.R_far (p := ⟨gb12035, 1, none⟩) (Kd.R_far (p := ⟨gb12035, 0, none⟩) (Kd.R_types HO12033.out BK12035.out (by decide)) (fun _ hk => hk.2) (.int .i64 t12028)) (fun _ hk => hk.2) (.int .i64 t12029)) (fun _ hk => hk.2) (.int .i64 t12030)) (fun _ hk => hk.2) (.slice Ao29 t12031.length co29)) (fun _ h_ => h_.1))) hb); have n4_ := Aside0.mk (blk_below (g := gb12018) (o := .cells #[.int .i64 t12001, .int .i64 t12002, .int .i64 t12003, .slice Ao12 t12004.length co12] 27 (0, 0)) (by refine blk_far ?_ NB12018_12035.out _; (with_reducible repeat (first | refine blk_drewN ?_ _ | refine blk_drew ?_ | refine blk_alloc ?_ _)); refine blk_far ?_ NB12018_12035.out _; (with_reducible repeat (first | refine blk_drewN ?_ _ | refine blk_drew ?_ | refine blk_alloc ?_ _)); refine blk_far ?_ NB12018_12035.out _; (with_reducible repeat (first | refine blk_drewN ?_ _ | refine blk_drew ?_ | refine blk_alloc ?_ _)); refine blk_far ?_ NB12018_12035.out _; (with_reducible repeat (first | refine blk_drewN ?_ _ | refine blk_drew ?_ | refine blk_alloc ?_ _)); exact BK12018.out) hb); have n5_ := Aside0.mk (blk_below (g := gb12019) (o := .cells #[.int .i64 t12007, .int .i64 t12008, .int .i64 t12009, .slice Ao14 t12010.length co14, .int .i64 t12013, .int .i64 t12014, .int .i64 t12015, .int .i64 t12016, .bool t12017] 55 (0, 0)) (by refine blk_far ?_ NB12019_12035.out _; (with_reducible repeat (first | refine blk_drewN ?_ _ | refine blk_drew ?_ | refine blk_alloc ?_ _)); refine blk_far ?_ NB12019_12035.out _; (with_reducible repeat (first | refine blk_drewN ?_ _ | refine blk_drew ?_ | refine blk_alloc ?_ _)); refine blk_far ?_ NB12019_12035.out _; (with_reducible repeat (first | refine blk_drewN ?_ _ | refine blk_drew ?_ | refine blk_alloc ?_ _)); refine blk_far ?_ NB12019_12035.out _; (with_reducible repeat (first | refine blk_drewN ?_ _ | refine blk_drew ?_ | refine blk_alloc ?_ _)); exact BK12019.out) hb); have n6_ := Aside0.mk (blk_below (g := gb12027) (o := .cells #[.int .i64 t12020, .int .i64 t12021, .int .i64 t12022, .slice Ao20 t12023.length co20] 27 (0, 0)) (by refine blk_far ?_ NB12027_12035.out _; (with_reducible repeat (first | refine blk_drewN ?_ _ | refine blk_drew ?_ | refine blk_alloc ?_ _)); refine blk_far ?_ NB12027_12035.out _; (with_reducible repeat (first | refine blk_drewN ?_ _ | refine blk_drew ?_ | refine blk_alloc ?_ _)); refine blk_far ?_ NB12027_12035.out _; (with_reducible repeat (first | refine blk_drewN ?_ _ | refine blk_drew ?_ | refine blk_alloc ?_ _)); refine blk_far ?_ NB12027_12035.out _; (with_reducible repeat (first | refine blk_drewN ?_ _ | refine blk_drew ?_ | refine blk_alloc ?_ _)); exact BK12027.out) hb); have n7_ := Aside0.mk (blk_below (g := gb12035) (o := .cells #[.int .i64 t12028, .int .i64 t12029, .int .i64 t12030, .slice Ao29 t12031.length co29] 27 (0, 0)) (by refine blk_put (cs := #[.int .i64 t12028, .int .i64 t12029, .int .i64 t12030, .slice none 0 0]) ?_ 3 _ rfl; (with_reducible repeat (first | refine blk_drewN ?_ _ | refine blk_drew ?_ | refine blk_alloc ?_ _)); refine blk_put (cs := #[.int .i64 t12028, .int .i64 t12029, .int .i64 0, .slice none 0 0]) ?_ 2 _ rfl; (with_reducible repeat (first | refine blk_drewN ?_ _ | refine blk_drew ?_ | refine blk_alloc ?_ _)); refine blk_put (cs := #[.int .i64 t12028, .int .i64 0, .int .i64 0, .slice none 0 0]) ?_ 1 _ rfl; (with_reducible repeat (first | refine blk_drewN ?_ _ | refine blk_drew ?_ | refine blk_alloc ?_ _)); refine blk_put (cs := #[.int .i64 0, .int .i64 0, .int .i64 0, .slice none 0 0]) ?_ 0 _ rfl; (with_reducible repeat (first | refine blk_drewN ?_ _ | refine blk_drew ?_ | refine blk_alloc ?_ _)); exact BK12035.out) hb); have n8_ := Aside0.mk (below_step (by repeat (with_reducible first | exact HB.out | refine below_set ?_ GE12035.out)) hb); clear HO12006; clear HO12012; clear HO12025; clear HO12033; clear BK12018; clear BK12019; clear BK12027; clear BK12035; clear HB; have HO12006 := n0_; have HO12012 := n1_; have HO12025 := n2_; have HO12033 := n3_; have BK12018 := n4_; have BK12019 := n5_; have BK12027 := n6_; have BK12035 := n7_; have HB := n8_; clear n0_ n1_ n2_ n3_ n4_ n5_ n6_ n7_ n8_; (try clear hb)))
          go_meet
          case rel => exact ⟨_, (true), (by rfl), H', ⟨by omega⟩, ⟨by (with_reducible repeat (first | apply Kd.Q_alloc | apply Kd.Q_drewN | apply Kd.Q_drew)); exact Kd.Q_mono HO12006.out (fun _ hk => ⟨hk.1.1, ⟨hk.1.2, hk.2⟩⟩)⟩, ⟨by (with_reducible repeat (first | apply Kd.Q_alloc | apply Kd.Q_drewN | apply Kd.Q_drew)); exact Kd.Q_mono HO12012.out (fun _ hk => ⟨hk.1.1, ⟨hk.1.2, hk.2⟩⟩)⟩, ⟨Kd.Q_of_R (by exact Kd.R_mono HO12025.out (fun _ hk => ⟨hk.1.1.2, ⟨hk.1.2, hk.2⟩⟩))⟩, ⟨Kd.Q_of_R (by exact Kd.R_mono HO12033.out (fun _ hk => ⟨hk.1.1.2, ⟨hk.1.2, hk.2⟩⟩))⟩, ⟨by (with_reducible repeat (first | refine blk_drewN ?_ _ | refine blk_drew ?_ | refine blk_alloc ?_ _)); exact BK12018.out⟩, ⟨by (with_reducible repeat (first | refine blk_drewN ?_ _ | refine blk_drew ?_ | refine blk_alloc ?_ _)); exact BK12019.out⟩, ⟨by (with_reducible repeat (first | refine blk_drewN ?_ _ | refine blk_drew ?_ | refine blk_alloc ?_ _)); exact BK12027.out⟩, ⟨by (with_reducible repeat (first | refine blk_drewN ?_ _ | refine blk_drew ?_ | refine blk_alloc ?_ _)); exact BK12035.out⟩, ⟨by exact HB.out⟩⟩
        · rw [if_neg c32] at H
          have c32b0 : (t12026 != t12034) = false := by simpa using c32
          (try (have c32b1 : decide (t12026 = t12034) = true := by simpa using c32))
          (try (have c32b2 : (t12026 == t12034) = true := by simpa using c32))
          clear c32
          (skip)
          have H' := Aside0.mk H
          clear H
          have hnb41 := NB12027_12018.out
          have hnc41 := NB12018_12027.out
          have hnb42 := NB12027_12019.out
          have hnc42 := NB12019_12027.out
          have hnb43 := NB12027_12035.out
          have hnc43 := NB12035_12027.out
          have hcz44_0 : w24.cell? ⟨gb12027, 0, none⟩ = some (.int .i64 t12020) := (blk_cell BK12027.out 0).trans rfl
          have hcz44_1 : w24.cell? ⟨gb12027, 1, none⟩ = some (.int .i64 t12021) := (blk_cell BK12027.out 1).trans rfl
          have hcz44_2 : w24.cell? ⟨gb12027, 2, none⟩ = some (.int .i64 t12022) := (blk_cell BK12027.out 2).trans rfl
          have hcz44_3 : w24.cell? ⟨gb12027, 3, none⟩ = some (.slice Ao20 t12023.length co20) := (blk_cell BK12027.out 3).trans rfl
          have hfz44_0 := blk_frozen BK12027.out 0
          have hfz44_1 := blk_frozen BK12027.out 1
          have hfz44_2 := blk_frozen BK12027.out 2
          have hfz44_3 := blk_frozen BK12027.out 3
          have hnb45 := NB12035_12018.out
          have hnc45 := NB12018_12035.out
          have hnb46 := NB12035_12019.out
          have hnc46 := NB12019_12035.out
          have hcz47_0 : w24.cell? ⟨gb12035, 0, none⟩ = some (.int .i64 0) := (blk_cell BK12035.out 0).trans rfl
          have hcz47_1 : w24.cell? ⟨gb12035, 1, none⟩ = some (.int .i64 0) := (blk_cell BK12035.out 1).trans rfl
          have hcz47_2 : w24.cell? ⟨gb12035, 2, none⟩ = some (.int .i64 0) := (blk_cell BK12035.out 2).trans rfl
          have hcz47_3 : w24.cell? ⟨gb12035, 3, none⟩ = some (.slice none 0 0) := (blk_cell BK12035.out 3).trans rfl
          have hfz47_0 := blk_frozen BK12035.out 0
          have hfz47_1 := blk_frozen BK12035.out 1
          have hfz47_2 := blk_frozen BK12035.out 2
          have hfz47_3 := blk_frozen BK12035.out 3
          go_wp2_with (first | ((with_reducible refine gate_callee (f := 26) rfl ?_); refine goesL_ (some 37) rfl rfl Try.func26 (by kernel_rfl) rfl #[.agg #[.int .i64 t12020, .int .i64 t12021, .int .i64 t12022, .slice Ao20 t12023.length co20], .agg #[.int .i64 t12028, .int .i64 t12029, .int .i64 t12030, .slice Ao29 t12031.length co29]] rfl (by (try simp only [List.map_toArray, List.map_cons, List.map_nil]); rfl) ?_; (with_reducible refine (laws_equalImage.calls k t12020 t12021 t12022 _ _ t12023 t12028 t12029 t12030 _ _ t12031 true _ ?side1 ?side2 ?side3 ?side4 A30.out).mono ?_); (case side1 => refine (Kd.R_reads' (e := 3) (base := w.heap.size) (ok := fun k_ => (((True ∧ some k_ ≠ (.slice Ao12 t12004.length co12 : Value).ownBlock) ∧ some k_ ≠ (.slice Ao14 t12010.length co14 : Value).ownBlock) ∧ some k_ ≠ (.slice Ao29 t12031.length co29 : Value).ownBlock)) (n := t12023.length) (c := co20) ?_).2.2; exact (by exact (Kd.R_mono (Kd.R_far (p := ⟨gb12035, 3, none⟩) (Kd.R_far (p := ⟨gb12035, 2, none⟩) (Kd.R_far (p := ⟨gb12035, 1, none⟩) (Kd.R_far (p := ⟨gb12035, 0, none⟩) (Kd.R_types HO12025.out BK12035.out (by decide)) (fun _ hk => hk.2) (.int .i64 t12028)) (fun _ hk => hk.2) (.int .i64 t12029)) (fun _ hk => hk.2) (.int .i64 t12030)) (fun _ hk => hk.2) (.slice Ao29 t12031.length co29)) (fun _ h_ => h_.1)))); (case side2 => exact (Kd.R_reads' HO12025.out).2.1); (case side3 => refine (Kd.R_reads' (e := 3) (base := w.heap.size) (ok := fun k_ => (((True ∧ some k_ ≠ (.slice Ao12 t12004.length co12 : Value).ownBlock) ∧ some k_ ≠ (.slice Ao14 t12010.length co14 : Value).ownBlock) ∧ some k_ ≠ (.slice Ao20 t12023.length co20 : Value).ownBlock)) (n := t12031.length) (c := co29) ?_).2.2; exact (by exact (Kd.R_mono (Kd.R_far (p := ⟨gb12035, 3, none⟩) (Kd.R_far (p := ⟨gb12035, 2, none⟩) (Kd.R_far (p := ⟨gb12035, 1, none⟩) (Kd.R_far (p := ⟨gb12035, 0, none⟩) (Kd.R_types HO12033.out BK12035.out (by decide)) (fun _ hk => hk.2) (.int .i64 t12028)) (fun _ hk => hk.2) (.int .i64 t12029)) (fun _ hk => hk.2) (.int .i64 t12030)) (fun _ hk => hk.2) (.slice Ao29 t12031.length co29)) (fun _ h_ => h_.1)))); (case side4 => exact (Kd.R_reads' HO12033.out).2.1); rintro e w48 ⟨rfl, hb⟩; refine ⟨_, rfl, ?_⟩; have n0_ := Aside0.mk (Kd.Q_below (by exact (Kd.Q_mono (Kd.Q_far (p := ⟨gb12035, 3, none⟩) (Kd.Q_far (p := ⟨gb12035, 2, none⟩) (Kd.Q_far (p := ⟨gb12035, 1, none⟩) (Kd.Q_far (p := ⟨gb12035, 0, none⟩) (Kd.Q_types HO12006.out BK12035.out (by decide)) (fun _ hk => hk.2) (.int .i64 t12028)) (fun _ hk => hk.2) (.int .i64 t12029)) (fun _ hk => hk.2) (.int .i64 t12030)) (fun _ hk => hk.2) (.slice Ao29 t12031.length co29)) (fun _ h_ => h_.1))) hb); have n1_ := Aside0.mk (Kd.Q_below (by exact (Kd.Q_mono (Kd.Q_far (p := ⟨gb12035, 3, none⟩) (Kd.Q_far (p := ⟨gb12035, 2, none⟩) (Kd.Q_far (p := ⟨gb12035, 1, none⟩) (Kd.Q_far (p := ⟨gb12035, 0, none⟩) (Kd.Q_types HO12012.out BK12035.out (by decide)) (fun _ hk => hk.2) (.int .i64 t12028)) (fun _ hk => hk.2) (.int .i64 t12029)) (fun _ hk => hk.2) (.int .i64 t12030)) (fun _ hk => hk.2) (.slice Ao29 t12031.length co29)) (fun _ h_ => h_.1))) hb); have n2_ := Aside0.mk (Kd.R_below (by exact (Kd.R_mono (Kd.R_far (p := ⟨gb12035, 3, none⟩) (Kd.R_far (p := ⟨gb12035, 2, none⟩) (Kd.R_far (p := ⟨gb12035, 1, none⟩) (Kd.R_far (p := ⟨gb12035, 0, none⟩) (Kd.R_types HO12025.out BK12035.out (by decide)) (fun _ hk => hk.2) (.int .i64 t12028)) (fun _ hk => hk.2) (.int .i64 t12029)) (fun _ hk => hk.2) (.int .i64 t12030)) (fun _ hk => hk.2) (.slice Ao29 t12031.length co29)) (fun _ h_ => h_.1))) hb); have n3_ := Aside0.mk (Kd.R_below (by exact (Kd.R_mono (Kd.R_far (p := ⟨gb12035, 3, none⟩) (Kd.R_far (p := ⟨gb12035, 2, none⟩) (Kd.R_far (p := ⟨gb12035, 1, none⟩) (Kd.R_far (p := ⟨gb12035, 0, none⟩) (Kd.R_types HO12033.out BK12035.out (by decide)) (fun _ hk => hk.2) (.int .i64 t12028)) (fun _ hk => hk.2) (.int .i64 t12029)) (fun _ hk => hk.2) (.int .i64 t12030)) (fun _ hk => hk.2) (.slice Ao29 t12031.length co29)) (fun _ h_ => h_.1))) hb); have n4_ := Aside0.mk (blk_below (g := gb12018) (o := .cells #[.int .i64 t12001, .int .i64 t12002, .int .i64 t12003, .slice Ao12 t12004.length co12] 27 (0, 0)) (by refine blk_far ?_ NB12018_12035.out _; (with_reducible repeat (first | refine blk_drewN ?_ _ | refine blk_drew ?_ | refine blk_alloc ?_ _)); refine blk_far ?_ NB12018_12035.out _; (with_reducible repeat (first | refine blk_drewN ?_ _ | refine blk_drew ?_ | refine blk_alloc ?_ _)); refine blk_far ?_ NB12018_12035.out _; (with_reducible repeat (first | refine blk_drewN ?_ _ | refine blk_drew ?_ | refine blk_alloc ?_ _)); refine blk_far ?_ NB12018_12035.out _; (with_reducible repeat (first | refine blk_drewN ?_ _ | refine blk_drew ?_ | refine blk_alloc ?_ _)); exact BK12018.out) hb); have n5_ := Aside0.mk (blk_below (g := gb12019) (o := .cells #[.int .i64 t12007, .int .i64 t12008, .int .i64 t12009, .slice Ao14 t12010.length co14, .int .i64 t12013, .int .i64 t12014, .int .i64 t12015, .int .i64 t12016, .bool t12017] 55 (0, 0)) (by refine blk_far ?_ NB12019_12035.out _; (with_reducible repeat (first | refine blk_drewN ?_ _ | refine blk_drew ?_ | refine blk_alloc ?_ _)); refine blk_far ?_ NB12019_12035.out _; (with_reducible repeat (first | refine blk_drewN ?_ _ | refine blk_drew ?_ | refine blk_alloc ?_ _)); refine blk_far ?_ NB12019_12035.out _; (with_reducible repeat (first | refine blk_drewN ?_ _ | refine blk_drew ?_ | refine blk_alloc ?_ _)); refine blk_far ?_ NB12019_12035.out _; (with_reducible repeat (first | refine blk_drewN ?_ _ | refine blk_drew ?_ | refine blk_alloc ?_ _)); exact BK12019.out) hb); have n6_ := Aside0.mk (blk_below (g := gb12027) (o := .cells #[.int .i64 t12020, .int .i64 t12021, .int .i64 t12022, .slice Ao20 t12023.length co20] 27 (0, 0)) (by refine blk_far ?_ NB12027_12035.out _; (with_reducible repeat (first | refine blk_drewN ?_ _ | refine blk_drew ?_ | refine blk_alloc ?_ _)); refine blk_far ?_ NB12027_12035.out _; (with_reducible repeat (first | refine blk_drewN ?_ _ | refine blk_drew ?_ | refine blk_alloc ?_ _)); refine blk_far ?_ NB12027_12035.out _; (with_reducible repeat (first | refine blk_drewN ?_ _ | refine blk_drew ?_ | refine blk_alloc ?_ _)); refine blk_far ?_ NB12027_12035.out _; (with_reducible repeat (first | refine blk_drewN ?_ _ | refine blk_drew ?_ | refine blk_alloc ?_ _)); exact BK12027.out) hb); have n7_ := Aside0.mk (blk_below (g := gb12035) (o := .cells #[.int .i64 t12028, .int .i64 t12029, .int .i64 t12030, .slice Ao29 t12031.length co29] 27 (0, 0)) (by refine blk_put (cs := #[.int .i64 t12028, .int .i64 t12029, .int .i64 t12030, .slice none 0 0]) ?_ 3 _ rfl; (with_reducible repeat (first | refine blk_drewN ?_ _ | refine blk_drew ?_ | refine blk_alloc ?_ _)); refine blk_put (cs := #[.int .i64 t12028, .int .i64 t12029, .int .i64 0, .slice none 0 0]) ?_ 2 _ rfl; (with_reducible repeat (first | refine blk_drewN ?_ _ | refine blk_drew ?_ | refine blk_alloc ?_ _)); refine blk_put (cs := #[.int .i64 t12028, .int .i64 0, .int .i64 0, .slice none 0 0]) ?_ 1 _ rfl; (with_reducible repeat (first | refine blk_drewN ?_ _ | refine blk_drew ?_ | refine blk_alloc ?_ _)); refine blk_put (cs := #[.int .i64 0, .int .i64 0, .int .i64 0, .slice none 0 0]) ?_ 0 _ rfl; (with_reducible repeat (first | refine blk_drewN ?_ _ | refine blk_drew ?_ | refine blk_alloc ?_ _)); exact BK12035.out) hb); have n8_ := Aside0.mk (below_step (by repeat (with_reducible first | exact HB.out | refine below_set ?_ GE12035.out)) hb); clear HO12006; clear HO12012; clear HO12025; clear HO12033; clear BK12018; clear BK12019; clear BK12027; clear BK12035; clear HB; have HO12006 := n0_; have HO12012 := n1_; have HO12025 := n2_; have HO12033 := n3_; have BK12018 := n4_; have BK12019 := n5_; have BK12027 := n6_; have BK12035 := n7_; have HB := n8_; clear n0_ n1_ n2_ n3_ n4_ n5_ n6_ n7_ n8_; (try clear hb)))
          go_meet
          case rel => exact ⟨_, (!t12026), (by rfl), H', ⟨by omega⟩, ⟨by (with_reducible repeat (first | apply Kd.Q_alloc | apply Kd.Q_drewN | apply Kd.Q_drew)); exact Kd.Q_mono HO12006.out (fun _ hk => ⟨hk.1.1, ⟨hk.1.2, hk.2⟩⟩)⟩, ⟨by (with_reducible repeat (first | apply Kd.Q_alloc | apply Kd.Q_drewN | apply Kd.Q_drew)); exact Kd.Q_mono HO12012.out (fun _ hk => ⟨hk.1.1, ⟨hk.1.2, hk.2⟩⟩)⟩, ⟨Kd.Q_of_R (by exact Kd.R_mono HO12025.out (fun _ hk => ⟨hk.1.1.2, ⟨hk.1.2, hk.2⟩⟩))⟩, ⟨Kd.Q_of_R (by exact Kd.R_mono HO12033.out (fun _ hk => ⟨hk.1.1.2, ⟨hk.1.2, hk.2⟩⟩))⟩, ⟨by (with_reducible repeat (first | refine blk_drewN ?_ _ | refine blk_drew ?_ | refine blk_alloc ?_ _)); exact BK12018.out⟩, ⟨by (with_reducible repeat (first | refine blk_drewN ?_ _ | refine blk_drew ?_ | refine blk_alloc ?_ _)); exact BK12019.out⟩, ⟨by (with_reducible repeat (first | refine blk_drewN ?_ _ | refine blk_drew ?_ | refine blk_alloc ?_ _)); exact BK12027.out⟩, ⟨by (with_reducible repeat (first | refine blk_drewN ?_ _ | refine blk_drew ?_ | refine blk_alloc ?_ _)); exact BK12035.out⟩, ⟨by exact HB.out⟩⟩
      · replace c31 := Bool.eq_false_iff.mpr c31
        subst c31
        have H1 : (laws_FnCoverImage.j0 k t12026 t12034 true t12001 t12002 t12003 t12004 t12007 t12008 t12009 t12010 t12013 t12014 t12015 t12016 t12017 t12020 t12021 t12022 t12023 t12028 t12029 t12030 t12031) = some r := by rw [if_neg (show ¬ (false = true) by decide)] at H; exact H
        clear H
        have H := H1
        clear H1
        have H' := Aside0.mk H
        clear H
        have hnb49 := NB12027_12018.out
        have hnc49 := NB12018_12027.out
        have hnb50 := NB12027_12019.out
        have hnc50 := NB12019_12027.out
        have hnb51 := NB12027_12035.out
        have hnc51 := NB12035_12027.out
        have hcz52_0 : w24.cell? ⟨gb12027, 0, none⟩ = some (.int .i64 t12020) := (blk_cell BK12027.out 0).trans rfl
        have hcz52_1 : w24.cell? ⟨gb12027, 1, none⟩ = some (.int .i64 t12021) := (blk_cell BK12027.out 1).trans rfl
        have hcz52_2 : w24.cell? ⟨gb12027, 2, none⟩ = some (.int .i64 t12022) := (blk_cell BK12027.out 2).trans rfl
        have hcz52_3 : w24.cell? ⟨gb12027, 3, none⟩ = some (.slice Ao20 t12023.length co20) := (blk_cell BK12027.out 3).trans rfl
        have hfz52_0 := blk_frozen BK12027.out 0
        have hfz52_1 := blk_frozen BK12027.out 1
        have hfz52_2 := blk_frozen BK12027.out 2
        have hfz52_3 := blk_frozen BK12027.out 3
        have hnb53 := NB12035_12018.out
        have hnc53 := NB12018_12035.out
        have hnb54 := NB12035_12019.out
        have hnc54 := NB12019_12035.out
        have hcz55_0 : w24.cell? ⟨gb12035, 0, none⟩ = some (.int .i64 0) := (blk_cell BK12035.out 0).trans rfl
        have hcz55_1 : w24.cell? ⟨gb12035, 1, none⟩ = some (.int .i64 0) := (blk_cell BK12035.out 1).trans rfl
        have hcz55_2 : w24.cell? ⟨gb12035, 2, none⟩ = some (.int .i64 0) := (blk_cell BK12035.out 2).trans rfl
        have hcz55_3 : w24.cell? ⟨gb12035, 3, none⟩ = some (.slice none 0 0) := (blk_cell BK12035.out 3).trans rfl
        have hfz55_0 := blk_frozen BK12035.out 0
        have hfz55_1 := blk_frozen BK12035.out 1
        have hfz55_2 := blk_frozen BK12035.out 2
        have hfz55_3 := blk_frozen BK12035.out 3
        go_wp2_with (first | ((with_reducible refine gate_callee (f := 26) rfl ?_); refine goesL_ (some 37) rfl rfl Try.func26 (by kernel_rfl) rfl #[.agg #[.int .i64 t12020, .int .i64 t12021, .int .i64 t12022, .slice Ao20 t12023.length co20], .agg #[.int .i64 t12028, .int .i64 t12029, .int .i64 t12030, .slice Ao29 t12031.length co29]] rfl (by (try simp only [List.map_toArray, List.map_cons, List.map_nil]); rfl) ?_; (with_reducible refine (laws_equalImage.calls k t12020 t12021 t12022 _ _ t12023 t12028 t12029 t12030 _ _ t12031 false _ ?side1 ?side2 ?side3 ?side4 A30.out).mono ?_); (case side1 => refine (Kd.R_reads' (e := 3) (base := w.heap.size) (ok := fun k_ => (((True ∧ some k_ ≠ (.slice Ao12 t12004.length co12 : Value).ownBlock) ∧ some k_ ≠ (.slice Ao14 t12010.length co14 : Value).ownBlock) ∧ some k_ ≠ (.slice Ao29 t12031.length co29 : Value).ownBlock)) (n := t12023.length) (c := co20) ?_).2.2; exact (by exact (Kd.R_mono (Kd.R_far (p := ⟨gb12035, 3, none⟩) (Kd.R_far (p := ⟨gb12035, 2, none⟩) (Kd.R_far (p := ⟨gb12035, 1, none⟩) (Kd.R_far (p := ⟨gb12035, 0, none⟩) (Kd.R_types HO12025.out BK12035.out (by decide)) (fun _ hk => hk.2) (.int .i64 t12028)) (fun _ hk => hk.2) (.int .i64 t12029)) (fun _ hk => hk.2) (.int .i64 t12030)) (fun _ hk => hk.2) (.slice Ao29 t12031.length co29)) (fun _ h_ => h_.1)))); (case side2 => exact (Kd.R_reads' HO12025.out).2.1); (case side3 => refine (Kd.R_reads' (e := 3) (base := w.heap.size) (ok := fun k_ => (((True ∧ some k_ ≠ (.slice Ao12 t12004.length co12 : Value).ownBlock) ∧ some k_ ≠ (.slice Ao14 t12010.length co14 : Value).ownBlock) ∧ some k_ ≠ (.slice Ao20 t12023.length co20 : Value).ownBlock)) (n := t12031.length) (c := co29) ?_).2.2; exact (by exact (Kd.R_mono (Kd.R_far (p := ⟨gb12035, 3, none⟩) (Kd.R_far (p := ⟨gb12035, 2, none⟩) (Kd.R_far (p := ⟨gb12035, 1, none⟩) (Kd.R_far (p := ⟨gb12035, 0, none⟩) (Kd.R_types HO12033.out BK12035.out (by decide)) (fun _ hk => hk.2) (.int .i64 t12028)) (fun _ hk => hk.2) (.int .i64 t12029)) (fun _ hk => hk.2) (.int .i64 t12030)) (fun _ hk => hk.2) (.slice Ao29 t12031.length co29)) (fun _ h_ => h_.1)))); (case side4 => exact (Kd.R_reads' HO12033.out).2.1); rintro e w56 ⟨rfl, hb⟩; refine ⟨_, rfl, ?_⟩; have n0_ := Aside0.mk (Kd.Q_below (by exact (Kd.Q_mono (Kd.Q_far (p := ⟨gb12035, 3, none⟩) (Kd.Q_far (p := ⟨gb12035, 2, none⟩) (Kd.Q_far (p := ⟨gb12035, 1, none⟩) (Kd.Q_far (p := ⟨gb12035, 0, none⟩) (Kd.Q_types HO12006.out BK12035.out (by decide)) (fun _ hk => hk.2) (.int .i64 t12028)) (fun _ hk => hk.2) (.int .i64 t12029)) (fun _ hk => hk.2) (.int .i64 t12030)) (fun _ hk => hk.2) (.slice Ao29 t12031.length co29)) (fun _ h_ => h_.1))) hb); have n1_ := Aside0.mk (Kd.Q_below (by exact (Kd.Q_mono (Kd.Q_far (p := ⟨gb12035, 3, none⟩) (Kd.Q_far (p := ⟨gb12035, 2, none⟩) (Kd.Q_far (p := ⟨gb12035, 1, none⟩) (Kd.Q_far (p := ⟨gb12035, 0, none⟩) (Kd.Q_types HO12012.out BK12035.out (by decide)) (fun _ hk => hk.2) (.int .i64 t12028)) (fun _ hk => hk.2) (.int .i64 t12029)) (fun _ hk => hk.2) (.int .i64 t12030)) (fun _ hk => hk.2) (.slice Ao29 t12031.length co29)) (fun _ h_ => h_.1))) hb); have n2_ := Aside0.mk (Kd.R_below (by exact (Kd.R_mono (Kd.R_far (p := ⟨gb12035, 3, none⟩) (Kd.R_far (p := ⟨gb12035, 2, none⟩) (Kd.R_far (p := ⟨gb12035, 1, none⟩) (Kd.R_far (p := ⟨gb12035, 0, none⟩) (Kd.R_types HO12025.out BK12035.out (by decide)) (fun _ hk => hk.2) (.int .i64 t12028)) (fun _ hk => hk.2) (.int .i64 t12029)) (fun _ hk => hk.2) (.int .i64 t12030)) (fun _ hk => hk.2) (.slice Ao29 t12031.length co29)) (fun _ h_ => h_.1))) hb); have n3_ := Aside0.mk (Kd.R_below (by exact (Kd.R_mono (Kd.R_far (p := ⟨gb12035, 3, none⟩) (Kd.R_far (p := ⟨gb12035, 2, none⟩) (Kd.R_far (p := ⟨gb12035, 1, none⟩) (Kd.R_far (p := ⟨gb12035, 0, none⟩) (Kd.R_types HO12033.out BK12035.out (by decide)) (fun _ hk => hk.2) (.int .i64 t12028)) (fun _ hk => hk.2) (.int .i64 t12029)) (fun _ hk => hk.2) (.int .i64 t12030)) (fun _ hk => hk.2) (.slice Ao29 t12031.length co29)) (fun _ h_ => h_.1))) hb); have n4_ := Aside0.mk (blk_below (g := gb12018) (o := .cells #[.int .i64 t12001, .int .i64 t12002, .int .i64 t12003, .slice Ao12 t12004.length co12] 27 (0, 0)) (by refine blk_far ?_ NB12018_12035.out _; (with_reducible repeat (first | refine blk_drewN ?_ _ | refine blk_drew ?_ | refine blk_alloc ?_ _)); refine blk_far ?_ NB12018_12035.out _; (with_reducible repeat (first | refine blk_drewN ?_ _ | refine blk_drew ?_ | refine blk_alloc ?_ _)); refine blk_far ?_ NB12018_12035.out _; (with_reducible repeat (first | refine blk_drewN ?_ _ | refine blk_drew ?_ | refine blk_alloc ?_ _)); refine blk_far ?_ NB12018_12035.out _; (with_reducible repeat (first | refine blk_drewN ?_ _ | refine blk_drew ?_ | refine blk_alloc ?_ _)); exact BK12018.out) hb); have n5_ := Aside0.mk (blk_below (g := gb12019) (o := .cells #[.int .i64 t12007, .int .i64 t12008, .int .i64 t12009, .slice Ao14 t12010.length co14, .int .i64 t12013, .int .i64 t12014, .int .i64 t12015, .int .i64 t12016, .bool t12017] 55 (0, 0)) (by refine blk_far ?_ NB12019_12035.out _; (with_reducible repeat (first | refine blk_drewN ?_ _ | refine blk_drew ?_ | refine blk_alloc ?_ _)); refine blk_far ?_ NB12019_12035.out _; (with_reducible repeat (first | refine blk_drewN ?_ _ | refine blk_drew ?_ | refine blk_alloc ?_ _)); refine blk_far ?_ NB12019_12035.out _; (with_reducible repeat (first | refine blk_drewN ?_ _ | refine blk_drew ?_ | refine blk_alloc ?_ _)); refine blk_far ?_ NB12019_12035.out _; (with_reducible repeat (first | refine blk_drewN ?_ _ | refine blk_drew ?_ | refine blk_alloc ?_ _)); exact BK12019.out) hb); have n6_ := Aside0.mk (blk_below (g := gb12027) (o := .cells #[.int .i64 t12020, .int .i64 t12021, .int .i64 t12022, .slice Ao20 t12023.length co20] 27 (0, 0)) (by refine blk_far ?_ NB12027_12035.out _; (with_reducible repeat (first | refine blk_drewN ?_ _ | refine blk_drew ?_ | refine blk_alloc ?_ _)); refine blk_far ?_ NB12027_12035.out _; (with_reducible repeat (first | refine blk_drewN ?_ _ | refine blk_drew ?_ | refine blk_alloc ?_ _)); refine blk_far ?_ NB12027_12035.out _; (with_reducible repeat (first | refine blk_drewN ?_ _ | refine blk_drew ?_ | refine blk_alloc ?_ _)); refine blk_far ?_ NB12027_12035.out _; (with_reducible repeat (first | refine blk_drewN ?_ _ | refine blk_drew ?_ | refine blk_alloc ?_ _)); exact BK12027.out) hb); have n7_ := Aside0.mk (blk_below (g := gb12035) (o := .cells #[.int .i64 t12028, .int .i64 t12029, .int .i64 t12030, .slice Ao29 t12031.length co29] 27 (0, 0)) (by refine blk_put (cs := #[.int .i64 t12028, .int .i64 t12029, .int .i64 t12030, .slice none 0 0]) ?_ 3 _ rfl; (with_reducible repeat (first | refine blk_drewN ?_ _ | refine blk_drew ?_ | refine blk_alloc ?_ _)); refine blk_put (cs := #[.int .i64 t12028, .int .i64 t12029, .int .i64 0, .slice none 0 0]) ?_ 2 _ rfl; (with_reducible repeat (first | refine blk_drewN ?_ _ | refine blk_drew ?_ | refine blk_alloc ?_ _)); refine blk_put (cs := #[.int .i64 t12028, .int .i64 0, .int .i64 0, .slice none 0 0]) ?_ 1 _ rfl; (with_reducible repeat (first | refine blk_drewN ?_ _ | refine blk_drew ?_ | refine blk_alloc ?_ _)); refine blk_put (cs := #[.int .i64 0, .int .i64 0, .int .i64 0, .slice none 0 0]) ?_ 0 _ rfl; (with_reducible repeat (first | refine blk_drewN ?_ _ | refine blk_drew ?_ | refine blk_alloc ?_ _)); exact BK12035.out) hb); have n8_ := Aside0.mk (below_step (by repeat (with_reducible first | exact HB.out | refine below_set ?_ GE12035.out)) hb); clear HO12006; clear HO12012; clear HO12025; clear HO12033; clear BK12018; clear BK12019; clear BK12027; clear BK12035; clear HB; have HO12006 := n0_; have HO12012 := n1_; have HO12025 := n2_; have HO12033 := n3_; have BK12018 := n4_; have BK12019 := n5_; have BK12027 := n6_; have BK12035 := n7_; have HB := n8_; clear n0_ n1_ n2_ n3_ n4_ n5_ n6_ n7_ n8_; (try clear hb)))
        go_meet
        case rel => exact ⟨_, (true), (by rfl), H', ⟨by omega⟩, ⟨by (with_reducible repeat (first | apply Kd.Q_alloc | apply Kd.Q_drewN | apply Kd.Q_drew)); exact Kd.Q_mono HO12006.out (fun _ hk => ⟨hk.1.1, ⟨hk.1.2, hk.2⟩⟩)⟩, ⟨by (with_reducible repeat (first | apply Kd.Q_alloc | apply Kd.Q_drewN | apply Kd.Q_drew)); exact Kd.Q_mono HO12012.out (fun _ hk => ⟨hk.1.1, ⟨hk.1.2, hk.2⟩⟩)⟩, ⟨Kd.Q_of_R (by exact Kd.R_mono HO12025.out (fun _ hk => ⟨hk.1.1.2, ⟨hk.1.2, hk.2⟩⟩))⟩, ⟨Kd.Q_of_R (by exact Kd.R_mono HO12033.out (fun _ hk => ⟨hk.1.1.2, ⟨hk.1.2, hk.2⟩⟩))⟩, ⟨by (with_reducible repeat (first | refine blk_drewN ?_ _ | refine blk_drew ?_ | refine blk_alloc ?_ _)); exact BK12018.out⟩, ⟨by (with_reducible repeat (first | refine blk_drewN ?_ _ | refine blk_drew ?_ | refine blk_alloc ?_ _)); exact BK12019.out⟩, ⟨by (with_reducible repeat (first | refine blk_drewN ?_ _ | refine blk_drew ?_ | refine blk_alloc ?_ _)); exact BK12027.out⟩, ⟨by (with_reducible repeat (first | refine blk_drewN ?_ _ | refine blk_drew ?_ | refine blk_alloc ?_ _)); exact BK12035.out⟩, ⟨by exact HB.out⟩⟩
    case rest =>
      clear HC6
      try clear c1
      try clear c2
      try clear c2b0
      try clear c2b1
      try clear p2
      try clear c3
      try clear c4
      try clear c5
      try clear c6
      try clear c10
      try clear c11
      try clear c17
      try clear c18
      try clear c25
      try clear c26
      try clear c27
      try clear c31
      try clear c32
      try clear c32b0
      try clear c32b1
      try clear c32b2
      try clear c33
      try clear c34
      try clear c35
      try clear c37
      try clear c38
      try clear c41
      try clear c42
      try clear c43
      try clear c45
      try clear c46
      try clear c49
      try clear c50
      try clear c51
      try clear c53
      try clear c54
      try clear hcz11_0
      try clear hcz11_1
      try clear hcz11_2
      try clear hcz11_3
      try clear hcz13_0
      try clear hcz13_1
      try clear hcz13_2
      try clear hcz13_3
      try clear hcz13_4
      try clear hcz13_5
      try clear hcz13_6
      try clear hcz13_7
      try clear hcz13_8
      try clear hcz19_0
      try clear hcz19_1
      try clear hcz19_2
      try clear hcz19_3
      try clear hcz21_0
      try clear hcz21_1
      try clear hcz21_2
      try clear hcz21_3
      try clear hcz22_0
      try clear hcz22_1
      try clear hcz22_2
      try clear hcz22_3
      try clear hcz22_4
      try clear hcz22_5
      try clear hcz22_6
      try clear hcz22_7
      try clear hcz22_8
      try clear hcz28_0
      try clear hcz28_1
      try clear hcz28_2
      try clear hcz28_3
      try clear hcz36_0
      try clear hcz36_1
      try clear hcz36_2
      try clear hcz36_3
      try clear hcz39_0
      try clear hcz39_1
      try clear hcz39_2
      try clear hcz39_3
      try clear hcz44_0
      try clear hcz44_1
      try clear hcz44_2
      try clear hcz44_3
      try clear hcz47_0
      try clear hcz47_1
      try clear hcz47_2
      try clear hcz47_3
      try clear hcz52_0
      try clear hcz52_1
      try clear hcz52_2
      try clear hcz52_3
      try clear hcz55_0
      try clear hcz55_1
      try clear hcz55_2
      try clear hcz55_3
      try clear hfz11_0
      try clear hfz11_1
      try clear hfz11_2
      try clear hfz11_3
      try clear hfz13_0
      try clear hfz13_1
      try clear hfz13_2
      try clear hfz13_3
      try clear hfz13_4
      try clear hfz13_5
      try clear hfz13_6
      try clear hfz13_7
      try clear hfz13_8
      try clear hfz19_0
      try clear hfz19_1
      try clear hfz19_2
      try clear hfz19_3
      try clear hfz21_0
      try clear hfz21_1
      try clear hfz21_2
      try clear hfz21_3
      try clear hfz22_0
      try clear hfz22_1
      try clear hfz22_2
      try clear hfz22_3
      try clear hfz22_4
      try clear hfz22_5
      try clear hfz22_6
      try clear hfz22_7
      try clear hfz22_8
      try clear hfz28_0
      try clear hfz28_1
      try clear hfz28_2
      try clear hfz28_3
      try clear hfz36_0
      try clear hfz36_1
      try clear hfz36_2
      try clear hfz36_3
      try clear hfz39_0
      try clear hfz39_1
      try clear hfz39_2
      try clear hfz39_3
      try clear hfz44_0
      try clear hfz44_1
      try clear hfz44_2
      try clear hfz44_3
      try clear hfz47_0
      try clear hfz47_1
      try clear hfz47_2
      try clear hfz47_3
      try clear hfz52_0
      try clear hfz52_1
      try clear hfz52_2
      try clear hfz52_3
      try clear hfz55_0
      try clear hfz55_1
      try clear hfz55_2
      try clear hfz55_3
      obtain ⟨kq, x47_5, rfl, HA, HJ5, HO_12019003, HO_12020003, HO_12028003, HO_12036003, BK12018, BK12019, BK12027, BK12035, HB⟩ := hcut
      cases kq with
      | zero => exact absurd HA.out (by simp [laws_FnCoverImage.j0])
      | succ kj5 =>
        have H := HA.out
        clear HA
        simp only [laws_FnCoverImage.j0] at H
        by_cases c57 : x47_5 = true
        · subst c57
          have H1 : ((laws_equalImage.f kj5 t12020 t12021 t12022 t12023 t12028 t12029 t12030 t12031).bind fun t12037 => (if t12037 = true then (some (t12026 == t12034)) else (some false))) = some r := by rw [if_pos rfl] at H; exact H
          clear H
          have H := H1
          clear H1
          replace H := Option.bind_eq_some_iff.mp H
          obtain ⟨t12037, A580, H⟩ := H
          replace H : (if t12037 = true then (some (t12026 == t12034)) else (some false)) = some r := H
          have A58 := Aside0.mk A580
          clear A580
          by_cases c59 : t12037 = true
          · subst c59
            have H1 : (some (t12026 == t12034)) = some r := by rw [if_pos rfl] at H; exact H
            clear H
            have H := H1
            clear H1
            obtain rfl := Option.some.inj H
            have hnb60 := NB12027_12018.out
            have hnc60 := NB12018_12027.out
            have hnb61 := NB12027_12019.out
            have hnc61 := NB12019_12027.out
            have hnb62 := NB12027_12035.out
            have hnc62 := NB12035_12027.out
            have hcz63_0 : wc.cell? ⟨gb12027, 0, none⟩ = some (.int .i64 t12020) := (blk_cell BK12027.out 0).trans rfl
            have hcz63_1 : wc.cell? ⟨gb12027, 1, none⟩ = some (.int .i64 t12021) := (blk_cell BK12027.out 1).trans rfl
            have hcz63_2 : wc.cell? ⟨gb12027, 2, none⟩ = some (.int .i64 t12022) := (blk_cell BK12027.out 2).trans rfl
            have hcz63_3 : wc.cell? ⟨gb12027, 3, none⟩ = some (.slice Ao20 t12023.length co20) := (blk_cell BK12027.out 3).trans rfl
            have hfz63_0 := blk_frozen BK12027.out 0
            have hfz63_1 := blk_frozen BK12027.out 1
            have hfz63_2 := blk_frozen BK12027.out 2
            have hfz63_3 := blk_frozen BK12027.out 3
            have hnb64 := NB12035_12018.out
            have hnc64 := NB12018_12035.out
            have hnb65 := NB12035_12019.out
            have hnc65 := NB12019_12035.out
            have hcz66_0 : wc.cell? ⟨gb12035, 0, none⟩ = some (.int .i64 t12028) := (blk_cell BK12035.out 0).trans rfl
            have hcz66_1 : wc.cell? ⟨gb12035, 1, none⟩ = some (.int .i64 t12029) := (blk_cell BK12035.out 1).trans rfl
            have hcz66_2 : wc.cell? ⟨gb12035, 2, none⟩ = some (.int .i64 t12030) := (blk_cell BK12035.out 2).trans rfl
            have hcz66_3 : wc.cell? ⟨gb12035, 3, none⟩ = some (.slice Ao29 t12031.length co29) := (blk_cell BK12035.out 3).trans rfl
            have hfz66_0 := blk_frozen BK12035.out 0
            have hfz66_1 := blk_frozen BK12035.out 1
            have hfz66_2 := blk_frozen BK12035.out 2
            have hfz66_3 := blk_frozen BK12035.out 3
            go_wp2_with (first | ((with_reducible refine gate_callee (f := 26) rfl ?_); refine goesL_ (some 50) rfl rfl Try.func26 (by kernel_rfl) rfl #[.agg #[.int .i64 t12020, .int .i64 t12021, .int .i64 t12022, .slice Ao20 t12023.length co20], .agg #[.int .i64 t12028, .int .i64 t12029, .int .i64 t12030, .slice Ao29 t12031.length co29]] rfl (by (try simp only [List.map_toArray, List.map_cons, List.map_nil]); rfl) ?_; (with_reducible refine (laws_equalImage.calls kj5 t12020 t12021 t12022 _ _ t12023 t12028 t12029 t12030 _ _ t12031 true _ ?side1 ?side2 ?side3 ?side4 A58.out).mono ?_); (case side1 => repeat (exact (Kd.Q_reads' HO_12028003.out).2.2)); (case side2 => exact (Kd.Q_reads' HO_12028003.out).2.1); (case side3 => repeat (exact (Kd.Q_reads' HO_12036003.out).2.2)); (case side4 => exact (Kd.Q_reads' HO_12036003.out).2.1); rintro e w67 ⟨rfl, hb⟩; refine ⟨_, rfl, ?_⟩; have n0_ := Aside0.mk (Kd.Q_below HO_12019003.out hb); have n1_ := Aside0.mk (Kd.Q_below HO_12020003.out hb); have n2_ := Aside0.mk (Kd.Q_below HO_12028003.out hb); have n3_ := Aside0.mk (Kd.Q_below HO_12036003.out hb); have n4_ := Aside0.mk (blk_below BK12018.out hb); have n5_ := Aside0.mk (blk_below BK12019.out hb); have n6_ := Aside0.mk (blk_below BK12027.out hb); have n7_ := Aside0.mk (blk_below BK12035.out hb); have n8_ := Aside0.mk (below_step HB.out hb); clear HO_12019003; clear HO_12020003; clear HO_12028003; clear HO_12036003; clear BK12018; clear BK12019; clear BK12027; clear BK12035; clear HB; have HO_12019003 := n0_; have HO_12020003 := n1_; have HO_12028003 := n2_; have HO_12036003 := n3_; have BK12018 := n4_; have BK12019 := n5_; have BK12027 := n6_; have BK12035 := n7_; have HB := n8_; clear n0_ n1_ n2_ n3_ n4_ n5_ n6_ n7_ n8_; (try clear hb)))
            go_ret
            exact ⟨by rfl, by exact HB.out⟩
          · replace c59 := Bool.eq_false_iff.mpr c59
            subst c59
            have H1 : (some false) = some r := by rw [if_neg (show ¬ (false = true) by decide)] at H; exact H
            clear H
            have H := H1
            clear H1
            exact absurd ((Option.some.inj H).trans HRT.out) (by decide)
        · replace c57 := Bool.eq_false_iff.mpr c57
          subst c57
          have H1 : ((impl_CoverImage.f t12001 t12002 t12003 t12004 t12007 t12008 t12009 t12010 t12013 t12014 0 255 false).bind fun bt12038 => ((impl_PasteImage.f t12001 t12002 t12003 t12004 t12013 t12014 t12007 t12008 t12009 t12010).bind fun bt12046 => ((impl_CoverImage.f t12001 t12002 t12003 t12004 t12007 t12008 t12009 t12010 t12013 t12014 t12015 0 false).bind fun bt12054 => (if bt12038.2.2.2.2 = true then (if bt12046.2.2.2.2 = true then ((laws_equalImage.f kj5 bt12038.1 bt12038.2.1 bt12038.2.2.1 bt12038.2.2.2.1 bt12046.1 bt12046.2.1 bt12046.2.2.1 bt12046.2.2.2.1).bind fun t12062 => (if t12062 = true then (if bt12054.2.2.2.2 = true then ((laws_equalImage.f kj5 bt12054.1 bt12054.2.1 bt12054.2.2.1 bt12054.2.2.2.1 t12001 t12002 t12003 t12004).bind fun t12063 => (if t12063 = true then ((impl_ValidImage.f t12020 t12021 t12022 t12023).bind fun t12064 => (some t12064)) else (some false))) else (some false)) else (some false))) else (some false)) else (some false))))) = some r := by rw [if_neg (show ¬ (false = true) by decide)] at H; exact H
          clear H
          have H := H1
          clear H1
          replace H := Option.bind_eq_some_iff.mp H
          obtain ⟨⟨t12038, t12039, t12040, t12041, t12044⟩, A760, H⟩ := H
          replace H : ((impl_PasteImage.f t12001 t12002 t12003 t12004 t12013 t12014 t12007 t12008 t12009 t12010).bind fun bt12046 => ((impl_CoverImage.f t12001 t12002 t12003 t12004 t12007 t12008 t12009 t12010 t12013 t12014 t12015 0 false).bind fun bt12054 => (if t12044 = true then (if bt12046.2.2.2.2 = true then ((laws_equalImage.f kj5 t12038 t12039 t12040 t12041 bt12046.1 bt12046.2.1 bt12046.2.2.1 bt12046.2.2.2.1).bind fun t12062 => (if t12062 = true then (if bt12054.2.2.2.2 = true then ((laws_equalImage.f kj5 bt12054.1 bt12054.2.1 bt12054.2.2.1 bt12054.2.2.2.1 t12001 t12002 t12003 t12004).bind fun t12063 => (if t12063 = true then ((impl_ValidImage.f t12020 t12021 t12022 t12023).bind fun t12064 => (some t12064)) else (some false))) else (some false)) else (some false))) else (some false)) else (some false)))) = some r := H
          have A76 := Aside0.mk A760
          clear A760
          replace H := Option.bind_eq_some_iff.mp H
          obtain ⟨⟨t12046, t12047, t12048, t12049, t12052⟩, A770, H⟩ := H
          replace H : ((impl_CoverImage.f t12001 t12002 t12003 t12004 t12007 t12008 t12009 t12010 t12013 t12014 t12015 0 false).bind fun bt12054 => (if t12044 = true then (if t12052 = true then ((laws_equalImage.f kj5 t12038 t12039 t12040 t12041 t12046 t12047 t12048 t12049).bind fun t12062 => (if t12062 = true then (if bt12054.2.2.2.2 = true then ((laws_equalImage.f kj5 bt12054.1 bt12054.2.1 bt12054.2.2.1 bt12054.2.2.2.1 t12001 t12002 t12003 t12004).bind fun t12063 => (if t12063 = true then ((impl_ValidImage.f t12020 t12021 t12022 t12023).bind fun t12064 => (some t12064)) else (some false))) else (some false)) else (some false))) else (some false)) else (some false))) = some r := H
          have A77 := Aside0.mk A770
          clear A770
          replace H := Option.bind_eq_some_iff.mp H
          obtain ⟨⟨t12054, t12055, t12056, t12057, t12060⟩, A780, H⟩ := H
          replace H : (if t12044 = true then (if t12052 = true then ((laws_equalImage.f kj5 t12038 t12039 t12040 t12041 t12046 t12047 t12048 t12049).bind fun t12062 => (if t12062 = true then (if t12060 = true then ((laws_equalImage.f kj5 t12054 t12055 t12056 t12057 t12001 t12002 t12003 t12004).bind fun t12063 => (if t12063 = true then ((impl_ValidImage.f t12020 t12021 t12022 t12023).bind fun t12064 => (some t12064)) else (some false))) else (some false)) else (some false))) else (some false)) else (some false)) = some r := H
          have A78 := Aside0.mk A780
          clear A780
          by_cases c79 : t12044 = true
          · subst c79
            have H1 : (if t12052 = true then ((laws_equalImage.f kj5 t12038 t12039 t12040 t12041 t12046 t12047 t12048 t12049).bind fun t12062 => (if t12062 = true then (if t12060 = true then ((laws_equalImage.f kj5 t12054 t12055 t12056 t12057 t12001 t12002 t12003 t12004).bind fun t12063 => (if t12063 = true then ((impl_ValidImage.f t12020 t12021 t12022 t12023).bind fun t12064 => (some t12064)) else (some false))) else (some false)) else (some false))) else (some false)) = some r := by rw [if_pos rfl] at H; exact H
            clear H
            have H := H1
            clear H1
            by_cases c80 : t12052 = true
            · subst c80
              have H1 : ((laws_equalImage.f kj5 t12038 t12039 t12040 t12041 t12046 t12047 t12048 t12049).bind fun t12062 => (if t12062 = true then (if t12060 = true then ((laws_equalImage.f kj5 t12054 t12055 t12056 t12057 t12001 t12002 t12003 t12004).bind fun t12063 => (if t12063 = true then ((impl_ValidImage.f t12020 t12021 t12022 t12023).bind fun t12064 => (some t12064)) else (some false))) else (some false)) else (some false))) = some r := by rw [if_pos rfl] at H; exact H
              clear H
              have H := H1
              clear H1
              replace H := Option.bind_eq_some_iff.mp H
              obtain ⟨t12062, A810, H⟩ := H
              replace H : (if t12062 = true then (if t12060 = true then ((laws_equalImage.f kj5 t12054 t12055 t12056 t12057 t12001 t12002 t12003 t12004).bind fun t12063 => (if t12063 = true then ((impl_ValidImage.f t12020 t12021 t12022 t12023).bind fun t12064 => (some t12064)) else (some false))) else (some false)) else (some false)) = some r := H
              have A81 := Aside0.mk A810
              clear A810
              by_cases c82 : t12062 = true
              · subst c82
                have H1 : (if t12060 = true then ((laws_equalImage.f kj5 t12054 t12055 t12056 t12057 t12001 t12002 t12003 t12004).bind fun t12063 => (if t12063 = true then ((impl_ValidImage.f t12020 t12021 t12022 t12023).bind fun t12064 => (some t12064)) else (some false))) else (some false)) = some r := by rw [if_pos rfl] at H; exact H
                clear H
                have H := H1
                clear H1
                by_cases c83 : t12060 = true
                · subst c83
                  have H1 : ((laws_equalImage.f kj5 t12054 t12055 t12056 t12057 t12001 t12002 t12003 t12004).bind fun t12063 => (if t12063 = true then ((impl_ValidImage.f t12020 t12021 t12022 t12023).bind fun t12064 => (some t12064)) else (some false))) = some r := by rw [if_pos rfl] at H; exact H
                  clear H
                  have H := H1
                  clear H1
                  replace H := Option.bind_eq_some_iff.mp H
                  obtain ⟨t12063, A840, H⟩ := H
                  replace H : (if t12063 = true then ((impl_ValidImage.f t12020 t12021 t12022 t12023).bind fun t12064 => (some t12064)) else (some false)) = some r := H
                  have A84 := Aside0.mk A840
                  clear A840
                  by_cases c85 : t12063 = true
                  · subst c85
                    have H1 : ((impl_ValidImage.f t12020 t12021 t12022 t12023).bind fun t12064 => (some t12064)) = some r := by rw [if_pos rfl] at H; exact H
                    clear H
                    have H := H1
                    clear H1
                    replace H := Option.bind_eq_some_iff.mp H
                    obtain ⟨t12064, A860, H⟩ := H
                    replace H : (some t12064) = some r := H
                    have A86 := Aside0.mk A860
                    clear A860
                    obtain rfl := Option.some.inj H
                    have hnb87 := NB12018_12019.out
                    have hnc87 := NB12019_12018.out
                    have hnb88 := NB12018_12027.out
                    have hnc88 := NB12027_12018.out
                    have hnb89 := NB12018_12035.out
                    have hnc89 := NB12035_12018.out
                    have hcz90_0 : wc.cell? ⟨gb12018, 0, none⟩ = some (.int .i64 t12001) := (blk_cell BK12018.out 0).trans rfl
                    have hcz90_1 : wc.cell? ⟨gb12018, 1, none⟩ = some (.int .i64 t12002) := (blk_cell BK12018.out 1).trans rfl
                    have hcz90_2 : wc.cell? ⟨gb12018, 2, none⟩ = some (.int .i64 t12003) := (blk_cell BK12018.out 2).trans rfl
                    have hcz90_3 : wc.cell? ⟨gb12018, 3, none⟩ = some (.slice Ao12 t12004.length co12) := (blk_cell BK12018.out 3).trans rfl
                    have hfz90_0 := blk_frozen BK12018.out 0
                    have hfz90_1 := blk_frozen BK12018.out 1
                    have hfz90_2 := blk_frozen BK12018.out 2
                    have hfz90_3 := blk_frozen BK12018.out 3
                    have hnb91 := NB12019_12027.out
                    have hnc91 := NB12027_12019.out
                    have hnb92 := NB12019_12035.out
                    have hnc92 := NB12035_12019.out
                    have hcz93_0 : wc.cell? ⟨gb12019, 0, none⟩ = some (.int .i64 t12007) := (blk_cell BK12019.out 0).trans rfl
                    have hcz93_1 : wc.cell? ⟨gb12019, 1, none⟩ = some (.int .i64 t12008) := (blk_cell BK12019.out 1).trans rfl
                    have hcz93_2 : wc.cell? ⟨gb12019, 2, none⟩ = some (.int .i64 t12009) := (blk_cell BK12019.out 2).trans rfl
                    have hcz93_3 : wc.cell? ⟨gb12019, 3, none⟩ = some (.slice Ao14 t12010.length co14) := (blk_cell BK12019.out 3).trans rfl
                    have hcz93_4 : wc.cell? ⟨gb12019, 4, none⟩ = some (.int .i64 t12013) := (blk_cell BK12019.out 4).trans rfl
                    have hcz93_5 : wc.cell? ⟨gb12019, 5, none⟩ = some (.int .i64 t12014) := (blk_cell BK12019.out 5).trans rfl
                    have hcz93_6 : wc.cell? ⟨gb12019, 6, none⟩ = some (.int .i64 t12015) := (blk_cell BK12019.out 6).trans rfl
                    have hcz93_7 : wc.cell? ⟨gb12019, 7, none⟩ = some (.int .i64 t12016) := (blk_cell BK12019.out 7).trans rfl
                    have hcz93_8 : wc.cell? ⟨gb12019, 8, none⟩ = some (.bool t12017) := (blk_cell BK12019.out 8).trans rfl
                    have hfz93_0 := blk_frozen BK12019.out 0
                    have hfz93_1 := blk_frozen BK12019.out 1
                    have hfz93_2 := blk_frozen BK12019.out 2
                    have hfz93_3 := blk_frozen BK12019.out 3
                    have hfz93_4 := blk_frozen BK12019.out 4
                    have hfz93_5 := blk_frozen BK12019.out 5
                    have hfz93_6 := blk_frozen BK12019.out 6
                    have hfz93_7 := blk_frozen BK12019.out 7
                    have hfz93_8 := blk_frozen BK12019.out 8
                    go_wp2_with (first | ((with_reducible refine gate_callee (f := 49) rfl ?_); refine goesL_ (some 65) rfl rfl Try.func49 (by kernel_rfl) rfl #[.agg #[.int .i64 t12001, .int .i64 t12002, .int .i64 t12003, .slice Ao12 t12004.length co12], .agg #[.int .i64 t12007, .int .i64 t12008, .int .i64 t12009, .slice Ao14 t12010.length co14, .int .i64 t12013, .int .i64 t12014, .int .i64 0, .int .i64 255, .bool false]] rfl (by (try simp only [List.map_toArray, List.map_cons, List.map_nil]); rfl) ?_; (with_reducible refine (impl_CoverImage.calls t12001 t12002 t12003 _ _ t12004 t12007 t12008 t12009 _ _ t12010 t12013 t12014 0 255 false t12038 t12039 t12040 t12041 true _ ?side1 ?side2 ?side3 ?side4 A76.out).mono ?_); (case side1 => repeat (exact (Kd.Q_reads' HO_12019003.out).2.2)); (case side2 => exact (Kd.Q_reads' HO_12019003.out).2.1); (case side3 => repeat (exact (Kd.Q_reads' HO_12020003.out).2.2)); (case side4 => exact (Kd.Q_reads' HO_12020003.out).2.1); rintro e w94 ⟨v12042, rfl, ho0, hb⟩; refine ⟨_, rfl, ?_⟩; have n0_ := Aside0.mk (Kd.Q_elder' HO_12019003.out (Kd.R_base ho0) hb); have n1_ := Aside0.mk (Kd.Q_elder' HO_12020003.out (Kd.R_base ho0) hb); have n2_ := Aside0.mk (Kd.Q_elder' HO_12028003.out (Kd.R_base ho0) hb); have n3_ := Aside0.mk (Kd.Q_elder' HO_12036003.out (Kd.R_base ho0) hb); have n4_ := Aside0.mk (Kd.R_lower (Kd.R_new' (Kd.R_new' (Kd.R_new' (Kd.R_new' ho0 (Kd.Q_lt HO_12019003.out)) (Kd.Q_lt HO_12020003.out)) (Kd.Q_lt HO_12028003.out)) (Kd.Q_lt HO_12036003.out)) (below_size HB.out)); have n5_ := Aside0.mk (blk_below BK12018.out hb); have n6_ := Aside0.mk (blk_below BK12019.out hb); have n7_ := Aside0.mk (blk_below BK12027.out hb); have n8_ := Aside0.mk (blk_below BK12035.out hb); have n9_ := Aside0.mk (below_step HB.out hb); clear HO_12019003; clear HO_12020003; clear HO_12028003; clear HO_12036003; clear BK12018; clear BK12019; clear BK12027; clear BK12035; clear HB; have HO_12019003 := n0_; have HO_12020003 := n1_; have HO_12028003 := n2_; have HO_12036003 := n3_; have HO12043 := n4_; have BK12018 := n5_; have BK12019 := n6_; have BK12027 := n7_; have BK12035 := n8_; have HB := n9_; clear n0_ n1_ n2_ n3_ n4_ n5_ n6_ n7_ n8_ n9_; (try clear hb); (try clear ho0)) | ((with_reducible refine gate_dst (N := 9) rfl ?_); refine box_event ?hg (N := 9) ?hd (cs := #[.int .i64 0, .int .i64 0, .int .i64 0, .slice none 0 0]) (t := 27) ?hr ?_; (case hd => rfl); (case hg => rfl); (case hr => (go_simp; done)); intro gb12045 hg w95 hbox hb; have n0_ := Aside0.mk (Kd.Q_below HO_12019003.out hb); have n1_ := Aside0.mk (Kd.Q_below HO_12020003.out hb); have n2_ := Aside0.mk (Kd.Q_below HO_12028003.out hb); have n3_ := Aside0.mk (Kd.Q_below HO_12036003.out hb); have n4_ := Aside0.mk (Kd.R_below HO12043.out hb); have n5_ := Aside0.mk (blk_below BK12018.out hb); have n6_ := Aside0.mk (blk_below BK12019.out hb); have n7_ := Aside0.mk (blk_below BK12027.out hb); have n8_ := Aside0.mk (blk_below BK12035.out hb); have n9_ := Aside0.mk (below_step HB.out hb); have n10_ := Aside0.mk (hbox); have n11_ := Aside0.mk ((by rw [hg]; exact (below_size HB.out) : w.heap.size ≤ gb12045)); have n12_ := Aside0.mk ((by rw [hg]; exact (below_size HB.out) : w.heap.size ≤ gb12045)); have n13_ := Aside0.mk ((by rw [hg]; exact Nat.ne_of_lt (blk_lt BK12018.out) : gb12018 ≠ gb12045)); have n14_ := Aside0.mk ((by rw [hg]; exact Nat.ne_of_gt (blk_lt BK12018.out) : gb12045 ≠ gb12018)); have n15_ := Aside0.mk ((by rw [hg]; exact Nat.ne_of_lt (blk_lt BK12019.out) : gb12019 ≠ gb12045)); have n16_ := Aside0.mk ((by rw [hg]; exact Nat.ne_of_gt (blk_lt BK12019.out) : gb12045 ≠ gb12019)); have n17_ := Aside0.mk ((by rw [hg]; exact Nat.ne_of_lt (blk_lt BK12027.out) : gb12027 ≠ gb12045)); have n18_ := Aside0.mk ((by rw [hg]; exact Nat.ne_of_gt (blk_lt BK12027.out) : gb12045 ≠ gb12027)); have n19_ := Aside0.mk ((by rw [hg]; exact Nat.ne_of_lt (blk_lt BK12035.out) : gb12035 ≠ gb12045)); have n20_ := Aside0.mk ((by rw [hg]; exact Nat.ne_of_gt (blk_lt BK12035.out) : gb12045 ≠ gb12035)); clear HO_12019003; clear HO_12020003; clear HO_12028003; clear HO_12036003; clear HO12043; clear BK12018; clear BK12019; clear BK12027; clear BK12035; clear HB; have HO_12019003 := n0_; have HO_12020003 := n1_; have HO_12028003 := n2_; have HO_12036003 := n3_; have HO12043 := n4_; have BK12018 := n5_; have BK12019 := n6_; have BK12027 := n7_; have BK12035 := n8_; have HB := n9_; have BK12045 := n10_; have GW12045 := n11_; have GE12045 := n12_; have NB12018_12045 := n13_; have NB12045_12018 := n14_; have NB12019_12045 := n15_; have NB12045_12019 := n16_; have NB12027_12045 := n17_; have NB12045_12027 := n18_; have NB12035_12045 := n19_; have NB12045_12035 := n20_; clear n0_ n1_ n2_ n3_ n4_ n5_ n6_ n7_ n8_ n9_ n10_ n11_ n12_ n13_ n14_ n15_ n16_ n17_ n18_ n19_ n20_; clear hb hbox hg; have hnb96 := NB12045_12018.out; have hnc96 := NB12018_12045.out; have hnb97 := NB12045_12019.out; have hnc97 := NB12019_12045.out; have hnb98 := NB12045_12027.out; have hnc98 := NB12027_12045.out; have hnb99 := NB12045_12035.out; have hnc99 := NB12035_12045.out; have hcz100_0 : w95.cell? ⟨gb12045, 0, none⟩ = some (.int .i64 0) := (blk_cell BK12045.out 0).trans rfl; have hcz100_1 : w95.cell? ⟨gb12045, 1, none⟩ = some (.int .i64 0) := (blk_cell BK12045.out 1).trans rfl; have hcz100_2 : w95.cell? ⟨gb12045, 2, none⟩ = some (.int .i64 0) := (blk_cell BK12045.out 2).trans rfl; have hcz100_3 : w95.cell? ⟨gb12045, 3, none⟩ = some (.slice none 0 0) := (blk_cell BK12045.out 3).trans rfl; have hfz100_0 := blk_frozen BK12045.out 0; have hfz100_1 := blk_frozen BK12045.out 1; have hfz100_2 := blk_frozen BK12045.out 2; have hfz100_3 := blk_frozen BK12045.out 3; obtain ⟨Ao101, co101, eo101⟩ := Kd.R_slice HO12043.out; subst eo101; have hcz102_0 : w95.cell? ⟨gb12018, 0, none⟩ = some (.int .i64 t12001) := (blk_cell BK12018.out 0).trans rfl; have hcz102_1 : w95.cell? ⟨gb12018, 1, none⟩ = some (.int .i64 t12002) := (blk_cell BK12018.out 1).trans rfl; have hcz102_2 : w95.cell? ⟨gb12018, 2, none⟩ = some (.int .i64 t12003) := (blk_cell BK12018.out 2).trans rfl; have hcz102_3 : w95.cell? ⟨gb12018, 3, none⟩ = some (.slice Ao12 t12004.length co12) := (blk_cell BK12018.out 3).trans rfl; have hfz102_0 := blk_frozen BK12018.out 0; have hfz102_1 := blk_frozen BK12018.out 1; have hfz102_2 := blk_frozen BK12018.out 2; have hfz102_3 := blk_frozen BK12018.out 3; have hcz103_0 : w95.cell? ⟨gb12019, 0, none⟩ = some (.int .i64 t12007) := (blk_cell BK12019.out 0).trans rfl; have hcz103_1 : w95.cell? ⟨gb12019, 1, none⟩ = some (.int .i64 t12008) := (blk_cell BK12019.out 1).trans rfl; have hcz103_2 : w95.cell? ⟨gb12019, 2, none⟩ = some (.int .i64 t12009) := (blk_cell BK12019.out 2).trans rfl; have hcz103_3 : w95.cell? ⟨gb12019, 3, none⟩ = some (.slice Ao14 t12010.length co14) := (blk_cell BK12019.out 3).trans rfl; have hcz103_4 : w95.cell? ⟨gb12019, 4, none⟩ = some (.int .i64 t12013) := (blk_cell BK12019.out 4).trans rfl; have hcz103_5 : w95.cell? ⟨gb12019, 5, none⟩ = some (.int .i64 t12014) := (blk_cell BK12019.out 5).trans rfl; have hcz103_6 : w95.cell? ⟨gb12019, 6, none⟩ = some (.int .i64 t12015) := (blk_cell BK12019.out 6).trans rfl; have hcz103_7 : w95.cell? ⟨gb12019, 7, none⟩ = some (.int .i64 t12016) := (blk_cell BK12019.out 7).trans rfl; have hcz103_8 : w95.cell? ⟨gb12019, 8, none⟩ = some (.bool t12017) := (blk_cell BK12019.out 8).trans rfl; have hfz103_0 := blk_frozen BK12019.out 0; have hfz103_1 := blk_frozen BK12019.out 1; have hfz103_2 := blk_frozen BK12019.out 2; have hfz103_3 := blk_frozen BK12019.out 3; have hfz103_4 := blk_frozen BK12019.out 4; have hfz103_5 := blk_frozen BK12019.out 5; have hfz103_6 := blk_frozen BK12019.out 6; have hfz103_7 := blk_frozen BK12019.out 7; have hfz103_8 := blk_frozen BK12019.out 8) | ((with_reducible refine gate_callee (f := 62) rfl ?_); refine goesL_ (some 76) rfl rfl Try.func62 (by kernel_rfl) rfl #[.agg #[.int .i64 t12001, .int .i64 t12002, .int .i64 t12003, .slice Ao12 t12004.length co12], .int .i64 t12013, .int .i64 t12014, .agg #[.int .i64 t12007, .int .i64 t12008, .int .i64 t12009, .slice Ao14 t12010.length co14]] rfl (by (try simp only [List.map_toArray, List.map_cons, List.map_nil]); rfl) ?_; (with_reducible refine (impl_PasteImage.calls t12001 t12002 t12003 _ _ t12004 t12013 t12014 t12007 t12008 t12009 _ _ t12010 t12046 t12047 t12048 t12049 true _ ?side1 ?side2 ?side3 ?side4 A77.out).mono ?_); (case side1 => refine (Kd.Q_reads' (e := 3) (base := w.heap.size) (ok := fun k_ => ((some k_ ≠ (.slice Ao14 t12010.length co14 : Value).ownBlock ∧ (some k_ ≠ (.slice Ao20 t12023.length co20 : Value).ownBlock ∧ some k_ ≠ (.slice Ao29 t12031.length co29 : Value).ownBlock)) ∧ some k_ ≠ (.slice Ao101 t12041.length co101 : Value).ownBlock)) (n := t12004.length) (c := co12) ?_).2.2; exact (by exact (Kd.Q_mono (Kd.Q_far (p := ⟨gb12045, 3, none⟩) (Kd.Q_far (p := ⟨gb12045, 2, none⟩) (Kd.Q_far (p := ⟨gb12045, 1, none⟩) (Kd.Q_far (p := ⟨gb12045, 0, none⟩) (Kd.Q_types HO_12019003.out BK12045.out (by decide)) (fun _ hk => hk.2) (.int .i64 t12038)) (fun _ hk => hk.2) (.int .i64 t12039)) (fun _ hk => hk.2) (.int .i64 t12040)) (fun _ hk => hk.2) (.slice Ao101 t12041.length co101)) (fun _ h_ => h_.1)))); (case side2 => exact (Kd.Q_reads' HO_12019003.out).2.1); (case side3 => refine (Kd.Q_reads' (e := 3) (base := w.heap.size) (ok := fun k_ => ((some k_ ≠ (.slice Ao12 t12004.length co12 : Value).ownBlock ∧ (some k_ ≠ (.slice Ao20 t12023.length co20 : Value).ownBlock ∧ some k_ ≠ (.slice Ao29 t12031.length co29 : Value).ownBlock)) ∧ some k_ ≠ (.slice Ao101 t12041.length co101 : Value).ownBlock)) (n := t12010.length) (c := co14) ?_).2.2; exact (by exact (Kd.Q_mono (Kd.Q_far (p := ⟨gb12045, 3, none⟩) (Kd.Q_far (p := ⟨gb12045, 2, none⟩) (Kd.Q_far (p := ⟨gb12045, 1, none⟩) (Kd.Q_far (p := ⟨gb12045, 0, none⟩) (Kd.Q_types HO_12020003.out BK12045.out (by decide)) (fun _ hk => hk.2) (.int .i64 t12038)) (fun _ hk => hk.2) (.int .i64 t12039)) (fun _ hk => hk.2) (.int .i64 t12040)) (fun _ hk => hk.2) (.slice Ao101 t12041.length co101)) (fun _ h_ => h_.1)))); (case side4 => exact (Kd.Q_reads' HO_12020003.out).2.1); rintro e w104 ⟨v12050, rfl, ho0, hb⟩; refine ⟨_, rfl, ?_⟩; have n0_ := Aside0.mk (Kd.Q_elder' (by exact (Kd.Q_mono (Kd.Q_far (p := ⟨gb12045, 3, none⟩) (Kd.Q_far (p := ⟨gb12045, 2, none⟩) (Kd.Q_far (p := ⟨gb12045, 1, none⟩) (Kd.Q_far (p := ⟨gb12045, 0, none⟩) (Kd.Q_types HO_12019003.out BK12045.out (by decide)) (fun _ hk => hk.2) (.int .i64 t12038)) (fun _ hk => hk.2) (.int .i64 t12039)) (fun _ hk => hk.2) (.int .i64 t12040)) (fun _ hk => hk.2) (.slice Ao101 t12041.length co101)) (fun _ h_ => h_.1))) (Kd.R_base ho0) hb); have n1_ := Aside0.mk (Kd.Q_elder' (by exact (Kd.Q_mono (Kd.Q_far (p := ⟨gb12045, 3, none⟩) (Kd.Q_far (p := ⟨gb12045, 2, none⟩) (Kd.Q_far (p := ⟨gb12045, 1, none⟩) (Kd.Q_far (p := ⟨gb12045, 0, none⟩) (Kd.Q_types HO_12020003.out BK12045.out (by decide)) (fun _ hk => hk.2) (.int .i64 t12038)) (fun _ hk => hk.2) (.int .i64 t12039)) (fun _ hk => hk.2) (.int .i64 t12040)) (fun _ hk => hk.2) (.slice Ao101 t12041.length co101)) (fun _ h_ => h_.1))) (Kd.R_base ho0) hb); have n2_ := Aside0.mk (Kd.Q_elder' (by exact (Kd.Q_mono (Kd.Q_far (p := ⟨gb12045, 3, none⟩) (Kd.Q_far (p := ⟨gb12045, 2, none⟩) (Kd.Q_far (p := ⟨gb12045, 1, none⟩) (Kd.Q_far (p := ⟨gb12045, 0, none⟩) (Kd.Q_types HO_12028003.out BK12045.out (by decide)) (fun _ hk => hk.2) (.int .i64 t12038)) (fun _ hk => hk.2) (.int .i64 t12039)) (fun _ hk => hk.2) (.int .i64 t12040)) (fun _ hk => hk.2) (.slice Ao101 t12041.length co101)) (fun _ h_ => h_.1))) (Kd.R_base ho0) hb); have n3_ := Aside0.mk (Kd.Q_elder' (by exact (Kd.Q_mono (Kd.Q_far (p := ⟨gb12045, 3, none⟩) (Kd.Q_far (p := ⟨gb12045, 2, none⟩) (Kd.Q_far (p := ⟨gb12045, 1, none⟩) (Kd.Q_far (p := ⟨gb12045, 0, none⟩) (Kd.Q_types HO_12036003.out BK12045.out (by decide)) (fun _ hk => hk.2) (.int .i64 t12038)) (fun _ hk => hk.2) (.int .i64 t12039)) (fun _ hk => hk.2) (.int .i64 t12040)) (fun _ hk => hk.2) (.slice Ao101 t12041.length co101)) (fun _ h_ => h_.1))) (Kd.R_base ho0) hb); have n4_ := Aside0.mk (Kd.R_elder' (by exact (Kd.R_mono (Kd.R_far (p := ⟨gb12045, 3, none⟩) (Kd.R_far (p := ⟨gb12045, 2, none⟩) (Kd.R_far (p := ⟨gb12045, 1, none⟩) (Kd.R_far (p := ⟨gb12045, 0, none⟩) (Kd.R_types HO12043.out BK12045.out (by decide)) (fun _ hk => hk.2) (.int .i64 t12038)) (fun _ hk => hk.2) (.int .i64 t12039)) (fun _ hk => hk.2) (.int .i64 t12040)) (fun _ hk => hk.2) (.slice Ao101 t12041.length co101)) (fun _ h_ => h_.1))) (Kd.R_base ho0) hb); have n5_ := Aside0.mk (Kd.R_lower (Kd.R_new' (Kd.R_new' (Kd.R_new' (Kd.R_new' (Kd.R_new' ho0 (Kd.Q_lt (by exact (Kd.Q_mono (Kd.Q_far (p := ⟨gb12045, 3, none⟩) (Kd.Q_far (p := ⟨gb12045, 2, none⟩) (Kd.Q_far (p := ⟨gb12045, 1, none⟩) (Kd.Q_far (p := ⟨gb12045, 0, none⟩) (Kd.Q_types HO_12019003.out BK12045.out (by decide)) (fun _ hk => hk.2) (.int .i64 t12038)) (fun _ hk => hk.2) (.int .i64 t12039)) (fun _ hk => hk.2) (.int .i64 t12040)) (fun _ hk => hk.2) (.slice Ao101 t12041.length co101)) (fun _ h_ => h_.1))))) (Kd.Q_lt (by exact (Kd.Q_mono (Kd.Q_far (p := ⟨gb12045, 3, none⟩) (Kd.Q_far (p := ⟨gb12045, 2, none⟩) (Kd.Q_far (p := ⟨gb12045, 1, none⟩) (Kd.Q_far (p := ⟨gb12045, 0, none⟩) (Kd.Q_types HO_12020003.out BK12045.out (by decide)) (fun _ hk => hk.2) (.int .i64 t12038)) (fun _ hk => hk.2) (.int .i64 t12039)) (fun _ hk => hk.2) (.int .i64 t12040)) (fun _ hk => hk.2) (.slice Ao101 t12041.length co101)) (fun _ h_ => h_.1))))) (Kd.Q_lt (by exact (Kd.Q_mono (Kd.Q_far (p := ⟨gb12045, 3, none⟩) (Kd.Q_far (p := ⟨gb12045, 2, none⟩) (Kd.Q_far (p := ⟨gb12045, 1, none⟩) (Kd.Q_far (p := ⟨gb12045, 0, none⟩) (Kd.Q_types HO_12028003.out BK12045.out (by decide)) (fun _ hk => hk.2) (.int .i64 t12038)) (fun _ hk => hk.2) (.int .i64 t12039)) (fun _ hk => hk.2) (.int .i64 t12040)) (fun _ hk => hk.2) (.slice Ao101 t12041.length co101)) (fun _ h_ => h_.1))))) (Kd.Q_lt (by exact (Kd.Q_mono (Kd.Q_far (p := ⟨gb12045, 3, none⟩) (Kd.Q_far (p := ⟨gb12045, 2, none⟩) (Kd.Q_far (p := ⟨gb12045, 1, none⟩) (Kd.Q_far (p := ⟨gb12045, 0, none⟩) (Kd.Q_types HO_12036003.out BK12045.out (by decide)) (fun _ hk => hk.2) (.int .i64 t12038)) (fun _ hk => hk.2) (.int .i64 t12039)) (fun _ hk => hk.2) (.int .i64 t12040)) (fun _ hk => hk.2) (.slice Ao101 t12041.length co101)) (fun _ h_ => h_.1))))) (Kd.R_lt (by exact (Kd.R_mono (Kd.R_far (p := ⟨gb12045, 3, none⟩) (Kd.R_far (p := ⟨gb12045, 2, none⟩) (Kd.R_far (p := ⟨gb12045, 1, none⟩) (Kd.R_far (p := ⟨gb12045, 0, none⟩) (Kd.R_types HO12043.out BK12045.out (by decide)) (fun _ hk => hk.2) (.int .i64 t12038)) (fun _ hk => hk.2) (.int .i64 t12039)) (fun _ hk => hk.2) (.int .i64 t12040)) (fun _ hk => hk.2) (.slice Ao101 t12041.length co101)) (fun _ h_ => h_.1))))) (below_size (by repeat (with_reducible first | exact HB.out | refine below_set ?_ GE12045.out)))); have n6_ := Aside0.mk (blk_below (g := gb12018) (o := .cells #[.int .i64 t12001, .int .i64 t12002, .int .i64 t12003, .slice Ao12 t12004.length co12] 27 (0, 0)) (by refine blk_far ?_ NB12018_12045.out _; (with_reducible repeat (first | refine blk_drewN ?_ _ | refine blk_drew ?_ | refine blk_alloc ?_ _)); refine blk_far ?_ NB12018_12045.out _; (with_reducible repeat (first | refine blk_drewN ?_ _ | refine blk_drew ?_ | refine blk_alloc ?_ _)); refine blk_far ?_ NB12018_12045.out _; (with_reducible repeat (first | refine blk_drewN ?_ _ | refine blk_drew ?_ | refine blk_alloc ?_ _)); refine blk_far ?_ NB12018_12045.out _; (with_reducible repeat (first | refine blk_drewN ?_ _ | refine blk_drew ?_ | refine blk_alloc ?_ _)); exact BK12018.out) hb); have n7_ := Aside0.mk (blk_below (g := gb12019) (o := .cells #[.int .i64 t12007, .int .i64 t12008, .int .i64 t12009, .slice Ao14 t12010.length co14, .int .i64 t12013, .int .i64 t12014, .int .i64 t12015, .int .i64 t12016, .bool t12017] 55 (0, 0)) (by refine blk_far ?_ NB12019_12045.out _; (with_reducible repeat (first | refine blk_drewN ?_ _ | refine blk_drew ?_ | refine blk_alloc ?_ _)); refine blk_far ?_ NB12019_12045.out _; (with_reducible repeat (first | refine blk_drewN ?_ _ | refine blk_drew ?_ | refine blk_alloc ?_ _)); refine blk_far ?_ NB12019_12045.out _; (with_reducible repeat (first | refine blk_drewN ?_ _ | refine blk_drew ?_ | refine blk_alloc ?_ _)); refine blk_far ?_ NB12019_12045.out _; (with_reducible repeat (first | refine blk_drewN ?_ _ | refine blk_drew ?_ | refine blk_alloc ?_ _)); exact BK12019.out) hb); have n8_ := Aside0.mk (blk_below (g := gb12027) (o := .cells #[.int .i64 t12020, .int .i64 t12021, .int .i64 t12022, .slice Ao20 t12023.length co20] 27 (0, 0)) (by refine blk_far ?_ NB12027_12045.out _; (with_reducible repeat (first | refine blk_drewN ?_ _ | refine blk_drew ?_ | refine blk_alloc ?_ _)); refine blk_far ?_ NB12027_12045.out _; (with_reducible repeat (first | refine blk_drewN ?_ _ | refine blk_drew ?_ | refine blk_alloc ?_ _)); refine blk_far ?_ NB12027_12045.out _; (with_reducible repeat (first | refine blk_drewN ?_ _ | refine blk_drew ?_ | refine blk_alloc ?_ _)); refine blk_far ?_ NB12027_12045.out _; (with_reducible repeat (first | refine blk_drewN ?_ _ | refine blk_drew ?_ | refine blk_alloc ?_ _)); exact BK12027.out) hb); have n9_ := Aside0.mk (blk_below (g := gb12035) (o := .cells #[.int .i64 t12028, .int .i64 t12029, .int .i64 t12030, .slice Ao29 t12031.length co29] 27 (0, 0)) (by refine blk_far ?_ NB12035_12045.out _; (with_reducible repeat (first | refine blk_drewN ?_ _ | refine blk_drew ?_ | refine blk_alloc ?_ _)); refine blk_far ?_ NB12035_12045.out _; (with_reducible repeat (first | refine blk_drewN ?_ _ | refine blk_drew ?_ | refine blk_alloc ?_ _)); refine blk_far ?_ NB12035_12045.out _; (with_reducible repeat (first | refine blk_drewN ?_ _ | refine blk_drew ?_ | refine blk_alloc ?_ _)); refine blk_far ?_ NB12035_12045.out _; (with_reducible repeat (first | refine blk_drewN ?_ _ | refine blk_drew ?_ | refine blk_alloc ?_ _)); exact BK12035.out) hb); have n10_ := Aside0.mk (blk_below (g := gb12045) (o := .cells #[.int .i64 t12038, .int .i64 t12039, .int .i64 t12040, .slice Ao101 t12041.length co101] 27 (0, 0)) (by refine blk_put (cs := #[.int .i64 t12038, .int .i64 t12039, .int .i64 t12040, .slice none 0 0]) ?_ 3 _ rfl; (with_reducible repeat (first | refine blk_drewN ?_ _ | refine blk_drew ?_ | refine blk_alloc ?_ _)); refine blk_put (cs := #[.int .i64 t12038, .int .i64 t12039, .int .i64 0, .slice none 0 0]) ?_ 2 _ rfl; (with_reducible repeat (first | refine blk_drewN ?_ _ | refine blk_drew ?_ | refine blk_alloc ?_ _)); refine blk_put (cs := #[.int .i64 t12038, .int .i64 0, .int .i64 0, .slice none 0 0]) ?_ 1 _ rfl; (with_reducible repeat (first | refine blk_drewN ?_ _ | refine blk_drew ?_ | refine blk_alloc ?_ _)); refine blk_put (cs := #[.int .i64 0, .int .i64 0, .int .i64 0, .slice none 0 0]) ?_ 0 _ rfl; (with_reducible repeat (first | refine blk_drewN ?_ _ | refine blk_drew ?_ | refine blk_alloc ?_ _)); exact BK12045.out) hb); have n11_ := Aside0.mk (below_step (by repeat (with_reducible first | exact HB.out | refine below_set ?_ GE12045.out)) hb); clear HO_12019003; clear HO_12020003; clear HO_12028003; clear HO_12036003; clear HO12043; clear BK12018; clear BK12019; clear BK12027; clear BK12035; clear BK12045; clear HB; have HO_12019003 := n0_; have HO_12020003 := n1_; have HO_12028003 := n2_; have HO_12036003 := n3_; have HO12043 := n4_; have HO12051 := n5_; have BK12018 := n6_; have BK12019 := n7_; have BK12027 := n8_; have BK12035 := n9_; have BK12045 := n10_; have HB := n11_; clear n0_ n1_ n2_ n3_ n4_ n5_ n6_ n7_ n8_ n9_ n10_ n11_; (try clear hb); (try clear ho0)) | ((with_reducible refine gate_dst (N := 11) rfl ?_); refine box_event ?hg (N := 11) ?hd (cs := #[.int .i64 0, .int .i64 0, .int .i64 0, .slice none 0 0]) (t := 27) ?hr ?_; (case hd => rfl); (case hg => rfl); (case hr => (go_simp; done)); intro gb12053 hg w105 hbox hb; have n0_ := Aside0.mk (Kd.Q_below HO_12019003.out hb); have n1_ := Aside0.mk (Kd.Q_below HO_12020003.out hb); have n2_ := Aside0.mk (Kd.Q_below HO_12028003.out hb); have n3_ := Aside0.mk (Kd.Q_below HO_12036003.out hb); have n4_ := Aside0.mk (Kd.R_below HO12043.out hb); have n5_ := Aside0.mk (Kd.R_below HO12051.out hb); have n6_ := Aside0.mk (blk_below BK12018.out hb); have n7_ := Aside0.mk (blk_below BK12019.out hb); have n8_ := Aside0.mk (blk_below BK12027.out hb); have n9_ := Aside0.mk (blk_below BK12035.out hb); have n10_ := Aside0.mk (blk_below BK12045.out hb); have n11_ := Aside0.mk (below_step HB.out hb); have n12_ := Aside0.mk (hbox); have n13_ := Aside0.mk ((by rw [hg]; exact (below_size HB.out) : w.heap.size ≤ gb12053)); have n14_ := Aside0.mk ((by rw [hg]; exact (below_size HB.out) : w.heap.size ≤ gb12053)); have n15_ := Aside0.mk ((by rw [hg]; exact Nat.ne_of_lt (blk_lt BK12018.out) : gb12018 ≠ gb12053)); have n16_ := Aside0.mk ((by rw [hg]; exact Nat.ne_of_gt (blk_lt BK12018.out) : gb12053 ≠ gb12018)); have n17_ := Aside0.mk ((by rw [hg]; exact Nat.ne_of_lt (blk_lt BK12019.out) : gb12019 ≠ gb12053)); have n18_ := Aside0.mk ((by rw [hg]; exact Nat.ne_of_gt (blk_lt BK12019.out) : gb12053 ≠ gb12019)); have n19_ := Aside0.mk ((by rw [hg]; exact Nat.ne_of_lt (blk_lt BK12027.out) : gb12027 ≠ gb12053)); have n20_ := Aside0.mk ((by rw [hg]; exact Nat.ne_of_gt (blk_lt BK12027.out) : gb12053 ≠ gb12027)); have n21_ := Aside0.mk ((by rw [hg]; exact Nat.ne_of_lt (blk_lt BK12035.out) : gb12035 ≠ gb12053)); have n22_ := Aside0.mk ((by rw [hg]; exact Nat.ne_of_gt (blk_lt BK12035.out) : gb12053 ≠ gb12035)); have n23_ := Aside0.mk ((by rw [hg]; exact Nat.ne_of_lt (blk_lt BK12045.out) : gb12045 ≠ gb12053)); have n24_ := Aside0.mk ((by rw [hg]; exact Nat.ne_of_gt (blk_lt BK12045.out) : gb12053 ≠ gb12045)); clear HO_12019003; clear HO_12020003; clear HO_12028003; clear HO_12036003; clear HO12043; clear HO12051; clear BK12018; clear BK12019; clear BK12027; clear BK12035; clear BK12045; clear HB; have HO_12019003 := n0_; have HO_12020003 := n1_; have HO_12028003 := n2_; have HO_12036003 := n3_; have HO12043 := n4_; have HO12051 := n5_; have BK12018 := n6_; have BK12019 := n7_; have BK12027 := n8_; have BK12035 := n9_; have BK12045 := n10_; have HB := n11_; have BK12053 := n12_; have GW12053 := n13_; have GE12053 := n14_; have NB12018_12053 := n15_; have NB12053_12018 := n16_; have NB12019_12053 := n17_; have NB12053_12019 := n18_; have NB12027_12053 := n19_; have NB12053_12027 := n20_; have NB12035_12053 := n21_; have NB12053_12035 := n22_; have NB12045_12053 := n23_; have NB12053_12045 := n24_; clear n0_ n1_ n2_ n3_ n4_ n5_ n6_ n7_ n8_ n9_ n10_ n11_ n12_ n13_ n14_ n15_ n16_ n17_ n18_ n19_ n20_ n21_ n22_ n23_ n24_; clear hb hbox hg; have hnb106 := NB12053_12018.out; have hnc106 := NB12018_12053.out; have hnb107 := NB12053_12019.out; have hnc107 := NB12019_12053.out; have hnb108 := NB12053_12027.out; have hnc108 := NB12027_12053.out; have hnb109 := NB12053_12035.out; have hnc109 := NB12035_12053.out; have hnb110 := NB12053_12045.out; have hnc110 := NB12045_12053.out; have hcz111_0 : w105.cell? ⟨gb12053, 0, none⟩ = some (.int .i64 0) := (blk_cell BK12053.out 0).trans rfl; have hcz111_1 : w105.cell? ⟨gb12053, 1, none⟩ = some (.int .i64 0) := (blk_cell BK12053.out 1).trans rfl; have hcz111_2 : w105.cell? ⟨gb12053, 2, none⟩ = some (.int .i64 0) := (blk_cell BK12053.out 2).trans rfl; have hcz111_3 : w105.cell? ⟨gb12053, 3, none⟩ = some (.slice none 0 0) := (blk_cell BK12053.out 3).trans rfl; have hfz111_0 := blk_frozen BK12053.out 0; have hfz111_1 := blk_frozen BK12053.out 1; have hfz111_2 := blk_frozen BK12053.out 2; have hfz111_3 := blk_frozen BK12053.out 3; obtain ⟨Ao112, co112, eo112⟩ := Kd.R_slice HO12051.out; subst eo112; have hcz113_0 : w105.cell? ⟨gb12018, 0, none⟩ = some (.int .i64 t12001) := (blk_cell BK12018.out 0).trans rfl; have hcz113_1 : w105.cell? ⟨gb12018, 1, none⟩ = some (.int .i64 t12002) := (blk_cell BK12018.out 1).trans rfl; have hcz113_2 : w105.cell? ⟨gb12018, 2, none⟩ = some (.int .i64 t12003) := (blk_cell BK12018.out 2).trans rfl; have hcz113_3 : w105.cell? ⟨gb12018, 3, none⟩ = some (.slice Ao12 t12004.length co12) := (blk_cell BK12018.out 3).trans rfl; have hfz113_0 := blk_frozen BK12018.out 0; have hfz113_1 := blk_frozen BK12018.out 1; have hfz113_2 := blk_frozen BK12018.out 2; have hfz113_3 := blk_frozen BK12018.out 3; have hcz114_0 : w105.cell? ⟨gb12019, 0, none⟩ = some (.int .i64 t12007) := (blk_cell BK12019.out 0).trans rfl; have hcz114_1 : w105.cell? ⟨gb12019, 1, none⟩ = some (.int .i64 t12008) := (blk_cell BK12019.out 1).trans rfl; have hcz114_2 : w105.cell? ⟨gb12019, 2, none⟩ = some (.int .i64 t12009) := (blk_cell BK12019.out 2).trans rfl; have hcz114_3 : w105.cell? ⟨gb12019, 3, none⟩ = some (.slice Ao14 t12010.length co14) := (blk_cell BK12019.out 3).trans rfl; have hcz114_4 : w105.cell? ⟨gb12019, 4, none⟩ = some (.int .i64 t12013) := (blk_cell BK12019.out 4).trans rfl; have hcz114_5 : w105.cell? ⟨gb12019, 5, none⟩ = some (.int .i64 t12014) := (blk_cell BK12019.out 5).trans rfl; have hcz114_6 : w105.cell? ⟨gb12019, 6, none⟩ = some (.int .i64 t12015) := (blk_cell BK12019.out 6).trans rfl; have hcz114_7 : w105.cell? ⟨gb12019, 7, none⟩ = some (.int .i64 t12016) := (blk_cell BK12019.out 7).trans rfl; have hcz114_8 : w105.cell? ⟨gb12019, 8, none⟩ = some (.bool t12017) := (blk_cell BK12019.out 8).trans rfl; have hfz114_0 := blk_frozen BK12019.out 0; have hfz114_1 := blk_frozen BK12019.out 1; have hfz114_2 := blk_frozen BK12019.out 2; have hfz114_3 := blk_frozen BK12019.out 3; have hfz114_4 := blk_frozen BK12019.out 4; have hfz114_5 := blk_frozen BK12019.out 5; have hfz114_6 := blk_frozen BK12019.out 6; have hfz114_7 := blk_frozen BK12019.out 7; have hfz114_8 := blk_frozen BK12019.out 8) | ((with_reducible refine gate_callee (f := 49) rfl ?_); refine goesL_ (some 90) rfl rfl Try.func49 (by kernel_rfl) rfl #[.agg #[.int .i64 t12001, .int .i64 t12002, .int .i64 t12003, .slice Ao12 t12004.length co12], .agg #[.int .i64 t12007, .int .i64 t12008, .int .i64 t12009, .slice Ao14 t12010.length co14, .int .i64 t12013, .int .i64 t12014, .int .i64 t12015, .int .i64 0, .bool false]] rfl (by (try simp only [List.map_toArray, List.map_cons, List.map_nil]); rfl) ?_; (with_reducible refine (impl_CoverImage.calls t12001 t12002 t12003 _ _ t12004 t12007 t12008 t12009 _ _ t12010 t12013 t12014 t12015 0 false t12054 t12055 t12056 t12057 true _ ?side1 ?side2 ?side3 ?side4 A78.out).mono ?_); (case side1 => refine (Kd.Q_reads' (e := 3) (base := w.heap.size) (ok := fun k_ => (((some k_ ≠ (.slice Ao14 t12010.length co14 : Value).ownBlock ∧ (some k_ ≠ (.slice Ao20 t12023.length co20 : Value).ownBlock ∧ some k_ ≠ (.slice Ao29 t12031.length co29 : Value).ownBlock)) ∧ some k_ ≠ (.slice Ao101 t12041.length co101 : Value).ownBlock) ∧ some k_ ≠ (.slice Ao112 t12049.length co112 : Value).ownBlock)) (n := t12004.length) (c := co12) ?_).2.2; exact (by exact (Kd.Q_mono (Kd.Q_far (p := ⟨gb12053, 3, none⟩) (Kd.Q_far (p := ⟨gb12053, 2, none⟩) (Kd.Q_far (p := ⟨gb12053, 1, none⟩) (Kd.Q_far (p := ⟨gb12053, 0, none⟩) (Kd.Q_types HO_12019003.out BK12053.out (by decide)) (fun _ hk => hk.2) (.int .i64 t12046)) (fun _ hk => hk.2) (.int .i64 t12047)) (fun _ hk => hk.2) (.int .i64 t12048)) (fun _ hk => hk.2) (.slice Ao112 t12049.length co112)) (fun _ h_ => h_.1)))); (case side2 => exact (Kd.Q_reads' HO_12019003.out).2.1); (case side3 => refine (Kd.Q_reads' (e := 3) (base := w.heap.size) (ok := fun k_ => (((some k_ ≠ (.slice Ao12 t12004.length co12 : Value).ownBlock ∧ (some k_ ≠ (.slice Ao20 t12023.length co20 : Value).ownBlock ∧ some k_ ≠ (.slice Ao29 t12031.length co29 : Value).ownBlock)) ∧ some k_ ≠ (.slice Ao101 t12041.length co101 : Value).ownBlock) ∧ some k_ ≠ (.slice Ao112 t12049.length co112 : Value).ownBlock)) (n := t12010.length) (c := co14) ?_).2.2; exact (by exact (Kd.Q_mono (Kd.Q_far (p := ⟨gb12053, 3, none⟩) (Kd.Q_far (p := ⟨gb12053, 2, none⟩) (Kd.Q_far (p := ⟨gb12053, 1, none⟩) (Kd.Q_far (p := ⟨gb12053, 0, none⟩) (Kd.Q_types HO_12020003.out BK12053.out (by decide)) (fun _ hk => hk.2) (.int .i64 t12046)) (fun _ hk => hk.2) (.int .i64 t12047)) (fun _ hk => hk.2) (.int .i64 t12048)) (fun _ hk => hk.2) (.slice Ao112 t12049.length co112)) (fun _ h_ => h_.1)))); (case side4 => exact (Kd.Q_reads' HO_12020003.out).2.1); rintro e w115 ⟨v12058, rfl, ho0, hb⟩; refine ⟨_, rfl, ?_⟩; have n0_ := Aside0.mk (Kd.Q_elder' (by exact (Kd.Q_mono (Kd.Q_far (p := ⟨gb12053, 3, none⟩) (Kd.Q_far (p := ⟨gb12053, 2, none⟩) (Kd.Q_far (p := ⟨gb12053, 1, none⟩) (Kd.Q_far (p := ⟨gb12053, 0, none⟩) (Kd.Q_types HO_12019003.out BK12053.out (by decide)) (fun _ hk => hk.2) (.int .i64 t12046)) (fun _ hk => hk.2) (.int .i64 t12047)) (fun _ hk => hk.2) (.int .i64 t12048)) (fun _ hk => hk.2) (.slice Ao112 t12049.length co112)) (fun _ h_ => h_.1))) (Kd.R_base ho0) hb); have n1_ := Aside0.mk (Kd.Q_elder' (by exact (Kd.Q_mono (Kd.Q_far (p := ⟨gb12053, 3, none⟩) (Kd.Q_far (p := ⟨gb12053, 2, none⟩) (Kd.Q_far (p := ⟨gb12053, 1, none⟩) (Kd.Q_far (p := ⟨gb12053, 0, none⟩) (Kd.Q_types HO_12020003.out BK12053.out (by decide)) (fun _ hk => hk.2) (.int .i64 t12046)) (fun _ hk => hk.2) (.int .i64 t12047)) (fun _ hk => hk.2) (.int .i64 t12048)) (fun _ hk => hk.2) (.slice Ao112 t12049.length co112)) (fun _ h_ => h_.1))) (Kd.R_base ho0) hb); have n2_ := Aside0.mk (Kd.Q_elder' (by exact (Kd.Q_mono (Kd.Q_far (p := ⟨gb12053, 3, none⟩) (Kd.Q_far (p := ⟨gb12053, 2, none⟩) (Kd.Q_far (p := ⟨gb12053, 1, none⟩) (Kd.Q_far (p := ⟨gb12053, 0, none⟩) (Kd.Q_types HO_12028003.out BK12053.out (by decide)) (fun _ hk => hk.2) (.int .i64 t12046)) (fun _ hk => hk.2) (.int .i64 t12047)) (fun _ hk => hk.2) (.int .i64 t12048)) (fun _ hk => hk.2) (.slice Ao112 t12049.length co112)) (fun _ h_ => h_.1))) (Kd.R_base ho0) hb); have n3_ := Aside0.mk (Kd.Q_elder' (by exact (Kd.Q_mono (Kd.Q_far (p := ⟨gb12053, 3, none⟩) (Kd.Q_far (p := ⟨gb12053, 2, none⟩) (Kd.Q_far (p := ⟨gb12053, 1, none⟩) (Kd.Q_far (p := ⟨gb12053, 0, none⟩) (Kd.Q_types HO_12036003.out BK12053.out (by decide)) (fun _ hk => hk.2) (.int .i64 t12046)) (fun _ hk => hk.2) (.int .i64 t12047)) (fun _ hk => hk.2) (.int .i64 t12048)) (fun _ hk => hk.2) (.slice Ao112 t12049.length co112)) (fun _ h_ => h_.1))) (Kd.R_base ho0) hb); have n4_ := Aside0.mk (Kd.R_elder' (by exact (Kd.R_mono (Kd.R_far (p := ⟨gb12053, 3, none⟩) (Kd.R_far (p := ⟨gb12053, 2, none⟩) (Kd.R_far (p := ⟨gb12053, 1, none⟩) (Kd.R_far (p := ⟨gb12053, 0, none⟩) (Kd.R_types HO12043.out BK12053.out (by decide)) (fun _ hk => hk.2) (.int .i64 t12046)) (fun _ hk => hk.2) (.int .i64 t12047)) (fun _ hk => hk.2) (.int .i64 t12048)) (fun _ hk => hk.2) (.slice Ao112 t12049.length co112)) (fun _ h_ => h_.1))) (Kd.R_base ho0) hb); have n5_ := Aside0.mk (Kd.R_elder' (by exact (Kd.R_mono (Kd.R_far (p := ⟨gb12053, 3, none⟩) (Kd.R_far (p := ⟨gb12053, 2, none⟩) (Kd.R_far (p := ⟨gb12053, 1, none⟩) (Kd.R_far (p := ⟨gb12053, 0, none⟩) (Kd.R_types HO12051.out BK12053.out (by decide)) (fun _ hk => hk.2) (.int .i64 t12046)) (fun _ hk => hk.2) (.int .i64 t12047)) (fun _ hk => hk.2) (.int .i64 t12048)) (fun _ hk => hk.2) (.slice Ao112 t12049.length co112)) (fun _ h_ => h_.1))) (Kd.R_base ho0) hb); have n6_ := Aside0.mk (Kd.R_lower (Kd.R_new' (Kd.R_new' (Kd.R_new' (Kd.R_new' (Kd.R_new' (Kd.R_new' ho0 (Kd.Q_lt (by exact (Kd.Q_mono (Kd.Q_far (p := ⟨gb12053, 3, none⟩) (Kd.Q_far (p := ⟨gb12053, 2, none⟩) (Kd.Q_far (p := ⟨gb12053, 1, none⟩) (Kd.Q_far (p := ⟨gb12053, 0, none⟩) (Kd.Q_types HO_12019003.out BK12053.out (by decide)) (fun _ hk => hk.2) (.int .i64 t12046)) (fun _ hk => hk.2) (.int .i64 t12047)) (fun _ hk => hk.2) (.int .i64 t12048)) (fun _ hk => hk.2) (.slice Ao112 t12049.length co112)) (fun _ h_ => h_.1))))) (Kd.Q_lt (by exact (Kd.Q_mono (Kd.Q_far (p := ⟨gb12053, 3, none⟩) (Kd.Q_far (p := ⟨gb12053, 2, none⟩) (Kd.Q_far (p := ⟨gb12053, 1, none⟩) (Kd.Q_far (p := ⟨gb12053, 0, none⟩) (Kd.Q_types HO_12020003.out BK12053.out (by decide)) (fun _ hk => hk.2) (.int .i64 t12046)) (fun _ hk => hk.2) (.int .i64 t12047)) (fun _ hk => hk.2) (.int .i64 t12048)) (fun _ hk => hk.2) (.slice Ao112 t12049.length co112)) (fun _ h_ => h_.1))))) (Kd.Q_lt (by exact (Kd.Q_mono (Kd.Q_far (p := ⟨gb12053, 3, none⟩) (Kd.Q_far (p := ⟨gb12053, 2, none⟩) (Kd.Q_far (p := ⟨gb12053, 1, none⟩) (Kd.Q_far (p := ⟨gb12053, 0, none⟩) (Kd.Q_types HO_12028003.out BK12053.out (by decide)) (fun _ hk => hk.2) (.int .i64 t12046)) (fun _ hk => hk.2) (.int .i64 t12047)) (fun _ hk => hk.2) (.int .i64 t12048)) (fun _ hk => hk.2) (.slice Ao112 t12049.length co112)) (fun _ h_ => h_.1))))) (Kd.Q_lt (by exact (Kd.Q_mono (Kd.Q_far (p := ⟨gb12053, 3, none⟩) (Kd.Q_far (p := ⟨gb12053, 2, none⟩) (Kd.Q_far (p := ⟨gb12053, 1, none⟩) (Kd.Q_far (p := ⟨gb12053, 0, none⟩) (Kd.Q_types HO_12036003.out BK12053.out (by decide)) (fun _ hk => hk.2) (.int .i64 t12046)) (fun _ hk => hk.2) (.int .i64 t12047)) (fun _ hk => hk.2) (.int .i64 t12048)) (fun _ hk => hk.2) (.slice Ao112 t12049.length co112)) (fun _ h_ => h_.1))))) (Kd.R_lt (by exact (Kd.R_mono (Kd.R_far (p := ⟨gb12053, 3, none⟩) (Kd.R_far (p := ⟨gb12053, 2, none⟩) (Kd.R_far (p := ⟨gb12053, 1, none⟩) (Kd.R_far (p := ⟨gb12053, 0, none⟩) (Kd.R_types HO12043.out BK12053.out (by decide)) (fun _ hk => hk.2) (.int .i64 t12046)) (fun _ hk => hk.2) (.int .i64 t12047)) (fun _ hk => hk.2) (.int .i64 t12048)) (fun _ hk => hk.2) (.slice Ao112 t12049.length co112)) (fun _ h_ => h_.1))))) (Kd.R_lt (by exact (Kd.R_mono (Kd.R_far (p := ⟨gb12053, 3, none⟩) (Kd.R_far (p := ⟨gb12053, 2, none⟩) (Kd.R_far (p := ⟨gb12053, 1, none⟩) (Kd.R_far (p := ⟨gb12053, 0, none⟩) (Kd.R_types HO12051.out BK12053.out (by decide)) (fun _ hk => hk.2) (.int .i64 t12046)) (fun _ hk => hk.2) (.int .i64 t12047)) (fun _ hk => hk.2) (.int .i64 t12048)) (fun _ hk => hk.2) (.slice Ao112 t12049.length co112)) (fun _ h_ => h_.1))))) (below_size (by repeat (with_reducible first | exact HB.out | refine below_set ?_ GE12053.out)))); have n7_ := Aside0.mk (blk_below (g := gb12018) (o := .cells #[.int .i64 t12001, .int .i64 t12002, .int .i64 t12003, .slice Ao12 t12004.length co12] 27 (0, 0)) (by refine blk_far ?_ NB12018_12053.out _; (with_reducible repeat (first | refine blk_drewN ?_ _ | refine blk_drew ?_ | refine blk_alloc ?_ _)); refine blk_far ?_ NB12018_12053.out _; (with_reducible repeat (first | refine blk_drewN ?_ _ | refine blk_drew ?_ | refine blk_alloc ?_ _)); refine blk_far ?_ NB12018_12053.out _; (with_reducible repeat (first | refine blk_drewN ?_ _ | refine blk_drew ?_ | refine blk_alloc ?_ _)); refine blk_far ?_ NB12018_12053.out _; (with_reducible repeat (first | refine blk_drewN ?_ _ | refine blk_drew ?_ | refine blk_alloc ?_ _)); exact BK12018.out) hb); have n8_ := Aside0.mk (blk_below (g := gb12019) (o := .cells #[.int .i64 t12007, .int .i64 t12008, .int .i64 t12009, .slice Ao14 t12010.length co14, .int .i64 t12013, .int .i64 t12014, .int .i64 t12015, .int .i64 t12016, .bool t12017] 55 (0, 0)) (by refine blk_far ?_ NB12019_12053.out _; (with_reducible repeat (first | refine blk_drewN ?_ _ | refine blk_drew ?_ | refine blk_alloc ?_ _)); refine blk_far ?_ NB12019_12053.out _; (with_reducible repeat (first | refine blk_drewN ?_ _ | refine blk_drew ?_ | refine blk_alloc ?_ _)); refine blk_far ?_ NB12019_12053.out _; (with_reducible repeat (first | refine blk_drewN ?_ _ | refine blk_drew ?_ | refine blk_alloc ?_ _)); refine blk_far ?_ NB12019_12053.out _; (with_reducible repeat (first | refine blk_drewN ?_ _ | refine blk_drew ?_ | refine blk_alloc ?_ _)); exact BK12019.out) hb); have n9_ := Aside0.mk (blk_below (g := gb12027) (o := .cells #[.int .i64 t12020, .int .i64 t12021, .int .i64 t12022, .slice Ao20 t12023.length co20] 27 (0, 0)) (by refine blk_far ?_ NB12027_12053.out _; (with_reducible repeat (first | refine blk_drewN ?_ _ | refine blk_drew ?_ | refine blk_alloc ?_ _)); refine blk_far ?_ NB12027_12053.out _; (with_reducible repeat (first | refine blk_drewN ?_ _ | refine blk_drew ?_ | refine blk_alloc ?_ _)); refine blk_far ?_ NB12027_12053.out _; (with_reducible repeat (first | refine blk_drewN ?_ _ | refine blk_drew ?_ | refine blk_alloc ?_ _)); refine blk_far ?_ NB12027_12053.out _; (with_reducible repeat (first | refine blk_drewN ?_ _ | refine blk_drew ?_ | refine blk_alloc ?_ _)); exact BK12027.out) hb); have n10_ := Aside0.mk (blk_below (g := gb12035) (o := .cells #[.int .i64 t12028, .int .i64 t12029, .int .i64 t12030, .slice Ao29 t12031.length co29] 27 (0, 0)) (by refine blk_far ?_ NB12035_12053.out _; (with_reducible repeat (first | refine blk_drewN ?_ _ | refine blk_drew ?_ | refine blk_alloc ?_ _)); refine blk_far ?_ NB12035_12053.out _; (with_reducible repeat (first | refine blk_drewN ?_ _ | refine blk_drew ?_ | refine blk_alloc ?_ _)); refine blk_far ?_ NB12035_12053.out _; (with_reducible repeat (first | refine blk_drewN ?_ _ | refine blk_drew ?_ | refine blk_alloc ?_ _)); refine blk_far ?_ NB12035_12053.out _; (with_reducible repeat (first | refine blk_drewN ?_ _ | refine blk_drew ?_ | refine blk_alloc ?_ _)); exact BK12035.out) hb); have n11_ := Aside0.mk (blk_below (g := gb12045) (o := .cells #[.int .i64 t12038, .int .i64 t12039, .int .i64 t12040, .slice Ao101 t12041.length co101] 27 (0, 0)) (by refine blk_far ?_ NB12045_12053.out _; (with_reducible repeat (first | refine blk_drewN ?_ _ | refine blk_drew ?_ | refine blk_alloc ?_ _)); refine blk_far ?_ NB12045_12053.out _; (with_reducible repeat (first | refine blk_drewN ?_ _ | refine blk_drew ?_ | refine blk_alloc ?_ _)); refine blk_far ?_ NB12045_12053.out _; (with_reducible repeat (first | refine blk_drewN ?_ _ | refine blk_drew ?_ | refine blk_alloc ?_ _)); refine blk_far ?_ NB12045_12053.out _; (with_reducible repeat (first | refine blk_drewN ?_ _ | refine blk_drew ?_ | refine blk_alloc ?_ _)); exact BK12045.out) hb); have n12_ := Aside0.mk (blk_below (g := gb12053) (o := .cells #[.int .i64 t12046, .int .i64 t12047, .int .i64 t12048, .slice Ao112 t12049.length co112] 27 (0, 0)) (by refine blk_put (cs := #[.int .i64 t12046, .int .i64 t12047, .int .i64 t12048, .slice none 0 0]) ?_ 3 _ rfl; (with_reducible repeat (first | refine blk_drewN ?_ _ | refine blk_drew ?_ | refine blk_alloc ?_ _)); refine blk_put (cs := #[.int .i64 t12046, .int .i64 t12047, .int .i64 0, .slice none 0 0]) ?_ 2 _ rfl; (with_reducible repeat (first | refine blk_drewN ?_ _ | refine blk_drew ?_ | refine blk_alloc ?_ _)); refine blk_put (cs := #[.int .i64 t12046, .int .i64 0, .int .i64 0, .slice none 0 0]) ?_ 1 _ rfl; (with_reducible repeat (first | refine blk_drewN ?_ _ | refine blk_drew ?_ | refine blk_alloc ?_ _)); refine blk_put (cs := #[.int .i64 0, .int .i64 0, .int .i64 0, .slice none 0 0]) ?_ 0 _ rfl; (with_reducible repeat (first | refine blk_drewN ?_ _ | refine blk_drew ?_ | refine blk_alloc ?_ _)); exact BK12053.out) hb); have n13_ := Aside0.mk (below_step (by repeat (with_reducible first | exact HB.out | refine below_set ?_ GE12053.out)) hb); clear HO_12019003; clear HO_12020003; clear HO_12028003; clear HO_12036003; clear HO12043; clear HO12051; clear BK12018; clear BK12019; clear BK12027; clear BK12035; clear BK12045; clear BK12053; clear HB; have HO_12019003 := n0_; have HO_12020003 := n1_; have HO_12028003 := n2_; have HO_12036003 := n3_; have HO12043 := n4_; have HO12051 := n5_; have HO12059 := n6_; have BK12018 := n7_; have BK12019 := n8_; have BK12027 := n9_; have BK12035 := n10_; have BK12045 := n11_; have BK12053 := n12_; have HB := n13_; clear n0_ n1_ n2_ n3_ n4_ n5_ n6_ n7_ n8_ n9_ n10_ n11_ n12_ n13_; (try clear hb); (try clear ho0)) | ((with_reducible refine gate_dst (N := 13) rfl ?_); refine box_event ?hg (N := 13) ?hd (cs := #[.int .i64 0, .int .i64 0, .int .i64 0, .slice none 0 0]) (t := 27) ?hr ?_; (case hd => rfl); (case hg => rfl); (case hr => (go_simp; done)); intro gb12061 hg w116 hbox hb; have n0_ := Aside0.mk (Kd.Q_below HO_12019003.out hb); have n1_ := Aside0.mk (Kd.Q_below HO_12020003.out hb); have n2_ := Aside0.mk (Kd.Q_below HO_12028003.out hb); have n3_ := Aside0.mk (Kd.Q_below HO_12036003.out hb); have n4_ := Aside0.mk (Kd.R_below HO12043.out hb); have n5_ := Aside0.mk (Kd.R_below HO12051.out hb); have n6_ := Aside0.mk (Kd.R_below HO12059.out hb); have n7_ := Aside0.mk (blk_below BK12018.out hb); have n8_ := Aside0.mk (blk_below BK12019.out hb); have n9_ := Aside0.mk (blk_below BK12027.out hb); have n10_ := Aside0.mk (blk_below BK12035.out hb); have n11_ := Aside0.mk (blk_below BK12045.out hb); have n12_ := Aside0.mk (blk_below BK12053.out hb); have n13_ := Aside0.mk (below_step HB.out hb); have n14_ := Aside0.mk (hbox); have n15_ := Aside0.mk ((by rw [hg]; exact (below_size HB.out) : w.heap.size ≤ gb12061)); have n16_ := Aside0.mk ((by rw [hg]; exact (below_size HB.out) : w.heap.size ≤ gb12061)); have n17_ := Aside0.mk ((by rw [hg]; exact Nat.ne_of_lt (blk_lt BK12018.out) : gb12018 ≠ gb12061)); have n18_ := Aside0.mk ((by rw [hg]; exact Nat.ne_of_gt (blk_lt BK12018.out) : gb12061 ≠ gb12018)); have n19_ := Aside0.mk ((by rw [hg]; exact Nat.ne_of_lt (blk_lt BK12019.out) : gb12019 ≠ gb12061)); have n20_ := Aside0.mk ((by rw [hg]; exact Nat.ne_of_gt (blk_lt BK12019.out) : gb12061 ≠ gb12019)); have n21_ := Aside0.mk ((by rw [hg]; exact Nat.ne_of_lt (blk_lt BK12027.out) : gb12027 ≠ gb12061)); have n22_ := Aside0.mk ((by rw [hg]; exact Nat.ne_of_gt (blk_lt BK12027.out) : gb12061 ≠ gb12027)); have n23_ := Aside0.mk ((by rw [hg]; exact Nat.ne_of_lt (blk_lt BK12035.out) : gb12035 ≠ gb12061)); have n24_ := Aside0.mk ((by rw [hg]; exact Nat.ne_of_gt (blk_lt BK12035.out) : gb12061 ≠ gb12035)); have n25_ := Aside0.mk ((by rw [hg]; exact Nat.ne_of_lt (blk_lt BK12045.out) : gb12045 ≠ gb12061)); have n26_ := Aside0.mk ((by rw [hg]; exact Nat.ne_of_gt (blk_lt BK12045.out) : gb12061 ≠ gb12045)); have n27_ := Aside0.mk ((by rw [hg]; exact Nat.ne_of_lt (blk_lt BK12053.out) : gb12053 ≠ gb12061)); have n28_ := Aside0.mk ((by rw [hg]; exact Nat.ne_of_gt (blk_lt BK12053.out) : gb12061 ≠ gb12053)); clear HO_12019003; clear HO_12020003; clear HO_12028003; clear HO_12036003; clear HO12043; clear HO12051; clear HO12059; clear BK12018; clear BK12019; clear BK12027; clear BK12035; clear BK12045; clear BK12053; clear HB; have HO_12019003 := n0_; have HO_12020003 := n1_; have HO_12028003 := n2_; have HO_12036003 := n3_; have HO12043 := n4_; have HO12051 := n5_; have HO12059 := n6_; have BK12018 := n7_; have BK12019 := n8_; have BK12027 := n9_; have BK12035 := n10_; have BK12045 := n11_; have BK12053 := n12_; have HB := n13_; have BK12061 := n14_; have GW12061 := n15_; have GE12061 := n16_; have NB12018_12061 := n17_; have NB12061_12018 := n18_; have NB12019_12061 := n19_; have NB12061_12019 := n20_; have NB12027_12061 := n21_; have NB12061_12027 := n22_; have NB12035_12061 := n23_; have NB12061_12035 := n24_; have NB12045_12061 := n25_; have NB12061_12045 := n26_; have NB12053_12061 := n27_; have NB12061_12053 := n28_; clear n0_ n1_ n2_ n3_ n4_ n5_ n6_ n7_ n8_ n9_ n10_ n11_ n12_ n13_ n14_ n15_ n16_ n17_ n18_ n19_ n20_ n21_ n22_ n23_ n24_ n25_ n26_ n27_ n28_; clear hb hbox hg; have hnb117 := NB12061_12018.out; have hnc117 := NB12018_12061.out; have hnb118 := NB12061_12019.out; have hnc118 := NB12019_12061.out; have hnb119 := NB12061_12027.out; have hnc119 := NB12027_12061.out; have hnb120 := NB12061_12035.out; have hnc120 := NB12035_12061.out; have hnb121 := NB12061_12045.out; have hnc121 := NB12045_12061.out; have hnb122 := NB12061_12053.out; have hnc122 := NB12053_12061.out; have hcz123_0 : w116.cell? ⟨gb12061, 0, none⟩ = some (.int .i64 0) := (blk_cell BK12061.out 0).trans rfl; have hcz123_1 : w116.cell? ⟨gb12061, 1, none⟩ = some (.int .i64 0) := (blk_cell BK12061.out 1).trans rfl; have hcz123_2 : w116.cell? ⟨gb12061, 2, none⟩ = some (.int .i64 0) := (blk_cell BK12061.out 2).trans rfl; have hcz123_3 : w116.cell? ⟨gb12061, 3, none⟩ = some (.slice none 0 0) := (blk_cell BK12061.out 3).trans rfl; have hfz123_0 := blk_frozen BK12061.out 0; have hfz123_1 := blk_frozen BK12061.out 1; have hfz123_2 := blk_frozen BK12061.out 2; have hfz123_3 := blk_frozen BK12061.out 3; obtain ⟨Ao124, co124, eo124⟩ := Kd.R_slice HO12059.out; subst eo124; have hcz125_0 : w116.cell? ⟨gb12045, 0, none⟩ = some (.int .i64 t12038) := (blk_cell BK12045.out 0).trans rfl; have hcz125_1 : w116.cell? ⟨gb12045, 1, none⟩ = some (.int .i64 t12039) := (blk_cell BK12045.out 1).trans rfl; have hcz125_2 : w116.cell? ⟨gb12045, 2, none⟩ = some (.int .i64 t12040) := (blk_cell BK12045.out 2).trans rfl; have hcz125_3 : w116.cell? ⟨gb12045, 3, none⟩ = some (.slice Ao101 t12041.length co101) := (blk_cell BK12045.out 3).trans rfl; have hfz125_0 := blk_frozen BK12045.out 0; have hfz125_1 := blk_frozen BK12045.out 1; have hfz125_2 := blk_frozen BK12045.out 2; have hfz125_3 := blk_frozen BK12045.out 3; have hcz126_0 : w116.cell? ⟨gb12053, 0, none⟩ = some (.int .i64 t12046) := (blk_cell BK12053.out 0).trans rfl; have hcz126_1 : w116.cell? ⟨gb12053, 1, none⟩ = some (.int .i64 t12047) := (blk_cell BK12053.out 1).trans rfl; have hcz126_2 : w116.cell? ⟨gb12053, 2, none⟩ = some (.int .i64 t12048) := (blk_cell BK12053.out 2).trans rfl; have hcz126_3 : w116.cell? ⟨gb12053, 3, none⟩ = some (.slice Ao112 t12049.length co112) := (blk_cell BK12053.out 3).trans rfl; have hfz126_0 := blk_frozen BK12053.out 0; have hfz126_1 := blk_frozen BK12053.out 1; have hfz126_2 := blk_frozen BK12053.out 2; have hfz126_3 := blk_frozen BK12053.out 3) | (go_at_call 26; (with_reducible refine (laws_equalImage.calls kj5 t12038 t12039 t12040 _ _ t12041 t12046 t12047 t12048 _ _ t12049 true _ ?side1 ?side2 ?side3 ?side4 A81.out).mono ?_); (case side1 => refine (Kd.R_reads' (e := 3) (base := w.heap.size) (ok := fun k_ => ((((((True ∧ some k_ ≠ (.slice Ao12 t12004.length co12 : Value).ownBlock) ∧ some k_ ≠ (.slice Ao14 t12010.length co14 : Value).ownBlock) ∧ some k_ ≠ (.slice Ao20 t12023.length co20 : Value).ownBlock) ∧ some k_ ≠ (.slice Ao29 t12031.length co29 : Value).ownBlock) ∧ some k_ ≠ (.slice Ao112 t12049.length co112 : Value).ownBlock) ∧ some k_ ≠ (.slice Ao124 t12057.length co124 : Value).ownBlock)) (n := t12041.length) (c := co101) ?_).2.2; exact (by exact (Kd.R_mono (Kd.R_far (p := ⟨gb12061, 3, none⟩) (Kd.R_far (p := ⟨gb12061, 2, none⟩) (Kd.R_far (p := ⟨gb12061, 1, none⟩) (Kd.R_far (p := ⟨gb12061, 0, none⟩) (Kd.R_types HO12043.out BK12061.out (by decide)) (fun _ hk => hk.2) (.int .i64 t12054)) (fun _ hk => hk.2) (.int .i64 t12055)) (fun _ hk => hk.2) (.int .i64 t12056)) (fun _ hk => hk.2) (.slice Ao124 t12057.length co124)) (fun _ h_ => h_.1)))); (case side2 => exact (Kd.R_reads' HO12043.out).2.1); (case side3 => refine (Kd.R_reads' (e := 3) (base := w.heap.size) (ok := fun k_ => ((((((True ∧ some k_ ≠ (.slice Ao12 t12004.length co12 : Value).ownBlock) ∧ some k_ ≠ (.slice Ao14 t12010.length co14 : Value).ownBlock) ∧ some k_ ≠ (.slice Ao20 t12023.length co20 : Value).ownBlock) ∧ some k_ ≠ (.slice Ao29 t12031.length co29 : Value).ownBlock) ∧ some k_ ≠ (.slice Ao101 t12041.length co101 : Value).ownBlock) ∧ some k_ ≠ (.slice Ao124 t12057.length co124 : Value).ownBlock)) (n := t12049.length) (c := co112) ?_).2.2; exact (by exact (Kd.R_mono (Kd.R_far (p := ⟨gb12061, 3, none⟩) (Kd.R_far (p := ⟨gb12061, 2, none⟩) (Kd.R_far (p := ⟨gb12061, 1, none⟩) (Kd.R_far (p := ⟨gb12061, 0, none⟩) (Kd.R_types HO12051.out BK12061.out (by decide)) (fun _ hk => hk.2) (.int .i64 t12054)) (fun _ hk => hk.2) (.int .i64 t12055)) (fun _ hk => hk.2) (.int .i64 t12056)) (fun _ hk => hk.2) (.slice Ao124 t12057.length co124)) (fun _ h_ => h_.1)))); (case side4 => exact (Kd.R_reads' HO12051.out).2.1); rintro e w127 ⟨rfl, hb⟩; have n0_ := Aside0.mk (Kd.Q_below (by exact (Kd.Q_mono (Kd.Q_far (p := ⟨gb12061, 3, none⟩) (Kd.Q_far (p := ⟨gb12061, 2, none⟩) (Kd.Q_far (p := ⟨gb12061, 1, none⟩) (Kd.Q_far (p := ⟨gb12061, 0, none⟩) (Kd.Q_types HO_12019003.out BK12061.out (by decide)) (fun _ hk => hk.2) (.int .i64 t12054)) (fun _ hk => hk.2) (.int .i64 t12055)) (fun _ hk => hk.2) (.int .i64 t12056)) (fun _ hk => hk.2) (.slice Ao124 t12057.length co124)) (fun _ h_ => h_.1))) hb); have n1_ := Aside0.mk (Kd.Q_below (by exact (Kd.Q_mono (Kd.Q_far (p := ⟨gb12061, 3, none⟩) (Kd.Q_far (p := ⟨gb12061, 2, none⟩) (Kd.Q_far (p := ⟨gb12061, 1, none⟩) (Kd.Q_far (p := ⟨gb12061, 0, none⟩) (Kd.Q_types HO_12020003.out BK12061.out (by decide)) (fun _ hk => hk.2) (.int .i64 t12054)) (fun _ hk => hk.2) (.int .i64 t12055)) (fun _ hk => hk.2) (.int .i64 t12056)) (fun _ hk => hk.2) (.slice Ao124 t12057.length co124)) (fun _ h_ => h_.1))) hb); have n2_ := Aside0.mk (Kd.Q_below (by exact (Kd.Q_mono (Kd.Q_far (p := ⟨gb12061, 3, none⟩) (Kd.Q_far (p := ⟨gb12061, 2, none⟩) (Kd.Q_far (p := ⟨gb12061, 1, none⟩) (Kd.Q_far (p := ⟨gb12061, 0, none⟩) (Kd.Q_types HO_12028003.out BK12061.out (by decide)) (fun _ hk => hk.2) (.int .i64 t12054)) (fun _ hk => hk.2) (.int .i64 t12055)) (fun _ hk => hk.2) (.int .i64 t12056)) (fun _ hk => hk.2) (.slice Ao124 t12057.length co124)) (fun _ h_ => h_.1))) hb); have n3_ := Aside0.mk (Kd.Q_below (by exact (Kd.Q_mono (Kd.Q_far (p := ⟨gb12061, 3, none⟩) (Kd.Q_far (p := ⟨gb12061, 2, none⟩) (Kd.Q_far (p := ⟨gb12061, 1, none⟩) (Kd.Q_far (p := ⟨gb12061, 0, none⟩) (Kd.Q_types HO_12036003.out BK12061.out (by decide)) (fun _ hk => hk.2) (.int .i64 t12054)) (fun _ hk => hk.2) (.int .i64 t12055)) (fun _ hk => hk.2) (.int .i64 t12056)) (fun _ hk => hk.2) (.slice Ao124 t12057.length co124)) (fun _ h_ => h_.1))) hb); have n4_ := Aside0.mk (Kd.R_below (by exact (Kd.R_mono (Kd.R_far (p := ⟨gb12061, 3, none⟩) (Kd.R_far (p := ⟨gb12061, 2, none⟩) (Kd.R_far (p := ⟨gb12061, 1, none⟩) (Kd.R_far (p := ⟨gb12061, 0, none⟩) (Kd.R_types HO12043.out BK12061.out (by decide)) (fun _ hk => hk.2) (.int .i64 t12054)) (fun _ hk => hk.2) (.int .i64 t12055)) (fun _ hk => hk.2) (.int .i64 t12056)) (fun _ hk => hk.2) (.slice Ao124 t12057.length co124)) (fun _ h_ => h_.1))) hb); have n5_ := Aside0.mk (Kd.R_below (by exact (Kd.R_mono (Kd.R_far (p := ⟨gb12061, 3, none⟩) (Kd.R_far (p := ⟨gb12061, 2, none⟩) (Kd.R_far (p := ⟨gb12061, 1, none⟩) (Kd.R_far (p := ⟨gb12061, 0, none⟩) (Kd.R_types HO12051.out BK12061.out (by decide)) (fun _ hk => hk.2) (.int .i64 t12054)) (fun _ hk => hk.2) (.int .i64 t12055)) (fun _ hk => hk.2) (.int .i64 t12056)) (fun _ hk => hk.2) (.slice Ao124 t12057.length co124)) (fun _ h_ => h_.1))) hb); have n6_ := Aside0.mk (Kd.R_below (by exact (Kd.R_mono (Kd.R_far (p := ⟨gb12061, 3, none⟩) (Kd.R_far (p := ⟨gb12061, 2, none⟩) (Kd.R_far (p := ⟨gb12061, 1, none⟩) (Kd.R_far (p := ⟨gb12061, 0, none⟩) (Kd.R_types HO12059.out BK12061.out (by decide)) (fun _ hk => hk.2) (.int .i64 t12054)) (fun _ hk => hk.2) (.int .i64 t12055)) (fun _ hk => hk.2) (.int .i64 t12056)) (fun _ hk => hk.2) (.slice Ao124 t12057.length co124)) (fun _ h_ => h_.1))) hb); have n7_ := Aside0.mk (blk_below (g := gb12018) (o := .cells #[.int .i64 t12001, .int .i64 t12002, .int .i64 t12003, .slice Ao12 t12004.length co12] 27 (0, 0)) (by refine blk_far ?_ NB12018_12061.out _; (with_reducible repeat (first | refine blk_drewN ?_ _ | refine blk_drew ?_ | refine blk_alloc ?_ _)); refine blk_far ?_ NB12018_12061.out _; (with_reducible repeat (first | refine blk_drewN ?_ _ | refine blk_drew ?_ | refine blk_alloc ?_ _)); refine blk_far ?_ NB12018_12061.out _; (with_reducible repeat (first | refine blk_drewN ?_ _ | refine blk_drew ?_ | refine blk_alloc ?_ _)); refine blk_far ?_ NB12018_12061.out _; (with_reducible repeat (first | refine blk_drewN ?_ _ | refine blk_drew ?_ | refine blk_alloc ?_ _)); exact BK12018.out) hb); have n8_ := Aside0.mk (blk_below (g := gb12019) (o := .cells #[.int .i64 t12007, .int .i64 t12008, .int .i64 t12009, .slice Ao14 t12010.length co14, .int .i64 t12013, .int .i64 t12014, .int .i64 t12015, .int .i64 t12016, .bool t12017] 55 (0, 0)) (by refine blk_far ?_ NB12019_12061.out _; (with_reducible repeat (first | refine blk_drewN ?_ _ | refine blk_drew ?_ | refine blk_alloc ?_ _)); refine blk_far ?_ NB12019_12061.out _; (with_reducible repeat (first | refine blk_drewN ?_ _ | refine blk_drew ?_ | refine blk_alloc ?_ _)); refine blk_far ?_ NB12019_12061.out _; (with_reducible repeat (first | refine blk_drewN ?_ _ | refine blk_drew ?_ | refine blk_alloc ?_ _)); refine blk_far ?_ NB12019_12061.out _; (with_reducible repeat (first | refine blk_drewN ?_ _ | refine blk_drew ?_ | refine blk_alloc ?_ _)); exact BK12019.out) hb); have n9_ := Aside0.mk (blk_below (g := gb12027) (o := .cells #[.int .i64 t12020, .int .i64 t12021, .int .i64 t12022, .slice Ao20 t12023.length co20] 27 (0, 0)) (by refine blk_far ?_ NB12027_12061.out _; (with_reducible repeat (first | refine blk_drewN ?_ _ | refine blk_drew ?_ | refine blk_alloc ?_ _)); refine blk_far ?_ NB12027_12061.out _; (with_reducible repeat (first | refine blk_drewN ?_ _ | refine blk_drew ?_ | refine blk_alloc ?_ _)); refine blk_far ?_ NB12027_12061.out _; (with_reducible repeat (first | refine blk_drewN ?_ _ | refine blk_drew ?_ | refine blk_alloc ?_ _)); refine blk_far ?_ NB12027_12061.out _; (with_reducible repeat (first | refine blk_drewN ?_ _ | refine blk_drew ?_ | refine blk_alloc ?_ _)); exact BK12027.out) hb); have n10_ := Aside0.mk (blk_below (g := gb12035) (o := .cells #[.int .i64 t12028, .int .i64 t12029, .int .i64 t12030, .slice Ao29 t12031.length co29] 27 (0, 0)) (by refine blk_far ?_ NB12035_12061.out _; (with_reducible repeat (first | refine blk_drewN ?_ _ | refine blk_drew ?_ | refine blk_alloc ?_ _)); refine blk_far ?_ NB12035_12061.out _; (with_reducible repeat (first | refine blk_drewN ?_ _ | refine blk_drew ?_ | refine blk_alloc ?_ _)); refine blk_far ?_ NB12035_12061.out _; (with_reducible repeat (first | refine blk_drewN ?_ _ | refine blk_drew ?_ | refine blk_alloc ?_ _)); refine blk_far ?_ NB12035_12061.out _; (with_reducible repeat (first | refine blk_drewN ?_ _ | refine blk_drew ?_ | refine blk_alloc ?_ _)); exact BK12035.out) hb); have n11_ := Aside0.mk (blk_below (g := gb12045) (o := .cells #[.int .i64 t12038, .int .i64 t12039, .int .i64 t12040, .slice Ao101 t12041.length co101] 27 (0, 0)) (by refine blk_far ?_ NB12045_12061.out _; (with_reducible repeat (first | refine blk_drewN ?_ _ | refine blk_drew ?_ | refine blk_alloc ?_ _)); refine blk_far ?_ NB12045_12061.out _; (with_reducible repeat (first | refine blk_drewN ?_ _ | refine blk_drew ?_ | refine blk_alloc ?_ _)); refine blk_far ?_ NB12045_12061.out _; (with_reducible repeat (first | refine blk_drewN ?_ _ | refine blk_drew ?_ | refine blk_alloc ?_ _)); refine blk_far ?_ NB12045_12061.out _; (with_reducible repeat (first | refine blk_drewN ?_ _ | refine blk_drew ?_ | refine blk_alloc ?_ _)); exact BK12045.out) hb); have n12_ := Aside0.mk (blk_below (g := gb12053) (o := .cells #[.int .i64 t12046, .int .i64 t12047, .int .i64 t12048, .slice Ao112 t12049.length co112] 27 (0, 0)) (by refine blk_far ?_ NB12053_12061.out _; (with_reducible repeat (first | refine blk_drewN ?_ _ | refine blk_drew ?_ | refine blk_alloc ?_ _)); refine blk_far ?_ NB12053_12061.out _; (with_reducible repeat (first | refine blk_drewN ?_ _ | refine blk_drew ?_ | refine blk_alloc ?_ _)); refine blk_far ?_ NB12053_12061.out _; (with_reducible repeat (first | refine blk_drewN ?_ _ | refine blk_drew ?_ | refine blk_alloc ?_ _)); refine blk_far ?_ NB12053_12061.out _; (with_reducible repeat (first | refine blk_drewN ?_ _ | refine blk_drew ?_ | refine blk_alloc ?_ _)); exact BK12053.out) hb); have n13_ := Aside0.mk (blk_below (g := gb12061) (o := .cells #[.int .i64 t12054, .int .i64 t12055, .int .i64 t12056, .slice Ao124 t12057.length co124] 27 (0, 0)) (by refine blk_put (cs := #[.int .i64 t12054, .int .i64 t12055, .int .i64 t12056, .slice none 0 0]) ?_ 3 _ rfl; (with_reducible repeat (first | refine blk_drewN ?_ _ | refine blk_drew ?_ | refine blk_alloc ?_ _)); refine blk_put (cs := #[.int .i64 t12054, .int .i64 t12055, .int .i64 0, .slice none 0 0]) ?_ 2 _ rfl; (with_reducible repeat (first | refine blk_drewN ?_ _ | refine blk_drew ?_ | refine blk_alloc ?_ _)); refine blk_put (cs := #[.int .i64 t12054, .int .i64 0, .int .i64 0, .slice none 0 0]) ?_ 1 _ rfl; (with_reducible repeat (first | refine blk_drewN ?_ _ | refine blk_drew ?_ | refine blk_alloc ?_ _)); refine blk_put (cs := #[.int .i64 0, .int .i64 0, .int .i64 0, .slice none 0 0]) ?_ 0 _ rfl; (with_reducible repeat (first | refine blk_drewN ?_ _ | refine blk_drew ?_ | refine blk_alloc ?_ _)); exact BK12061.out) hb); have n14_ := Aside0.mk (below_step (by repeat (with_reducible first | exact HB.out | refine below_set ?_ GE12061.out)) hb); clear HO_12019003; clear HO_12020003; clear HO_12028003; clear HO_12036003; clear HO12043; clear HO12051; clear HO12059; clear BK12018; clear BK12019; clear BK12027; clear BK12035; clear BK12045; clear BK12053; clear BK12061; clear HB; have HO_12019003 := n0_; have HO_12020003 := n1_; have HO_12028003 := n2_; have HO_12036003 := n3_; have HO12043 := n4_; have HO12051 := n5_; have HO12059 := n6_; have BK12018 := n7_; have BK12019 := n8_; have BK12027 := n9_; have BK12035 := n10_; have BK12045 := n11_; have BK12053 := n12_; have BK12061 := n13_; have HB := n14_; clear n0_ n1_ n2_ n3_ n4_ n5_ n6_ n7_ n8_ n9_ n10_ n11_ n12_ n13_ n14_; (try clear hb); have hcz128_0 : w127.cell? ⟨gb12061, 0, none⟩ = some (.int .i64 t12054) := (blk_cell BK12061.out 0).trans rfl; have hcz128_1 : w127.cell? ⟨gb12061, 1, none⟩ = some (.int .i64 t12055) := (blk_cell BK12061.out 1).trans rfl; have hcz128_2 : w127.cell? ⟨gb12061, 2, none⟩ = some (.int .i64 t12056) := (blk_cell BK12061.out 2).trans rfl; have hcz128_3 : w127.cell? ⟨gb12061, 3, none⟩ = some (.slice Ao124 t12057.length co124) := (blk_cell BK12061.out 3).trans rfl; have hfz128_0 := blk_frozen BK12061.out 0; have hfz128_1 := blk_frozen BK12061.out 1; have hfz128_2 := blk_frozen BK12061.out 2; have hfz128_3 := blk_frozen BK12061.out 3; have hcz129_0 : w127.cell? ⟨gb12018, 0, none⟩ = some (.int .i64 t12001) := (blk_cell BK12018.out 0).trans rfl; have hcz129_1 : w127.cell? ⟨gb12018, 1, none⟩ = some (.int .i64 t12002) := (blk_cell BK12018.out 1).trans rfl; have hcz129_2 : w127.cell? ⟨gb12018, 2, none⟩ = some (.int .i64 t12003) := (blk_cell BK12018.out 2).trans rfl; have hcz129_3 : w127.cell? ⟨gb12018, 3, none⟩ = some (.slice Ao12 t12004.length co12) := (blk_cell BK12018.out 3).trans rfl; have hfz129_0 := blk_frozen BK12018.out 0; have hfz129_1 := blk_frozen BK12018.out 1; have hfz129_2 := blk_frozen BK12018.out 2; have hfz129_3 := blk_frozen BK12018.out 3) | (go_at_call 26; (with_reducible refine (laws_equalImage.calls kj5 t12054 t12055 t12056 _ _ t12057 t12001 t12002 t12003 _ _ t12004 true _ ?side1 ?side2 ?side3 ?side4 A84.out).mono ?_); (case side1 => repeat (exact (Kd.R_reads' HO12059.out).2.2)); (case side2 => exact (Kd.R_reads' HO12059.out).2.1); (case side3 => repeat (exact (Kd.Q_reads' HO_12019003.out).2.2)); (case side4 => exact (Kd.Q_reads' HO_12019003.out).2.1); rintro e w130 ⟨rfl, hb⟩; have n0_ := Aside0.mk (Kd.Q_below HO_12019003.out hb); have n1_ := Aside0.mk (Kd.Q_below HO_12020003.out hb); have n2_ := Aside0.mk (Kd.Q_below HO_12028003.out hb); have n3_ := Aside0.mk (Kd.Q_below HO_12036003.out hb); have n4_ := Aside0.mk (Kd.R_below HO12043.out hb); have n5_ := Aside0.mk (Kd.R_below HO12051.out hb); have n6_ := Aside0.mk (Kd.R_below HO12059.out hb); have n7_ := Aside0.mk (blk_below BK12018.out hb); have n8_ := Aside0.mk (blk_below BK12019.out hb); have n9_ := Aside0.mk (blk_below BK12027.out hb); have n10_ := Aside0.mk (blk_below BK12035.out hb); have n11_ := Aside0.mk (blk_below BK12045.out hb); have n12_ := Aside0.mk (blk_below BK12053.out hb); have n13_ := Aside0.mk (blk_below BK12061.out hb); have n14_ := Aside0.mk (below_step HB.out hb); clear HO_12019003; clear HO_12020003; clear HO_12028003; clear HO_12036003; clear HO12043; clear HO12051; clear HO12059; clear BK12018; clear BK12019; clear BK12027; clear BK12035; clear BK12045; clear BK12053; clear BK12061; clear HB; have HO_12019003 := n0_; have HO_12020003 := n1_; have HO_12028003 := n2_; have HO_12036003 := n3_; have HO12043 := n4_; have HO12051 := n5_; have HO12059 := n6_; have BK12018 := n7_; have BK12019 := n8_; have BK12027 := n9_; have BK12035 := n10_; have BK12045 := n11_; have BK12053 := n12_; have BK12061 := n13_; have HB := n14_; clear n0_ n1_ n2_ n3_ n4_ n5_ n6_ n7_ n8_ n9_ n10_ n11_ n12_ n13_ n14_; (try clear hb); have hnb131 := NB12027_12035.out; have hnc131 := NB12035_12027.out; have hcz132_0 : w130.cell? ⟨gb12027, 0, none⟩ = some (.int .i64 t12020) := (blk_cell BK12027.out 0).trans rfl; have hcz132_1 : w130.cell? ⟨gb12027, 1, none⟩ = some (.int .i64 t12021) := (blk_cell BK12027.out 1).trans rfl; have hcz132_2 : w130.cell? ⟨gb12027, 2, none⟩ = some (.int .i64 t12022) := (blk_cell BK12027.out 2).trans rfl; have hcz132_3 : w130.cell? ⟨gb12027, 3, none⟩ = some (.slice Ao20 t12023.length co20) := (blk_cell BK12027.out 3).trans rfl; have hfz132_0 := blk_frozen BK12027.out 0; have hfz132_1 := blk_frozen BK12027.out 1; have hfz132_2 := blk_frozen BK12027.out 2; have hfz132_3 := blk_frozen BK12027.out 3) | (go_at_call 63; (with_reducible refine (impl_ValidImage.calls t12020 t12021 t12022 _ _ t12023 t12064 _ ?side1 ?side2 A86.out).mono ?_); (case side1 => repeat (exact (Kd.Q_reads' HO_12028003.out).2.2)); (case side2 => exact (Kd.Q_reads' HO_12028003.out).2.1); rintro e w133 ⟨rfl, hb⟩; have n0_ := Aside0.mk (Kd.Q_below HO_12019003.out hb); have n1_ := Aside0.mk (Kd.Q_below HO_12020003.out hb); have n2_ := Aside0.mk (Kd.Q_below HO_12028003.out hb); have n3_ := Aside0.mk (Kd.Q_below HO_12036003.out hb); have n4_ := Aside0.mk (Kd.R_below HO12043.out hb); have n5_ := Aside0.mk (Kd.R_below HO12051.out hb); have n6_ := Aside0.mk (Kd.R_below HO12059.out hb); have n7_ := Aside0.mk (blk_below BK12018.out hb); have n8_ := Aside0.mk (blk_below BK12019.out hb); have n9_ := Aside0.mk (blk_below BK12027.out hb); have n10_ := Aside0.mk (blk_below BK12035.out hb); have n11_ := Aside0.mk (blk_below BK12045.out hb); have n12_ := Aside0.mk (blk_below BK12053.out hb); have n13_ := Aside0.mk (blk_below BK12061.out hb); have n14_ := Aside0.mk (below_step HB.out hb); clear HO_12019003; clear HO_12020003; clear HO_12028003; clear HO_12036003; clear HO12043; clear HO12051; clear HO12059; clear BK12018; clear BK12019; clear BK12027; clear BK12035; clear BK12045; clear BK12053; clear BK12061; clear HB; have HO_12019003 := n0_; have HO_12020003 := n1_; have HO_12028003 := n2_; have HO_12036003 := n3_; have HO12043 := n4_; have HO12051 := n5_; have HO12059 := n6_; have BK12018 := n7_; have BK12019 := n8_; have BK12027 := n9_; have BK12035 := n10_; have BK12045 := n11_; have BK12053 := n12_; have BK12061 := n13_; have HB := n14_; clear n0_ n1_ n2_ n3_ n4_ n5_ n6_ n7_ n8_ n9_ n10_ n11_ n12_ n13_ n14_; (try clear hb)))
                    go_ret
                    exact ⟨by rfl, by exact HB.out⟩
                  · replace c85 := Bool.eq_false_iff.mpr c85
                    subst c85
                    have H1 : (some false) = some r := by rw [if_neg (show ¬ (false = true) by decide)] at H; exact H
                    clear H
                    have H := H1
                    clear H1
                    exact absurd ((Option.some.inj H).trans HRT.out) (by decide)
                · replace c83 := Bool.eq_false_iff.mpr c83
                  subst c83
                  have H1 : (some false) = some r := by rw [if_neg (show ¬ (false = true) by decide)] at H; exact H
                  clear H
                  have H := H1
                  clear H1
                  exact absurd ((Option.some.inj H).trans HRT.out) (by decide)
              · replace c82 := Bool.eq_false_iff.mpr c82
                subst c82
                have H1 : (some false) = some r := by rw [if_neg (show ¬ (false = true) by decide)] at H; exact H
                clear H
                have H := H1
                clear H1
                exact absurd ((Option.some.inj H).trans HRT.out) (by decide)
            · replace c80 := Bool.eq_false_iff.mpr c80
              subst c80
              have H1 : (some false) = some r := by rw [if_neg (show ¬ (false = true) by decide)] at H; exact H
              clear H
              have H := H1
              clear H1
              exact absurd ((Option.some.inj H).trans HRT.out) (by decide)
          · replace c79 := Bool.eq_false_iff.mpr c79
            subst c79
            have H1 : (some false) = some r := by rw [if_neg (show ¬ (false = true) by decide)] at H; exact H
            clear H
            have H := H1
            clear H1
            exact absurd ((Option.some.inj H).trans HRT.out) (by decide)

/-- THE ONE PURE STATEMENT of laws_FnCoverImage: yours. -/
def laws_FnCoverImage.Pure : Prop := ∀ (l0 : List Int), l0.length ≤ maxLen → l0.length * 1 ≤ 140737488351232 → (∀ x ∈ l0, (Lit.int .u8 x).wf = true) → ∃ k, laws_FnCoverImage.f k l0 = some true
theorem laws_FnCoverImage.walk (P : laws_FnCoverImage.Pure) (a0 : Option Addr) (len0 cap0 : Nat) (z0 : List Int) (w : World) (w0 : (a0 = none ∧ len0 = 0 ∧ cap0 = 0 ∧ z0 = []) ∨ ∃ x, a0 = some x ∧ len0 ≤ cap0 ∧ cap0 ≤ maxLen ∧ z0.length = cap0 ∧ (∀ i, i < z0.length → w.cell? (x.add i) = some (.int .u8 (z0.getD i 0))) ∧ ∀ n ∈ z0, (Lit.int .u8 n).wf = true) (y0 : len0 * 1 ≤ 140737488351232) :
    Calls Try.prog 11 #[.slice a0 len0 cap0] w fun e w' => e = .returned (.bool true) ∧ Below w.heap.size w w' := by
  obtain ⟨l0, rfl, hr0, hm0, hw0, hc0⟩ := ReadsInt.ofRowC w0
  obtain ⟨k, h⟩ := P l0 hm0 y0 hw0
  refine (laws_FnCoverImage.calls k _ _ l0 true w (Kd.C_of_reads (d := (0 : Int)) (h1 := fun _ => rfl) hr0) hc0 h rfl).mono ?_
  rintro e w' ⟨rfl, hd⟩
  exact ⟨rfl, hd⟩

end Go.Proofs.Ytnofkbbcbpjhfaa.Q

/- Images as pixels: lists of numbers cut into equal parts. -/
namespace Go.Proofs.Ytnofkbbcbpjhfaa.Pure
open Go.RowKit Go.Proofs.Ytnofkbbcbpjhfaa.Q Go.Proofs.YtnofkbbcbpjhfaaW.PrintWords Go.Proofs.YtnofkbbcbpjhfaaW.PrintLast Go.Proofs.YtnofkbbcbpjhfaaW.PrintMore
set_option linter.unusedVariables false
set_option linter.unusedSimpArgs false

/-- part i of a list that is cut into parts of n -/
def nx (n : Nat) (d : List Int) (i : Nat) : List Int := (d.drop (i * n)).take n
theorem nx_length {n m : Nat} {d : List Int} (hd : d.length = m * n) {i : Nat} (hi : i < m) : (nx n d i).length = n := by
  unfold nx
  have h : (i + 1) * n ≤ m * n := Nat.mul_le_mul_right n hi
  rw [Nat.add_mul, Nat.one_mul] at h
  rw [List.length_take, List.length_drop, hd]
  omega
theorem fm_length (f : Nat → List Int) (n : Nat) : ∀ m, (∀ i, i < m → (f i).length = n) → ((List.range m).flatMap f).length = m * n := by
  intro m
  induction m with
  | zero => intro _; simp
  | succ m ih =>
    intro h
    rw [List.range_succ, List.flatMap_append, List.length_append, ih (fun i hi => h i (by omega))]
    simp [h m (by omega), Nat.add_mul]
theorem fm_get (f : Nat → List Int) (n : Nat) : ∀ m, (∀ i, i < m → (f i).length = n) → ∀ i, i < m → nx n ((List.range m).flatMap f) i = f i := by
  intro m
  induction m with
  | zero => intro _ i hi; omega
  | succ m ih =>
    intro h i hi
    have hl := fm_length f n m (fun i hi => h i (by omega))
    rw [List.range_succ, List.flatMap_append]
    unfold nx
    by_cases c : i < m
    · have h1 : (i + 1) * n ≤ m * n := Nat.mul_le_mul_right n c
      rw [Nat.add_mul, Nat.one_mul] at h1
      rw [List.drop_append_of_le_length (by omega), List.take_append_of_le_length (by rw [List.length_drop]; omega)]
      exact ih (fun i hi => h i (by omega)) i c
    · have : i = m := by omega
      subst this
      rw [← hl, List.drop_left]
      simp only [List.flatMap_cons, List.flatMap_nil, List.append_nil]
      exact List.take_of_length_le (by rw [h i (by omega)]; exact Nat.le_refl _)
theorem fm_cut (n : Nat) : ∀ (m : Nat) (d : List Int), d.length = m * n → (List.range m).flatMap (nx n d) = d := by
  intro m
  induction m with
  | zero => intro d hd; simp at hd; simp [hd]
  | succ m ih =>
    intro d hd
    rw [Nat.add_mul, Nat.one_mul] at hd
    have h1 : (List.range m).flatMap (nx n d) = (List.range m).flatMap (nx n (d.take (m * n))) := by
      rw [List.flatMap_def, List.flatMap_def]
      congr 1
      refine List.map_congr_left (fun i hi => ?_)
      have hi' := List.mem_range.1 hi
      have h1 : (i + 1) * n ≤ m * n := Nat.mul_le_mul_right n hi'
      rw [Nat.add_mul, Nat.one_mul] at h1
      unfold nx
      rw [List.drop_take, List.take_take, Nat.min_eq_left (by omega)]
    rw [List.range_succ, List.flatMap_append, h1, ih _ (by rw [List.length_take]; omega)]
    simp only [List.flatMap_cons, List.flatMap_nil, List.append_nil]
    unfold nx
    rw [List.take_of_length_le (l := d.drop (m * n)) (by rw [List.length_drop]; omega), List.take_append_drop]
theorem ext_nx {n m : Nat} {d e : List Int} (hd : d.length = m * n) (he : e.length = m * n) (h : ∀ i, i < m → nx n d i = nx n e i) : d = e := by
  rw [← fm_cut n m d hd, ← fm_cut n m e he, List.flatMap_def, List.flatMap_def]
  congr 1
  exact List.map_congr_left (fun i hi => h i (List.mem_range.1 hi))
theorem imgD_congr {f g : Nat → Nat → List Int} {a b : Nat} (h : ∀ x y, x < a → y < b → f x y = g x y) : imgD f a b = imgD g a b := by
  unfold imgD rowD
  rw [List.flatMap_def, List.flatMap_def]
  congr 1
  refine List.map_congr_left (fun y hy => ?_)
  rw [List.flatMap_def, List.flatMap_def]
  congr 1
  exact List.map_congr_left (fun x hx => h x y (List.mem_range.1 hx) (List.mem_range.1 hy))
theorem rowD_length {px : Nat → Nat → List Int} {a n y : Nat} (h : ∀ x, x < a → (px x y).length = n) : (rowD px a y).length = a * n := fm_length _ n a h
theorem imgD_length {px : Nat → Nat → List Int} {a b n : Nat} (h : ∀ x y, x < a → y < b → (px x y).length = n) : (imgD px a b).length = (b * a) * n := by
  rw [Nat.mul_assoc]
  exact fm_length _ (a * n) b (fun y hy => rowD_length (fun x hx => h x y hx hy))
theorem nx_imgD {px : Nat → Nat → List Int} {a b n : Nat} (h : ∀ x y, x < a → y < b → (px x y).length = n) {x y : Nat} (hx : x < a) (hy : y < b) : nx n (imgD px a b) (y * a + x) = px x y := by
  have h1 := fm_get (rowD px a) (a * n) b (fun y hy => rowD_length (fun x hx => h x y hx hy)) y hy
  have h2 := fm_get (fun x => px x y) n a (fun x hx => h x y hx hy) x hx
  have h3 : (x + 1) * n ≤ a * n := Nat.mul_le_mul_right n hx
  rw [Nat.add_mul, Nat.one_mul] at h3
  show nx n ((List.range b).flatMap (rowD px a)) (y * a + x) = px x y
  rw [← h2]
  show _ = nx n (rowD px a y) x
  rw [← h1]
  unfold nx
  rw [List.drop_take, List.take_take, Nat.min_eq_left (by omega), List.drop_drop, Nat.add_mul, Nat.mul_assoc]
/-- where a pixel lies -/
theorem lin_lt {a b x y : Nat} (hx : x < a) (hy : y < b) : y * a + x < b * a := by
  have : (y + 1) * a ≤ b * a := Nat.mul_le_mul_right a hy
  rw [Nat.add_mul, Nat.one_mul] at this
  omega
theorem lin_ne {a x y x' y' : Nat} (hx : x < a) (hx' : x' < a) (h : y * a + x = y' * a + x') : x = x' ∧ y = y' := by
  have ha : 0 < a := by omega
  have e1 := congrArg (· % a) h
  have e2 := congrArg (· / a) h
  simp only [Nat.mul_comm _ a, Nat.mul_add_mod, Nat.mul_add_div ha, Nat.mod_eq_of_lt hx, Nat.mod_eq_of_lt hx', Nat.div_eq_of_lt hx, Nat.div_eq_of_lt hx', Nat.add_zero] at e1 e2
  exact ⟨e1, e2⟩
theorem lin_of {a b i : Nat} (h : i < b * a) : i % a < a ∧ i / a < b ∧ (i / a) * a + i % a = i := by
  have ha : 0 < a := by
    rcases Nat.eq_zero_or_pos a with rfl | h'
    · simp at h
    · exact h'
  refine ⟨Nat.mod_lt _ ha, (Nat.div_lt_iff_lt_mul ha).2 h, ?_⟩
  rw [Nat.mul_comm]; exact Nat.div_add_mod i a
theorem ext_img {n a b : Nat} {d e : List Int} (hd : d.length = (b * a) * n) (he : e.length = (b * a) * n) (h : ∀ x y, x < a → y < b → nx n d (y * a + x) = nx n e (y * a + x)) : d = e := by
  refine ext_nx hd he (fun i hi => ?_)
  obtain ⟨h1, h2, h3⟩ := lin_of hi
  rw [← h3]
  exact h _ _ h1 h2
theorem imgD_nx {n a b : Nat} {d : List Int} (hd : d.length = (b * a) * n) : imgD (fun x y => nx n d (y * a + x)) a b = d := by
  have hl : ∀ x y, x < a → y < b → (nx n d (y * a + x)).length = n := fun x y hx hy => nx_length hd (lin_lt hx hy)
  exact ext_img (imgD_length hl) hd (fun x y hx hy => nx_imgD hl hx hy)
/-- a part is overwritten -/
theorem nx_laid {n m : Nat} {d ys : List Int} (hd : d.length = m * n) (hy : ys.length = n) {j : Nat} (hj : j < m) {i : Nat} (hi : i < m) : nx n (laidOver d (j * n) ys) i = if i = j then ys else nx n d i := by
  have hj1 : (j + 1) * n ≤ m * n := Nat.mul_le_mul_right n hj
  have hi1 : (i + 1) * n ≤ m * n := Nat.mul_le_mul_right n hi
  rw [Nat.add_mul, Nat.one_mul] at hj1 hi1
  unfold nx laidOver
  have hlt : (d.take (j * n)).length = j * n := by rw [List.length_take]; omega
  by_cases c : i = j
  · subst c
    rw [if_pos rfl]
    have e1 : (d.take (i * n) ++ (ys ++ d.drop (i * n + ys.length))).drop (i * n) = ys ++ d.drop (i * n + ys.length) := by
      rw [List.drop_append, List.drop_eq_nil_of_le (by omega), hlt, Nat.sub_self, List.drop_zero, List.nil_append]
    rw [e1, ← hy, List.take_left]
  · rw [if_neg c]
    by_cases c2 : i < j
    · have h1 : (i + 1) * n ≤ j * n := Nat.mul_le_mul_right n c2
      rw [Nat.add_mul, Nat.one_mul] at h1
      rw [List.drop_append_of_le_length (by omega), List.take_append_of_le_length (by rw [List.length_drop]; omega), List.drop_take, List.take_take, Nat.min_eq_left (by omega)]
    · have h1 : (j + 1) * n ≤ i * n := Nat.mul_le_mul_right n (by omega)
      rw [Nat.add_mul, Nat.one_mul] at h1
      rw [← List.append_assoc, List.drop_append, List.drop_eq_nil_of_le (by rw [List.length_append, hlt, hy]; omega), List.nil_append, List.drop_drop, List.length_append, hlt, hy]
      congr 2
      omega
theorem nat_of {a b p : Int} {d : List Int} (hv : validI a b p d = true) : ∃ an bn pn : Nat, a = an ∧ b = bn ∧ p = pn ∧ 1 ≤ an ∧ an ≤ 16 ∧ 1 ≤ bn ∧ bn ≤ 16 ∧ 1 ≤ pn ∧ pn ≤ 4 ∧ d.length = (bn * an) * pn := by
  obtain ⟨hs, hl, _⟩ := (validI_iff a b p d).1 hv
  obtain ⟨an, rfl⟩ := Int.eq_ofNat_of_zero_le (show 0 ≤ a by omega)
  obtain ⟨bn, rfl⟩ := Int.eq_ofNat_of_zero_le (show 0 ≤ b by omega)
  obtain ⟨pn, rfl⟩ := Int.eq_ofNat_of_zero_le (show 0 ≤ p by omega)
  refine ⟨an, bn, pn, rfl, rfl, rfl, by omega, by omega, by omega, by omega, by omega, by omega, ?_⟩
  have : (d.length : Int) = ((an * bn * pn : Nat) : Int) := by rw [hl]; push_cast; rfl
  rw [Nat.mul_comm bn an]
  exact Int.ofNat.inj this
theorem small {an bn pn : Nat} (h1 : an ≤ 16) (h2 : bn ≤ 16) (h3 : pn ≤ 4) : (bn * an) * pn ≤ 1024 := by
  have := Nat.mul_le_mul (Nat.mul_le_mul h2 h1) h3
  omega
theorem pixJ_nat {an bn pn x y : Nat} (h1 : an ≤ 16) (h2 : bn ≤ 16) (h3 : pn ≤ 4) (hx : x < an) (hy : y < bn) : pixJ an pn x y = (((y * an + x) * pn : Nat) : Int) ∧ (y * an + x) * pn + pn ≤ (bn * an) * pn := by
  have hl := lin_lt hx hy
  have hm : (y * an + x + 1) * pn ≤ (bn * an) * pn := Nat.mul_le_mul_right pn hl
  rw [Nat.add_mul, Nat.one_mul] at hm
  have hs := small h1 h2 h3
  have hya : y * an ≤ 16 * 16 := Nat.mul_le_mul (by omega) (by omega)
  refine ⟨?_, hm⟩
  unfold pixJ
  have e1 : ((y : Int) * (an : Int)) = ((y * an : Nat) : Int) := by push_cast; rfl
  rw [e1, w64 (x := ((y * an : Nat) : Int)) (by omega) (by omega)]
  have e2 : ((y * an : Nat) : Int) + (x : Int) = ((y * an + x : Nat) : Int) := by push_cast; rfl
  rw [e2, w64 (x := ((y * an + x : Nat) : Int)) (by omega) (by omega)]
  have e3 : ((y * an + x : Nat) : Int) * (pn : Int) = (((y * an + x) * pn : Nat) : Int) := by push_cast; rfl
  rw [e3, w64 (by omega) (by omega)]
theorem pxAt_nat {an bn pn x y : Nat} (h1 : an ≤ 16) (h2 : bn ≤ 16) (h3 : pn ≤ 4) (hx : x < an) (hy : y < bn) (d : List Int) : pxAt an pn d x y = nx pn d (y * an + x) := by
  obtain ⟨hj, hm⟩ := pixJ_nat h1 h2 h3 hx hy
  have hs := small h1 h2 h3
  unfold pxAt pixT nx
  rw [hj, w64 (by omega) (by omega)]
  have : ((((y * an + x) * pn : Nat) : Int) + (pn : Int)).toNat = (y * an + x) * pn + pn := by omega
  rw [this, Int.toNat_natCast, List.drop_take]
  congr 1
  omega

/- What the reference does with pixels: reads, writes, parts and pastes. -/

/-- A loop whose rounds hand on a state: what follows it is left open. -/
theorem ev_run {σ ρ : Type} (n : Nat) (L : Nat → Nat → σ → Option ρ) (E : σ → Nat → Option ρ) (Inv : Nat → σ → Prop)
    (step : ∀ i s, i < n → Inv i s → ∃ s', Inv (i + 1) s' ∧ ∀ r, Ev (fun k => L k (i + 1) s') r → Ev (fun k => L k i s) r)
    (last : ∀ s, Inv n s → ∀ r, Ev (E s) r → Ev (fun k => L k n s) r) :
    ∀ d i s, i + d = n → Inv i s → ∃ s', Inv n s' ∧ ∀ r, Ev (E s') r → Ev (fun k => L k i s) r := by
  intro d
  induction d with
  | zero =>
    intro i s hi hinv
    have : i = n := by omega
    subst this
    exact ⟨s, hinv, last s hinv⟩
  | succ d ih =>
    intro i s hi hinv
    obtain ⟨s1, h1, h2⟩ := step i s (by omega) hinv
    obtain ⟨s2, h3, h4⟩ := ih (i + 1) s1 (by omega) h1
    exact ⟨s2, h3, fun r hr => h2 r (h4 r hr)⟩
theorem copyInts_px (l : List Int) (hl : l.length ≤ 1000000) : spec_copyInts.f l = some l := by
  unfold spec_copyInts.f
  simp only [Option.bind_some]
  rw [if_pos (by simp; omega)]
  simp
theorem laid_set (d ys : List Int) (j i : Nat) (hi : i < ys.length) (hj : j + ys.length ≤ d.length) : (laidOver d j (ys.take i)).set (j + i) ys[i] = laidOver d j (ys.take (i + 1)) := by
  have h1 : (ys.take i).length = i := by rw [List.length_take]; omega
  have h2 : (ys.take (i + 1)).length = i + 1 := by rw [List.length_take]; omega
  have h3 : (d.take j).length = j := by rw [List.length_take]; omega
  unfold laidOver
  rw [h1, h2, List.set_append_right _ _ (by omega), h3, Nat.add_sub_cancel_left, List.set_append_right _ _ (by omega), h1, Nat.sub_self, List.drop_eq_getElem_cons (show j + i < d.length by omega), List.set_cons_zero, List.take_succ_eq_append_getElem hi, List.append_assoc]
  rfl
theorem onImage_eq {an bn : Nat} (h1 : 1 ≤ an ∧ an ≤ 16) (h2 : 1 ≤ bn ∧ bn ≤ 16) (p : Int) (d : List Int) (x y : Int) : spec_onImage.f an bn p d x y = some (decide (0 ≤ x ∧ x < an ∧ 0 ≤ y ∧ y < bn)) := by
  unfold spec_onImage.f
  rw [w64 (x := (an : Int) - 1) (by omega) (by omega), w64 (x := (bn : Int) - 1) (by omega) (by omega), spec_inRangeI_eq, spec_inRangeI_eq]
  simp only [Option.bind_some]
  by_cases c : 0 ≤ x ∧ x ≤ (an : Int) - 1
  · rw [if_pos (by simpa using c)]; congr 1; rw [Bool.eq_iff_iff]; simp; omega
  · rw [if_neg (by simpa using c), decide_eq_false (by omega)]

/- What the program's and the reference's BlendNumber come to, over whole numbers alone. -/

def P255 (n : Int) : Int := (2 * n + 255) / 510
theorem part255_eq (n : Int) (h0 : 0 ≤ n) (h1 : n ≤ 10000000) : impl_part255.f n = some (P255 n) := by
  unfold impl_part255.f P255
  rw [w64 (x := 2 * n) (by omega) (by omega), w64 (x := 2 * n + 255) (by omega) (by omega), tdiv_nn _ _ (by omega), w64 (by omega) (by omega)]
theorem P255_range (n : Int) (h0 : 0 ≤ n) (h1 : n ≤ 65025) : 0 ≤ P255 n ∧ P255 n ≤ 255 := by unfold P255; omega
theorem P255_255 (m : Int) : P255 (255 * m) = m := by unfold P255; omega
theorem prod_range (a b : Int) (ha : 0 ≤ a) (ha' : a ≤ 255) (hb : 0 ≤ b) (hb' : b ≤ 255) : 0 ≤ a * b ∧ a * b ≤ 65025 := by
  refine ⟨Int.mul_nonneg ha hb, ?_⟩
  have := Int.mul_le_mul ha' hb' hb (by omega : (0 : Int) ≤ 255)
  omega
/-- What a mode makes of both numbers. -/
def mixN (mode a b : Int) : Int :=
  if mode = 1 then P255 (a * b) else if mode = 2 then 255 - P255 ((255 - a) * (255 - b)) else if mode = 3 then min a b else if mode = 4 then max a b else b
theorem mixN_range (mode a b : Int) (ha : 0 ≤ a) (ha' : a ≤ 255) (hb : 0 ≤ b) (hb' : b ≤ 255) : 0 ≤ mixN mode a b ∧ mixN mode a b ≤ 255 := by
  have h1 := prod_range a b ha ha' hb hb'
  have h2 := prod_range (255 - a) (255 - b) (by omega) (by omega) (by omega) (by omega)
  have h3 := P255_range _ h1.1 h1.2
  have h4 := P255_range _ h2.1 h2.2
  unfold mixN
  split
  · exact h3
  split
  · omega
  split
  · omega
  split
  · omega
  · omega
def coverN (mode a b alpha : Int) : Int := P255 (alpha * mixN mode a b + (255 - alpha) * a)
theorem cover_sum (m a alpha : Int) (ha : 0 ≤ a) (ha' : a ≤ 255) (hm : 0 ≤ m) (hm' : m ≤ 255) (h : 0 ≤ alpha) (h' : alpha ≤ 255) :
    255 * min a m ≤ alpha * m + (255 - alpha) * a ∧ alpha * m + (255 - alpha) * a ≤ 255 * max a m := by
  have e : (255 - alpha) * a = 255 * a - alpha * a := by rw [Int.sub_mul]
  rw [e]
  have k1 : alpha * m - alpha * a = alpha * (m - a) := by rw [Int.mul_sub]
  by_cases c : a ≤ m
  · have i1 : 0 ≤ alpha * (m - a) := Int.mul_nonneg h (by omega)
    have i2 : alpha * (m - a) ≤ 255 * (m - a) := Int.mul_le_mul_of_nonneg_right h' (by omega)
    omega
  · have i1 : 0 ≤ alpha * (a - m) := Int.mul_nonneg h (by omega)
    have i2 : alpha * (a - m) ≤ 255 * (a - m) := Int.mul_le_mul_of_nonneg_right h' (by omega)
    have k2 : alpha * m - alpha * a = -(alpha * (a - m)) := by rw [Int.mul_sub]; omega
    omega
theorem cover_between (mode a b alpha : Int) (ha : 0 ≤ a) (ha' : a ≤ 255) (hb : 0 ≤ b) (hb' : b ≤ 255) (h : 0 ≤ alpha) (h' : alpha ≤ 255) :
    min a (mixN mode a b) ≤ coverN mode a b alpha ∧ coverN mode a b alpha ≤ max a (mixN mode a b) := by
  have hm := mixN_range mode a b ha ha' hb hb'
  have hs := cover_sum (mixN mode a b) a alpha ha ha' hm.1 hm.2 h h'
  unfold coverN
  generalize mixN mode a b = m at *
  generalize alpha * m + (255 - alpha) * a = s at *
  unfold P255
  omega
theorem cover_full (mode a b : Int) : coverN mode a b 255 = mixN mode a b := by
  unfold coverN
  have : (255 : Int) * mixN mode a b + (255 - 255) * a = 255 * mixN mode a b := by omega
  rw [this, P255_255]
theorem cover_none (mode a b : Int) : coverN mode a b 0 = a := by
  unfold coverN
  have : (0 : Int) * mixN mode a b + (255 - 0) * a = 255 * a := by omega
  rw [this, P255_255]

theorem impl_sum (m a alpha : Int) (ha : 0 ≤ a) (ha' : a ≤ 255) (hm : 0 ≤ m) (hm' : m ≤ 255) (h : 0 ≤ alpha) (h' : alpha ≤ 255) :
    wrap64 (wrap64 (alpha * m) + wrap64 (wrap64 (255 - alpha) * a)) = alpha * m + (255 - alpha) * a ∧ 0 ≤ alpha * m + (255 - alpha) * a ∧ alpha * m + (255 - alpha) * a ≤ 65025 := by
  have h1 := prod_range alpha m h h' hm hm'
  have h2 := prod_range (255 - alpha) a (by omega) (by omega) ha ha'
  have h3 := cover_sum m a alpha ha ha' hm hm' h h'
  rw [w64 (x := 255 - alpha) (by omega) (by omega), w64 (x := alpha * m) (by omega) (by omega), w64 (x := (255 - alpha) * a) (by omega) (by omega), w64 (by omega) (by omega)]
  exact ⟨rfl, by omega, by omega⟩
theorem blended_eq (mode a b alpha : Int) (ha : 0 ≤ a) (ha' : a ≤ 255) (hb : 0 ≤ b) (hb' : b ≤ 255) (h : 0 ≤ alpha) (h' : alpha ≤ 255) :
    impl_blended.f mode a b alpha = some (coverN mode a b alpha) := by
  have p1 := prod_range a b ha ha' hb hb'
  have p2 := prod_range (255 - a) (255 - b) (by omega) (by omega) (by omega) (by omega)
  have hm := mixN_range mode a b ha ha' hb hb'
  have q1 := P255_range _ p1.1 p1.2
  have q2 := P255_range _ p2.1 p2.2
  unfold impl_blended.f coverN
  by_cases c1 : mode = 1
  · rw [if_pos c1, w64 (by omega) (by omega), part255_eq _ p1.1 (by omega)]
    simp only [Option.bind_some]
    have e : mixN mode a b = P255 (a * b) := by simp [mixN, c1]
    rw [e]
    obtain ⟨s1, s2, s3⟩ := impl_sum (P255 (a * b)) a alpha ha ha' q1.1 q1.2 h h'
    rw [s1, part255_eq _ s2 (by omega)]; rfl
  rw [if_neg c1]
  by_cases c2 : mode = 2
  · rw [if_pos c2, w64 (x := 255 - a) (by omega) (by omega), w64 (x := 255 - b) (by omega) (by omega), w64 (by omega) (by omega), part255_eq _ p2.1 (by omega)]
    simp only [Option.bind_some]
    have e : mixN mode a b = 255 - P255 ((255 - a) * (255 - b)) := by simp [mixN, c2]
    rw [e, w64 (x := 255 - P255 ((255 - a) * (255 - b))) (by omega) (by omega)]
    obtain ⟨s1, s2, s3⟩ := impl_sum (255 - P255 ((255 - a) * (255 - b))) a alpha ha ha' (by omega) (by omega) h h'
    rw [s1, part255_eq _ s2 (by omega)]; rfl
  rw [if_neg c2]
  by_cases c3 : mode = 3
  · rw [if_pos c3]
    have e : mixN mode a b = mn a b := by simp [mixN, c3, mn_def]
    rw [e] at hm ⊢
    obtain ⟨s1, s2, s3⟩ := impl_sum (mn a b) a alpha ha ha' hm.1 hm.2 h h'
    rw [s1, part255_eq _ s2 (by omega)]; rfl
  rw [if_neg c3]
  by_cases c4 : mode = 4
  · rw [if_pos c4]
    have e : mixN mode a b = mx a b := by simp [mixN, c4, mx_def]
    rw [e] at hm ⊢
    obtain ⟨s1, s2, s3⟩ := impl_sum (mx a b) a alpha ha ha' hm.1 hm.2 h h'
    rw [s1, part255_eq _ s2 (by omega)]; rfl
  rw [if_neg c4]
  have e : mixN mode a b = b := by simp [mixN, c1, c2, c3, c4]
  rw [e] at hm ⊢
  obtain ⟨s1, s2, s3⟩ := impl_sum b a alpha ha ha' hm.1 hm.2 h h'
  rw [s1, part255_eq _ s2 (by omega)]; rfl
theorem mix_eq (mode a b : Int) (ha : 0 ≤ a) (ha' : a ≤ 255) (hb : 0 ≤ b) (hb' : b ≤ 255) : spec_mix.f mode a b = some (mixN mode a b) := by
  have p1 := prod_range a b ha ha' hb hb'
  have p2 := prod_range (255 - a) (255 - b) (by omega) (by omega) (by omega) (by omega)
  have e1 : 2 * a * b = 2 * (a * b) := Int.mul_assoc ..
  have e2 : 2 * (255 - a) * (255 - b) = 2 * ((255 - a) * (255 - b)) := Int.mul_assoc ..
  unfold spec_mix.f mixN P255
  rw [mn_def, mx_def]
  repeat (split; · first
    | rfl
    | (rw [w64 (x := 2 * a) (by omega) (by omega), e1, w64 (x := 2 * (a * b)) (by omega) (by omega), w64 (x := 2 * (a * b) + 255) (by omega) (by omega), tdiv_nn _ _ (by omega), w64 (by omega) (by omega)])
    | (rw [w64 (x := 255 - a) (by omega) (by omega), w64 (x := 255 - b) (by omega) (by omega), w64 (x := 2 * (255 - a)) (by omega) (by omega), e2, w64 (x := 2 * ((255 - a) * (255 - b))) (by omega) (by omega), w64 (x := 2 * ((255 - a) * (255 - b)) + 255) (by omega) (by omega), tdiv_nn _ _ (by omega), w64 (x := (2 * ((255 - a) * (255 - b)) + 255) / 510) (by omega) (by omega), w64 (by omega) (by omega)]))
  rfl
theorem blend_eq (mode a b alpha : Int) (ha : 0 ≤ a) (ha' : a ≤ 255) (hb : 0 ≤ b) (hb' : b ≤ 255) (h : 0 ≤ alpha) (h' : alpha ≤ 255) :
    spec_blend.f mode a b alpha = some (coverN mode a b alpha) := by
  have hm := mixN_range mode a b ha ha' hb hb'
  unfold spec_blend.f coverN
  rw [mix_eq mode a b ha ha' hb hb']
  simp only [Option.bind_some]
  obtain ⟨s1, s2, s3⟩ := impl_sum (mixN mode a b) a alpha ha ha' hm.1 hm.2 h h'
  rw [s1]
  generalize alpha * mixN mode a b + (255 - alpha) * a = s at *
  unfold P255
  rw [w64 (x := 2 * s) (by omega) (by omega), w64 (x := 2 * s + 255) (by omega) (by omega), tdiv_nn _ _ (by omega), w64 (by omega) (by omega)]

/- Layers: valid ones, as the program and the reference have it; copies of a layer. -/

def layerV (w h p : Int) (d : List Int) (x y m a : Int) (pl : Int) : Bool := validI w h p d && decide (p = pl ∧ -16 ≤ x ∧ x ≤ 16 ∧ -16 ≤ y ∧ y ≤ 16 ∧ 0 ≤ m ∧ m ≤ 4 ∧ 0 ≤ a ∧ a ≤ 255)
theorem layerV_iff (w h p : Int) (d : List Int) (x y m a : Int) (pl : Int) : layerV w h p d x y m a pl = true ↔ validI w h p d = true ∧ p = pl ∧ -16 ≤ x ∧ x ≤ 16 ∧ -16 ≤ y ∧ y ≤ 16 ∧ 0 ≤ m ∧ m ≤ 4 ∧ 0 ≤ a ∧ a ≤ 255 := by simp [layerV]
theorem impl_isModeI_eq (m : Int) : impl_isMode.f m = some (decide (0 ≤ m ∧ m ≤ 4)) := by
  unfold impl_isMode.f
  by_cases c : m ≥ 0
  · rw [if_pos c]; congr 1; rw [decide_eq_decide]; omega
  · rw [if_neg c, decide_eq_false (by omega)]
theorem impl_isLayer_eq (w h p : Int) (d : List Int) (x y m a : Int) (b : Bool) (pl : Int) : impl_isLayer.f w h p d x y m a b pl = some (layerV w h p d x y m a pl) := by
  unfold impl_isLayer.f layerV
  rw [impl_isImage_eq, impl_isModeI_eq]
  simp only [Option.bind_some]
  by_cases c : validI w h p d = true
  · rw [if_pos c, c, Bool.true_and]
    by_cases c1 : p = pl
    · rw [if_pos c1]
      by_cases c2 : x ≥ -16
      · rw [if_pos c2]
        by_cases c3 : x ≤ 16
        · rw [if_pos c3]
          by_cases c4 : y ≥ -16
          · rw [if_pos c4]
            by_cases c5 : y ≤ 16
            · rw [if_pos c5]
              by_cases c6 : 0 ≤ m ∧ m ≤ 4
              · rw [if_pos (by simpa using c6)]
                by_cases c7 : a ≥ 0
                · rw [if_pos c7]; congr 1; rw [decide_eq_decide]; omega
                · rw [if_neg c7, decide_eq_false (by omega)]
              · rw [if_neg (by simpa using c6), decide_eq_false (by omega)]
            · rw [if_neg c5, decide_eq_false (by omega)]
          · rw [if_neg c4, decide_eq_false (by omega)]
        · rw [if_neg c3, decide_eq_false (by omega)]
      · rw [if_neg c2, decide_eq_false (by omega)]
    · rw [if_neg c1, decide_eq_false (by omega)]
  · rw [if_neg c, Bool.eq_false_iff.2 c, Bool.false_and]
theorem spec_validLayer_ev (w h p : Int) (d : List Int) (x y m a : Int) (b : Bool) (pl : Int) (hl : d.length ≤ 1000000000000) : Ev (fun k => spec_validLayer.f k w h p d x y m a b pl) (layerV w h p d x y m a pl) := by
  unfold spec_validLayer.f layerV
  refine ev_bind (spec_validImage_ev w h p d hl) ?_
  by_cases c : validI w h p d = true
  · refine ev_pos c ?_
    rw [c, Bool.true_and]
    refine ev_const ?_
    rw [spec_inRangeI_eq, spec_inRangeI_eq, spec_inRangeI_eq, spec_inRangeI_eq]
    simp only [Option.bind_some]
    by_cases c1 : p = pl
    · rw [if_pos c1]
      by_cases c2 : -16 ≤ x ∧ x ≤ 16
      · rw [if_pos (by simpa using c2)]
        by_cases c3 : -16 ≤ y ∧ y ≤ 16
        · rw [if_pos (by simpa using c3)]
          by_cases c4 : 0 ≤ m ∧ m ≤ 4
          · rw [if_pos (by simpa using c4)]; congr 1; rw [Bool.eq_iff_iff]; simp; omega
          · rw [if_neg (by simpa using c4), decide_eq_false (by omega)]
        · rw [if_neg (by simpa using c3), decide_eq_false (by omega)]
      · rw [if_neg (by simpa using c2), decide_eq_false (by omega)]
    · rw [if_neg c1, decide_eq_false (by omega)]
  · refine ev_neg c ?_
    rw [Bool.eq_false_iff.2 c, Bool.false_and]
    exact Ev.now _

/- CoverImage, as the program and the reference have it. -/

theorem cover_byte (mode a b alpha : Int) (ha : 0 ≤ a) (ha' : a ≤ 255) (hb : 0 ≤ b) (hb' : b ≤ 255) (h : 0 ≤ alpha) (h' : alpha ≤ 255) : 0 ≤ coverN mode a b alpha ∧ coverN mode a b alpha ≤ 255 := by
  have h1 := cover_between mode a b alpha ha ha' hb hb' h h'
  have h2 := mixN_range mode a b ha ha' hb hb'
  omega
def AllB (d : List Int) : Prop := ∀ n ∈ d, 0 ≤ n ∧ n ≤ 255
theorem allB_at {d : List Int} (h : AllB d) (i : Nat) (hi : i < d.length) : 0 ≤ d[i] ∧ d[i] ≤ 255 := h _ (List.getElem_mem hi)
theorem allB_nx {d : List Int} (h : AllB d) (n i : Nat) : AllB (nx n d i) := fun x hx => h x (List.mem_of_mem_drop (List.mem_of_mem_take hx))
theorem blV_cover {mode alpha n u : Int} (h1 : 0 ≤ alpha ∧ alpha ≤ 255) (h2 : 0 ≤ n ∧ n ≤ 255) (h3 : 0 ≤ u ∧ u ≤ 255) : blV mode alpha n u = coverN mode n u alpha := by
  unfold blV
  rw [blended_eq mode n u alpha h2.1 h2.2 h3.1 h3.2 h1.1 h1.2]
  rfl
/-- a covered pixel's numbers -/
def covL (mode alpha : Int) (l u : List Int) : List Int := List.zipWith (fun n m => coverN mode n m alpha) l u
theorem zip_cover {mode alpha : Int} (h1 : 0 ≤ alpha ∧ alpha ≤ 255) : ∀ {l u : List Int}, AllB l → AllB u → List.zipWith (blV mode alpha) l u = covL mode alpha l u := by
  intro l
  induction l with
  | nil => intro u _ _; rfl
  | cons x l ih =>
    intro u hl hu
    cases u with
    | nil => rfl
    | cons y u =>
      unfold covL at ih ⊢
      rw [List.zipWith_cons_cons, List.zipWith_cons_cons, blV_cover h1 (hl x (by simp)) (hu y (by simp)), ih (fun z hz => hl z (by simp [hz])) (fun z hz => hu z (by simp [hz]))]
theorem covL_len {mode alpha : Int} {l u : List Int} {n : Nat} (h1 : l.length = n) (h2 : u.length = n) : (covL mode alpha l u).length = n := by unfold covL; rw [List.length_zipWith]; omega
theorem covL_bytes {mode alpha : Int} (h1 : 0 ≤ alpha ∧ alpha ≤ 255) {l u : List Int} (hl : AllB l) (hu : AllB u) : AllB (covL mode alpha l u) := by
  intro z hz
  unfold covL at hz
  obtain ⟨i, hi, rfl⟩ := List.getElem_of_mem hz
  rw [List.length_zipWith] at hi
  rw [List.getElem_zipWith]
  have a := allB_at hl i (by omega)
  have b := allB_at hu i (by omega)
  exact cover_byte _ _ _ _ a.1 a.2 b.1 b.2 h1.1 h1.2
/-- an image's pixel that a layer's image covers -/
def covPx (an pn : Nat) (d : List Int) (X Y : Int) (wn hn : Nat) (e : List Int) (mode alpha : Int) (x y : Nat) : List Int :=
  if X ≤ (x : Int) ∧ (x : Int) < X + wn ∧ Y ≤ (y : Int) ∧ (y : Int) < Y + hn then covL mode alpha (nx pn d (y * an + x)) (nx pn e (((y : Int) - Y).toNat * wn + ((x : Int) - X).toNat)) else nx pn d (y * an + x)
theorem covPx_len {an bn pn wn hn : Nat} {d e : List Int} {X Y : Int} (mode alpha : Int) (hd : d.length = (bn * an) * pn) (he : e.length = (hn * wn) * pn) : ∀ x y, x < an → y < bn → (covPx an pn d X Y wn hn e mode alpha x y).length = pn := by
  intro x y hx hy
  unfold covPx
  split
  · exact covL_len (nx_length hd (lin_lt hx hy)) (nx_length he (lin_lt (by omega) (by omega)))
  · exact nx_length hd (lin_lt hx hy)
theorem coverPx_cov {an bn pn wn hn : Nat} (h1 : an ≤ 16) (h2 : bn ≤ 16) (h3 : pn ≤ 4) (h4 : wn ≤ 16) (h5 : hn ≤ 16) {d e : List Int} {X Y mode alpha : Int} (ha : 0 ≤ alpha ∧ alpha ≤ 255) (hd : AllB d) (he : AllB e) {x y : Nat} (hx : x < an) (hy : y < bn) :
    coverPx an pn d wn hn e X Y mode alpha x y = covPx an pn d X Y wn hn e mode alpha x y := by
  unfold coverPx covPx inBoxZ
  by_cases c : X ≤ (x : Int) ∧ (x : Int) < X + wn ∧ Y ≤ (y : Int) ∧ (y : Int) < Y + hn
  · rw [if_pos c, if_pos (decide_eq_true c), pxAt_nat h1 h2 h3 hx hy, pxAt_nat h4 h5 h3 (by omega) (by omega)]
    exact zip_cover ha (allB_nx hd _ _) (allB_nx he _ _)
  · rw [if_neg c, if_neg (by simpa using c), pxAt_nat h1 h2 h3 hx hy]
theorem laid_get (s zs : List Int) (j q : Nat) (hq : q < zs.length) (hj : j + zs.length ≤ s.length) : (laidOver s j (zs.take q)).getD (j + q) 0 = s.getD (j + q) 0 := by
  have h1 : (zs.take q).length = q := by rw [List.length_take]; omega
  have h2 : (s.take j).length = j := by rw [List.length_take]; omega
  unfold laidOver
  rw [List.getD_eq_getElem?_getD, List.getElem?_append_right (by omega), h2, Nat.add_sub_cancel_left, List.getElem?_append_right (by omega), h1, Nat.sub_self, List.getElem?_drop, Nat.add_zero, List.getD_eq_getElem?_getD]
theorem nx_getD (s : List Int) (n i q : Nat) (hq : q < n) : (nx n s i).getD q 0 = s.getD (i * n + q) 0 := by
  unfold nx
  rw [List.getD_eq_getElem?_getD, List.getElem?_take, if_pos hq, List.getElem?_drop, List.getD_eq_getElem?_getD]
theorem rd_getD (l : List Int) (i : Nat) : rd l (i : Int) = l.getD i 0 := by simp [rd]
theorem blendPx_ev {an bn pn wn hn : Nat} {X Y mode alpha : Int} (hid : Bool) (hal : 0 ≤ alpha ∧ alpha ≤ 255) (r c : Nat) (hr : r ≤ 16) (hc : c ≤ 16) (s e : List Int) (jd je : Nat) (hs1 : s.length ≤ 1024) (he1 : e.length ≤ 1024) (hm : jd * pn + pn ≤ s.length) (hme : je * pn + pn ≤ e.length) (hp : pn ≤ 4) (hdb : AllB (nx pn s jd)) (heb : AllB (nx pn e je))
    (hJ : wrap64 ((wrap64 ((wrap64 ((wrap64 ((wrap64 (Y + (r : Int))) * (an : Int))) + X)) + (c : Int))) * (pn : Int)) = ((jd * pn : Nat) : Int)) (hJe : wrap64 ((wrap64 ((wrap64 ((r : Int) * (wn : Int))) + (c : Int))) * (pn : Int)) = ((je * pn : Nat) : Int)) (res : List Int)
    (hres : Ev (fun k => spec_blendPaste.l1 k (r : Int) ((c + 1 : Nat) : Int) an bn pn (laidOver s (jd * pn) (covL mode alpha (nx pn s jd) (nx pn e je))) wn hn pn e X Y mode alpha hid) res) :
    Ev (fun k => spec_blendPaste.l2 k (r : Int) (c : Int) 0 an bn pn s wn hn pn e X Y mode alpha hid) res := by
  have HJ := Aside0.mk hJ
  have HJe := Aside0.mk hJe
  clear hJ hJe
  have hl1 : (nx pn s jd).length = pn := by unfold nx; rw [List.length_take, List.length_drop]; omega
  have hl2 : (nx pn e je).length = pn := by unfold nx; rw [List.length_take, List.length_drop]; omega
  obtain ⟨zs, hzs⟩ : ∃ zs, zs = covL mode alpha (nx pn s jd) (nx pn e je) := ⟨_, rfl⟩
  have hyl : zs.length = pn := by rw [hzs]; exact covL_len hl1 hl2
  rw [← hzs] at hres
  have hz : ∀ q (hq : q < pn), zs[q]'(by rw [hyl]; exact hq) = coverN mode ((nx pn s jd).getD q 0) ((nx pn e je).getD q 0) alpha := by
    intro q hq
    have hzq : zs[q]? = some (coverN mode ((nx pn s jd).getD q 0) ((nx pn e je).getD q 0) alpha) := by
      rw [hzs]
      unfold covL
      rw [List.getElem?_zipWith, List.getElem?_eq_getElem (show q < (nx pn s jd).length by omega), List.getElem?_eq_getElem (show q < (nx pn e je).length by omega), List.getD_eq_getElem?_getD, List.getElem?_eq_getElem (show q < (nx pn s jd).length by omega), List.getD_eq_getElem?_getD, List.getElem?_eq_getElem (show q < (nx pn e je).length by omega)]
      rfl
    rw [List.getElem?_eq_getElem (show q < zs.length by omega)] at hzq
    exact Option.some.inj hzq
  have hb : ∀ q, q < pn → (0 ≤ (nx pn s jd).getD q 0 ∧ (nx pn s jd).getD q 0 ≤ 255) ∧ (0 ≤ (nx pn e je).getD q 0 ∧ (nx pn e je).getD q 0 ≤ 255) := by
    intro q hq
    refine ⟨?_, ?_⟩
    · rw [List.getD_eq_getElem?_getD, List.getElem?_eq_getElem (show q < (nx pn s jd).length by omega)]; exact allB_at hdb q (by omega)
    · rw [List.getD_eq_getElem?_getD, List.getElem?_eq_getElem (show q < (nx pn e je).length by omega)]; exact allB_at heb q (by omega)
  have hg : ∀ q, q < pn → rd (laidOver s (jd * pn) (zs.take q)) ((jd * pn + q : Nat) : Int) = (nx pn s jd).getD q 0 := fun q hq => by rw [rd_getD, laid_get s zs _ q (by omega) (by omega), ← nx_getD s pn jd q hq]
  have hg2 : ∀ q, q < pn → rd e ((je * pn + q : Nat) : Int) = (nx pn e je).getD q 0 := fun q hq => by rw [rd_getD, ← nx_getD e pn je q hq]
  have hls : ∀ q, q < pn → (laidOver s (jd * pn) (zs.take q)).length = s.length := fun q hq => laidOver_length s _ _ (by rw [List.length_take]; omega)
  have hset : ∀ q (hq : q < pn), (laidOver s (jd * pn) (zs.take q)).set (jd * pn + q) (zs[q]'(by rw [hyl]; exact hq)) = laidOver s (jd * pn) (zs.take (q + 1)) := fun q hq => laid_set s zs (jd * pn) q (by omega) (by omega)
  clear hzs hdb heb
  generalize nx pn s jd = S at *
  generalize nx pn e je = E at *
  generalize hjp : jd * pn = j at *
  generalize hjq : je * pn = i at *
  clear hjp hjq
  obtain ⟨s2, hs2, hk⟩ := ev_run pn (fun k q s' => spec_blendPaste.l2 k (r : Int) (c : Int) (q : Int) an bn pn s' wn hn pn e X Y mode alpha hid) (fun s' k => spec_blendPaste.l1 k (r : Int) ((c + 1 : Nat) : Int) an bn pn s' wn hn pn e X Y mode alpha hid) (fun q s' => s' = laidOver s j (zs.take q))
    (by
      intro q s' hq hs'
      subst hs'
      refine ⟨_, hset q hq, fun res hres => Ev.step (fun k => ?_) hres⟩
      have b := hb q hq
      have hh := hls q hq
      have a1 := Aside0.mk (show wrap64 ((j : Int) + (q : Int)) = ((j + q : Nat) : Int) from by rw [w64 (by omega) (by omega)]; push_cast; rfl)
      have a2 := Aside0.mk (show wrap64 ((i : Int) + (q : Int)) = ((i + q : Nat) : Int) from by rw [w64 (by omega) (by omega)]; push_cast; rfl)
      have hp1 : (q : Int) < (pn : Int) := by omega
      have hp2 : (0 : Int) ≤ ((j + q : Nat) : Int) := by omega
      have hp3 : ((j + q : Nat) : Int) < ((laidOver s j (zs.take q)).length : Int) := by rw [hh]; omega
      have hp4 : (0 : Int) ≤ ((i + q : Nat) : Int) := by omega
      have hp5 : ((i + q : Nat) : Int) < (e.length : Int) := by omega
      simp only [spec_blendPaste.l2]
      rw [HJ.out, HJe.out, a1.out, a2.out, hg q hq, hg2 q hq, if_pos hp1, if_pos hp2, if_pos hp3, if_pos hp4, if_pos hp5, blend_eq mode _ _ alpha b.1.1 b.1.2 b.2.1 b.2.2 hal.1 hal.2]
      simp only [Option.bind_some]
      rw [← hz q hq, w64n q (by omega), Int.toNat_natCast])
    (by
      intro s' _ res hres
      refine Ev.step (fun k => ?_) hres
      simp only [spec_blendPaste.l2]
      rw [if_neg (by omega), w64n c (by omega)])
    pn 0 s (by omega) (by unfold laidOver; simp)
  rw [List.take_of_length_le (by omega)] at hs2
  subst hs2
  exact hk _ hres
theorem at_px2 {an pn x0 y0 r c : Nat} {X Y : Int} (h1 : an ≤ 16) (hy : y0 ≤ 16) (hx0 : X + (c : Int) = (x0 : Int)) (hy0 : Y + (r : Int) = (y0 : Int)) (hX : -16 ≤ X ∧ X ≤ 16) (hY : -16 ≤ Y ∧ Y ≤ 16) (hr : r ≤ 16) (hc : c ≤ 16) (hJ : pixJ an pn x0 y0 = (((y0 * an + x0) * pn : Nat) : Int)) :
    wrap64 ((wrap64 ((wrap64 ((wrap64 ((wrap64 (Y + (r : Int))) * (an : Int))) + X)) + (c : Int))) * (pn : Int)) = (((y0 * an + x0) * pn : Nat) : Int) := by
  rw [← hJ]
  unfold pixJ
  clear hJ
  have hya : y0 * an ≤ 16 * 16 := Nat.mul_le_mul hy h1
  rw [hy0, w64 (x := (y0 : Int)) (by omega) (by omega)]
  have e1 : ((y0 : Int) * (an : Int)) = ((y0 * an : Nat) : Int) := by push_cast; rfl
  rw [e1]
  clear e1
  generalize y0 * an = t at *
  rw [w64 (x := (t : Int)) (by omega) (by omega), w64 (x := (t : Int) + X) (by omega) (by omega), show (t : Int) + X + (c : Int) = (t : Int) + (x0 : Int) by omega]
theorem blendPaste_ev {an bn pn wn hn : Nat} {X Y mode alpha : Int} (hid : Bool) (h1 : 1 ≤ an ∧ an ≤ 16) (h2 : 1 ≤ bn ∧ bn ≤ 16) (h3 : pn ≤ 4) (h4 : wn ≤ 16) (h5 : hn ≤ 16) (hX : -16 ≤ X ∧ X ≤ 16) (hY : -16 ≤ Y ∧ Y ≤ 16) (hal : 0 ≤ alpha ∧ alpha ≤ 255) (d e : List Int) (hd : d.length = (bn * an) * pn) (he : e.length = (hn * wn) * pn) (hdb : AllB d) (heb : AllB e) :
    Ev (fun k => spec_blendPaste.f k an bn pn d wn hn pn e X Y mode alpha hid) (imgD (covPx an pn d X Y wn hn e mode alpha) an bn) := by
  unfold spec_blendPaste.f
  have hlen := covPx_len (X := X) (Y := Y) mode alpha hd he
  let I : Nat → Nat → List Int → Prop := fun r c s => s.length = (bn * an) * pn ∧ ∀ x y : Nat, x < an → y < bn → nx pn s (y * an + x) = if X ≤ (x : Int) ∧ (x : Int) < X + wn ∧ Y ≤ (y : Int) ∧ (y : Int) < Y + hn ∧ ((y : Int) < Y + r ∨ ((y : Int) = Y + r ∧ (x : Int) < X + c)) then covL mode alpha (nx pn d (y * an + x)) (nx pn e (((y : Int) - Y).toNat * wn + ((x : Int) - X).toNat)) else nx pn d (y * an + x)
  have inner : ∀ (r : Nat), r < hn → ∀ s : List Int, I r 0 s → ∃ s' : List Int, I (r + 1) 0 s' ∧
        ∀ res, Ev (fun k => spec_blendPaste.l0 k ((r + 1 : Nat) : Int) an bn pn s' wn hn pn e X Y mode alpha hid) res → Ev (fun k => spec_blendPaste.l1 k (r : Int) 0 an bn pn s wn hn pn e X Y mode alpha hid) res := by
    intro r hr s hs
    obtain ⟨s', i4, i5⟩ := ev_run wn (fun k c s => spec_blendPaste.l1 k (r : Int) (c : Int) an bn pn s wn hn pn e X Y mode alpha hid) (fun s k => spec_blendPaste.l0 k ((r + 1 : Nat) : Int) an bn pn s wn hn pn e X Y mode alpha hid) (fun c s => I r c s)
      (by
        intro c s hc ⟨hsl, i1⟩
        have w1 := w64 (x := X + (c : Int)) (by omega) (by omega)
        have w2 := w64 (x := Y + (r : Int)) (by omega) (by omega)
        by_cases on : 0 ≤ X + (c : Int) ∧ X + (c : Int) < an ∧ 0 ≤ Y + (r : Int) ∧ Y + (r : Int) < bn
        · obtain ⟨x0, hx0⟩ := Int.eq_ofNat_of_zero_le on.1
          obtain ⟨y0, hy0⟩ := Int.eq_ofNat_of_zero_le on.2.2.1
          have hx0a : x0 < an := by omega
          have hy0b : y0 < bn := by omega
          have hel : (nx pn e (r * wn + c)).length = pn := nx_length he (lin_lt hc hr)
          have hdl : (nx pn d (y0 * an + x0)).length = pn := nx_length hd (lin_lt hx0a hy0b)
          have hlin := lin_lt hx0a hy0b
          obtain ⟨zs, hzs⟩ : ∃ zs, zs = covL mode alpha (nx pn d (y0 * an + x0)) (nx pn e (r * wn + c)) := ⟨_, rfl⟩
          have hyl : zs.length = pn := by rw [hzs]; exact covL_len hdl hel
          have hm : (y0 * an + x0 + 1) * pn ≤ (bn * an) * pn := Nat.mul_le_mul_right pn hlin
          rw [Nat.add_mul, Nat.one_mul] at hm
          have hme : (r * wn + c + 1) * pn ≤ (hn * wn) * pn := Nat.mul_le_mul_right pn (lin_lt hc hr)
          rw [Nat.add_mul, Nat.one_mul] at hme
          have sm := small h1.2 h2.2 h3
          have sme := small h4 h5 h3
          have hsd : nx pn s (y0 * an + x0) = nx pn d (y0 * an + x0) := by rw [i1 x0 y0 hx0a hy0b, if_neg (by omega)]
          refine ⟨laidOver s ((y0 * an + x0) * pn) zs, ⟨by rw [laidOver_length _ _ _ (by rw [hyl, hsl]; exact hm)]; exact hsl, ?_⟩, ?_⟩
          · intro x y hx hy
            rw [nx_laid hsl hyl hlin (lin_lt hx hy)]
            by_cases q : x = x0 ∧ y = y0
            · obtain ⟨rfl, rfl⟩ := q
              rw [if_pos rfl, if_pos (by omega), show ((y : Int) - Y).toNat = r by omega, show ((x : Int) - X).toNat = c by omega]
              exact hzs
            · rw [if_neg (fun z => q (lin_ne hx hx0a z)), i1 x y hx hy]
              by_cases z : X ≤ (x : Int) ∧ (x : Int) < X + wn ∧ Y ≤ (y : Int) ∧ (y : Int) < Y + hn ∧ ((y : Int) < Y + r ∨ ((y : Int) = Y + r ∧ (x : Int) < X + c))
              · rw [if_pos z, if_pos (by omega)]
              · rw [if_neg z, if_neg (by omega)]
          · intro res hres
            have HJ2 := Aside0.mk (at_px2 (X := X) (Y := Y) (x0 := x0) (y0 := y0) (r := r) (c := c) h1.2 (by omega) hx0 hy0 hX hY (by omega) (by omega) (pixJ_nat h1.2 h2.2 h3 hx0a hy0b).1)
            have HJe := Aside0.mk (pixJ_nat h4 h5 h3 hc hr).1
            have HB1 := Aside0.mk (show AllB (nx pn s (y0 * an + x0)) from by rw [hsd]; exact allB_nx hdb _ _)
            have q1 : s.length ≤ 1024 := by omega
            have q2 : e.length ≤ 1024 := by omega
            have q3 : (y0 * an + x0) * pn + pn ≤ s.length := by omega
            have q4 : (r * wn + c) * pn + pn ≤ e.length := by omega
            have HX1 := Aside0.mk (show zs = covL mode alpha (nx pn s (y0 * an + x0)) (nx pn e (r * wn + c)) from by rw [hzs, hsd])
            clear hzs hsd i1
            rw [HX1.out] at hres
            refine Ev.step (f := fun k => (spec_onImage.f an bn pn s (X + (c : Int)) (Y + (r : Int))).bind fun u => if u = true then spec_blendPaste.l2 k (r : Int) (c : Int) 0 an bn pn s wn hn pn e X Y mode alpha hid else spec_blendPaste.l1 k (r : Int) ((c + 1 : Nat) : Int) an bn pn s wn hn pn e X Y mode alpha hid) (fun k => ?_) (ev_now (onImage_eq h1 h2 _ _ _ _) (ev_pos (decide_eq_true on) (blendPx_ev hid hal r c (by omega) (by omega) s e (y0 * an + x0) (r * wn + c) q1 q2 q3 q4 h3 HB1.out (allB_nx heb _ _) HJ2.out HJe.out res hres)))
            simp only [spec_blendPaste.l1]
            rw [if_pos (by omega), w1, w2, w64n c (by omega)]
        · refine ⟨s, ⟨hsl, fun x y hx hy => ?_⟩, ?_⟩
          · rw [i1 x y hx hy]
            by_cases z : X ≤ (x : Int) ∧ (x : Int) < X + wn ∧ Y ≤ (y : Int) ∧ (y : Int) < Y + hn ∧ ((y : Int) < Y + r ∨ ((y : Int) = Y + r ∧ (x : Int) < X + c))
            · rw [if_pos z, if_pos (by omega)]
            · rw [if_neg z, if_neg (by omega)]
          · intro res hres
            refine Ev.step (f := fun k => (spec_onImage.f an bn pn s (X + (c : Int)) (Y + (r : Int))).bind fun u => if u = true then spec_blendPaste.l2 k (r : Int) (c : Int) 0 an bn pn s wn hn pn e X Y mode alpha hid else spec_blendPaste.l1 k (r : Int) ((c + 1 : Nat) : Int) an bn pn s wn hn pn e X Y mode alpha hid) (fun k => ?_) (ev_now (onImage_eq h1 h2 _ _ _ _) (ev_neg (by simpa using on) hres))
            simp only [spec_blendPaste.l1]
            rw [if_pos (by omega), w1, w2, w64n c (by omega)])
      (by
        intro s _ res hres
        refine Ev.step (fun k => ?_) hres
        simp only [spec_blendPaste.l1]
        rw [if_neg (by omega), w64n r (by omega)])
      wn 0 s (by omega) hs
    refine ⟨s', ⟨i4.1, fun x y hx hy => ?_⟩, i5⟩
    rw [i4.2 x y hx hy]
    by_cases z : X ≤ (x : Int) ∧ (x : Int) < X + wn ∧ Y ≤ (y : Int) ∧ (y : Int) < Y + hn ∧ ((y : Int) < Y + r ∨ ((y : Int) = Y + r ∧ (x : Int) < X + wn))
    · rw [if_pos z, if_pos (by omega)]
    · rw [if_neg z, if_neg (by omega)]
  obtain ⟨s', i4, i5⟩ := ev_run hn (fun k r s => spec_blendPaste.l0 k (r : Int) an bn pn s wn hn pn e X Y mode alpha hid) (fun s _ => some s) (fun r s => I r 0 s)
    (by
      intro r s hr hs
      obtain ⟨s', i1, i2⟩ := inner r hr s hs
      refine ⟨s', i1, fun res hres => Ev.step (fun k => ?_) (i2 res hres)⟩
      simp only [spec_blendPaste.l0]
      rw [if_pos (by omega)])
    (by
      intro s _ res hres
      refine Ev.step (fun k => ?_) hres
      simp only [spec_blendPaste.l0]
      rw [if_neg (by omega)])
    hn 0 d (by omega) ⟨hd, fun x y hx hy => by rw [if_neg (by omega)]⟩
  have q : s' = imgD (covPx an pn d X Y wn hn e mode alpha) an bn := ext_img i4.1 (imgD_length hlen) (fun x y hx hy => by
    rw [i4.2 x y hx hy, nx_imgD hlen hx hy]
    unfold covPx
    by_cases z : X ≤ (x : Int) ∧ (x : Int) < X + wn ∧ Y ≤ (y : Int) ∧ (y : Int) < Y + hn
    · rw [if_pos z, if_pos (by omega)]
    · rw [if_neg z, if_neg (by omega)])
  subst q
  exact i5 _ (Ev.now _)
/-- what CoverImage answers -/
def coverV (a b p : Int) (d : List Int) (lw lh lp : Int) (ld : List Int) (X Y mode alpha : Int) : Int × Int × Int × List Int × Bool :=
  if validI a b p d = true ∧ layerV lw lh lp ld X Y mode alpha p = true then (a, b, p, imgD (covPx a.toNat p.toNat d X Y lw.toNat lh.toNat ld mode alpha) a.toNat b.toNat, true) else (0, 0, 0, [], false)
theorem impl_CoverImage_eq (a b p : Int) (d : List Int) (lw lh lp : Int) (ld : List Int) (X Y mode alpha : Int) (hid : Bool) : impl_CoverImage.f a b p d lw lh lp ld X Y mode alpha hid = some (coverV a b p d lw lh lp ld X Y mode alpha) := by
  unfold impl_CoverImage.f coverV
  rw [impl_isImage_eq, impl_isLayer_eq]
  simp only [Option.bind_some]
  by_cases c1 : validI a b p d = true
  · rw [if_pos c1]
    by_cases c2 : layerV lw lh lp ld X Y mode alpha p = true
    · rw [if_pos c2, if_pos ⟨c1, c2⟩]
      obtain ⟨hvl, rfl, hx1, hx2, hy1, hy2, _, _, ha1, ha2⟩ := (layerV_iff _ _ _ _ _ _ _ _ _).1 c2
      unfold impl_coverImage.f
      rw [if_pos ⟨c1, hvl, rfl, ⟨hx1, hx2⟩, hy1, hy2⟩]
      have hb1 := ((validI_iff _ _ _ _).1 c1).2.2
      have hb2 := ((validI_iff _ _ _ _).1 hvl).2.2
      obtain ⟨an, bn, pn, rfl, rfl, rfl, q1, q2, q3, q4, q5, q6, q7⟩ := nat_of c1
      obtain ⟨wn, hn, _, rfl, rfl, _, q11, q12, q13, q14, _, _, _⟩ := nat_of hvl
      simp only [Int.toNat_natCast, Option.bind_some]
      rw [imgD_congr (fun x y hx hy => coverPx_cov q2 q4 q6 q12 q14 ⟨ha1, ha2⟩ hb1 hb2 hx hy)]
    · rw [if_neg c2, if_neg (fun h => c2 h.2)]
  · rw [if_neg c1, if_neg (fun h => c1 h.1)]
theorem spec_CoverImage_ev (a b p : Int) (d : List Int) (lw lh lp : Int) (ld : List Int) (X Y mode alpha : Int) (hid : Bool) (hd0 : d.length ≤ 2000000) (he0 : ld.length ≤ 2000000) : Ev (fun k => spec_CoverImage.f k a b p d lw lh lp ld X Y mode alpha hid) (coverV a b p d lw lh lp ld X Y mode alpha) := by
  unfold spec_CoverImage.f
  have stop : ∀ q, ¬ (validI a b p d = true ∧ layerV lw lh lp ld X Y mode alpha p = true) → q = true → Ev (fun k => spec_CoverImage.j0 k q a b p d lw lh lp ld X Y mode alpha hid) (coverV a b p d lw lh lp ld X Y mode alpha) := by
    intro q hn hq
    subst hq
    unfold coverV
    rw [if_neg hn]
    refine Ev.step (f := fun _ => some (0, 0, 0, [], false)) (fun k => ?_) (Ev.now _)
    simp only [spec_CoverImage.j0]
    rw [if_pos trivial]
  refine ev_bind (spec_validImage_ev a b p d (by omega)) ?_
  by_cases c1 : validI a b p d = true
  · refine ev_pos c1 (ev_bind (spec_validLayer_ev lw lh lp ld X Y mode alpha hid p (by omega)) ?_)
    by_cases c2 : layerV lw lh lp ld X Y mode alpha p = true
    · rw [c2]
      obtain ⟨hvl, rfl, hx1, hx2, hy1, hy2, _, _, ha1, ha2⟩ := (layerV_iff _ _ _ _ _ _ _ _ _).1 c2
      have hb1 := ((validI_iff _ _ _ _).1 c1).2.2
      have hb2 := ((validI_iff _ _ _ _).1 hvl).2.2
      unfold coverV
      rw [if_pos ⟨c1, c2⟩]
      obtain ⟨an, bn, pn, rfl, rfl, rfl, q1, q2, q3, q4, q5, q6, q7⟩ := nat_of c1
      obtain ⟨wn, hn, pm, rfl, rfl, hpm, q11, q12, q13, q14, _, _, q17⟩ := nat_of hvl
      have hpm := Int.ofNat.inj hpm
      subst hpm
      simp only [Int.toNat_natCast]
      refine Ev.step (f := fun k => (spec_copyImage.f an bn pn d).bind fun t => (spec_blendPaste.f k t.1 t.2.1 t.2.2.1 t.2.2.2 wn hn pn ld X Y mode alpha hid).bind fun u => some (t.1, t.2.1, t.2.2.1, u, true)) (fun k => ?_) (ev_now (show spec_copyImage.f an bn pn d = some ((an : Int), (bn : Int), (pn : Int), d) from by
        unfold spec_copyImage.f
        rw [copyInts_px d (by have sm := small q2 q4 q6; omega)]
        rfl) (ev_bind (blendPaste_ev hid ⟨q1, q2⟩ ⟨q3, q4⟩ q6 q12 q14 ⟨hx1, hx2⟩ ⟨hy1, hy2⟩ ⟨ha1, ha2⟩ d ld q7 q17 hb1 hb2) (Ev.now _)))
      simp only [spec_CoverImage.j0, Bool.not_true]
      rw [if_neg (by simp)]
    · rw [Bool.eq_false_iff.2 c2]
      exact stop _ (fun h => c2 h.2) rfl
  · exact ev_neg c1 (stop _ (fun h => c1 h.1) rfl)
theorem coverV_len (a b p : Int) (d : List Int) (lw lh lp : Int) (ld : List Int) (X Y mode alpha : Int) : (coverV a b p d lw lh lp ld X Y mode alpha).2.2.2.1.length ≤ 1024 := by
  unfold coverV
  split
  · rename_i hc
    obtain ⟨c1, c2⟩ := hc
    obtain ⟨hvl, rfl, _⟩ := (layerV_iff _ _ _ _ _ _ _ _ _).1 c2
    obtain ⟨an, bn, pn, rfl, rfl, rfl, q1, q2, q3, q4, q5, q6, q7⟩ := nat_of c1
    obtain ⟨wn, hn, pm, rfl, rfl, hpm, q11, q12, q13, q14, _, _, q17⟩ := nat_of hvl
    have hpm := Int.ofNat.inj hpm
    subst hpm
    simp only [Int.toNat_natCast]
    rw [imgD_length (covPx_len mode alpha q7 q17)]
    exact small q2 q4 q6
  · simp

/- The reader of draws: whatever the code's bytes are, it answers, in range. -/

/-- What a reader reads from: at most 2000 bytes. -/
def Bytes (b : List Int) : Prop := b.length ≤ 2000 ∧ ∀ x ∈ b, 0 ≤ x ∧ x ≤ 255
theorem Bytes.rd_ {b : List Int} (h : Bytes b) (i : Int) : 0 ≤ rd b i ∧ rd b i ≤ 255 := by
  unfold rd
  by_cases c : i.toNat < b.length
  · rw [List.getD_eq_getElem?_getD, List.getElem?_eq_getElem c]; exact h.2 _ (List.getElem_mem c)
  · rw [List.getD_eq_getElem?_getD, List.getElem?_eq_none (by omega)]; simp
theorem xor_nn (a b : Int) (ha : 0 ≤ a) (ha' : a < 4611686018427387904) (hb : 0 ≤ b) (hb' : b < 4611686018427387904) : 0 ≤ Go.bits .xor .i64 a b := by
  obtain ⟨a, rfl⟩ := Int.eq_ofNat_of_zero_le ha
  obtain ⟨b, rfl⟩ := Int.eq_ofNat_of_zero_le hb
  have ha2 : a < 2 ^ 62 := by have : (2 : Nat) ^ 62 = 4611686018427387904 := by decide +kernel
                              omega
  have hb2 : b < 2 ^ 62 := by have : (2 : Nat) ^ 62 = 4611686018427387904 := by decide +kernel
                              omega
  have e64 : IntKind.bits .i64 = 64 := rfl
  have hx := Nat.xor_lt_two_pow ha2 hb2
  have h62 : (2 : Nat) ^ 62 = 4611686018427387904 := by decide +kernel
  have h64 : (2 : Nat) ^ 64 = 18446744073709551616 := by decide +kernel
  simp only [Go.bits, BitVec.ofInt_natCast, BitVec.toNat_xor, BitVec.toNat_ofNat, e64]
  rw [Nat.mod_eq_of_lt (by omega), Nat.mod_eq_of_lt (by omega), IntKind.wrap_i64]
  generalize a ^^^ b = z at *
  omega
theorem tmod_range (x n : Int) (hx : 0 ≤ x) (hn : 1 ≤ n) : 0 ≤ Int.tmod x n ∧ Int.tmod x n < n := by
  rw [tmod_nn _ _ hx]
  exact ⟨Int.emod_nonneg _ (by omega), Int.emod_lt_of_pos _ (by omega)⟩
theorem pick_at (b : List Int) (p n : Int) (hb : Bytes b) (hp0 : 0 ≤ p) (hp : p ≤ 1000000000000) :
    ∃ v, (∀ k, 0 < k → spec_reader_pick.f k b p n = some (v, p + 1)) ∧ 0 ≤ v ∧ (1 ≤ n → v < n) ∧ (n < 1 → v = 0) := by
  by_cases hn : n < 1
  · refine ⟨0, fun k hk => ?_, by omega, by omega, fun _ => rfl⟩
    obtain ⟨k, rfl⟩ : ∃ m, k = m + 1 := ⟨k - 1, by omega⟩
    unfold spec_reader_pick.f
    rw [if_pos hn, w64 (by omega) (by omega)]
    simp only [spec_reader_pick.j0, if_true]
  by_cases he : b.length = 0
  · refine ⟨0, fun k hk => ?_, by omega, by omega, fun _ => rfl⟩
    obtain ⟨k, rfl⟩ : ∃ m, k = m + 1 := ⟨k - 1, by omega⟩
    unfold spec_reader_pick.f
    rw [if_neg hn, w64 (by omega) (by omega)]
    simp only [spec_reader_pick.j0, he]; simp
  have hlen := hb.1
  by_cases hlt : p < (b.length : Int)
  · have hr := hb.rd_ p
    have ht := tmod_range (rd b p) n hr.1 (by omega)
    refine ⟨Int.tmod (rd b p) n, fun k hk => ?_, ht.1, fun _ => ht.2, by omega⟩
    obtain ⟨k, rfl⟩ : ∃ m, k = m + 1 := ⟨k - 1, by omega⟩
    unfold spec_reader_pick.f
    rw [if_neg hn, w64 (x := p + 1) (by omega) (by omega)]
    simp only [spec_reader_pick.j0]
    rw [if_neg (by simp only [beq_iff_eq]; omega), w64 (x := p + 1 - 1) (by omega) (by omega), show p + 1 - 1 = p by omega, if_pos hlt, if_pos hp0, if_neg (by omega), w64 (x := rd b p) (by omega) (by omega)]
  · have h1 := tmod_range p (b.length : Int) hp0 (by omega)
    have h2 := tmod_range (p * 7 + 3) (b.length : Int) (by omega) (by omega)
    have r1 := hb.rd_ (Int.tmod p (b.length : Int))
    have r2 := hb.rd_ (Int.tmod (p * 7 + 3) (b.length : Int))
    have hd : 0 ≤ Int.tdiv p (b.length : Int) ∧ Int.tdiv p (b.length : Int) ≤ p := by
      rw [tdiv_nn _ _ hp0]
      exact ⟨Int.ediv_nonneg hp0 (by omega), Int.ediv_le_self _ hp0⟩
    generalize h1e : Int.tmod p (b.length : Int) = t1 at *
    generalize h2e : Int.tmod (p * 7 + 3) (b.length : Int) = t2 at *
    generalize hde : Int.tdiv p (b.length : Int) = d at *
    generalize hr1e : rd b t1 = x1 at *
    generalize hr2e : rd b t2 = x2 at *
    have hx := xor_nn (x1 * 131 + x2 * 1117 + p * 29 + d * 53) ((x1 * 131 + x2 * 1117 + p * 29 + d * 53) / 64) (by omega) (by omega) (by omega) (by omega)
    have ht := tmod_range _ n hx (by omega)
    refine ⟨Int.tmod (Go.bits .xor .i64 (x1 * 131 + x2 * 1117 + p * 29 + d * 53) ((x1 * 131 + x2 * 1117 + p * 29 + d * 53) / 64)) n, fun k hk => ?_, ht.1, fun _ => ht.2, by omega⟩
    obtain ⟨k, rfl⟩ : ∃ m, k = m + 1 := ⟨k - 1, by omega⟩
    unfold spec_reader_pick.f
    rw [if_neg hn, w64 (x := p + 1) (by omega) (by omega)]
    simp only [spec_reader_pick.j0]
    rw [if_neg (by simp only [beq_iff_eq]; omega), w64 (x := p + 1 - 1) (by omega) (by omega), show p + 1 - 1 = p by omega, if_neg hlt, if_neg (by omega),
      w64 (x := p * 7) (by omega) (by omega), w64 (x := p * 7 + 3) (by omega) (by omega), h1e, h2e, hde, hr1e, hr2e, if_pos (by omega), if_pos (by omega), if_pos (by omega), if_pos (by omega), if_neg (by omega),
      w64 (x := x1) (by omega) (by omega), w64 (x := x2) (by omega) (by omega), w64 (x := d) (by omega) (by omega), w64 (x := x1 * 131) (by omega) (by omega), w64 (x := x2 * 1117) (by omega) (by omega), w64 (x := p * 29) (by omega) (by omega), w64 (x := d * 53) (by omega) (by omega),
      w64 (x := x1 * 131 + x2 * 1117) (by omega) (by omega), w64 (x := x1 * 131 + x2 * 1117 + p * 29) (by omega) (by omega), w64 (x := x1 * 131 + x2 * 1117 + p * 29 + d * 53) (by omega) (by omega), tdiv_nn _ 64 (by omega),
      w64 (x := (x1 * 131 + x2 * 1117 + p * 29 + d * 53) / 64) (by omega) (by omega)]
theorem one_at (b : List Int) (p : Int) (l : List Int) (hl : 0 < l.length) (hl' : l.length ≤ 1000) (hb : Bytes b) (hp0 : 0 ≤ p) (hp : p ≤ 1000000000000) :
    ∃ v, (∀ k, 0 < k → spec_reader_one.f k b p l = some (v, p + 1)) ∧ v ∈ l := by
  obtain ⟨v, hv, h0, h1, _⟩ := pick_at b p (l.length : Int) hb hp0 hp
  have h1' := h1 (by omega)
  obtain ⟨v, rfl⟩ := Int.eq_ofNat_of_zero_le h0
  refine ⟨l[v]'(by omega), fun k hk => ?_, List.getElem_mem _⟩
  unfold spec_reader_one.f
  rw [hv k hk]
  simp only [Option.bind_some]
  rw [if_pos (by omega), if_pos (by omega), rd_nat l v (by omega)]
theorem newReader_at (l : List Int) (h : ∀ x ∈ l, 0 ≤ x ∧ x ≤ 255) : ∃ b, spec_newReader.f l = some (b, 0) ∧ Bytes b := by
  unfold spec_newReader.f
  by_cases c : (l.length : Int) > 2000
  · rw [if_pos c, if_pos (by omega)]
    exact ⟨_, rfl, by rw [List.length_take]; omega, fun x hx => h x (List.mem_of_mem_take hx)⟩
  · rw [if_neg c]
    exact ⟨_, rfl, by omega, h⟩
/-- What a law is told of its code: bytes. -/
theorem code_bytes (l : List Int) (h : ∀ x ∈ l, (Lit.int .u8 x).wf = true) : ∀ x ∈ l, 0 ≤ x ∧ x ≤ 255 := by
  intro x hx
  have := h x hx
  simp only [Lit.wf, Bool.and_eq_true, decide_eq_true_eq] at this
  have e1 : IntKind.min .u8 = 0 := by decide
  have e2 : IntKind.max .u8 = 255 := by decide
  omega

/- Images that are drawn from bytes. -/

theorem one_in (b : List Int) (p : Int) (l : List Int) (hl : 0 < l.length) (hl' : l.length ≤ 1000) (hb : Bytes b) (hp0 : 0 ≤ p) (hp : p ≤ 1000000000000) : ∃ v, Ev (fun k => spec_reader_one.f k b p l) (v, p + 1) ∧ v ∈ l := by
  obtain ⟨v, h, hv⟩ := one_at b p l hl hl' hb hp0 hp
  exact ⟨v, ev_of 0 h, hv⟩
theorem pick_in (b : List Int) (p n : Int) (hn : 1 ≤ n) (hb : Bytes b) (hp0 : 0 ≤ p) (hp : p ≤ 1000000000000) : ∃ v, Ev (fun k => spec_reader_pick.f k b p n) (v, p + 1) ∧ 0 ≤ v ∧ v < n := by
  obtain ⟨v, h, h0, h1, _⟩ := pick_at b p n hb hp0 hp
  exact ⟨v, ev_of 0 h, h0, h1 hn⟩
theorem newImage_eq (w h p : Int) (hs : 1 ≤ w ∧ w ≤ 16 ∧ 1 ≤ h ∧ h ≤ 16 ∧ 1 ≤ p ∧ p ≤ 4) : spec_newImage.f w h p = some (w, h, p, List.replicate (w * h * p).toNat 0) := by
  have := shape_prod hs
  unfold spec_newImage.f
  rw [shape_wrap hs, if_pos (by omega), if_pos (by omega)]
theorem randomLoop (b : List Int) (hb : Bytes b) (m : Int) (w h p : Int) : ∀ (n i : Nat) (x pos : Int) (d : List Int), i + n = d.length → 0 ≤ pos → pos + n ≤ 1000000000000 → d.length ≤ 1000000 →
    ∃ (d' : List Int) (q : Int), d'.length = d.length ∧ pos ≤ q ∧ q ≤ pos + n ∧ Ev (fun k => spec_randomImage.l0 k m x (i : Int) b pos w h p d) (w, h, p, d', q) := by
  intro n
  induction n with
  | zero =>
    intro i x pos d hi h0 h1 h2
    refine ⟨d, pos, rfl, by omega, by omega, ?_⟩
    refine Ev.step (f := fun _ => some (w, h, p, d, pos)) (fun k => ?_) (Ev.now _)
    simp only [spec_randomImage.l0]
    rw [if_neg (by omega)]
  | succ n ih =>
    intro i x pos d hi h0 h1 h2
    have go : ∀ (v x' pos' : Int), pos ≤ pos' → pos' ≤ pos + 1 → ∃ (d' : List Int) (q : Int), d'.length = d.length ∧ pos ≤ q ∧ q ≤ pos + ((n + 1 : Nat) : Int) ∧ Ev (fun k => spec_randomImage.l0 k m x' ((i + 1 : Nat) : Int) b pos' w h p (d.set i v)) (w, h, p, d', q) := by
      intro v x' pos' a1 a2
      obtain ⟨d', q, e1, e2, e3, e4⟩ := ih (i + 1) x' pos' (d.set i v) (by rw [List.length_set]; omega) (by omega) (by omega) (by rw [List.length_set]; omega)
      exact ⟨d', q, by rw [e1, List.length_set], by omega, by omega, e4⟩
    by_cases c0 : m = 0
    · obtain ⟨v, hv, _, _⟩ := pick_in b pos 256 (by omega) hb h0 (by omega)
      obtain ⟨d', q, e1, e2, e3, e4⟩ := go v v (pos + 1) (by omega) (by omega)
      refine ⟨d', q, e1, e2, e3, ?_⟩
      refine Ev.step (f := fun k => (spec_reader_pick.f k b pos 256).bind fun bt => if 0 ≤ (i : Int) then spec_randomImage.l0 k m bt.1 (wrap64 ((i : Int) + 1)) b bt.2 w h p (d.set (i : Int).toNat bt.1) else none) (fun k => ?_) ?_
      · simp only [spec_randomImage.l0]
        rw [if_pos (by omega), if_pos c0]
      · refine ev_bind hv (ev_pos (by omega) ?_)
        simp only [Int.toNat_natCast, w64n i (by omega)]
        exact e4
    · by_cases c1 : m = 1
      · obtain ⟨v, hv, _, _⟩ := pick_in b pos 5 (by omega) hb h0 (by omega)
        obtain ⟨d', q, e1, e2, e3, e4⟩ := go (Int.tmod (wrap64 ((wrap64 (x + v)) + 254)) 256) (Int.tmod (wrap64 ((wrap64 (x + v)) + 254)) 256) (pos + 1) (by omega) (by omega)
        refine ⟨d', q, e1, e2, e3, ?_⟩
        refine Ev.step (f := fun k => (spec_reader_pick.f k b pos 5).bind fun bt => if 0 ≤ (i : Int) then spec_randomImage.l0 k m (Int.tmod (wrap64 ((wrap64 (x + bt.1)) + 254)) 256) (wrap64 ((i : Int) + 1)) b bt.2 w h p (d.set (i : Int).toNat (Int.tmod (wrap64 ((wrap64 (x + bt.1)) + 254)) 256)) else none) (fun k => ?_) ?_
        · simp only [spec_randomImage.l0]
          rw [if_pos (by omega), if_neg c0, if_pos c1]
        · refine ev_bind hv (ev_pos (by omega) ?_)
          simp only [Int.toNat_natCast, w64n i (by omega)]
          exact e4
      · by_cases c2 : m = 2
        · obtain ⟨v, hv, _, _⟩ := pick_in b pos 4 (by omega) hb h0 (by omega)
          obtain ⟨d', q, e1, e2, e3, e4⟩ := go (wrap64 (60 * v)) (wrap64 (60 * v)) (pos + 1) (by omega) (by omega)
          refine ⟨d', q, e1, e2, e3, ?_⟩
          refine Ev.step (f := fun k => (spec_reader_pick.f k b pos 4).bind fun bt => if 0 ≤ (i : Int) then spec_randomImage.l0 k m (wrap64 (60 * bt.1)) (wrap64 ((i : Int) + 1)) b bt.2 w h p (d.set (i : Int).toNat (wrap64 (60 * bt.1))) else none) (fun k => ?_) ?_
          · simp only [spec_randomImage.l0]
            rw [if_pos (by omega), if_neg c0, if_neg c1, if_pos c2]
          · refine ev_bind hv (ev_pos (by omega) ?_)
            simp only [Int.toNat_natCast, w64n i (by omega)]
            exact e4
        · obtain ⟨d', q, e1, e2, e3, e4⟩ := go x x pos (by omega) (by omega)
          refine ⟨d', q, e1, e2, e3, Ev.step (fun k => ?_) e4⟩
          simp only [spec_randomImage.l0]
          rw [if_pos (by omega), if_neg c0, if_neg c1, if_neg c2, if_pos (by omega), Int.toNat_natCast, w64n i (by omega)]
theorem randomImage_ev (b : List Int) (pos p : Int) (hb : Bytes b) (h0 : 0 ≤ pos) (h1 : pos ≤ 100000000) (hp : 1 ≤ p ∧ p ≤ 4) :
    ∃ (w h : Int) (d : List Int) (q : Int), 1 ≤ w ∧ w ≤ 8 ∧ 1 ≤ h ∧ h ≤ 8 ∧ (d.length : Int) = w * h * p ∧ 1 ≤ d.length ∧ d.length ≤ 1024 ∧ pos ≤ q ∧ q ≤ pos + 2000 ∧ Ev (fun k => spec_randomImage.f k b pos p) (w, h, p, d, q) := by
  obtain ⟨w, hw, mw⟩ := one_in b pos [3, 4, 2, 5, 1, 8, 6] (by simp) (by simp) hb h0 (by omega)
  obtain ⟨h, hh, mh⟩ := one_in b (pos + 1) [3, 2, 4, 1, 5, 8] (by simp) (by simp) hb (by omega) (by omega)
  obtain ⟨m, hm, _, _⟩ := pick_in b (pos + 1 + 1) 4 (by omega) hb (by omega) (by omega)
  obtain ⟨x, hx, _, _⟩ := pick_in b (pos + 1 + 1 + 1) 256 (by omega) hb (by omega) (by omega)
  have bw : 1 ≤ w ∧ w ≤ 8 := by simp only [List.mem_cons, List.not_mem_nil, or_false] at mw; omega
  have bh : 1 ≤ h ∧ h ≤ 8 := by simp only [List.mem_cons, List.not_mem_nil, or_false] at mh; omega
  have hs : 1 ≤ w ∧ w ≤ 16 ∧ 1 ≤ h ∧ h ≤ 16 ∧ 1 ≤ p ∧ p ≤ 4 := by omega
  have hpr := shape_prod hs
  have hpos : 1 ≤ w * h * p := by
    have e1 : 1 * 1 ≤ w * h := Int.mul_le_mul (by omega) (by omega) (by omega) (by omega)
    have e2 : 1 * 1 ≤ w * h * p := Int.mul_le_mul (by omega) (by omega) (by omega) (by omega)
    omega
  have hlen : (List.replicate (w * h * p).toNat (0 : Int)).length = (w * h * p).toNat := List.length_replicate
  obtain ⟨d', q, e1, e2, e3, e4⟩ := randomLoop b hb m w h p (w * h * p).toNat 0 x (pos + 1 + 1 + 1 + 1) (List.replicate (w * h * p).toNat 0) (by omega) (by omega) (by omega) (by omega)
  refine ⟨w, h, d', q, bw.1, bw.2, bh.1, bh.2, by omega, by omega, by omega, by omega, by omega, ?_⟩
  unfold spec_randomImage.f
  exact ev_bind hw (ev_bind hh (ev_now (newImage_eq w h p hs) (ev_bind hm (ev_bind hx e4))))
theorem anyPlanes_ev (b : List Int) (pos : Int) (hb : Bytes b) (h0 : 0 ≤ pos) (h1 : pos ≤ 100000000) : ∃ p, 1 ≤ p ∧ p ≤ 4 ∧ Ev (fun k => spec_anyPlanes.f k b pos) (p, pos + 1) := by
  obtain ⟨p, hp, mp⟩ := one_in b pos [1, 3, 1, 4, 2] (by simp) (by simp) hb h0 (by omega)
  simp only [List.mem_cons, List.not_mem_nil, or_false] at mp
  refine ⟨p, by omega, by omega, ?_⟩
  unfold spec_anyPlanes.f
  exact ev_bind hp (Ev.now _)
theorem spoilImage_ev (b : List Int) (pos : Int) (w h p : Int) (d : List Int) (hb : Bytes b) (h0 : 0 ≤ pos) (h1 : pos ≤ 100000000) (hd : 1 ≤ d.length) :
    ∃ (w' h' p' : Int) (d' : List Int) (q : Int), d'.length ≤ d.length ∧ pos ≤ q ∧ q ≤ pos + 2 ∧ Ev (fun k => spec_spoilImage.f k b pos w h p d) (w', h', p', d', q) := by
  obtain ⟨v, hv, _, _⟩ := pick_in b pos 40 (by omega) hb h0 (by omega)
  unfold spec_spoilImage.f
  by_cases c0 : v = 0
  · obtain ⟨x, hx, _⟩ := one_in b (pos + 1) [0, 17, wrap64 (w + 1)] (by simp) (by simp) hb (by omega) (by omega)
    exact ⟨x, h, p, d, pos + 1 + 1, by omega, by omega, by omega, ev_bind hv (ev_pos c0 (ev_bind hx (Ev.now _)))⟩
  · by_cases c1 : v = 1
    · exact ⟨w, h, p, d.drop (1 : Int).toNat, pos + 1, by rw [List.length_drop]; omega, by omega, by omega, ev_bind hv (ev_neg c0 (ev_pos c1 (ev_pos (by omega) (Ev.now _))))⟩
    · by_cases c2 : v = 2
      · obtain ⟨x, hx, _⟩ := one_in b (pos + 1) [(-1), 256] (by simp) (by simp) hb (by omega) (by omega)
        exact ⟨w, h, p, d.set (0 : Int).toNat x, pos + 1 + 1, by rw [List.length_set]; omega, by omega, by omega, ev_bind hv (ev_neg c0 (ev_neg c1 (ev_pos c2 (ev_bind hx (ev_pos (by omega) (Ev.now _))))))⟩
      · by_cases c3 : v = 3
        · obtain ⟨x, hx, _⟩ := one_in b (pos + 1) [0, 5] (by simp) (by simp) hb (by omega) (by omega)
          exact ⟨w, h, x, d, pos + 1 + 1, by omega, by omega, by omega, ev_bind hv (ev_neg c0 (ev_neg c1 (ev_neg c2 (ev_pos c3 (ev_bind hx (Ev.now _))))))⟩
        · exact ⟨w, h, p, d, pos + 1, by omega, by omega, by omega, ev_bind hv (ev_neg c0 (ev_neg c1 (ev_neg c2 (ev_neg c3 (Ev.now _)))))⟩
theorem anyImage_ev (b : List Int) (pos : Int) (hb : Bytes b) (h0 : 0 ≤ pos) (h1 : pos ≤ 90000000) :
    ∃ (w h p : Int) (d : List Int) (q : Int), d.length ≤ 1024 ∧ pos ≤ q ∧ q ≤ pos + 3000 ∧ Ev (fun k => spec_anyImage.f k b pos) (w, h, p, d, q) := by
  obtain ⟨p, p1, p2, hp⟩ := anyPlanes_ev b pos hb h0 (by omega)
  obtain ⟨w, h, d, q, _, _, _, _, _, d1, d2, q1, q2, hr⟩ := randomImage_ev b (pos + 1) p hb (by omega) (by omega) ⟨p1, p2⟩
  obtain ⟨w', h', p', d', q', d3, q3, q4, hs⟩ := spoilImage_ev b q w h p d hb (by omega) (by omega) d1
  refine ⟨w', h', p', d', q', by omega, by omega, by omega, ?_⟩
  unfold spec_anyImage.f
  exact ev_bind hp (ev_bind hr (ev_bind hs (Ev.now _)))

/- Layers that are drawn from bytes. -/

theorem randomLayer_ev (b : List Int) (pos p : Int) (hb : Bytes b) (h0 : 0 ≤ pos) (h1 : pos ≤ 50000000) (hp : 1 ≤ p ∧ p ≤ 4) :
    ∃ (w h : Int) (d : List Int) (x y m a : Int) (hid : Bool) (q : Int), d.length ≤ 1024 ∧ pos ≤ q ∧ q ≤ pos + 3000 ∧ Ev (fun k => spec_randomLayer.f k b pos p) (w, h, p, d, x, y, m, a, hid, q) := by
  obtain ⟨w, h, d, q, _, _, _, _, _, _, hd, q1, q2, hr⟩ := randomImage_ev b pos p hb h0 (by omega) hp
  obtain ⟨v1, g1, _⟩ := pick_in b q 7 (by omega) hb (by omega) (by omega)
  obtain ⟨v2, g2, _⟩ := pick_in b (q + 1) 5 (by omega) hb (by omega) (by omega)
  obtain ⟨v3, g3, _⟩ := pick_in b (q + 1 + 1) 5 (by omega) hb (by omega) (by omega)
  obtain ⟨v4, g4, _⟩ := pick_in b (q + 1 + 1 + 1) 5 (by omega) hb (by omega) (by omega)
  obtain ⟨v5, g5, _⟩ := one_in b (q + 1 + 1 + 1 + 1) [255, 128, 0, 200] (by simp) (by simp) hb (by omega) (by omega)
  refine ⟨w, h, d, wrap64 (v1 - 3), wrap64 (v2 - 2), v3, v5, v4 == 0, q + 1 + 1 + 1 + 1 + 1, hd, by omega, by omega, ?_⟩
  unfold spec_randomLayer.f
  exact ev_bind hr (ev_bind g1 (ev_bind g2 (ev_bind g3 (ev_bind g4 (ev_bind g5 (Ev.now _))))))
theorem anyLayer_ev (b : List Int) (pos p : Int) (hb : Bytes b) (h0 : 0 ≤ pos) (h1 : pos ≤ 40000000) :
    ∃ (w h p' : Int) (d : List Int) (x y m a : Int) (hid : Bool) (q : Int), d.length ≤ 1024 ∧ pos ≤ q ∧ q ≤ pos + 10000 ∧ Ev (fun k => spec_anyLayer.f k b pos p) (w, h, p', d, x, y, m, a, hid, q) := by
  have hp : 1 ≤ mx 1 (mn p 4) ∧ mx 1 (mn p 4) ≤ 4 := by
    unfold mx mn
    split <;> split <;> omega
  obtain ⟨w, h, d, x, y, m, a, hid, q, hd, q1, q2, hr⟩ := randomLayer_ev b pos (mx 1 (mn p 4)) hb h0 (by omega) hp
  obtain ⟨v, g, _⟩ := pick_in b q 24 (by omega) hb (by omega) (by omega)
  unfold spec_anyLayer.f
  by_cases c0 : v = 0
  · obtain ⟨z, gz, _⟩ := one_in b (q + 1) [(-1), 5] (by simp) (by simp) hb (by omega) (by omega)
    exact ⟨w, h, _, d, x, y, z, a, hid, q + 1 + 1, hd, by omega, by omega, ev_bind hr (ev_bind g (ev_pos c0 (ev_bind gz (Ev.now _))))⟩
  · by_cases c1 : v = 1
    · obtain ⟨z, gz, _⟩ := one_in b (q + 1) [(-1), 256] (by simp) (by simp) hb (by omega) (by omega)
      exact ⟨w, h, _, d, x, y, m, z, hid, q + 1 + 1, hd, by omega, by omega, ev_bind hr (ev_bind g (ev_neg c0 (ev_pos c1 (ev_bind gz (Ev.now _)))))⟩
    · by_cases c2 : v = 2
      · obtain ⟨z, gz, _⟩ := one_in b (q + 1) [(-16), (-17), 16, 17] (by simp) (by simp) hb (by omega) (by omega)
        exact ⟨w, h, _, d, z, y, m, a, hid, q + 1 + 1, hd, by omega, by omega, ev_bind hr (ev_bind g (ev_neg c0 (ev_neg c1 (ev_pos c2 (ev_bind gz (Ev.now _))))))⟩
      · by_cases c3 : v = 3
        · obtain ⟨w2, h2, p2, d2, q', hd2, q3, q4, hi⟩ := anyImage_ev b (q + 1) hb (by omega) (by omega)
          exact ⟨w2, h2, p2, d2, x, y, m, a, hid, q', hd2, by omega, by omega, ev_bind hr (ev_bind g (ev_neg c0 (ev_neg c1 (ev_neg c2 (ev_pos c3 (ev_bind hi (Ev.now _)))))))⟩
        · exact ⟨w, h, _, d, x, y, m, a, hid, q + 1, hd, by omega, by omega, ev_bind hr (ev_bind g (ev_neg c0 (ev_neg c1 (ev_neg c2 (ev_neg c3 (Ev.now _))))))⟩

/- Lists of numbers and images, compared one by one. -/

theorem equalIntsC (l m : List Int) (hl : l.length ≤ 1000000) : Ev (fun k => laws_equalInts.f k l m) (decide (l = m)) := by
  unfold laws_equalInts.f
  by_cases hn : l.length = m.length
  · have key := ev_up l.length (fun k i (_ : Unit) => laws_equalInts.l0 k l m (i : Int)) (fun _ _ => True) (fun i _ => decide (l.drop i = m.drop i))
      (by
        intro i s hi _
        have e1 := List.drop_eq_getElem_cons hi
        have e2 := List.drop_eq_getElem_cons (show i < m.length by omega)
        by_cases c : l[i] = m[i]'(by omega)
        · refine .inr ⟨(), fun k => ?_, trivial, ?_⟩
          · simp only [laws_equalInts.l0]
            rw [if_pos (by omega), if_pos (by omega), if_pos (by omega), rd_nat l i hi, rd_nat m i (by omega), if_pos c, w64n i (by omega)]
          · rw [e1, e2, decide_eq_decide, List.cons.injEq]
            exact ⟨fun h => ⟨c, h⟩, fun h => h.2⟩
        · left
          rw [e1, e2, decide_eq_false (by rw [List.cons.injEq]; exact fun h => c h.1)]
          refine Ev.step (f := fun _ => some false) (fun k => ?_) (Ev.now _)
          simp only [laws_equalInts.l0]
          rw [if_pos (by omega), if_pos (by omega), if_pos (by omega), rd_nat l i hi, rd_nat m i (by omega), if_neg c])
      (by
        intro s _
        refine Ev.step (f := fun _ => some true) (fun k => ?_) (ev_const (by rw [List.drop_length, hn, List.drop_length]; rfl))
        simp only [laws_equalInts.l0]
        rw [if_neg (by omega)])
      l.length 0 () (by omega) trivial
    exact ev_pos (by omega) (by simpa using key)
  · refine ev_neg (by omega) ?_
    rw [decide_eq_false (fun h => hn (by rw [h]))]
    exact Ev.now _
theorem equalImage_ev (a b p : Int) (d : List Int) (a' b' p' : Int) (d' : List Int) (hl : d.length ≤ 1000000) : Ev (fun k => laws_equalImage.f k a b p d a' b' p' d') (decide (a = a' ∧ b = b' ∧ p = p' ∧ d = d')) := by
  unfold laws_equalImage.f
  by_cases c1 : a = a'
  · refine ev_pos c1 ?_
    by_cases c2 : b = b'
    · refine ev_pos c2 ?_
      by_cases c3 : p = p'
      · refine ev_pos c3 ?_
        rw [decide_eq_decide.2 (show (a = a' ∧ b = b' ∧ p = p' ∧ d = d') ↔ d = d' from ⟨fun h => h.2.2.2, fun h => ⟨c1, c2, c3, h⟩⟩)]
        exact ev_bind (equalIntsC d d' hl) (Ev.now _)
      · refine ev_neg c3 ?_
        rw [decide_eq_false (fun h => c3 h.2.2.1)]
        exact Ev.now _
    · refine ev_neg c2 ?_
      rw [decide_eq_false (fun h => c2 h.2.1)]
      exact Ev.now _
  · refine ev_neg c1 ?_
    rw [decide_eq_false (fun h => c1 h.1)]
    exact Ev.now _

/- Opaque layers are pasted: the law FnCoverImage over lists of numbers alone. -/

theorem drawCover (code : List Int) (hw : ∀ x ∈ code, (Lit.int .u8 x).wf = true) : ∃ (w h p : Int) (d : List Int) (w' h' p' : Int) (d' : List Int) (x y m a : Int) (hid : Bool), d.length ≤ 1024 ∧ d'.length ≤ 1024 ∧ Ev (fun k => spec_DrawCoverImage.f k code) (w, h, p, d, w', h', p', d', x, y, m, a, hid) := by
  obtain ⟨b, hb, hB⟩ := newReader_at code (code_bytes code hw)
  obtain ⟨w, h, p, d, q, hd, q1, q2, he⟩ := anyImage_ev b 0 hB (by omega) (by omega)
  obtain ⟨w', h', p', d', x, y, m, a, hid, q', hd', q3, q4, hl⟩ := anyLayer_ev b q p hB (by omega) (by omega)
  refine ⟨w, h, p, d, w', h', p', d', x, y, m, a, hid, hd, hd', ?_⟩
  unfold spec_DrawCoverImage.f
  exact ev_now hb (ev_bind he (ev_bind hl (Ev.now _)))
theorem covL_none (mode : Int) : ∀ (l u : List Int), l.length ≤ u.length → covL mode 0 l u = l := by
  intro l
  induction l with
  | nil => intro u _; rfl
  | cons z l ih =>
    intro u hu
    cases u with
    | nil => simp at hu
    | cons v u =>
      unfold covL at ih ⊢
      rw [List.zipWith_cons_cons, cover_none, ih u (by simpa using hu)]
theorem covL_full : ∀ (u l : List Int), u.length ≤ l.length → covL 0 255 l u = u := by
  intro u
  induction u with
  | nil => intro l _; unfold covL; simp
  | cons v u ih =>
    intro l hl
    cases l with
    | nil => simp at hl
    | cons z l =>
      unfold covL at ih ⊢
      rw [List.zipWith_cons_cons, cover_full, ih l (by simpa using hl)]
      rfl
theorem valid_img {an bn pn : Nat} {px : Nat → Nat → List Int} (h1 : 1 ≤ an ∧ an ≤ 16) (h2 : 1 ≤ bn ∧ bn ≤ 16) (h3 : 1 ≤ pn ∧ pn ≤ 4) (hl : ∀ x y, x < an → y < bn → (px x y).length = pn) (hb : ∀ x y, x < an → y < bn → AllB (px x y)) : validI an bn pn (imgD px an bn) = true := by
  refine (validI_iff _ _ _ _).2 ⟨by omega, by rw [imgD_length hl, Nat.mul_comm bn an]; push_cast; rfl, fun n hn => ?_⟩
  unfold imgD rowD at hn
  obtain ⟨y, hy, hn⟩ := List.mem_flatMap.1 hn
  obtain ⟨x, hx, hn⟩ := List.mem_flatMap.1 hn
  exact hb x y (List.mem_range.1 hx) (List.mem_range.1 hy) n hn
theorem FnCoverImage : laws_FnCoverImage.Pure := by
  intro code _ _ hw
  apply Ev.rounds
  unfold laws_FnCoverImage.f
  by_cases c : (code.length : Int) > 1048576
  · exact ev_pos c (Ev.now true)
  refine ev_neg c ?_
  obtain ⟨w, h, p, d, w', h', p', d', x, y, m, a, hid, hdl, hdl', hd⟩ := drawCover code hw
  have hI := impl_CoverImage_eq w h p d w' h' p' d' x y m a hid
  have hS := spec_CoverImage_ev w h p d w' h' p' d' x y m a hid (by omega) (by omega)
  by_cases hc : validI w h p d = true ∧ layerV w' h' p' d' x y m a p = true
  · have hV : coverV w h p d w' h' p' d' x y m a = (w, h, p, imgD (covPx w.toNat p.toNat d x y w'.toNat h'.toNat d' m a) w.toNat h.toNat, true) := by unfold coverV; rw [if_pos hc]
    have hVl := coverV_len w h p d w' h' p' d' x y m a
    rw [hV] at hI hS hVl
    obtain ⟨c1, c2⟩ := hc
    obtain ⟨hvl, rfl, hx1, hx2, hy1, hy2, hm1, hm2, ha1, ha2⟩ := (layerV_iff _ _ _ _ _ _ _ _ _).1 c2
    have hF := impl_CoverImage_eq w h p' d w' h' p' d' x y 0 255 false
    have hN := impl_CoverImage_eq w h p' d w' h' p' d' x y m 0 false
    have lF : layerV w' h' p' d' x y 0 255 p' = true := (layerV_iff _ _ _ _ _ _ _ _ _).2 ⟨hvl, rfl, hx1, hx2, hy1, hy2, by omega, by omega, by omega, by omega⟩
    have lN : layerV w' h' p' d' x y m 0 p' = true := (layerV_iff _ _ _ _ _ _ _ _ _).2 ⟨hvl, rfl, hx1, hx2, hy1, hy2, hm1, hm2, by omega, by omega⟩
    unfold coverV at hF hN
    rw [if_pos ⟨c1, lF⟩] at hF
    rw [if_pos ⟨c1, lN⟩] at hN
    have hP : impl_PasteImage.f w h p' d x y w' h' p' d' = some (w, h, p', imgD (laidPx w p' d w' h' d' x y) w.toNat h.toNat, true) := by
      unfold impl_PasteImage.f
      rw [if_pos ⟨c1, hvl, rfl, ⟨hx1, hx2⟩, hy1, hy2⟩]
    have hb1 := ((validI_iff _ _ _ _).1 c1).2.2
    have hb2 := ((validI_iff _ _ _ _).1 hvl).2.2
    obtain ⟨an, bn, pn, rfl, rfl, rfl, q1, q2, q3, q4, q5, q6, q7⟩ := nat_of c1
    obtain ⟨wn, hn, pm, rfl, rfl, hpm, q11, q12, q13, q14, _, _, q17⟩ := nat_of hvl
    have hpm := Int.ofNat.inj hpm
    subst hpm
    simp only [Int.toNat_natCast] at hI hS hF hN hP hVl
    have eF : imgD (covPx an pn d x y wn hn d' 0 255) an bn = imgD (laidPx an pn d wn hn d' x y) an bn := imgD_congr (fun i j hi hj => by
      unfold covPx laidPx inPart
      by_cases z : x ≤ (i : Int) ∧ (i : Int) < x + wn ∧ y ≤ (j : Int) ∧ (j : Int) < y + hn
      · rw [if_pos z, if_pos (decide_eq_true z), pxAt_nat q12 q14 q6 (by omega) (by omega), covL_full _ _ (by rw [nx_length q7 (lin_lt hi hj), nx_length q17 (lin_lt (by omega) (by omega))]; exact Nat.le_refl _)]
      · rw [if_neg z, if_neg (by simpa using z), pxAt_nat q2 q4 q6 hi hj])
    have eN : imgD (covPx an pn d x y wn hn d' m 0) an bn = d := by
      rw [imgD_congr (g := fun i j => nx pn d (j * an + i)) (fun i j hi hj => by
        unfold covPx
        by_cases z : x ≤ (i : Int) ∧ (i : Int) < x + wn ∧ y ≤ (j : Int) ∧ (j : Int) < y + hn
        · rw [if_pos z, covL_none _ _ _ (by rw [nx_length q7 (lin_lt hi hj), nx_length q17 (lin_lt (by omega) (by omega))]; exact Nat.le_refl _)]
        · rw [if_neg z])]
      exact imgD_nx q7
    rw [eF] at hF
    rw [eN] at hN
    have hval : validI an bn pn (imgD (covPx an pn d x y wn hn d' m a) an bn) = true := valid_img ⟨q1, q2⟩ ⟨q3, q4⟩ ⟨q5, q6⟩ (covPx_len m a q7 q17) (fun i j hi hj => by
      unfold covPx
      split
      · exact covL_bytes ⟨ha1, ha2⟩ (allB_nx hb1 _ _) (allB_nx hb2 _ _)
      · exact allB_nx hb1 _ _)
    have hval' : impl_ValidImage.f an bn pn (imgD (covPx an pn d x y wn hn d' m a) an bn) = some true := by
      unfold impl_ValidImage.f
      rw [impl_isImage_eq, hval]
      rfl
    have hLl : (imgD (laidPx an pn d wn hn d' x y) an bn).length ≤ 1000000 := by
      rw [← eF, imgD_length (covPx_len 0 255 q7 q17)]
      have := small q2 q4 q6
      omega
    generalize imgD (covPx an pn d x y wn hn d' m a) an bn = D at *
    generalize imgD (laidPx an pn d wn hn d' x y) an bn = L at *
    have hVl : D.length ≤ 1024 := hVl
    have heq := ev_val (equalImage_ev an bn pn D an bn pn D (by omega)) (decide_eq_true ⟨rfl, rfl, rfl, rfl⟩)
    have heq2 := ev_val (equalImage_ev an bn pn L an bn pn L (by omega)) (decide_eq_true ⟨rfl, rfl, rfl, rfl⟩)
    have heq3 := ev_val (equalImage_ev an bn pn d an bn pn d (by omega)) (decide_eq_true ⟨rfl, rfl, rfl, rfl⟩)
    refine ev_bind hd (ev_now hI (ev_bind hS (ev_bind heq (ev_pos rfl (ev_neg (by simp) ?_)))))
    refine Ev.step (f := fun k => (impl_CoverImage.f an bn pn d wn hn pn d' x y 0 255 false).bind fun t => (impl_PasteImage.f an bn pn d x y wn hn pn d').bind fun u => (impl_CoverImage.f an bn pn d wn hn pn d' x y m 0 false).bind fun v => if t.2.2.2.2 = true then (if u.2.2.2.2 = true then ((laws_equalImage.f k t.1 t.2.1 t.2.2.1 t.2.2.2.1 u.1 u.2.1 u.2.2.1 u.2.2.2.1).bind fun z => if z = true then (if v.2.2.2.2 = true then ((laws_equalImage.f k v.1 v.2.1 v.2.2.1 v.2.2.2.1 an bn pn d).bind fun z => if z = true then ((impl_ValidImage.f an bn pn D).bind fun z => some z) else some false) else some false) else some false) else some false) else some false) (fun k => ?_) (ev_now hF (ev_now hP (ev_now hN (ev_pos rfl (ev_pos rfl (ev_bind heq2 (ev_pos rfl (ev_pos rfl (ev_bind heq3 (ev_pos rfl (ev_now hval' (Ev.now _))))))))))))
    simp only [laws_FnCoverImage.j0, Bool.not_true]
    rw [if_neg (by simp)]
  · have hV : coverV w h p d w' h' p' d' x y m a = (0, 0, 0, [], false) := by unfold coverV; rw [if_neg hc]
    rw [hV] at hI hS
    have heq := ev_val (equalImage_ev 0 0 0 [] 0 0 0 [] (by simp)) (decide_eq_true ⟨rfl, rfl, rfl, rfl⟩)
    refine ev_bind hd (ev_now hI (ev_bind hS (ev_bind heq (ev_pos rfl (ev_neg (by simp) ?_)))))
    refine Ev.step (f := fun k => (laws_equalImage.f k 0 0 0 [] 0 0 0 []).bind fun t => if t = true then some (false == false) else some false) (fun k => ?_) (ev_bind heq (ev_pos rfl (ev_const rfl)))
    simp only [laws_FnCoverImage.j0, Bool.not_false]
    rw [if_pos trivial]
end Go.Proofs.Ytnofkbbcbpjhfaa.Pure

/- The head of the translation reads as a plain cut. -/
namespace Go.Proofs.Ytnofkbbcbpjhfaa.Head
set_option maxRecDepth 100000
theorem wordsSigns_word (w r : List Char) (h : w.all (fun c => !(c == Char.ofNat 32)) = true) : wordsSigns (w ++ Char.ofNat 32 :: r) = w :: wordsSigns r := by
  induction w with
  | nil => rfl
  | cons c w ih =>
    simp only [List.all_cons, Bool.and_eq_true, Bool.not_eq_true', beq_eq_false_iff_ne, ne_eq] at h
    have h1 := ih (by simpa using h.2)
    rw [List.cons_append, wordsSigns.eq_3 c _ h.1, h1]
def w1 : List Char := [104, 97, 114, 110, 101, 115, 115].map Char.ofNat
def w2 : List Char := [98, 98, 56, 56, 48, 50, 51, 48, 99, 56, 98, 97, 54, 51, 51, 51, 48, 101, 54, 53, 56, 97, 98, 51, 97, 51, 99, 100, 54, 102, 98, 98, 55, 101, 51, 50, 99, 48, 56, 52, 55, 54, 49, 49, 100, 50, 51, 56, 55, 100, 54, 48, 49, 99, 100, 97, 51, 102, 50, 98, 48, 57, 53, 101].map Char.ofNat
def w3 : List Char := [99, 117, 116].map Char.ofNat
def w4 : List Char := [97, 116, 32, 108, 111, 111, 112, 46, 101, 120, 97, 109, 112, 108, 101, 47, 112, 105, 120, 101, 108, 119, 111, 114, 107, 115, 47, 108, 97, 119, 115, 46, 70, 110, 69, 120, 97, 99, 116, 71, 97, 112, 79, 102, 32, 108, 111, 111, 112, 46, 101, 120, 97, 109, 112, 108, 101, 47, 112, 105, 120, 101, 108, 119, 111, 114, 107, 115, 47, 108, 97, 119, 115, 46, 70, 110, 71, 97, 112, 79, 102, 32, 108, 111, 111, 112, 46, 101, 120, 97, 109, 112, 108, 101, 47, 112, 105, 120, 101, 108, 119, 111, 114, 107, 115, 47, 108, 97, 119, 115, 46, 70, 110, 69, 120, 97, 99, 116, 84, 105, 108, 101, 66, 111, 120, 101, 115, 32, 108, 111, 111, 112, 46, 101, 120, 97, 109, 112, 108, 101, 47, 112, 105, 120, 101, 108, 119, 111, 114, 107, 115, 47, 108, 97, 119, 115, 46, 70, 110, 84, 105, 108, 101, 66, 111, 120, 101, 115, 32, 108, 111, 111, 112, 46, 101, 120, 97, 109, 112, 108, 101, 47, 112, 105, 120, 101, 108, 119, 111, 114, 107, 115, 47, 108, 97, 119, 115, 46, 70, 110, 69, 120, 97, 99, 116, 68, 105, 114, 116, 121, 84, 105, 108, 101, 115, 32, 108, 111, 111, 112, 46, 101, 120, 97, 109, 112, 108, 101, 47, 112, 105, 120, 101, 108, 119, 111, 114, 107, 115, 47, 108, 97, 119, 115, 46, 70, 110, 68, 105, 114, 116, 121, 84, 105, 108, 101, 115, 32, 108, 111, 111, 112, 46, 101, 120, 97, 109, 112, 108, 101, 47, 112, 105, 120, 101, 108, 119, 111, 114, 107, 115, 47, 108, 97, 119, 115, 46, 70, 110, 69, 120, 97, 99, 116, 77, 101, 114, 103, 101, 80, 108, 97, 110, 101, 115, 32, 108, 111, 111, 112, 46, 101, 120, 97, 109, 112, 108, 101, 47, 112, 105, 120, 101, 108, 119, 111, 114, 107, 115, 47, 108, 97, 119, 115, 46, 70, 110, 69, 120, 97, 99, 116, 67, 111, 118, 101, 114, 73, 109, 97, 103, 101, 32, 108, 111, 111, 112, 46, 101, 120, 97, 109, 112, 108, 101, 47, 112, 105, 120, 101, 108, 119, 111, 114, 107, 115, 47, 108, 97, 119, 115, 46, 70, 110, 67, 111, 118, 101, 114, 73, 109, 97, 103, 101, 32, 108, 111, 111, 112, 46, 101, 120, 97, 109, 112, 108, 101, 47, 112, 105, 120, 101, 108, 119, 111, 114, 107, 115, 47, 108, 97, 119, 115, 46, 70, 110, 69, 120, 97, 99, 116, 70, 108, 97, 116, 116, 101, 110, 76, 97, 121, 101, 114, 115, 32, 108, 111, 111, 112, 46, 101, 120, 97, 109, 112, 108, 101, 47, 112, 105, 120, 101, 108, 119, 111, 114, 107, 115, 47, 108, 97, 119, 115, 46, 70, 110, 70, 108, 97, 116, 116, 101, 110, 76, 97, 121, 101, 114, 115, 32, 108, 111, 111, 112, 46, 101, 120, 97, 109, 112, 108, 101, 47, 112, 105, 120, 101, 108, 119, 111, 114, 107, 115, 47, 108, 97, 119, 115, 46, 70, 110, 70, 108, 97, 116, 116, 101, 110, 76, 97, 121, 101, 114, 115, 72, 105, 100, 100, 101, 110, 32, 108, 111, 111, 112, 46, 101, 120, 97, 109, 112, 108, 101, 47, 112, 105, 120, 101, 108, 119, 111, 114, 107, 115, 47, 108, 97, 119, 115, 46, 70, 110, 69, 120, 97, 99, 116, 80, 97, 116, 99, 104, 73, 109, 97, 103, 101, 32, 108, 111, 111, 112, 46, 101, 120, 97, 109, 112, 108, 101, 47, 112, 105, 120, 101, 108, 119, 111, 114, 107, 115, 47, 108, 97, 119, 115, 46, 70, 110, 80, 97, 116, 99, 104, 73, 109, 97, 103, 101, 84, 119, 105, 99, 101, 32, 108, 111, 111, 112, 46, 101, 120, 97, 109, 112, 108, 101, 47, 112, 105, 120, 101, 108, 119, 111, 114, 107, 115, 47, 108, 97, 119, 115, 46, 70, 110, 69, 120, 97, 99, 116, 82, 101, 100, 114, 97, 119, 84, 105, 108, 101, 115, 32, 108, 111, 111, 112, 46, 101, 120, 97, 109, 112, 108, 101, 47, 112, 105, 120, 101, 108, 119, 111, 114, 107, 115, 47, 108, 97, 119, 115, 46, 70, 110, 82, 101, 100, 114, 97, 119, 68, 105, 114, 116, 121, 32, 108, 111, 111, 112, 46, 101, 120, 97, 109, 112, 108, 101, 47, 112, 105, 120, 101, 108, 119, 111, 114, 107, 115, 47, 108, 97, 119, 115, 46, 70, 110, 82, 101, 100, 114, 97, 119, 84, 105, 108, 101, 115].map Char.ofNat
theorem signs0 : Try.prog.initOrder = String.ofList (w1 ++ Char.ofNat 32 :: (w2 ++ Char.ofNat 32 :: (w3 ++ Char.ofNat 32 :: w4))) := by kernel_rfl
theorem behind : behindMainWord (wordsSigns Try.prog.initOrder.toList) = w3 :: wordsSigns w4 := by
  rw [signs0, String.toList_ofList, wordsSigns_word w1 _ (by kernel_rfl), wordsSigns_word w2 _ (by kernel_rfl), wordsSigns_word w3 _ (by kernel_rfl)]
  unfold behindMainWord
  dsimp only
  rw [if_pos (by kernel_rfl)]
theorem strip_cut (R : List (List Char)) : stripLifts liftWords (w3 :: R) = ([], w3 :: R) := by kernel_rfl
theorem mayEnter_of (P : Program) (R : List (List Char)) (h : behindMainWord (wordsSigns P.initOrder.toList) = w3 :: R) (h1 : P.laysLater = false) (h2 : P.bearsReflect = false) (h3 : P.doorFits [] = true) : P.mayEnter = true := by
  unfold Program.mayEnter
  rw [h]
  dsimp only
  rw [strip_cut, h1, h2, h3]
  kernel_rfl
theorem liftsFinal_of (P : Program) (R : List (List Char)) (h : behindMainWord (wordsSigns P.initOrder.toList) = w3 :: R) : P.liftsFinal = false := by
  unfold Program.liftsFinal Program.headLifts
  rw [h]
  dsimp only
  rw [strip_cut]
  kernel_rfl
theorem make_of (P : Program) (R : List (List Char)) (h : behindMainWord (wordsSigns P.initOrder.toList) = w3 :: R) : P.make = some .cut := by
  unfold Program.make
  rw [h]
  kernel_rfl
theorem mayEnter : Try.prog.mayEnter = true := mayEnter_of _ _ behind (by kernel_rfl) (by kernel_rfl) (by kernel_rfl)
theorem liftsFinal : Try.prog.liftsFinal = false := liftsFinal_of _ _ behind
theorem make : Try.prog.make = some .cut := make_of _ _ behind
end Go.Proofs.Ytnofkbbcbpjhfaa.Head

-- PRINTED by print.py: the row of the law laws_FnCoverImage, out of its Pure (the session's) and the printed walk. Not trusted: Lean checks it.
namespace Go.Proofs.Ytnofkbbcbpjhfaa.fnCoverImage
open Go.ChangeShapes Go.WideShapes Go.ChangeAt Go.RowKit
open Go.ChangeMaps (open_string shut_string)
set_option linter.unusedVariables false
theorem own : ownKnob Try.prog.godebug = none := by kernel_rfl
theorem laidOut : laidOutB Try.prog = true := by kernel_rfl
def IsRow (k : IntKind) (w : World) (a : Option Addr) (len cap : Nat) (zs : List Int) : Prop :=
  (a = none ∧ len = 0 ∧ cap = 0 ∧ zs = []) ∨
  ∃ x, a = some x ∧ len ≤ cap ∧ cap ≤ maxLen ∧ zs.length = cap ∧ (∀ i, i < zs.length → w.cell? (x.add i) = some (.int k (zs.getD i 0))) ∧ ∀ n ∈ zs, (Lit.int k n).wf = true
set_option maxRecDepth 100000 in
theorem lifted (os : Os) (started : os.Started) (H : Type) (enc : TypeId × Value → H) :
    ReturnsInHanded {} Try.checked os 11 .any (Rows.fnCoverImageSpec.pre6 enc Try.prog Try.f11 Rows.fnCoverImageRow.domain false) (Rows.fnCoverImageSpec.post enc Try.prog Try.f11 false true false false) := by
  refine returnsInHanded_of_change_sized (C := Try.checked) own started (by kernel_rfl) Try.func11
    (ChangeSpec.witness6 (enc := enc) (C := Try.checked) false ⟨#[], #[.slice none 0 0], []⟩ 8 (by kernel_rfl) (by kernel_rfl) (by kernel_rfl) (by kernel_rfl)) ?_
  intro W base args ds gs before hval0 hW hcnd hsz0 _
  have hsz : (DataW.weightsEach Try.prog (Try.f11.params.toList ++ Rows.fnCoverImageSpec.plain.varTypes Try.prog) (ds ++ gs)).all (· ≤ reachBytes) = true := hsz0
  have hval : ∀ (j : Nat) t v, Try.f11.params[j]? = some t → args[j]? = some v → Value.okWide Try.prog W .any base t v := hval0
  have hW' := hW
  obtain ⟨p, q, hA0, hV, rfl, hfz, hnd⟩ := hW
  have hA : DataW.TrodAll enc Try.prog W 0 (fun _ => true) true Try.f11.params.toList args.toList ds p := hA0
  rw [Try.params11] at hA hval hsz
  obtain ⟨v0, vs0, d0, ds0, p0, q0, hargs, rfl, rfl, h0, r0⟩ := trodAll_cons hA
  obtain ⟨rfl, rfl, rfl⟩ := trodAll_nil r0
  obtain rfl : args = #[v0] := by cases args; simp_all
  obtain ⟨rfl, rfl⟩ := trodVars_none hV
  obtain ⟨a0, len0, cap0, rfl⟩ := okWide_slice Try.underlying31 (hval 0 31 v0 rfl rfl)
  have k0 := h0
  have lt0 : ∀ x ∈ p0, x.block < W.heap.size := by obtain ⟨m, hm⟩ := k0; exact DataW.trod_lt m _ _ _ hm
  obtain ⟨z0, w0⟩ : ∃ zs, IsRow .u8 W a0 len0 cap0 zs := by
    obtain ⟨fuel, hf⟩ := h0
    rcases open_ints Try.underlying31 Try.underlying5 (by kernel_rfl) hf with ⟨hcs, _⟩ | ⟨x, l, c, zs, hcs, _, hl, hm, hz, _, hcell, hwz⟩
    · simp [Value.cells] at hcs
      obtain ⟨rfl, rfl, rfl⟩ := hcs
      exact ⟨[], .inl ⟨rfl, rfl, rfl, rfl⟩⟩
    · simp [Value.cells] at hcs
      obtain ⟨rfl, rfl, rfl⟩ := hcs
      exact ⟨zs, .inr ⟨_, rfl, hl, hm, by simpa using hz, hcell, hwz⟩⟩
  have y0 : len0 * 1 ≤ 140737488351232 := Go.Proofs.YtnofkbbcbpjhfaaW.PrintWords.sized_ints hsz (j := 0) (t := 31) rfl rfl Try.underlying31 Try.underlying5 (by kernel_rfl) (by kernel_rfl) h0
  clear hA0 hval0 hsz0 hsz
  refine (Q.laws_FnCoverImage.walk Pure.FnCoverImage a0 len0 cap0 z0 W w0 y0).mono fun e W' ⟨he, bel⟩ => ?_
  subst he
  exact ⟨_, rfl, _, _, _, [], _, [], hW', trodAll_mk1 (shut_bool Try.underlying4 _), (trodAll_cons_mk (Below.trod laidOut (by kernel_rfl) (of_decide_eq_true (by kernel_rfl)) k0 bel lt0) trodAll_mk0), rfl, bel.frame _, fun h => by cases h⟩
set_option maxHeartbeats 4000000 in
theorem closed : joinedFacts Try.prog 11 Try.f11 Rows.fnCoverImageSpec Rows.fnCoverImageRow = true := by
  unfold joinedFacts
  rw [Head.mayEnter, Head.liftsFinal, Head.make]
  simp only [Bool.and_eq_true]
  repeat' apply And.intro
  all_goals first | exact True.intro | (as_aux_lemma => kernel_rfl)
theorem over : Rows.fnCoverImageRow.holds Try.pinned (OpenSpec.ofChange Rows.fnCoverImageSpec) :=
  OpenClaim.holds_of_wide 11 Try.f11 rfl rfl rfl rfl rfl rfl rfl ⟨rfl, rfl, rfl, rfl, rfl⟩ rfl rfl rfl rfl rfl (by kernel_rfl) Try.func11 closed
    (of_decide_eq_true (by kernel_rfl)) (by unfold Func.isWrapper; first | (rw [if_pos (by decide +kernel)]; kernel_rfl) | (rw [if_neg (by decide +kernel)]; exact ⟨rfl, rfl⟩))
    (fun os started H enc _ => lifted os started H enc)
theorem proved : Rows.FnCoverImageSaid := over
#print axioms proved
end Go.Proofs.Ytnofkbbcbpjhfaa.fnCoverImage
namespace Go.Proofs.Ytnofkbbcbpjhfaa
/-- The row, under a short name, for the claim. -/
theorem fnCoverImage_holds : Rows.FnCoverImageSaid := fnCoverImage.proved
end Go.Proofs.Ytnofkbbcbpjhfaa
