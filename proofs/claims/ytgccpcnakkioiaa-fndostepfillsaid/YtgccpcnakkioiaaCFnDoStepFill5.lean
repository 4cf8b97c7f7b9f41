/- A part of the proof that the statement FnDoStepFillSaid holds, under no condition of its own: Filled boxes have one color: the law FnDoStepFill over lists of numbers alone. -/
import Derived.Test.YtgccpcnakkioiaaCFnDoStepFill1
import Derived.Test.YtgccpcnakkioiaaCFnDoStepFill2
import Derived.Test.YtgccpcnakkioiaaCFnDoStepFill3
import Derived.Test.YtgccpcnakkioiaaCFnDoStepFill4
import Derived.Test.YtgccpcnakkioiaaRows
import Derived.JoinedOf
import Derived.KernelRfl
import Derived.WalkKit
import Derived.ProofKit
import Derived.OpenShut
import Derived.ShutString
import Derived.ChangeOld
import Derived.Below
import Derived.SizedLaws
import Derived.Test.YtgccpcnakkioiaaCFnDoStepFillW1
namespace Go.Proofs.Ytgccpcnakkioiaa.Q
open Go.RowKit Go.Proofs.YtgccpcnakkioiaaW.PrintWords Go.Proofs.YtgccpcnakkioiaaW.PrintLast Go.Proofs.YtgccpcnakkioiaaW.PrintMore
open Go.Proofs.YtgccpcnakkioiaaW.PrintWords.Aside0 (mk)
attribute [local go_sem] max2_int min2_int max_two min_two max_three min_three max_four min_four
set_option linter.unusedVariables false
set_option linter.unusedSimpArgs false
def laws_FnDoStepFill.j0 : Nat → Bool → Bool → Bool → Int → Int → Int → List Int → Int → Int → Int → Int → Int → List Int → Int → Int → Int → List Int → Int → Int → Int → List Int → Option (Bool)
 | 0, _, _, _, _, _, _, _, _, _, _, _, _, _, _, _, _, _, _, _, _, _ => none
 | k + 1, x6, x8, x52, xz8, xz9, xz10, xz11, xz17, xz0, xz1, xz2, xz3, xz12, xz4, xz5, xz6, xz7, xz13, xz14, xz15, xz16 => if x52 = true then ((laws_equalImage.f k xz4 xz5 xz6 xz7 xz13 xz14 xz15 xz16).bind fun t6034 => (if t6034 = true then (some (x6 == x8)) else (some false))) else ((impl_CropImage.f xz4 xz5 xz6 xz7 xz0 xz1 xz2 xz3).bind fun bt6035 => ((impl_CropImage.f xz8 xz9 xz10 xz11 xz0 xz1 xz2 xz3).bind fun bt6043 => ((impl_PasteImage.f xz4 xz5 xz6 xz7 xz0 xz1 bt6043.1 bt6043.2.1 bt6043.2.2.1 bt6043.2.2.2.1).bind fun bt6051 => (if bt6035.2.2.2.2 = true then (if bt6043.2.2.2.2 = true then (if bt6051.2.2.2.2 = true then ((impl_FillImage.f k xz2 xz3 xz12).bind fun bt6059 => ((laws_equalImage.f k bt6035.1 bt6035.2.1 bt6035.2.2.1 bt6035.2.2.2.1 bt6059.1 bt6059.2.1 bt6059.2.2.1 bt6059.2.2.2).bind fun t6065 => (if t6065 = true then ((laws_equalImage.f k bt6051.1 bt6051.2.1 bt6051.2.2.1 bt6051.2.2.2.1 xz8 xz9 xz10 xz11).bind fun t6066 => (some t6066)) else (some false)))) else (some false)) else (some false)) else (some false)))))
def laws_FnDoStepFill.f (k : Nat) (l0 : List Int) : Option Bool := if (l0.length : Int) > 1048576 then (some true) else ((spec_DrawDoStep.f k l0).bind fun bt6001 => ((impl_DoStep.f bt6001.1 bt6001.2.1 bt6001.2.2.1 bt6001.2.2.2.1 bt6001.2.2.2.2.1 bt6001.2.2.2.2.2.1 bt6001.2.2.2.2.2.2.1 bt6001.2.2.2.2.2.2.2.1 bt6001.2.2.2.2.2.2.2.2.1 bt6001.2.2.2.2.2.2.2.2.2).bind fun bt6017 => ((spec_DoStep.f k bt6001.1 bt6001.2.1 bt6001.2.2.1 bt6001.2.2.2.1 bt6001.2.2.2.2.1 bt6001.2.2.2.2.2.1 bt6001.2.2.2.2.2.2.1 bt6001.2.2.2.2.2.2.2.1 bt6001.2.2.2.2.2.2.2.2.1 bt6001.2.2.2.2.2.2.2.2.2).bind fun bt6025 => ((laws_equalImage.f k bt6017.1 bt6017.2.1 bt6017.2.2.1 bt6017.2.2.2.1 bt6025.1 bt6025.2.1 bt6025.2.2.1 bt6025.2.2.2.1).bind fun t6033 => (if t6033 = true then (if (bt6017.2.2.2.2 != bt6025.2.2.2.2) = true then (laws_FnDoStepFill.j0 k bt6017.2.2.2.2 bt6025.2.2.2.2 true bt6001.1 bt6001.2.1 bt6001.2.2.1 bt6001.2.2.2.1 bt6001.2.2.2.2.1 bt6001.2.2.2.2.2.1 bt6001.2.2.2.2.2.2.1 bt6001.2.2.2.2.2.2.2.1 bt6001.2.2.2.2.2.2.2.2.1 bt6001.2.2.2.2.2.2.2.2.2 bt6017.1 bt6017.2.1 bt6017.2.2.1 bt6017.2.2.2.1 bt6025.1 bt6025.2.1 bt6025.2.2.1 bt6025.2.2.2.1) else (if bt6017.2.2.2.2 = true then (laws_FnDoStepFill.j0 k bt6017.2.2.2.2 bt6025.2.2.2.2 (bt6001.2.2.2.2.1 != 4) bt6001.1 bt6001.2.1 bt6001.2.2.1 bt6001.2.2.2.1 bt6001.2.2.2.2.1 bt6001.2.2.2.2.2.1 bt6001.2.2.2.2.2.2.1 bt6001.2.2.2.2.2.2.2.1 bt6001.2.2.2.2.2.2.2.2.1 bt6001.2.2.2.2.2.2.2.2.2 bt6017.1 bt6017.2.1 bt6017.2.2.1 bt6017.2.2.2.1 bt6025.1 bt6025.2.1 bt6025.2.2.1 bt6025.2.2.2.1) else (laws_FnDoStepFill.j0 k bt6017.2.2.2.2 bt6025.2.2.2.2 true bt6001.1 bt6001.2.1 bt6001.2.2.1 bt6001.2.2.2.1 bt6001.2.2.2.2.1 bt6001.2.2.2.2.2.1 bt6001.2.2.2.2.2.2.1 bt6001.2.2.2.2.2.2.2.1 bt6001.2.2.2.2.2.2.2.2.1 bt6001.2.2.2.2.2.2.2.2.2 bt6017.1 bt6017.2.1 bt6017.2.2.1 bt6017.2.2.2.1 bt6025.1 bt6025.2.1 bt6025.2.2.1 bt6025.2.2.2.1))) else (laws_FnDoStepFill.j0 k bt6017.2.2.2.2 bt6025.2.2.2.2 true bt6001.1 bt6001.2.1 bt6001.2.2.1 bt6001.2.2.2.1 bt6001.2.2.2.2.1 bt6001.2.2.2.2.2.1 bt6001.2.2.2.2.2.2.1 bt6001.2.2.2.2.2.2.2.1 bt6001.2.2.2.2.2.2.2.2.1 bt6001.2.2.2.2.2.2.2.2.2 bt6017.1 bt6017.2.1 bt6017.2.2.1 bt6017.2.2.2.1 bt6025.1 bt6025.2.1 bt6025.2.2.1 bt6025.2.2.2.1))))))
theorem laws_FnDoStepFill.mono_l : ∀ k, (∀ y0 y1 y2 y3 y4 y5 y6 y7 y8 y9 y10 y11 y12 y13 y14 y15 y16 y17 y18 y19 y20, LeO (laws_FnDoStepFill.j0 k y0 y1 y2 y3 y4 y5 y6 y7 y8 y9 y10 y11 y12 y13 y14 y15 y16 y17 y18 y19 y20) (laws_FnDoStepFill.j0 (k + 1) y0 y1 y2 y3 y4 y5 y6 y7 y8 y9 y10 y11 y12 y13 y14 y15 y16 y17 y18 y19 y20))
 | 0 => fun _ _ _ _ _ _ _ _ _ _ _ _ _ _ _ _ _ _ _ _ _ r h => by simp [laws_FnDoStepFill.j0] at h
 | k + 1 => by
  ·intro y0 y1 y2 y3 y4 y5 y6 y7 y8 y9 y10 y11 y12 y13 y14 y15 y16 y17 y18 y19 y20
   unfold laws_FnDoStepFill.j0
   repeat' first | (with_reducible exact impl_FillImage.mono _ _ _ _) | (with_reducible exact laws_equalImage.mono _ _ _ _ _ _ _ _ _) | (with_reducible exact LeO.refl _) | (with_reducible refine LeO.ite ?_ ?_) | (with_reducible refine LeO.bind ?_ (fun _ => ?_))
theorem laws_FnDoStepFill.mono : ∀ a0 k, LeO (laws_FnDoStepFill.f k a0) (laws_FnDoStepFill.f (k + 1) a0) := by
 intro a0 k
 have ih0 := laws_FnDoStepFill.mono_l k
 unfold laws_FnDoStepFill.f
 repeat' first | (with_reducible exact ih0 _ _ _ _ _ _ _ _ _ _ _ _ _ _ _ _ _ _ _ _ _) | (with_reducible exact laws_equalImage.mono _ _ _ _ _ _ _ _ _) | (with_reducible exact spec_DoStep.mono _ _ _ _ _ _ _ _ _ _ _) | (with_reducible exact spec_DrawDoStep.mono _ _) | (with_reducible exact LeO.refl _) | (with_reducible refine LeO.ite ?_ ?_) | (with_reducible refine LeO.bind ?_ (fun _ => ?_))
def laws_FnDoStepFill.T11 : Bool × List (List Nat × List Nat) := (true, [([], []), ([0], [0]), ([1], [1]), ([1, 2], [1, 2]), ([3, 1], [3]), ([4], [4]), ([4, 5], [4, 5]), ([6, 4], [6]), ([7], [7]), ([7], [7]), ([9, 7], [7, 9]), ([10, 7], [7, 10]), ([7], [7]), ([12, 7], [7, 12]), ([13, 7], [7, 13]), ([7], [7]), ([15, 7], [7, 15]), ([11, 14, 16, 7, 7], [7, 11, 14, 16]), ([8, 17, 17, 7], [7, 8, 17]), ([7, 18], [7, 18]), ([19, 18], [19]), ([20], [20]), ([20], [20]), ([21, 22, 20, 20], [20, 21, 22]), ([20, 23], [20, 23]), ([24, 23, 0, 1, 2, 3, 4, 5, 6, 7, 8, 9, 10, 11, 12, 13, 14, 15, 16, 17, 18, 19, 20, 21, 22, 23, 24], [24])])
def laws_FnDoStepFill.B11 : List Nat := [0, 1, 3, 7, 15, 31, 63, 127, 255, 255, 767, 1791, 255, 4351, 12543, 255, 33023, 130815, 262143, 524287, 1048575, 2097151, 2097151, 8388607, 16777215, 33554431]
theorem laws_FnDoStepFill.tab11 : rtab .any (opsOf Try.f5 11) = laws_FnDoStepFill.T11 := by kernel_rfl
theorem laws_FnDoStepFill.bits11 : waitsOk laws_FnDoStepFill.T11.2 laws_FnDoStepFill.B11 = true := by kernel_rfl
set_option maxHeartbeats 8000000 in
set_option maxRecDepth 100000 in
theorem laws_FnDoStepFill.calls (k : Nat) (A0 : Option Addr) (c0 : Nat) (l0 : List Int) (r : Bool) (w : World) (hr0 : Kd.C (Kd.int .u8) w A0 l0.length l0) (hc0 : l0.length ≤ c0) (h : laws_FnDoStepFill.f k l0 = some r) (hrt : r = true) :
  Calls Try.prog 5 #[.slice A0 l0.length c0] w fun e w' => e = .returned (.bool r) ∧ Below w.heap.size w w' := by
 have HRT := mk hrt
 clear hrt
 have HR0 := mk hr0
 have HC0 := mk hc0
 clear hr0 hc0
 have HB := mk (Below.refl w.heap.size w)
 have H : (if (l0.length : Int) > 1048576 then (some true) else ((spec_DrawDoStep.f k l0).bind fun bt6001 => ((impl_DoStep.f bt6001.1 bt6001.2.1 bt6001.2.2.1 bt6001.2.2.2.1 bt6001.2.2.2.2.1 bt6001.2.2.2.2.2.1 bt6001.2.2.2.2.2.2.1 bt6001.2.2.2.2.2.2.2.1 bt6001.2.2.2.2.2.2.2.2.1 bt6001.2.2.2.2.2.2.2.2.2).bind fun bt6017 => ((spec_DoStep.f k bt6001.1 bt6001.2.1 bt6001.2.2.1 bt6001.2.2.2.1 bt6001.2.2.2.2.1 bt6001.2.2.2.2.2.1 bt6001.2.2.2.2.2.2.1 bt6001.2.2.2.2.2.2.2.1 bt6001.2.2.2.2.2.2.2.2.1 bt6001.2.2.2.2.2.2.2.2.2).bind fun bt6025 => ((laws_equalImage.f k bt6017.1 bt6017.2.1 bt6017.2.2.1 bt6017.2.2.2.1 bt6025.1 bt6025.2.1 bt6025.2.2.1 bt6025.2.2.2.1).bind fun t6033 => (if t6033 = true then (if (bt6017.2.2.2.2 != bt6025.2.2.2.2) = true then (laws_FnDoStepFill.j0 k bt6017.2.2.2.2 bt6025.2.2.2.2 true bt6001.1 bt6001.2.1 bt6001.2.2.1 bt6001.2.2.2.1 bt6001.2.2.2.2.1 bt6001.2.2.2.2.2.1 bt6001.2.2.2.2.2.2.1 bt6001.2.2.2.2.2.2.2.1 bt6001.2.2.2.2.2.2.2.2.1 bt6001.2.2.2.2.2.2.2.2.2 bt6017.1 bt6017.2.1 bt6017.2.2.1 bt6017.2.2.2.1 bt6025.1 bt6025.2.1 bt6025.2.2.1 bt6025.2.2.2.1) else (if bt6017.2.2.2.2 = true then (laws_FnDoStepFill.j0 k bt6017.2.2.2.2 bt6025.2.2.2.2 (bt6001.2.2.2.2.1 != 4) bt6001.1 bt6001.2.1 bt6001.2.2.1 bt6001.2.2.2.1 bt6001.2.2.2.2.1 bt6001.2.2.2.2.2.1 bt6001.2.2.2.2.2.2.1 bt6001.2.2.2.2.2.2.2.1 bt6001.2.2.2.2.2.2.2.2.1 bt6001.2.2.2.2.2.2.2.2.2 bt6017.1 bt6017.2.1 bt6017.2.2.1 bt6017.2.2.2.1 bt6025.1 bt6025.2.1 bt6025.2.2.1 bt6025.2.2.2.1) else (laws_FnDoStepFill.j0 k bt6017.2.2.2.2 bt6025.2.2.2.2 true bt6001.1 bt6001.2.1 bt6001.2.2.1 bt6001.2.2.2.1 bt6001.2.2.2.2.1 bt6001.2.2.2.2.2.1 bt6001.2.2.2.2.2.2.1 bt6001.2.2.2.2.2.2.2.1 bt6001.2.2.2.2.2.2.2.2.1 bt6001.2.2.2.2.2.2.2.2.2 bt6017.1 bt6017.2.1 bt6017.2.2.1 bt6017.2.2.2.1 bt6025.1 bt6025.2.1 bt6025.2.2.1 bt6025.2.2.2.1))) else (laws_FnDoStepFill.j0 k bt6017.2.2.2.2 bt6025.2.2.2.2 true bt6001.1 bt6001.2.1 bt6001.2.2.1 bt6001.2.2.2.1 bt6001.2.2.2.2.1 bt6001.2.2.2.2.2.1 bt6001.2.2.2.2.2.2.1 bt6001.2.2.2.2.2.2.2.1 bt6001.2.2.2.2.2.2.2.2.1 bt6001.2.2.2.2.2.2.2.2.2 bt6017.1 bt6017.2.1 bt6017.2.2.1 bt6017.2.2.2.1 bt6025.1 bt6025.2.1 bt6025.2.2.1 bt6025.2.2.2.1))))))) = some r := h
 clear h
 by_cases c2 : (l0.length : Int) > 1048576
 ·rw [if_pos c2] at H
  have c2b0 : decide (1048576 < (l0.length : Int)) = true := decide_eq_true c2
  clear c2
  obtain rfl := Option.some.inj H
  go_enter Try.func5, Try.ntmps5
  go_wp2
  go_ret
  exact ⟨by rfl, by exact HB.out⟩
 rw [if_neg c2] at H
 have c2b0 : decide (1048576 < (l0.length : Int)) = false := decide_eq_false c2
 have c2b1 : decide (1048576 < l0.length) = false := decide_eq_false (by omega)
 clear c2
 replace H := Option.bind_eq_some_iff.mp H
 obtain ⟨⟨t6001, t6002, t6003, t6004, t6007, t6008, t6009, t6010, t6011, t6012⟩, A30, H⟩ := H
 replace H : ((impl_DoStep.f t6001 t6002 t6003 t6004 t6007 t6008 t6009 t6010 t6011 t6012).bind fun bt6017 => ((spec_DoStep.f k t6001 t6002 t6003 t6004 t6007 t6008 t6009 t6010 t6011 t6012).bind fun bt6025 => ((laws_equalImage.f k bt6017.1 bt6017.2.1 bt6017.2.2.1 bt6017.2.2.2.1 bt6025.1 bt6025.2.1 bt6025.2.2.1 bt6025.2.2.2.1).bind fun t6033 => (if t6033 = true then (if (bt6017.2.2.2.2 != bt6025.2.2.2.2) = true then (laws_FnDoStepFill.j0 k bt6017.2.2.2.2 bt6025.2.2.2.2 true t6001 t6002 t6003 t6004 t6007 t6008 t6009 t6010 t6011 t6012 bt6017.1 bt6017.2.1 bt6017.2.2.1 bt6017.2.2.2.1 bt6025.1 bt6025.2.1 bt6025.2.2.1 bt6025.2.2.2.1) else (if bt6017.2.2.2.2 = true then (laws_FnDoStepFill.j0 k bt6017.2.2.2.2 bt6025.2.2.2.2 (t6007 != 4) t6001 t6002 t6003 t6004 t6007 t6008 t6009 t6010 t6011 t6012 bt6017.1 bt6017.2.1 bt6017.2.2.1 bt6017.2.2.2.1 bt6025.1 bt6025.2.1 bt6025.2.2.1 bt6025.2.2.2.1) else (laws_FnDoStepFill.j0 k bt6017.2.2.2.2 bt6025.2.2.2.2 true t6001 t6002 t6003 t6004 t6007 t6008 t6009 t6010 t6011 t6012 bt6017.1 bt6017.2.1 bt6017.2.2.1 bt6017.2.2.2.1 bt6025.1 bt6025.2.1 bt6025.2.2.1 bt6025.2.2.2.1))) else (laws_FnDoStepFill.j0 k bt6017.2.2.2.2 bt6025.2.2.2.2 true t6001 t6002 t6003 t6004 t6007 t6008 t6009 t6010 t6011 t6012 bt6017.1 bt6017.2.1 bt6017.2.2.1 bt6017.2.2.2.1 bt6025.1 bt6025.2.1 bt6025.2.2.1 bt6025.2.2.2.1))))) = some r := H
 have A3 := mk A30
 clear A30
 replace H := Option.bind_eq_some_iff.mp H
 obtain ⟨⟨t6017, t6018, t6019, t6020, t6023⟩, A40, H⟩ := H
 replace H : ((spec_DoStep.f k t6001 t6002 t6003 t6004 t6007 t6008 t6009 t6010 t6011 t6012).bind fun bt6025 => ((laws_equalImage.f k t6017 t6018 t6019 t6020 bt6025.1 bt6025.2.1 bt6025.2.2.1 bt6025.2.2.2.1).bind fun t6033 => (if t6033 = true then (if (t6023 != bt6025.2.2.2.2) = true then (laws_FnDoStepFill.j0 k t6023 bt6025.2.2.2.2 true t6001 t6002 t6003 t6004 t6007 t6008 t6009 t6010 t6011 t6012 t6017 t6018 t6019 t6020 bt6025.1 bt6025.2.1 bt6025.2.2.1 bt6025.2.2.2.1) else (if t6023 = true then (laws_FnDoStepFill.j0 k t6023 bt6025.2.2.2.2 (t6007 != 4) t6001 t6002 t6003 t6004 t6007 t6008 t6009 t6010 t6011 t6012 t6017 t6018 t6019 t6020 bt6025.1 bt6025.2.1 bt6025.2.2.1 bt6025.2.2.2.1) else (laws_FnDoStepFill.j0 k t6023 bt6025.2.2.2.2 true t6001 t6002 t6003 t6004 t6007 t6008 t6009 t6010 t6011 t6012 t6017 t6018 t6019 t6020 bt6025.1 bt6025.2.1 bt6025.2.2.1 bt6025.2.2.2.1))) else (laws_FnDoStepFill.j0 k t6023 bt6025.2.2.2.2 true t6001 t6002 t6003 t6004 t6007 t6008 t6009 t6010 t6011 t6012 t6017 t6018 t6019 t6020 bt6025.1 bt6025.2.1 bt6025.2.2.1 bt6025.2.2.2.1)))) = some r := H
 have A4 := mk A40
 clear A40
 replace H := Option.bind_eq_some_iff.mp H
 obtain ⟨⟨t6025, t6026, t6027, t6028, t6031⟩, A50, H⟩ := H
 replace H : ((laws_equalImage.f k t6017 t6018 t6019 t6020 t6025 t6026 t6027 t6028).bind fun t6033 => (if t6033 = true then (if (t6023 != t6031) = true then (laws_FnDoStepFill.j0 k t6023 t6031 true t6001 t6002 t6003 t6004 t6007 t6008 t6009 t6010 t6011 t6012 t6017 t6018 t6019 t6020 t6025 t6026 t6027 t6028) else (if t6023 = true then (laws_FnDoStepFill.j0 k t6023 t6031 (t6007 != 4) t6001 t6002 t6003 t6004 t6007 t6008 t6009 t6010 t6011 t6012 t6017 t6018 t6019 t6020 t6025 t6026 t6027 t6028) else (laws_FnDoStepFill.j0 k t6023 t6031 true t6001 t6002 t6003 t6004 t6007 t6008 t6009 t6010 t6011 t6012 t6017 t6018 t6019 t6020 t6025 t6026 t6027 t6028))) else (laws_FnDoStepFill.j0 k t6023 t6031 true t6001 t6002 t6003 t6004 t6007 t6008 t6009 t6010 t6011 t6012 t6017 t6018 t6019 t6020 t6025 t6026 t6027 t6028))) = some r := H
 have A5 := mk A50
 clear A50
 have HC6 := mk H
 clear H
 go_enter Try.func5, Try.ntmps5
 go_upto_region 6 with (first | ((with_reducible refine gate_callee (f := 21) rfl ?_); refine goesL_ (some 20) rfl rfl Try.func21 (by kernel_rfl) rfl #[.slice A0 l0.length c0] rfl (by (try simp only [List.map_toArray, List.map_cons, List.map_nil]); rfl) ?_; (with_reducible refine (spec_DrawDoStep.calls k _ _ l0 t6001 t6002 t6003 t6004 t6007 t6008 t6009 t6010 t6011 t6012 _ ?side1 ?side2 A3.out).mono ?_); (case side1 => repeat (exact HR0.out)); (case side2 => exact HC0.out); rintro e w7 ⟨v6005, v6013, rfl, ho0, ho1, hb⟩; refine ⟨_, rfl, ?_⟩; have HO6006 := mk (Kd.Q_lower ho0 (below_size HB.out)); have HO6014 := mk (Kd.Q_lower ho1 (below_size HB.out)); replace HB := mk (below_step HB.out hb); (try clear hb); (try clear ho0); (try clear ho1)) | ((with_reducible refine gate_dst (N := 3) rfl ?_); refine box_event (by rfl) (N := 3) (by rfl) (cs := #[.int .i64 0, .int .i64 0, .int .i64 0, .slice none 0 0]) (t := 28) (by go_simp; done) ?_; intro gb6015 hg w8 hbox hb; replace HO6006 := mk (Kd.Q_below HO6006.out hb); replace HO6014 := mk (Kd.Q_below HO6014.out hb); have BK6015 := mk (hbox); have GE6015 := mk ((by rw [hg]; exact (below_size HB.out) : w.heap.size ≤ gb6015)); replace HB := mk (below_step HB.out hb); clear hb hbox hg) | ((with_reducible refine gate_dst (N := 4) rfl ?_); refine box_event (by rfl) (N := 4) (by rfl) (cs := #[.int .i64 0, .int .i64 0, .int .i64 0, .int .i64 0, .int .i64 0, .slice none 0 0]) (t := 43) (by go_simp; done) ?_; intro gb6016 hg w9 hbox hb; replace HO6006 := mk (Kd.Q_below HO6006.out hb); replace HO6014 := mk (Kd.Q_below HO6014.out hb); have BK6016 := mk (hbox); have GE6016 := mk ((by rw [hg]; exact (below_size HB.out) : w.heap.size ≤ gb6016)); replace HB := mk (below_step HB.out hb); have NB6015_6016 := mk ((by rw [hg]; exact Nat.ne_of_lt (blk_lt BK6015.out) : gb6015 ≠ gb6016)); have NB6016_6015 := mk ((by rw [hg]; exact Nat.ne_of_gt (blk_lt BK6015.out) : gb6016 ≠ gb6015)); replace BK6015 := mk (blk_below BK6015.out hb); clear hb hbox hg; have hnc10 := NB6016_6015.out; have hcz11_0 : w9.cell? ⟨gb6015, 0, none⟩ = some (.int .i64 0) := (blk_cell BK6015.out 0).trans rfl; have hcz11_1 : w9.cell? ⟨gb6015, 1, none⟩ = some (.int .i64 0) := (blk_cell BK6015.out 1).trans rfl; have hcz11_2 : w9.cell? ⟨gb6015, 2, none⟩ = some (.int .i64 0) := (blk_cell BK6015.out 2).trans rfl; have hcz11_3 : w9.cell? ⟨gb6015, 3, none⟩ = some (.slice none 0 0) := (blk_cell BK6015.out 3).trans rfl; have hfz11_0 := blk_frozen BK6015.out 0; have hfz11_1 := blk_frozen BK6015.out 1; have hfz11_2 := blk_frozen BK6015.out 2; have hfz11_3 := blk_frozen BK6015.out 3; obtain ⟨Ao12, co12, eo12, _⟩ := Kd.Q_slice HO6006.out; subst eo12; have hcz13_0 : w9.cell? ⟨gb6016, 0, none⟩ = some (.int .i64 0) := (blk_cell BK6016.out 0).trans rfl; have hcz13_1 : w9.cell? ⟨gb6016, 1, none⟩ = some (.int .i64 0) := (blk_cell BK6016.out 1).trans rfl; have hcz13_2 : w9.cell? ⟨gb6016, 2, none⟩ = some (.int .i64 0) := (blk_cell BK6016.out 2).trans rfl; have hcz13_3 : w9.cell? ⟨gb6016, 3, none⟩ = some (.int .i64 0) := (blk_cell BK6016.out 3).trans rfl; have hcz13_4 : w9.cell? ⟨gb6016, 4, none⟩ = some (.int .i64 0) := (blk_cell BK6016.out 4).trans rfl; have hcz13_5 : w9.cell? ⟨gb6016, 5, none⟩ = some (.slice none 0 0) := (blk_cell BK6016.out 5).trans rfl; have hfz13_0 := blk_frozen BK6016.out 0; have hfz13_1 := blk_frozen BK6016.out 1; have hfz13_2 := blk_frozen BK6016.out 2; have hfz13_3 := blk_frozen BK6016.out 3; have hfz13_4 := blk_frozen BK6016.out 4; have hfz13_5 := blk_frozen BK6016.out 5; obtain ⟨Ao14, co14, eo14, _⟩ := Kd.Q_slice HO6014.out; subst eo14) | ((with_reducible refine gate_callee (f := 22) rfl ?_); refine goesL_ (some 26) rfl rfl Try.func22 (by kernel_rfl) rfl #[.agg #[.int .i64 t6001, .int .i64 t6002, .int .i64 t6003, .slice Ao12 t6004.length co12], .agg #[.int .i64 t6007, .int .i64 t6008, .int .i64 t6009, .int .i64 t6010, .int .i64 t6011, .slice Ao14 t6012.length co14]] rfl (by (try simp only [List.map_toArray, List.map_cons, List.map_nil]); rfl) ?_; (with_reducible refine (impl_DoStep.calls t6001 t6002 t6003 _ _ t6004 t6007 t6008 t6009 t6010 t6011 _ _ t6012 t6017 t6018 t6019 t6020 t6023 _ ?side1 ?side2 ?side3 ?side4 A4.out).mono ?_); (case side1 => refine (Kd.Q_reads' (e := 3) (base := w.heap.size) (ok := fun k_ => some k_ ≠ (.slice Ao14 t6012.length co14 : Value).ownBlock) (n := t6004.length) (c := co12) ?_).2.2; exact (by exact (Kd.Q_mono (Kd.Q_mono (Kd.Q_far (p := ⟨gb6016, 5, none⟩) (Kd.Q_far (p := ⟨gb6016, 4, none⟩) (Kd.Q_far (p := ⟨gb6016, 3, none⟩) (Kd.Q_far (p := ⟨gb6016, 2, none⟩) (Kd.Q_far (p := ⟨gb6016, 1, none⟩) (Kd.Q_far (p := ⟨gb6016, 0, none⟩) (Kd.Q_far (p := ⟨gb6015, 3, none⟩) (Kd.Q_far (p := ⟨gb6015, 2, none⟩) (Kd.Q_far (p := ⟨gb6015, 1, none⟩) (Kd.Q_far (p := ⟨gb6015, 0, none⟩) (Kd.Q_types (Kd.Q_types HO6006.out BK6015.out (by decide)) BK6016.out (by decide)) (fun _ hk => hk.1.2) (.int .i64 t6001)) (fun _ hk => hk.1.2) (.int .i64 t6002)) (fun _ hk => hk.1.2) (.int .i64 t6003)) (fun _ hk => hk.1.2) (.slice Ao12 t6004.length co12)) (fun _ hk => hk.2) (.int .i64 t6007)) (fun _ hk => hk.2) (.int .i64 t6008)) (fun _ hk => hk.2) (.int .i64 t6009)) (fun _ hk => hk.2) (.int .i64 t6010)) (fun _ hk => hk.2) (.int .i64 t6011)) (fun _ hk => hk.2) (.slice Ao14 t6012.length co14)) (fun _ h_ => h_.1)) (fun _ h_ => h_.1)))); (case side2 => exact (Kd.Q_reads' HO6006.out).2.1); (case side3 => refine (Kd.Q_reads' (e := 3) (base := w.heap.size) (ok := fun k_ => some k_ ≠ (.slice Ao12 t6004.length co12 : Value).ownBlock) (n := t6012.length) (c := co14) ?_).2.2; exact (by exact (Kd.Q_mono (Kd.Q_mono (Kd.Q_far (p := ⟨gb6016, 5, none⟩) (Kd.Q_far (p := ⟨gb6016, 4, none⟩) (Kd.Q_far (p := ⟨gb6016, 3, none⟩) (Kd.Q_far (p := ⟨gb6016, 2, none⟩) (Kd.Q_far (p := ⟨gb6016, 1, none⟩) (Kd.Q_far (p := ⟨gb6016, 0, none⟩) (Kd.Q_far (p := ⟨gb6015, 3, none⟩) (Kd.Q_far (p := ⟨gb6015, 2, none⟩) (Kd.Q_far (p := ⟨gb6015, 1, none⟩) (Kd.Q_far (p := ⟨gb6015, 0, none⟩) (Kd.Q_types (Kd.Q_types HO6014.out BK6015.out (by decide)) BK6016.out (by decide)) (fun _ hk => hk.1.2) (.int .i64 t6001)) (fun _ hk => hk.1.2) (.int .i64 t6002)) (fun _ hk => hk.1.2) (.int .i64 t6003)) (fun _ hk => hk.1.2) (.slice Ao12 t6004.length co12)) (fun _ hk => hk.2) (.int .i64 t6007)) (fun _ hk => hk.2) (.int .i64 t6008)) (fun _ hk => hk.2) (.int .i64 t6009)) (fun _ hk => hk.2) (.int .i64 t6010)) (fun _ hk => hk.2) (.int .i64 t6011)) (fun _ hk => hk.2) (.slice Ao14 t6012.length co14)) (fun _ h_ => h_.1)) (fun _ h_ => h_.1)))); (case side4 => exact (Kd.Q_reads' HO6014.out).2.1); rintro e w15 ⟨v6021, rfl, ho0, hb⟩; refine ⟨_, rfl, ?_⟩; have HO6022 := mk (Kd.R_lower (Kd.R_new' (Kd.R_new' ho0 (Kd.Q_lt (by exact (Kd.Q_mono (Kd.Q_mono (Kd.Q_far (p := ⟨gb6016, 5, none⟩) (Kd.Q_far (p := ⟨gb6016, 4, none⟩) (Kd.Q_far (p := ⟨gb6016, 3, none⟩) (Kd.Q_far (p := ⟨gb6016, 2, none⟩) (Kd.Q_far (p := ⟨gb6016, 1, none⟩) (Kd.Q_far (p := ⟨gb6016, 0, none⟩) (Kd.Q_far (p := ⟨gb6015, 3, none⟩) (Kd.Q_far (p := ⟨gb6015, 2, none⟩) (Kd.Q_far (p := ⟨gb6015, 1, none⟩) (Kd.Q_far (p := ⟨gb6015, 0, none⟩) (Kd.Q_types (Kd.Q_types HO6006.out BK6015.out (by decide)) BK6016.out (by decide)) (fun _ hk => hk.1.2) (.int .i64 t6001)) (fun _ hk => hk.1.2) (.int .i64 t6002)) (fun _ hk => hk.1.2) (.int .i64 t6003)) (fun _ hk => hk.1.2) (.slice Ao12 t6004.length co12)) (fun _ hk => hk.2) (.int .i64 t6007)) (fun _ hk => hk.2) (.int .i64 t6008)) (fun _ hk => hk.2) (.int .i64 t6009)) (fun _ hk => hk.2) (.int .i64 t6010)) (fun _ hk => hk.2) (.int .i64 t6011)) (fun _ hk => hk.2) (.slice Ao14 t6012.length co14)) (fun _ h_ => h_.1)) (fun _ h_ => h_.1))))) (Kd.Q_lt (by exact (Kd.Q_mono (Kd.Q_mono (Kd.Q_far (p := ⟨gb6016, 5, none⟩) (Kd.Q_far (p := ⟨gb6016, 4, none⟩) (Kd.Q_far (p := ⟨gb6016, 3, none⟩) (Kd.Q_far (p := ⟨gb6016, 2, none⟩) (Kd.Q_far (p := ⟨gb6016, 1, none⟩) (Kd.Q_far (p := ⟨gb6016, 0, none⟩) (Kd.Q_far (p := ⟨gb6015, 3, none⟩) (Kd.Q_far (p := ⟨gb6015, 2, none⟩) (Kd.Q_far (p := ⟨gb6015, 1, none⟩) (Kd.Q_far (p := ⟨gb6015, 0, none⟩) (Kd.Q_types (Kd.Q_types HO6014.out BK6015.out (by decide)) BK6016.out (by decide)) (fun _ hk => hk.1.2) (.int .i64 t6001)) (fun _ hk => hk.1.2) (.int .i64 t6002)) (fun _ hk => hk.1.2) (.int .i64 t6003)) (fun _ hk => hk.1.2) (.slice Ao12 t6004.length co12)) (fun _ hk => hk.2) (.int .i64 t6007)) (fun _ hk => hk.2) (.int .i64 t6008)) (fun _ hk => hk.2) (.int .i64 t6009)) (fun _ hk => hk.2) (.int .i64 t6010)) (fun _ hk => hk.2) (.int .i64 t6011)) (fun _ hk => hk.2) (.slice Ao14 t6012.length co14)) (fun _ h_ => h_.1)) (fun _ h_ => h_.1))))) (below_size (by repeat (with_reducible first | exact HB.out | refine below_set ?_ GE6015.out | refine below_set ?_ GE6016.out)))); replace HO6006 := mk (Kd.Q_elder' (by exact (Kd.Q_mono (Kd.Q_mono (Kd.Q_far (p := ⟨gb6016, 5, none⟩) (Kd.Q_far (p := ⟨gb6016, 4, none⟩) (Kd.Q_far (p := ⟨gb6016, 3, none⟩) (Kd.Q_far (p := ⟨gb6016, 2, none⟩) (Kd.Q_far (p := ⟨gb6016, 1, none⟩) (Kd.Q_far (p := ⟨gb6016, 0, none⟩) (Kd.Q_far (p := ⟨gb6015, 3, none⟩) (Kd.Q_far (p := ⟨gb6015, 2, none⟩) (Kd.Q_far (p := ⟨gb6015, 1, none⟩) (Kd.Q_far (p := ⟨gb6015, 0, none⟩) (Kd.Q_types (Kd.Q_types HO6006.out BK6015.out (by decide)) BK6016.out (by decide)) (fun _ hk => hk.1.2) (.int .i64 t6001)) (fun _ hk => hk.1.2) (.int .i64 t6002)) (fun _ hk => hk.1.2) (.int .i64 t6003)) (fun _ hk => hk.1.2) (.slice Ao12 t6004.length co12)) (fun _ hk => hk.2) (.int .i64 t6007)) (fun _ hk => hk.2) (.int .i64 t6008)) (fun _ hk => hk.2) (.int .i64 t6009)) (fun _ hk => hk.2) (.int .i64 t6010)) (fun _ hk => hk.2) (.int .i64 t6011)) (fun _ hk => hk.2) (.slice Ao14 t6012.length co14)) (fun _ h_ => h_.1)) (fun _ h_ => h_.1))) (Kd.R_base ho0) hb); replace HO6014 := mk (Kd.Q_elder' (by exact (Kd.Q_mono (Kd.Q_mono (Kd.Q_far (p := ⟨gb6016, 5, none⟩) (Kd.Q_far (p := ⟨gb6016, 4, none⟩) (Kd.Q_far (p := ⟨gb6016, 3, none⟩) (Kd.Q_far (p := ⟨gb6016, 2, none⟩) (Kd.Q_far (p := ⟨gb6016, 1, none⟩) (Kd.Q_far (p := ⟨gb6016, 0, none⟩) (Kd.Q_far (p := ⟨gb6015, 3, none⟩) (Kd.Q_far (p := ⟨gb6015, 2, none⟩) (Kd.Q_far (p := ⟨gb6015, 1, none⟩) (Kd.Q_far (p := ⟨gb6015, 0, none⟩) (Kd.Q_types (Kd.Q_types HO6014.out BK6015.out (by decide)) BK6016.out (by decide)) (fun _ hk => hk.1.2) (.int .i64 t6001)) (fun _ hk => hk.1.2) (.int .i64 t6002)) (fun _ hk => hk.1.2) (.int .i64 t6003)) (fun _ hk => hk.1.2) (.slice Ao12 t6004.length co12)) (fun _ hk => hk.2) (.int .i64 t6007)) (fun _ hk => hk.2) (.int .i64 t6008)) (fun _ hk => hk.2) (.int .i64 t6009)) (fun _ hk => hk.2) (.int .i64 t6010)) (fun _ hk => hk.2) (.int .i64 t6011)) (fun _ hk => hk.2) (.slice Ao14 t6012.length co14)) (fun _ h_ => h_.1)) (fun _ h_ => h_.1))) (Kd.R_base ho0) hb); replace BK6015 := mk (blk_below (g := gb6015) (o := .cells #[.int .i64 t6001, .int .i64 t6002, .int .i64 t6003, .slice Ao12 t6004.length co12] 28 (0, 0)) (by refine blk_far ?_ NB6015_6016.out _; refine blk_far ?_ NB6015_6016.out _; refine blk_far ?_ NB6015_6016.out _; refine blk_far ?_ NB6015_6016.out _; refine blk_far ?_ NB6015_6016.out _; refine blk_far ?_ NB6015_6016.out _; refine blk_put (cs := #[.int .i64 t6001, .int .i64 t6002, .int .i64 t6003, .slice none 0 0]) ?_ 3 _ rfl; refine blk_put (cs := #[.int .i64 t6001, .int .i64 t6002, .int .i64 0, .slice none 0 0]) ?_ 2 _ rfl; refine blk_put (cs := #[.int .i64 t6001, .int .i64 0, .int .i64 0, .slice none 0 0]) ?_ 1 _ rfl; refine blk_put (cs := #[.int .i64 0, .int .i64 0, .int .i64 0, .slice none 0 0]) ?_ 0 _ rfl; (with_reducible repeat (first | refine blk_drewN ?_ _ | refine blk_drew ?_ | refine blk_alloc ?_ _)); exact BK6015.out) hb); replace BK6016 := mk (blk_below (g := gb6016) (o := .cells #[.int .i64 t6007, .int .i64 t6008, .int .i64 t6009, .int .i64 t6010, .int .i64 t6011, .slice Ao14 t6012.length co14] 43 (0, 0)) (by refine blk_put (cs := #[.int .i64 t6007, .int .i64 t6008, .int .i64 t6009, .int .i64 t6010, .int .i64 t6011, .slice none 0 0]) ?_ 5 _ rfl; refine blk_put (cs := #[.int .i64 t6007, .int .i64 t6008, .int .i64 t6009, .int .i64 t6010, .int .i64 0, .slice none 0 0]) ?_ 4 _ rfl; refine blk_put (cs := #[.int .i64 t6007, .int .i64 t6008, .int .i64 t6009, .int .i64 0, .int .i64 0, .slice none 0 0]) ?_ 3 _ rfl; refine blk_put (cs := #[.int .i64 t6007, .int .i64 t6008, .int .i64 0, .int .i64 0, .int .i64 0, .slice none 0 0]) ?_ 2 _ rfl; refine blk_put (cs := #[.int .i64 t6007, .int .i64 0, .int .i64 0, .int .i64 0, .int .i64 0, .slice none 0 0]) ?_ 1 _ rfl; refine blk_put (cs := #[.int .i64 0, .int .i64 0, .int .i64 0, .int .i64 0, .int .i64 0, .slice none 0 0]) ?_ 0 _ rfl; refine blk_far ?_ NB6016_6015.out _; refine blk_far ?_ NB6016_6015.out _; refine blk_far ?_ NB6016_6015.out _; refine blk_far ?_ NB6016_6015.out _; (with_reducible repeat (first | refine blk_drewN ?_ _ | refine blk_drew ?_ | refine blk_alloc ?_ _)); exact BK6016.out) hb); replace HB := mk (below_step (by repeat (with_reducible first | exact HB.out | refine below_set ?_ GE6015.out | refine below_set ?_ GE6016.out)) hb); (try clear hb); (try clear ho0)) | ((with_reducible refine gate_dst (N := 5) rfl ?_); refine box_event (by rfl) (N := 5) (by rfl) (cs := #[.int .i64 0, .int .i64 0, .int .i64 0, .slice none 0 0]) (t := 28) (by go_simp; done) ?_; intro gb6024 hg w16 hbox hb; replace HO6006 := mk (Kd.Q_below HO6006.out hb); replace HO6014 := mk (Kd.Q_below HO6014.out hb); replace HO6022 := mk (Kd.R_below HO6022.out hb); have BK6024 := mk (hbox); have GE6024 := mk ((by rw [hg]; exact (below_size HB.out) : w.heap.size ≤ gb6024)); replace HB := mk (below_step HB.out hb); have NB6015_6024 := mk ((by rw [hg]; exact Nat.ne_of_lt (blk_lt BK6015.out) : gb6015 ≠ gb6024)); replace BK6015 := mk (blk_below BK6015.out hb); have NB6016_6024 := mk ((by rw [hg]; exact Nat.ne_of_lt (blk_lt BK6016.out) : gb6016 ≠ gb6024)); have NB6024_6016 := mk ((by rw [hg]; exact Nat.ne_of_gt (blk_lt BK6016.out) : gb6024 ≠ gb6016)); replace BK6016 := mk (blk_below BK6016.out hb); clear hb hbox hg; have hnc17 := NB6015_6024.out; have hnb18 := NB6024_6016.out; have hnc18 := NB6016_6024.out; have hcz19_0 : w16.cell? ⟨gb6024, 0, none⟩ = some (.int .i64 0) := (blk_cell BK6024.out 0).trans rfl; have hcz19_1 : w16.cell? ⟨gb6024, 1, none⟩ = some (.int .i64 0) := (blk_cell BK6024.out 1).trans rfl; have hcz19_2 : w16.cell? ⟨gb6024, 2, none⟩ = some (.int .i64 0) := (blk_cell BK6024.out 2).trans rfl; have hcz19_3 : w16.cell? ⟨gb6024, 3, none⟩ = some (.slice none 0 0) := (blk_cell BK6024.out 3).trans rfl; have hfz19_0 := blk_frozen BK6024.out 0; have hfz19_1 := blk_frozen BK6024.out 1; have hfz19_2 := blk_frozen BK6024.out 2; have hfz19_3 := blk_frozen BK6024.out 3; obtain ⟨Ao20, co20, eo20⟩ := Kd.R_slice HO6022.out; subst eo20; have hcz21_0 : w16.cell? ⟨gb6015, 0, none⟩ = some (.int .i64 t6001) := (blk_cell BK6015.out 0).trans rfl; have hcz21_1 : w16.cell? ⟨gb6015, 1, none⟩ = some (.int .i64 t6002) := (blk_cell BK6015.out 1).trans rfl; have hcz21_2 : w16.cell? ⟨gb6015, 2, none⟩ = some (.int .i64 t6003) := (blk_cell BK6015.out 2).trans rfl; have hcz21_3 : w16.cell? ⟨gb6015, 3, none⟩ = some (.slice Ao12 t6004.length co12) := (blk_cell BK6015.out 3).trans rfl; have hfz21_0 := blk_frozen BK6015.out 0; have hfz21_1 := blk_frozen BK6015.out 1; have hfz21_2 := blk_frozen BK6015.out 2; have hfz21_3 := blk_frozen BK6015.out 3; have hcz22_0 : w16.cell? ⟨gb6016, 0, none⟩ = some (.int .i64 t6007) := (blk_cell BK6016.out 0).trans rfl; have hcz22_1 : w16.cell? ⟨gb6016, 1, none⟩ = some (.int .i64 t6008) := (blk_cell BK6016.out 1).trans rfl; have hcz22_2 : w16.cell? ⟨gb6016, 2, none⟩ = some (.int .i64 t6009) := (blk_cell BK6016.out 2).trans rfl; have hcz22_3 : w16.cell? ⟨gb6016, 3, none⟩ = some (.int .i64 t6010) := (blk_cell BK6016.out 3).trans rfl; have hcz22_4 : w16.cell? ⟨gb6016, 4, none⟩ = some (.int .i64 t6011) := (blk_cell BK6016.out 4).trans rfl; have hcz22_5 : w16.cell? ⟨gb6016, 5, none⟩ = some (.slice Ao14 t6012.length co14) := (blk_cell BK6016.out 5).trans rfl; have hfz22_0 := blk_frozen BK6016.out 0; have hfz22_1 := blk_frozen BK6016.out 1; have hfz22_2 := blk_frozen BK6016.out 2; have hfz22_3 := blk_frozen BK6016.out 3; have hfz22_4 := blk_frozen BK6016.out 4; have hfz22_5 := blk_frozen BK6016.out 5) | ((with_reducible refine gate_callee (f := 23) rfl ?_); refine goesL_ (some 32) rfl rfl Try.func23 (by kernel_rfl) rfl #[.agg #[.int .i64 t6001, .int .i64 t6002, .int .i64 t6003, .slice Ao12 t6004.length co12], .agg #[.int .i64 t6007, .int .i64 t6008, .int .i64 t6009, .int .i64 t6010, .int .i64 t6011, .slice Ao14 t6012.length co14]] rfl (by (try simp only [List.map_toArray, List.map_cons, List.map_nil]); rfl) ?_; (with_reducible refine (spec_DoStep.calls k t6001 t6002 t6003 _ _ t6004 t6007 t6008 t6009 t6010 t6011 _ _ t6012 t6025 t6026 t6027 t6028 t6031 _ ?side1 ?side2 ?side3 ?side4 A5.out).mono ?_); (case side1 => refine (Kd.Q_reads' (e := 3) (base := w.heap.size) (ok := fun k_ => (some k_ ≠ (.slice Ao14 t6012.length co14 : Value).ownBlock ∧ some k_ ≠ (.slice Ao20 t6020.length co20 : Value).ownBlock)) (n := t6004.length) (c := co12) ?_).2.2; exact (by exact (Kd.Q_mono (Kd.Q_far (p := ⟨gb6024, 3, none⟩) (Kd.Q_far (p := ⟨gb6024, 2, none⟩) (Kd.Q_far (p := ⟨gb6024, 1, none⟩) (Kd.Q_far (p := ⟨gb6024, 0, none⟩) (Kd.Q_types HO6006.out BK6024.out (by decide)) (fun _ hk => hk.2) (.int .i64 t6017)) (fun _ hk => hk.2) (.int .i64 t6018)) (fun _ hk => hk.2) (.int .i64 t6019)) (fun _ hk => hk.2) (.slice Ao20 t6020.length co20)) (fun _ h_ => h_.1)))); (case side2 => exact (Kd.Q_reads' HO6006.out).2.1); (case side3 => refine (Kd.Q_reads' (e := 3) (base := w.heap.size) (ok := fun k_ => (some k_ ≠ (.slice Ao12 t6004.length co12 : Value).ownBlock ∧ some k_ ≠ (.slice Ao20 t6020.length co20 : Value).ownBlock)) (n := t6012.length) (c := co14) ?_).2.2; exact (by exact (Kd.Q_mono (Kd.Q_far (p := ⟨gb6024, 3, none⟩) (Kd.Q_far (p := ⟨gb6024, 2, none⟩) (Kd.Q_far (p := ⟨gb6024, 1, none⟩) (Kd.Q_far (p := ⟨gb6024, 0, none⟩) (Kd.Q_types HO6014.out BK6024.out (by decide)) (fun _ hk => hk.2) (.int .i64 t6017)) (fun _ hk => hk.2) (.int .i64 t6018)) (fun _ hk => hk.2) (.int .i64 t6019)) (fun _ hk => hk.2) (.slice Ao20 t6020.length co20)) (fun _ h_ => h_.1)))); (case side4 => exact (Kd.Q_reads' HO6014.out).2.1); rintro e w23 ⟨v6029, rfl, ho0, hb⟩; refine ⟨_, rfl, ?_⟩; have HO6030 := mk (Kd.R_lower (Kd.R_new' (Kd.R_new' (Kd.R_new' ho0 (Kd.Q_lt (by exact (Kd.Q_mono (Kd.Q_far (p := ⟨gb6024, 3, none⟩) (Kd.Q_far (p := ⟨gb6024, 2, none⟩) (Kd.Q_far (p := ⟨gb6024, 1, none⟩) (Kd.Q_far (p := ⟨gb6024, 0, none⟩) (Kd.Q_types HO6006.out BK6024.out (by decide)) (fun _ hk => hk.2) (.int .i64 t6017)) (fun _ hk => hk.2) (.int .i64 t6018)) (fun _ hk => hk.2) (.int .i64 t6019)) (fun _ hk => hk.2) (.slice Ao20 t6020.length co20)) (fun _ h_ => h_.1))))) (Kd.Q_lt (by exact (Kd.Q_mono (Kd.Q_far (p := ⟨gb6024, 3, none⟩) (Kd.Q_far (p := ⟨gb6024, 2, none⟩) (Kd.Q_far (p := ⟨gb6024, 1, none⟩) (Kd.Q_far (p := ⟨gb6024, 0, none⟩) (Kd.Q_types HO6014.out BK6024.out (by decide)) (fun _ hk => hk.2) (.int .i64 t6017)) (fun _ hk => hk.2) (.int .i64 t6018)) (fun _ hk => hk.2) (.int .i64 t6019)) (fun _ hk => hk.2) (.slice Ao20 t6020.length co20)) (fun _ h_ => h_.1))))) (Kd.R_lt (by exact (Kd.R_mono (Kd.R_far (p := ⟨gb6024, 3, none⟩) (Kd.R_far (p := ⟨gb6024, 2, none⟩) (Kd.R_far (p := ⟨gb6024, 1, none⟩) (Kd.R_far (p := ⟨gb6024, 0, none⟩) (Kd.R_types HO6022.out BK6024.out (by decide)) (fun _ hk => hk.2) (.int .i64 t6017)) (fun _ hk => hk.2) (.int .i64 t6018)) (fun _ hk => hk.2) (.int .i64 t6019)) (fun _ hk => hk.2) (.slice Ao20 t6020.length co20)) (fun _ h_ => h_.1))))) (below_size (by repeat (with_reducible first | exact HB.out | refine below_set ?_ GE6024.out)))); replace HO6006 := mk (Kd.Q_elder' (by exact (Kd.Q_mono (Kd.Q_far (p := ⟨gb6024, 3, none⟩) (Kd.Q_far (p := ⟨gb6024, 2, none⟩) (Kd.Q_far (p := ⟨gb6024, 1, none⟩) (Kd.Q_far (p := ⟨gb6024, 0, none⟩) (Kd.Q_types HO6006.out BK6024.out (by decide)) (fun _ hk => hk.2) (.int .i64 t6017)) (fun _ hk => hk.2) (.int .i64 t6018)) (fun _ hk => hk.2) (.int .i64 t6019)) (fun _ hk => hk.2) (.slice Ao20 t6020.length co20)) (fun _ h_ => h_.1))) (Kd.R_base ho0) hb); replace HO6014 := mk (Kd.Q_elder' (by exact (Kd.Q_mono (Kd.Q_far (p := ⟨gb6024, 3, none⟩) (Kd.Q_far (p := ⟨gb6024, 2, none⟩) (Kd.Q_far (p := ⟨gb6024, 1, none⟩) (Kd.Q_far (p := ⟨gb6024, 0, none⟩) (Kd.Q_types HO6014.out BK6024.out (by decide)) (fun _ hk => hk.2) (.int .i64 t6017)) (fun _ hk => hk.2) (.int .i64 t6018)) (fun _ hk => hk.2) (.int .i64 t6019)) (fun _ hk => hk.2) (.slice Ao20 t6020.length co20)) (fun _ h_ => h_.1))) (Kd.R_base ho0) hb); replace HO6022 := mk (Kd.R_elder' (by exact (Kd.R_mono (Kd.R_far (p := ⟨gb6024, 3, none⟩) (Kd.R_far (p := ⟨gb6024, 2, none⟩) (Kd.R_far (p := ⟨gb6024, 1, none⟩) (Kd.R_far (p := ⟨gb6024, 0, none⟩) (Kd.R_types HO6022.out BK6024.out (by decide)) (fun _ hk => hk.2) (.int .i64 t6017)) (fun _ hk => hk.2) (.int .i64 t6018)) (fun _ hk => hk.2) (.int .i64 t6019)) (fun _ hk => hk.2) (.slice Ao20 t6020.length co20)) (fun _ h_ => h_.1))) (Kd.R_base ho0) hb); replace BK6015 := mk (blk_below (g := gb6015) (o := .cells #[.int .i64 t6001, .int .i64 t6002, .int .i64 t6003, .slice Ao12 t6004.length co12] 28 (0, 0)) (by refine blk_far ?_ NB6015_6024.out _; refine blk_far ?_ NB6015_6024.out _; refine blk_far ?_ NB6015_6024.out _; refine blk_far ?_ NB6015_6024.out _; (with_reducible repeat (first | refine blk_drewN ?_ _ | refine blk_drew ?_ | refine blk_alloc ?_ _)); exact BK6015.out) hb); replace BK6016 := mk (blk_below (g := gb6016) (o := .cells #[.int .i64 t6007, .int .i64 t6008, .int .i64 t6009, .int .i64 t6010, .int .i64 t6011, .slice Ao14 t6012.length co14] 43 (0, 0)) (by refine blk_far ?_ NB6016_6024.out _; refine blk_far ?_ NB6016_6024.out _; refine blk_far ?_ NB6016_6024.out _; refine blk_far ?_ NB6016_6024.out _; (with_reducible repeat (first | refine blk_drewN ?_ _ | refine blk_drew ?_ | refine blk_alloc ?_ _)); exact BK6016.out) hb); replace BK6024 := mk (blk_below (g := gb6024) (o := .cells #[.int .i64 t6017, .int .i64 t6018, .int .i64 t6019, .slice Ao20 t6020.length co20] 28 (0, 0)) (by refine blk_put (cs := #[.int .i64 t6017, .int .i64 t6018, .int .i64 t6019, .slice none 0 0]) ?_ 3 _ rfl; refine blk_put (cs := #[.int .i64 t6017, .int .i64 t6018, .int .i64 0, .slice none 0 0]) ?_ 2 _ rfl; refine blk_put (cs := #[.int .i64 t6017, .int .i64 0, .int .i64 0, .slice none 0 0]) ?_ 1 _ rfl; refine blk_put (cs := #[.int .i64 0, .int .i64 0, .int .i64 0, .slice none 0 0]) ?_ 0 _ rfl; (with_reducible repeat (first | refine blk_drewN ?_ _ | refine blk_drew ?_ | refine blk_alloc ?_ _)); exact BK6024.out) hb); replace HB := mk (below_step (by repeat (with_reducible first | exact HB.out | refine below_set ?_ GE6024.out)) hb); (try clear hb); (try clear ho0)) | ((with_reducible refine gate_dst (N := 7) rfl ?_); refine box_event (by rfl) (N := 7) (by rfl) (cs := #[.int .i64 0, .int .i64 0, .int .i64 0, .slice none 0 0]) (t := 28) (by go_simp; done) ?_; intro gb6032 hg w24 hbox hb; replace HO6006 := mk (Kd.Q_below HO6006.out hb); replace HO6014 := mk (Kd.Q_below HO6014.out hb); replace HO6022 := mk (Kd.R_below HO6022.out hb); replace HO6030 := mk (Kd.R_below HO6030.out hb); have BK6032 := mk (hbox); have GE6032 := mk ((by rw [hg]; exact (below_size HB.out) : w.heap.size ≤ gb6032)); replace HB := mk (below_step HB.out hb); have NB6015_6032 := mk ((by rw [hg]; exact Nat.ne_of_lt (blk_lt BK6015.out) : gb6015 ≠ gb6032)); have NB6032_6015 := mk ((by rw [hg]; exact Nat.ne_of_gt (blk_lt BK6015.out) : gb6032 ≠ gb6015)); replace BK6015 := mk (blk_below BK6015.out hb); have NB6016_6032 := mk ((by rw [hg]; exact Nat.ne_of_lt (blk_lt BK6016.out) : gb6016 ≠ gb6032)); have NB6032_6016 := mk ((by rw [hg]; exact Nat.ne_of_gt (blk_lt BK6016.out) : gb6032 ≠ gb6016)); replace BK6016 := mk (blk_below BK6016.out hb); have NB6024_6032 := mk ((by rw [hg]; exact Nat.ne_of_lt (blk_lt BK6024.out) : gb6024 ≠ gb6032)); have NB6032_6024 := mk ((by rw [hg]; exact Nat.ne_of_gt (blk_lt BK6024.out) : gb6032 ≠ gb6024)); replace BK6024 := mk (blk_below BK6024.out hb); clear hb hbox hg; have hcz28_0 : w24.cell? ⟨gb6032, 0, none⟩ = some (.int .i64 0) := (blk_cell BK6032.out 0).trans rfl; have hcz28_1 : w24.cell? ⟨gb6032, 1, none⟩ = some (.int .i64 0) := (blk_cell BK6032.out 1).trans rfl; have hcz28_2 : w24.cell? ⟨gb6032, 2, none⟩ = some (.int .i64 0) := (blk_cell BK6032.out 2).trans rfl; have hcz28_3 : w24.cell? ⟨gb6032, 3, none⟩ = some (.slice none 0 0) := (blk_cell BK6032.out 3).trans rfl; have hfz28_0 := blk_frozen BK6032.out 0; have hfz28_1 := blk_frozen BK6032.out 1; have hfz28_2 := blk_frozen BK6032.out 2; have hfz28_3 := blk_frozen BK6032.out 3; obtain ⟨Ao29, co29, eo29⟩ := Kd.R_slice HO6030.out; subst eo29))
 go_cut [52] (fun v52 wc => ∃ (kq : Nat) (x52_5 : Bool), v52 = .bool x52_5 ∧ Aside0 (laws_FnDoStepFill.j0 kq t6023 t6031 x52_5 t6001 t6002 t6003 t6004 t6007 t6008 t6009 t6010 t6011 t6012 t6017 t6018 t6019 t6020 t6025 t6026 t6027 t6028 = some r) ∧ Aside0 (kq ≤ k) ∧ Aside0 (Kd.Q (Kd.int .i64) 3 wc w.heap.size (fun k_ => some k_ ≠ ((.slice Ao14 t6012.length co14) : Value).ownBlock ∧ some k_ ≠ ((.slice Ao20 t6020.length co20) : Value).ownBlock ∧ some k_ ≠ ((.slice Ao29 t6028.length co29) : Value).ownBlock) (.slice Ao12 t6004.length co12) t6004) ∧ Aside0 (Kd.Q (Kd.int .i64) 3 wc w.heap.size (fun k_ => some k_ ≠ ((.slice Ao12 t6004.length co12) : Value).ownBlock ∧ some k_ ≠ ((.slice Ao20 t6020.length co20) : Value).ownBlock ∧ some k_ ≠ ((.slice Ao29 t6028.length co29) : Value).ownBlock) (.slice Ao14 t6012.length co14) t6012) ∧ Aside0 (Kd.Q (Kd.int .i64) 3 wc w.heap.size (fun k_ => some k_ ≠ ((.slice Ao12 t6004.length co12) : Value).ownBlock ∧ some k_ ≠ ((.slice Ao14 t6012.length co14) : Value).ownBlock ∧ some k_ ≠ ((.slice Ao29 t6028.length co29) : Value).ownBlock) (.slice Ao20 t6020.length co20) t6020) ∧ Aside0 (Kd.Q (Kd.int .i64) 3 wc w.heap.size (fun k_ => some k_ ≠ ((.slice Ao12 t6004.length co12) : Value).ownBlock ∧ some k_ ≠ ((.slice Ao14 t6012.length co14) : Value).ownBlock ∧ some k_ ≠ ((.slice Ao20 t6020.length co20) : Value).ownBlock) (.slice Ao29 t6028.length co29) t6028) ∧ Aside0 (wc.heap[gb6015]? = some (.cells #[.int .i64 t6001, .int .i64 t6002, .int .i64 t6003, (.slice Ao12 t6004.length co12)] 28 (0, 0))) ∧ Aside0 (wc.heap[gb6016]? = some (.cells #[.int .i64 t6007, .int .i64 t6008, .int .i64 t6009, .int .i64 t6010, .int .i64 t6011, (.slice Ao14 t6012.length co14)] 43 (0, 0))) ∧ Aside0 (wc.heap[gb6024]? = some (.cells #[.int .i64 t6017, .int .i64 t6018, .int .i64 t6019, (.slice Ao20 t6020.length co20)] 28 (0, 0))) ∧ Aside0 (wc.heap[gb6032]? = some (.cells #[.int .i64 t6025, .int .i64 t6026, .int .i64 t6027, (.slice Ao29 t6028.length co29)] 28 (0, 0))) ∧ Aside0 (Below w.heap.size w wc))
 case first =>
  have H := HC6.out
  clear HC6
  replace H := Option.bind_eq_some_iff.mp H
  obtain ⟨t6033, A300, H⟩ := H
  replace H : (if t6033 = true then (if (t6023 != t6031) = true then (laws_FnDoStepFill.j0 k t6023 t6031 true t6001 t6002 t6003 t6004 t6007 t6008 t6009 t6010 t6011 t6012 t6017 t6018 t6019 t6020 t6025 t6026 t6027 t6028) else (if t6023 = true then (laws_FnDoStepFill.j0 k t6023 t6031 (t6007 != 4) t6001 t6002 t6003 t6004 t6007 t6008 t6009 t6010 t6011 t6012 t6017 t6018 t6019 t6020 t6025 t6026 t6027 t6028) else (laws_FnDoStepFill.j0 k t6023 t6031 true t6001 t6002 t6003 t6004 t6007 t6008 t6009 t6010 t6011 t6012 t6017 t6018 t6019 t6020 t6025 t6026 t6027 t6028))) else (laws_FnDoStepFill.j0 k t6023 t6031 true t6001 t6002 t6003 t6004 t6007 t6008 t6009 t6010 t6011 t6012 t6017 t6018 t6019 t6020 t6025 t6026 t6027 t6028)) = some r := H
  have A30 := mk A300
  clear A300
  by_cases c31 : t6033 = true
  ·subst c31
   have H1 : (if (t6023 != t6031) = true then (laws_FnDoStepFill.j0 k t6023 t6031 true t6001 t6002 t6003 t6004 t6007 t6008 t6009 t6010 t6011 t6012 t6017 t6018 t6019 t6020 t6025 t6026 t6027 t6028) else (if t6023 = true then (laws_FnDoStepFill.j0 k t6023 t6031 (t6007 != 4) t6001 t6002 t6003 t6004 t6007 t6008 t6009 t6010 t6011 t6012 t6017 t6018 t6019 t6020 t6025 t6026 t6027 t6028) else (laws_FnDoStepFill.j0 k t6023 t6031 true t6001 t6002 t6003 t6004 t6007 t6008 t6009 t6010 t6011 t6012 t6017 t6018 t6019 t6020 t6025 t6026 t6027 t6028))) = some r := by rw [if_pos rfl] at H; exact H
   clear H
   have H := H1
   clear H1
   by_cases c32 : (t6023 != t6031) = true
   ·rw [if_pos c32] at H
    (try (have c32b1 : decide (t6023 = t6031) = false := by simpa using c32))
    (try (have c32b2 : (t6023 == t6031) = false := by simpa using c32))
    (try (have c32b3 : ¬ (t6023 = t6031) := by simpa using c32))
    clear c32
    (skip)
    have H' := mk H
    clear H
    have hnc35 := NB6032_6024.out
    have hcz36_0 : w24.cell? ⟨gb6024, 0, none⟩ = some (.int .i64 t6017) := (blk_cell BK6024.out 0).trans rfl
    have hcz36_1 : w24.cell? ⟨gb6024, 1, none⟩ = some (.int .i64 t6018) := (blk_cell BK6024.out 1).trans rfl
    have hcz36_2 : w24.cell? ⟨gb6024, 2, none⟩ = some (.int .i64 t6019) := (blk_cell BK6024.out 2).trans rfl
    have hcz36_3 : w24.cell? ⟨gb6024, 3, none⟩ = some (.slice Ao20 t6020.length co20) := (blk_cell BK6024.out 3).trans rfl
    have hnb37 := NB6032_6015.out
    have hnc37 := NB6015_6032.out
    have hnb38 := NB6032_6016.out
    have hnc38 := NB6016_6032.out
    go_wp2_with (first | ((with_reducible refine gate_callee (f := 24) rfl ?_); refine goesL_ (some 37) rfl rfl Try.func24 (by kernel_rfl) rfl #[.agg #[.int .i64 t6017, .int .i64 t6018, .int .i64 t6019, .slice Ao20 t6020.length co20], .agg #[.int .i64 t6025, .int .i64 t6026, .int .i64 t6027, .slice Ao29 t6028.length co29]] rfl (by (try simp only [List.map_toArray, List.map_cons, List.map_nil]); rfl) ?_; (with_reducible refine (laws_equalImage.calls k t6017 t6018 t6019 _ _ t6020 t6025 t6026 t6027 _ _ t6028 true _ ?side1 ?side2 ?side3 ?side4 A30.out).mono ?_); (case side1 => refine (Kd.R_reads' (e := 3) (base := w.heap.size) (ok := fun k_ => (((True ∧ some k_ ≠ (.slice Ao12 t6004.length co12 : Value).ownBlock) ∧ some k_ ≠ (.slice Ao14 t6012.length co14 : Value).ownBlock) ∧ some k_ ≠ (.slice Ao29 t6028.length co29 : Value).ownBlock)) (n := t6020.length) (c := co20) ?_).2.2; exact (by exact (Kd.R_mono (Kd.R_far (p := ⟨gb6032, 3, none⟩) (Kd.R_far (p := ⟨gb6032, 2, none⟩) (Kd.R_far (p := ⟨gb6032, 1, none⟩) (Kd.R_far (p := ⟨gb6032, 0, none⟩) (Kd.R_types HO6022.out BK6032.out (by decide)) (fun _ hk => hk.2) (.int .i64 t6025)) (fun _ hk => hk.2) (.int .i64 t6026)) (fun _ hk => hk.2) (.int .i64 t6027)) (fun _ hk => hk.2) (.slice Ao29 t6028.length co29)) (fun _ h_ => h_.1)))); (case side2 => exact (Kd.R_reads' HO6022.out).2.1); (case side3 => refine (Kd.R_reads' (e := 3) (base := w.heap.size) (ok := fun k_ => (((True ∧ some k_ ≠ (.slice Ao12 t6004.length co12 : Value).ownBlock) ∧ some k_ ≠ (.slice Ao14 t6012.length co14 : Value).ownBlock) ∧ some k_ ≠ (.slice Ao20 t6020.length co20 : Value).ownBlock)) (n := t6028.length) (c := co29) ?_).2.2; exact (by exact (Kd.R_mono (Kd.R_far (p := ⟨gb6032, 3, none⟩) (Kd.R_far (p := ⟨gb6032, 2, none⟩) (Kd.R_far (p := ⟨gb6032, 1, none⟩) (Kd.R_far (p := ⟨gb6032, 0, none⟩) (Kd.R_types HO6030.out BK6032.out (by decide)) (fun _ hk => hk.2) (.int .i64 t6025)) (fun _ hk => hk.2) (.int .i64 t6026)) (fun _ hk => hk.2) (.int .i64 t6027)) (fun _ hk => hk.2) (.slice Ao29 t6028.length co29)) (fun _ h_ => h_.1)))); (case side4 => exact (Kd.R_reads' HO6030.out).2.1); rintro e w40 ⟨rfl, hb⟩; refine ⟨_, rfl, ?_⟩; replace HO6006 := mk (Kd.Q_below (by exact (Kd.Q_mono (Kd.Q_far (p := ⟨gb6032, 3, none⟩) (Kd.Q_far (p := ⟨gb6032, 2, none⟩) (Kd.Q_far (p := ⟨gb6032, 1, none⟩) (Kd.Q_far (p := ⟨gb6032, 0, none⟩) (Kd.Q_types HO6006.out BK6032.out (by decide)) (fun _ hk => hk.2) (.int .i64 t6025)) (fun _ hk => hk.2) (.int .i64 t6026)) (fun _ hk => hk.2) (.int .i64 t6027)) (fun _ hk => hk.2) (.slice Ao29 t6028.length co29)) (fun _ h_ => h_.1))) hb); replace HO6014 := mk (Kd.Q_below (by exact (Kd.Q_mono (Kd.Q_far (p := ⟨gb6032, 3, none⟩) (Kd.Q_far (p := ⟨gb6032, 2, none⟩) (Kd.Q_far (p := ⟨gb6032, 1, none⟩) (Kd.Q_far (p := ⟨gb6032, 0, none⟩) (Kd.Q_types HO6014.out BK6032.out (by decide)) (fun _ hk => hk.2) (.int .i64 t6025)) (fun _ hk => hk.2) (.int .i64 t6026)) (fun _ hk => hk.2) (.int .i64 t6027)) (fun _ hk => hk.2) (.slice Ao29 t6028.length co29)) (fun _ h_ => h_.1))) hb); replace HO6022 := mk (Kd.R_below (by exact (Kd.R_mono (Kd.R_far (p := ⟨gb6032, 3, none⟩) (Kd.R_far (p := ⟨gb6032, 2, none⟩) (Kd.R_far (p := ⟨gb6032, 1, none⟩) (Kd.R_far (p := ⟨gb6032, 0, none⟩) (Kd.R_types HO6022.out BK6032.out (by decide)) (fun _ hk => hk.2) (.int .i64 t6025)) (fun _ hk => hk.2) (.int .i64 t6026)) (fun _ hk => hk.2) (.int .i64 t6027)) (fun _ hk => hk.2) (.slice Ao29 t6028.length co29)) (fun _ h_ => h_.1))) hb); replace HO6030 := mk (Kd.R_below (by exact (Kd.R_mono (Kd.R_far (p := ⟨gb6032, 3, none⟩) (Kd.R_far (p := ⟨gb6032, 2, none⟩) (Kd.R_far (p := ⟨gb6032, 1, none⟩) (Kd.R_far (p := ⟨gb6032, 0, none⟩) (Kd.R_types HO6030.out BK6032.out (by decide)) (fun _ hk => hk.2) (.int .i64 t6025)) (fun _ hk => hk.2) (.int .i64 t6026)) (fun _ hk => hk.2) (.int .i64 t6027)) (fun _ hk => hk.2) (.slice Ao29 t6028.length co29)) (fun _ h_ => h_.1))) hb); replace BK6015 := mk (blk_below (g := gb6015) (o := .cells #[.int .i64 t6001, .int .i64 t6002, .int .i64 t6003, .slice Ao12 t6004.length co12] 28 (0, 0)) (by refine blk_far ?_ NB6015_6032.out _; refine blk_far ?_ NB6015_6032.out _; refine blk_far ?_ NB6015_6032.out _; refine blk_far ?_ NB6015_6032.out _; (with_reducible repeat (first | refine blk_drewN ?_ _ | refine blk_drew ?_ | refine blk_alloc ?_ _)); exact BK6015.out) hb); replace BK6016 := mk (blk_below (g := gb6016) (o := .cells #[.int .i64 t6007, .int .i64 t6008, .int .i64 t6009, .int .i64 t6010, .int .i64 t6011, .slice Ao14 t6012.length co14] 43 (0, 0)) (by refine blk_far ?_ NB6016_6032.out _; refine blk_far ?_ NB6016_6032.out _; refine blk_far ?_ NB6016_6032.out _; refine blk_far ?_ NB6016_6032.out _; (with_reducible repeat (first | refine blk_drewN ?_ _ | refine blk_drew ?_ | refine blk_alloc ?_ _)); exact BK6016.out) hb); replace BK6024 := mk (blk_below (g := gb6024) (o := .cells #[.int .i64 t6017, .int .i64 t6018, .int .i64 t6019, .slice Ao20 t6020.length co20] 28 (0, 0)) (by refine blk_far ?_ NB6024_6032.out _; refine blk_far ?_ NB6024_6032.out _; refine blk_far ?_ NB6024_6032.out _; refine blk_far ?_ NB6024_6032.out _; (with_reducible repeat (first | refine blk_drewN ?_ _ | refine blk_drew ?_ | refine blk_alloc ?_ _)); exact BK6024.out) hb); replace BK6032 := mk (blk_below (g := gb6032) (o := .cells #[.int .i64 t6025, .int .i64 t6026, .int .i64 t6027, .slice Ao29 t6028.length co29] 28 (0, 0)) (by refine blk_put (cs := #[.int .i64 t6025, .int .i64 t6026, .int .i64 t6027, .slice none 0 0]) ?_ 3 _ rfl; refine blk_put (cs := #[.int .i64 t6025, .int .i64 t6026, .int .i64 0, .slice none 0 0]) ?_ 2 _ rfl; refine blk_put (cs := #[.int .i64 t6025, .int .i64 0, .int .i64 0, .slice none 0 0]) ?_ 1 _ rfl; refine blk_put (cs := #[.int .i64 0, .int .i64 0, .int .i64 0, .slice none 0 0]) ?_ 0 _ rfl; (with_reducible repeat (first | refine blk_drewN ?_ _ | refine blk_drew ?_ | refine blk_alloc ?_ _)); exact BK6032.out) hb); replace HB := mk (below_step (by repeat (with_reducible first | exact HB.out | refine below_set ?_ GE6032.out)) hb); (try clear hb)))
    go_meet
    case rel => exact ⟨_, (true), (by rfl), H', ⟨by omega⟩, ⟨by (with_reducible repeat (first | apply Kd.Q_alloc | apply Kd.Q_drewN | apply Kd.Q_drew)); exact Kd.Q_mono HO6006.out (fun _ hk => ⟨hk.1.1, ⟨hk.1.2, hk.2⟩⟩)⟩, ⟨by (with_reducible repeat (first | apply Kd.Q_alloc | apply Kd.Q_drewN | apply Kd.Q_drew)); exact Kd.Q_mono HO6014.out (fun _ hk => ⟨hk.1.1, ⟨hk.1.2, hk.2⟩⟩)⟩, ⟨Kd.Q_of_R (by exact Kd.R_mono HO6022.out (fun _ hk => ⟨hk.1.1.2, ⟨hk.1.2, hk.2⟩⟩))⟩, ⟨Kd.Q_of_R (by exact Kd.R_mono HO6030.out (fun _ hk => ⟨hk.1.1.2, ⟨hk.1.2, hk.2⟩⟩))⟩, ⟨by (with_reducible repeat (first | refine blk_drewN ?_ _ | refine blk_drew ?_ | refine blk_alloc ?_ _)); exact BK6015.out⟩, ⟨by (with_reducible repeat (first | refine blk_drewN ?_ _ | refine blk_drew ?_ | refine blk_alloc ?_ _)); exact BK6016.out⟩, ⟨by (with_reducible repeat (first | refine blk_drewN ?_ _ | refine blk_drew ?_ | refine blk_alloc ?_ _)); exact BK6024.out⟩, ⟨by (with_reducible repeat (first | refine blk_drewN ?_ _ | refine blk_drew ?_ | refine blk_alloc ?_ _)); exact BK6032.out⟩, ⟨by exact HB.out⟩⟩
   rw [if_neg c32] at H
   have c32b0 : (t6023 != t6031) = false := by simpa using c32
   (try (have c32b1 : decide (t6023 = t6031) = true := by simpa using c32))
   (try (have c32b2 : (t6023 == t6031) = true := by simpa using c32))
   clear c32
   (skip)
   by_cases c41 : t6023 = true
   ·subst c41
    have H1 : (laws_FnDoStepFill.j0 k true t6031 (t6007 != 4) t6001 t6002 t6003 t6004 t6007 t6008 t6009 t6010 t6011 t6012 t6017 t6018 t6019 t6020 t6025 t6026 t6027 t6028) = some r := by rw [if_pos rfl] at H; exact H
    clear H
    have H := H1
    clear H1
    have H' := mk H
    clear H
    have hnc44 := NB6032_6024.out
    have hcz45_0 : w24.cell? ⟨gb6024, 0, none⟩ = some (.int .i64 t6017) := (blk_cell BK6024.out 0).trans rfl
    have hcz45_1 : w24.cell? ⟨gb6024, 1, none⟩ = some (.int .i64 t6018) := (blk_cell BK6024.out 1).trans rfl
    have hcz45_2 : w24.cell? ⟨gb6024, 2, none⟩ = some (.int .i64 t6019) := (blk_cell BK6024.out 2).trans rfl
    have hcz45_3 : w24.cell? ⟨gb6024, 3, none⟩ = some (.slice Ao20 t6020.length co20) := (blk_cell BK6024.out 3).trans rfl
    have hnb46 := NB6032_6015.out
    have hnc46 := NB6015_6032.out
    have hnb47 := NB6032_6016.out
    have hnc47 := NB6016_6032.out
    go_wp2_with (first | ((with_reducible refine gate_callee (f := 24) rfl ?_); refine goesL_ (some 37) rfl rfl Try.func24 (by kernel_rfl) rfl #[.agg #[.int .i64 t6017, .int .i64 t6018, .int .i64 t6019, .slice Ao20 t6020.length co20], .agg #[.int .i64 t6025, .int .i64 t6026, .int .i64 t6027, .slice Ao29 t6028.length co29]] rfl (by (try simp only [List.map_toArray, List.map_cons, List.map_nil]); rfl) ?_; (with_reducible refine (laws_equalImage.calls k t6017 t6018 t6019 _ _ t6020 t6025 t6026 t6027 _ _ t6028 true _ ?side1 ?side2 ?side3 ?side4 A30.out).mono ?_); (case side1 => refine (Kd.R_reads' (e := 3) (base := w.heap.size) (ok := fun k_ => (((True ∧ some k_ ≠ (.slice Ao12 t6004.length co12 : Value).ownBlock) ∧ some k_ ≠ (.slice Ao14 t6012.length co14 : Value).ownBlock) ∧ some k_ ≠ (.slice Ao29 t6028.length co29 : Value).ownBlock)) (n := t6020.length) (c := co20) ?_).2.2; exact (by exact (Kd.R_mono (Kd.R_far (p := ⟨gb6032, 3, none⟩) (Kd.R_far (p := ⟨gb6032, 2, none⟩) (Kd.R_far (p := ⟨gb6032, 1, none⟩) (Kd.R_far (p := ⟨gb6032, 0, none⟩) (Kd.R_types HO6022.out BK6032.out (by decide)) (fun _ hk => hk.2) (.int .i64 t6025)) (fun _ hk => hk.2) (.int .i64 t6026)) (fun _ hk => hk.2) (.int .i64 t6027)) (fun _ hk => hk.2) (.slice Ao29 t6028.length co29)) (fun _ h_ => h_.1)))); (case side2 => exact (Kd.R_reads' HO6022.out).2.1); (case side3 => refine (Kd.R_reads' (e := 3) (base := w.heap.size) (ok := fun k_ => (((True ∧ some k_ ≠ (.slice Ao12 t6004.length co12 : Value).ownBlock) ∧ some k_ ≠ (.slice Ao14 t6012.length co14 : Value).ownBlock) ∧ some k_ ≠ (.slice Ao20 t6020.length co20 : Value).ownBlock)) (n := t6028.length) (c := co29) ?_).2.2; exact (by exact (Kd.R_mono (Kd.R_far (p := ⟨gb6032, 3, none⟩) (Kd.R_far (p := ⟨gb6032, 2, none⟩) (Kd.R_far (p := ⟨gb6032, 1, none⟩) (Kd.R_far (p := ⟨gb6032, 0, none⟩) (Kd.R_types HO6030.out BK6032.out (by decide)) (fun _ hk => hk.2) (.int .i64 t6025)) (fun _ hk => hk.2) (.int .i64 t6026)) (fun _ hk => hk.2) (.int .i64 t6027)) (fun _ hk => hk.2) (.slice Ao29 t6028.length co29)) (fun _ h_ => h_.1)))); (case side4 => exact (Kd.R_reads' HO6030.out).2.1); rintro e w49 ⟨rfl, hb⟩; refine ⟨_, rfl, ?_⟩; replace HO6006 := mk (Kd.Q_below (by exact (Kd.Q_mono (Kd.Q_far (p := ⟨gb6032, 3, none⟩) (Kd.Q_far (p := ⟨gb6032, 2, none⟩) (Kd.Q_far (p := ⟨gb6032, 1, none⟩) (Kd.Q_far (p := ⟨gb6032, 0, none⟩) (Kd.Q_types HO6006.out BK6032.out (by decide)) (fun _ hk => hk.2) (.int .i64 t6025)) (fun _ hk => hk.2) (.int .i64 t6026)) (fun _ hk => hk.2) (.int .i64 t6027)) (fun _ hk => hk.2) (.slice Ao29 t6028.length co29)) (fun _ h_ => h_.1))) hb); replace HO6014 := mk (Kd.Q_below (by exact (Kd.Q_mono (Kd.Q_far (p := ⟨gb6032, 3, none⟩) (Kd.Q_far (p := ⟨gb6032, 2, none⟩) (Kd.Q_far (p := ⟨gb6032, 1, none⟩) (Kd.Q_far (p := ⟨gb6032, 0, none⟩) (Kd.Q_types HO6014.out BK6032.out (by decide)) (fun _ hk => hk.2) (.int .i64 t6025)) (fun _ hk => hk.2) (.int .i64 t6026)) (fun _ hk => hk.2) (.int .i64 t6027)) (fun _ hk => hk.2) (.slice Ao29 t6028.length co29)) (fun _ h_ => h_.1))) hb); replace HO6022 := mk (Kd.R_below (by exact (Kd.R_mono (Kd.R_far (p := ⟨gb6032, 3, none⟩) (Kd.R_far (p := ⟨gb6032, 2, none⟩) (Kd.R_far (p := ⟨gb6032, 1, none⟩) (Kd.R_far (p := ⟨gb6032, 0, none⟩) (Kd.R_types HO6022.out BK6032.out (by decide)) (fun _ hk => hk.2) (.int .i64 t6025)) (fun _ hk => hk.2) (.int .i64 t6026)) (fun _ hk => hk.2) (.int .i64 t6027)) (fun _ hk => hk.2) (.slice Ao29 t6028.length co29)) (fun _ h_ => h_.1))) hb); replace HO6030 := mk (Kd.R_below (by exact (Kd.R_mono (Kd.R_far (p := ⟨gb6032, 3, none⟩) (Kd.R_far (p := ⟨gb6032, 2, none⟩) (Kd.R_far (p := ⟨gb6032, 1, none⟩) (Kd.R_far (p := ⟨gb6032, 0, none⟩) (Kd.R_types HO6030.out BK6032.out (by decide)) (fun _ hk => hk.2) (.int .i64 t6025)) (fun _ hk => hk.2) (.int .i64 t6026)) (fun _ hk => hk.2) (.int .i64 t6027)) (fun _ hk => hk.2) (.slice Ao29 t6028.length co29)) (fun _ h_ => h_.1))) hb); replace BK6015 := mk (blk_below (g := gb6015) (o := .cells #[.int .i64 t6001, .int .i64 t6002, .int .i64 t6003, .slice Ao12 t6004.length co12] 28 (0, 0)) (by refine blk_far ?_ NB6015_6032.out _; refine blk_far ?_ NB6015_6032.out _; refine blk_far ?_ NB6015_6032.out _; refine blk_far ?_ NB6015_6032.out _; (with_reducible repeat (first | refine blk_drewN ?_ _ | refine blk_drew ?_ | refine blk_alloc ?_ _)); exact BK6015.out) hb); replace BK6016 := mk (blk_below (g := gb6016) (o := .cells #[.int .i64 t6007, .int .i64 t6008, .int .i64 t6009, .int .i64 t6010, .int .i64 t6011, .slice Ao14 t6012.length co14] 43 (0, 0)) (by refine blk_far ?_ NB6016_6032.out _; refine blk_far ?_ NB6016_6032.out _; refine blk_far ?_ NB6016_6032.out _; refine blk_far ?_ NB6016_6032.out _; (with_reducible repeat (first | refine blk_drewN ?_ _ | refine blk_drew ?_ | refine blk_alloc ?_ _)); exact BK6016.out) hb); replace BK6024 := mk (blk_below (g := gb6024) (o := .cells #[.int .i64 t6017, .int .i64 t6018, .int .i64 t6019, .slice Ao20 t6020.length co20] 28 (0, 0)) (by refine blk_far ?_ NB6024_6032.out _; refine blk_far ?_ NB6024_6032.out _; refine blk_far ?_ NB6024_6032.out _; refine blk_far ?_ NB6024_6032.out _; (with_reducible repeat (first | refine blk_drewN ?_ _ | refine blk_drew ?_ | refine blk_alloc ?_ _)); exact BK6024.out) hb); replace BK6032 := mk (blk_below (g := gb6032) (o := .cells #[.int .i64 t6025, .int .i64 t6026, .int .i64 t6027, .slice Ao29 t6028.length co29] 28 (0, 0)) (by refine blk_put (cs := #[.int .i64 t6025, .int .i64 t6026, .int .i64 t6027, .slice none 0 0]) ?_ 3 _ rfl; refine blk_put (cs := #[.int .i64 t6025, .int .i64 t6026, .int .i64 0, .slice none 0 0]) ?_ 2 _ rfl; refine blk_put (cs := #[.int .i64 t6025, .int .i64 0, .int .i64 0, .slice none 0 0]) ?_ 1 _ rfl; refine blk_put (cs := #[.int .i64 0, .int .i64 0, .int .i64 0, .slice none 0 0]) ?_ 0 _ rfl; (with_reducible repeat (first | refine blk_drewN ?_ _ | refine blk_drew ?_ | refine blk_alloc ?_ _)); exact BK6032.out) hb); replace HB := mk (below_step (by repeat (with_reducible first | exact HB.out | refine below_set ?_ GE6032.out)) hb); (try clear hb); have hcz51_0 : w49.cell? ⟨gb6016, 0, none⟩ = some (.int .i64 t6007) := (blk_cell BK6016.out 0).trans rfl))
    go_meet
    case rel => exact ⟨_, (t6007 != 4), (by rfl), H', ⟨by omega⟩, ⟨by (with_reducible repeat (first | apply Kd.Q_alloc | apply Kd.Q_drewN | apply Kd.Q_drew)); exact Kd.Q_mono HO6006.out (fun _ hk => ⟨hk.1.1, ⟨hk.1.2, hk.2⟩⟩)⟩, ⟨by (with_reducible repeat (first | apply Kd.Q_alloc | apply Kd.Q_drewN | apply Kd.Q_drew)); exact Kd.Q_mono HO6014.out (fun _ hk => ⟨hk.1.1, ⟨hk.1.2, hk.2⟩⟩)⟩, ⟨Kd.Q_of_R (by exact Kd.R_mono HO6022.out (fun _ hk => ⟨hk.1.1.2, ⟨hk.1.2, hk.2⟩⟩))⟩, ⟨Kd.Q_of_R (by exact Kd.R_mono HO6030.out (fun _ hk => ⟨hk.1.1.2, ⟨hk.1.2, hk.2⟩⟩))⟩, ⟨by (with_reducible repeat (first | refine blk_drewN ?_ _ | refine blk_drew ?_ | refine blk_alloc ?_ _)); exact BK6015.out⟩, ⟨by (with_reducible repeat (first | refine blk_drewN ?_ _ | refine blk_drew ?_ | refine blk_alloc ?_ _)); exact BK6016.out⟩, ⟨by (with_reducible repeat (first | refine blk_drewN ?_ _ | refine blk_drew ?_ | refine blk_alloc ?_ _)); exact BK6024.out⟩, ⟨by (with_reducible repeat (first | refine blk_drewN ?_ _ | refine blk_drew ?_ | refine blk_alloc ?_ _)); exact BK6032.out⟩, ⟨by exact HB.out⟩⟩
   replace c41 := Bool.eq_false_iff.mpr c41
   subst c41
   have H1 : (laws_FnDoStepFill.j0 k false t6031 true t6001 t6002 t6003 t6004 t6007 t6008 t6009 t6010 t6011 t6012 t6017 t6018 t6019 t6020 t6025 t6026 t6027 t6028) = some r := by rw [if_neg (show ¬ (false = true) by decide)] at H; exact H
   clear H
   have H := H1
   clear H1
   have H' := mk H
   clear H
   have hnc54 := NB6032_6024.out
   have hcz55_0 : w24.cell? ⟨gb6024, 0, none⟩ = some (.int .i64 t6017) := (blk_cell BK6024.out 0).trans rfl
   have hcz55_1 : w24.cell? ⟨gb6024, 1, none⟩ = some (.int .i64 t6018) := (blk_cell BK6024.out 1).trans rfl
   have hcz55_2 : w24.cell? ⟨gb6024, 2, none⟩ = some (.int .i64 t6019) := (blk_cell BK6024.out 2).trans rfl
   have hcz55_3 : w24.cell? ⟨gb6024, 3, none⟩ = some (.slice Ao20 t6020.length co20) := (blk_cell BK6024.out 3).trans rfl
   have hnb56 := NB6032_6015.out
   have hnc56 := NB6015_6032.out
   have hnb57 := NB6032_6016.out
   have hnc57 := NB6016_6032.out
   go_wp2_with (first | ((with_reducible refine gate_callee (f := 24) rfl ?_); refine goesL_ (some 37) rfl rfl Try.func24 (by kernel_rfl) rfl #[.agg #[.int .i64 t6017, .int .i64 t6018, .int .i64 t6019, .slice Ao20 t6020.length co20], .agg #[.int .i64 t6025, .int .i64 t6026, .int .i64 t6027, .slice Ao29 t6028.length co29]] rfl (by (try simp only [List.map_toArray, List.map_cons, List.map_nil]); rfl) ?_; (with_reducible refine (laws_equalImage.calls k t6017 t6018 t6019 _ _ t6020 t6025 t6026 t6027 _ _ t6028 true _ ?side1 ?side2 ?side3 ?side4 A30.out).mono ?_); (case side1 => refine (Kd.R_reads' (e := 3) (base := w.heap.size) (ok := fun k_ => (((True ∧ some k_ ≠ (.slice Ao12 t6004.length co12 : Value).ownBlock) ∧ some k_ ≠ (.slice Ao14 t6012.length co14 : Value).ownBlock) ∧ some k_ ≠ (.slice Ao29 t6028.length co29 : Value).ownBlock)) (n := t6020.length) (c := co20) ?_).2.2; exact (by exact (Kd.R_mono (Kd.R_far (p := ⟨gb6032, 3, none⟩) (Kd.R_far (p := ⟨gb6032, 2, none⟩) (Kd.R_far (p := ⟨gb6032, 1, none⟩) (Kd.R_far (p := ⟨gb6032, 0, none⟩) (Kd.R_types HO6022.out BK6032.out (by decide)) (fun _ hk => hk.2) (.int .i64 t6025)) (fun _ hk => hk.2) (.int .i64 t6026)) (fun _ hk => hk.2) (.int .i64 t6027)) (fun _ hk => hk.2) (.slice Ao29 t6028.length co29)) (fun _ h_ => h_.1)))); (case side2 => exact (Kd.R_reads' HO6022.out).2.1); (case side3 => refine (Kd.R_reads' (e := 3) (base := w.heap.size) (ok := fun k_ => (((True ∧ some k_ ≠ (.slice Ao12 t6004.length co12 : Value).ownBlock) ∧ some k_ ≠ (.slice Ao14 t6012.length co14 : Value).ownBlock) ∧ some k_ ≠ (.slice Ao20 t6020.length co20 : Value).ownBlock)) (n := t6028.length) (c := co29) ?_).2.2; exact (by exact (Kd.R_mono (Kd.R_far (p := ⟨gb6032, 3, none⟩) (Kd.R_far (p := ⟨gb6032, 2, none⟩) (Kd.R_far (p := ⟨gb6032, 1, none⟩) (Kd.R_far (p := ⟨gb6032, 0, none⟩) (Kd.R_types HO6030.out BK6032.out (by decide)) (fun _ hk => hk.2) (.int .i64 t6025)) (fun _ hk => hk.2) (.int .i64 t6026)) (fun _ hk => hk.2) (.int .i64 t6027)) (fun _ hk => hk.2) (.slice Ao29 t6028.length co29)) (fun _ h_ => h_.1)))); (case side4 => exact (Kd.R_reads' HO6030.out).2.1); rintro e w59 ⟨rfl, hb⟩; refine ⟨_, rfl, ?_⟩; replace HO6006 := mk (Kd.Q_below (by exact (Kd.Q_mono (Kd.Q_far (p := ⟨gb6032, 3, none⟩) (Kd.Q_far (p := ⟨gb6032, 2, none⟩) (Kd.Q_far (p := ⟨gb6032, 1, none⟩) (Kd.Q_far (p := ⟨gb6032, 0, none⟩) (Kd.Q_types HO6006.out BK6032.out (by decide)) (fun _ hk => hk.2) (.int .i64 t6025)) (fun _ hk => hk.2) (.int .i64 t6026)) (fun _ hk => hk.2) (.int .i64 t6027)) (fun _ hk => hk.2) (.slice Ao29 t6028.length co29)) (fun _ h_ => h_.1))) hb); replace HO6014 := mk (Kd.Q_below (by exact (Kd.Q_mono (Kd.Q_far (p := ⟨gb6032, 3, none⟩) (Kd.Q_far (p := ⟨gb6032, 2, none⟩) (Kd.Q_far (p := ⟨gb6032, 1, none⟩) (Kd.Q_far (p := ⟨gb6032, 0, none⟩) (Kd.Q_types HO6014.out BK6032.out (by decide)) (fun _ hk => hk.2) (.int .i64 t6025)) (fun _ hk => hk.2) (.int .i64 t6026)) (fun _ hk => hk.2) (.int .i64 t6027)) (fun _ hk => hk.2) (.slice Ao29 t6028.length co29)) (fun _ h_ => h_.1))) hb); replace HO6022 := mk (Kd.R_below (by exact (Kd.R_mono (Kd.R_far (p := ⟨gb6032, 3, none⟩) (Kd.R_far (p := ⟨gb6032, 2, none⟩) (Kd.R_far (p := ⟨gb6032, 1, none⟩) (Kd.R_far (p := ⟨gb6032, 0, none⟩) (Kd.R_types HO6022.out BK6032.out (by decide)) (fun _ hk => hk.2) (.int .i64 t6025)) (fun _ hk => hk.2) (.int .i64 t6026)) (fun _ hk => hk.2) (.int .i64 t6027)) (fun _ hk => hk.2) (.slice Ao29 t6028.length co29)) (fun _ h_ => h_.1))) hb); replace HO6030 := mk (Kd.R_below (by exact (Kd.R_mono (Kd.R_far (p := ⟨gb6032, 3, none⟩) (Kd.R_far (p := ⟨gb6032, 2, none⟩) (Kd.R_far (p := ⟨gb6032, 1, none⟩) (Kd.R_far (p := ⟨gb6032, 0, none⟩) (Kd.R_types HO6030.out BK6032.out (by decide)) (fun _ hk => hk.2) (.int .i64 t6025)) (fun _ hk => hk.2) (.int .i64 t6026)) (fun _ hk => hk.2) (.int .i64 t6027)) (fun _ hk => hk.2) (.slice Ao29 t6028.length co29)) (fun _ h_ => h_.1))) hb); replace BK6015 := mk (blk_below (g := gb6015) (o := .cells #[.int .i64 t6001, .int .i64 t6002, .int .i64 t6003, .slice Ao12 t6004.length co12] 28 (0, 0)) (by refine blk_far ?_ NB6015_6032.out _; refine blk_far ?_ NB6015_6032.out _; refine blk_far ?_ NB6015_6032.out _; refine blk_far ?_ NB6015_6032.out _; (with_reducible repeat (first | refine blk_drewN ?_ _ | refine blk_drew ?_ | refine blk_alloc ?_ _)); exact BK6015.out) hb); replace BK6016 := mk (blk_below (g := gb6016) (o := .cells #[.int .i64 t6007, .int .i64 t6008, .int .i64 t6009, .int .i64 t6010, .int .i64 t6011, .slice Ao14 t6012.length co14] 43 (0, 0)) (by refine blk_far ?_ NB6016_6032.out _; refine blk_far ?_ NB6016_6032.out _; refine blk_far ?_ NB6016_6032.out _; refine blk_far ?_ NB6016_6032.out _; (with_reducible repeat (first | refine blk_drewN ?_ _ | refine blk_drew ?_ | refine blk_alloc ?_ _)); exact BK6016.out) hb); replace BK6024 := mk (blk_below (g := gb6024) (o := .cells #[.int .i64 t6017, .int .i64 t6018, .int .i64 t6019, .slice Ao20 t6020.length co20] 28 (0, 0)) (by refine blk_far ?_ NB6024_6032.out _; refine blk_far ?_ NB6024_6032.out _; refine blk_far ?_ NB6024_6032.out _; refine blk_far ?_ NB6024_6032.out _; (with_reducible repeat (first | refine blk_drewN ?_ _ | refine blk_drew ?_ | refine blk_alloc ?_ _)); exact BK6024.out) hb); replace BK6032 := mk (blk_below (g := gb6032) (o := .cells #[.int .i64 t6025, .int .i64 t6026, .int .i64 t6027, .slice Ao29 t6028.length co29] 28 (0, 0)) (by refine blk_put (cs := #[.int .i64 t6025, .int .i64 t6026, .int .i64 t6027, .slice none 0 0]) ?_ 3 _ rfl; refine blk_put (cs := #[.int .i64 t6025, .int .i64 t6026, .int .i64 0, .slice none 0 0]) ?_ 2 _ rfl; refine blk_put (cs := #[.int .i64 t6025, .int .i64 0, .int .i64 0, .slice none 0 0]) ?_ 1 _ rfl; refine blk_put (cs := #[.int .i64 0, .int .i64 0, .int .i64 0, .slice none 0 0]) ?_ 0 _ rfl; (with_reducible repeat (first | refine blk_drewN ?_ _ | refine blk_drew ?_ | refine blk_alloc ?_ _)); exact BK6032.out) hb); replace HB := mk (below_step (by repeat (with_reducible first | exact HB.out | refine below_set ?_ GE6032.out)) hb); (try clear hb)))
   go_meet
   case rel => exact ⟨_, (true), (by rfl), H', ⟨by omega⟩, ⟨by (with_reducible repeat (first | apply Kd.Q_alloc | apply Kd.Q_drewN | apply Kd.Q_drew)); exact Kd.Q_mono HO6006.out (fun _ hk => ⟨hk.1.1, ⟨hk.1.2, hk.2⟩⟩)⟩, ⟨by (with_reducible repeat (first | apply Kd.Q_alloc | apply Kd.Q_drewN | apply Kd.Q_drew)); exact Kd.Q_mono HO6014.out (fun _ hk => ⟨hk.1.1, ⟨hk.1.2, hk.2⟩⟩)⟩, ⟨Kd.Q_of_R (by exact Kd.R_mono HO6022.out (fun _ hk => ⟨hk.1.1.2, ⟨hk.1.2, hk.2⟩⟩))⟩, ⟨Kd.Q_of_R (by exact Kd.R_mono HO6030.out (fun _ hk => ⟨hk.1.1.2, ⟨hk.1.2, hk.2⟩⟩))⟩, ⟨by (with_reducible repeat (first | refine blk_drewN ?_ _ | refine blk_drew ?_ | refine blk_alloc ?_ _)); exact BK6015.out⟩, ⟨by (with_reducible repeat (first | refine blk_drewN ?_ _ | refine blk_drew ?_ | refine blk_alloc ?_ _)); exact BK6016.out⟩, ⟨by (with_reducible repeat (first | refine blk_drewN ?_ _ | refine blk_drew ?_ | refine blk_alloc ?_ _)); exact BK6024.out⟩, ⟨by (with_reducible repeat (first | refine blk_drewN ?_ _ | refine blk_drew ?_ | refine blk_alloc ?_ _)); exact BK6032.out⟩, ⟨by exact HB.out⟩⟩
  replace c31 := Bool.eq_false_iff.mpr c31
  subst c31
  have H1 : (laws_FnDoStepFill.j0 k t6023 t6031 true t6001 t6002 t6003 t6004 t6007 t6008 t6009 t6010 t6011 t6012 t6017 t6018 t6019 t6020 t6025 t6026 t6027 t6028) = some r := by rw [if_neg (show ¬ (false = true) by decide)] at H; exact H
  clear H
  have H := H1
  clear H1
  have H' := mk H
  clear H
  have hnc62 := NB6032_6024.out
  have hcz63_0 : w24.cell? ⟨gb6024, 0, none⟩ = some (.int .i64 t6017) := (blk_cell BK6024.out 0).trans rfl
  have hcz63_1 : w24.cell? ⟨gb6024, 1, none⟩ = some (.int .i64 t6018) := (blk_cell BK6024.out 1).trans rfl
  have hcz63_2 : w24.cell? ⟨gb6024, 2, none⟩ = some (.int .i64 t6019) := (blk_cell BK6024.out 2).trans rfl
  have hcz63_3 : w24.cell? ⟨gb6024, 3, none⟩ = some (.slice Ao20 t6020.length co20) := (blk_cell BK6024.out 3).trans rfl
  have hnb64 := NB6032_6015.out
  have hnc64 := NB6015_6032.out
  have hnb65 := NB6032_6016.out
  have hnc65 := NB6016_6032.out
  go_wp2_with (first | ((with_reducible refine gate_callee (f := 24) rfl ?_); refine goesL_ (some 37) rfl rfl Try.func24 (by kernel_rfl) rfl #[.agg #[.int .i64 t6017, .int .i64 t6018, .int .i64 t6019, .slice Ao20 t6020.length co20], .agg #[.int .i64 t6025, .int .i64 t6026, .int .i64 t6027, .slice Ao29 t6028.length co29]] rfl (by (try simp only [List.map_toArray, List.map_cons, List.map_nil]); rfl) ?_; (with_reducible refine (laws_equalImage.calls k t6017 t6018 t6019 _ _ t6020 t6025 t6026 t6027 _ _ t6028 false _ ?side1 ?side2 ?side3 ?side4 A30.out).mono ?_); (case side1 => refine (Kd.R_reads' (e := 3) (base := w.heap.size) (ok := fun k_ => (((True ∧ some k_ ≠ (.slice Ao12 t6004.length co12 : Value).ownBlock) ∧ some k_ ≠ (.slice Ao14 t6012.length co14 : Value).ownBlock) ∧ some k_ ≠ (.slice Ao29 t6028.length co29 : Value).ownBlock)) (n := t6020.length) (c := co20) ?_).2.2; exact (by exact (Kd.R_mono (Kd.R_far (p := ⟨gb6032, 3, none⟩) (Kd.R_far (p := ⟨gb6032, 2, none⟩) (Kd.R_far (p := ⟨gb6032, 1, none⟩) (Kd.R_far (p := ⟨gb6032, 0, none⟩) (Kd.R_types HO6022.out BK6032.out (by decide)) (fun _ hk => hk.2) (.int .i64 t6025)) (fun _ hk => hk.2) (.int .i64 t6026)) (fun _ hk => hk.2) (.int .i64 t6027)) (fun _ hk => hk.2) (.slice Ao29 t6028.length co29)) (fun _ h_ => h_.1)))); (case side2 => exact (Kd.R_reads' HO6022.out).2.1); (case side3 => refine (Kd.R_reads' (e := 3) (base := w.heap.size) (ok := fun k_ => (((True ∧ some k_ ≠ (.slice Ao12 t6004.length co12 : Value).ownBlock) ∧ some k_ ≠ (.slice Ao14 t6012.length co14 : Value).ownBlock) ∧ some k_ ≠ (.slice Ao20 t6020.length co20 : Value).ownBlock)) (n := t6028.length) (c := co29) ?_).2.2; exact (by exact (Kd.R_mono (Kd.R_far (p := ⟨gb6032, 3, none⟩) (Kd.R_far (p := ⟨gb6032, 2, none⟩) (Kd.R_far (p := ⟨gb6032, 1, none⟩) (Kd.R_far (p := ⟨gb6032, 0, none⟩) (Kd.R_types HO6030.out BK6032.out (by decide)) (fun _ hk => hk.2) (.int .i64 t6025)) (fun _ hk => hk.2) (.int .i64 t6026)) (fun _ hk => hk.2) (.int .i64 t6027)) (fun _ hk => hk.2) (.slice Ao29 t6028.length co29)) (fun _ h_ => h_.1)))); (case side4 => exact (Kd.R_reads' HO6030.out).2.1); rintro e w67 ⟨rfl, hb⟩; refine ⟨_, rfl, ?_⟩; replace HO6006 := mk (Kd.Q_below (by exact (Kd.Q_mono (Kd.Q_far (p := ⟨gb6032, 3, none⟩) (Kd.Q_far (p := ⟨gb6032, 2, none⟩) (Kd.Q_far (p := ⟨gb6032, 1, none⟩) (Kd.Q_far (p := ⟨gb6032, 0, none⟩) (Kd.Q_types HO6006.out BK6032.out (by decide)) (fun _ hk => hk.2) (.int .i64 t6025)) (fun _ hk => hk.2) (.int .i64 t6026)) (fun _ hk => hk.2) (.int .i64 t6027)) (fun _ hk => hk.2) (.slice Ao29 t6028.length co29)) (fun _ h_ => h_.1))) hb); replace HO6014 := mk (Kd.Q_below (by exact (Kd.Q_mono (Kd.Q_far (p := ⟨gb6032, 3, none⟩) (Kd.Q_far (p := ⟨gb6032, 2, none⟩) (Kd.Q_far (p := ⟨gb6032, 1, none⟩) (Kd.Q_far (p := ⟨gb6032, 0, none⟩) (Kd.Q_types HO6014.out BK6032.out (by decide)) (fun _ hk => hk.2) (.int .i64 t6025)) (fun _ hk => hk.2) (.int .i64 t6026)) (fun _ hk => hk.2) (.int .i64 t6027)) (fun _ hk => hk.2) (.slice Ao29 t6028.length co29)) (fun _ h_ => h_.1))) hb); replace HO6022 := mk (Kd.R_below (by exact (Kd.R_mono (Kd.R_far (p := ⟨gb6032, 3, none⟩) (Kd.R_far (p := ⟨gb6032, 2, none⟩) (Kd.R_far (p := ⟨gb6032, 1, none⟩) (Kd.R_far (p := ⟨gb6032, 0, none⟩) (Kd.R_types HO6022.out BK6032.out (by decide)) (fun _ hk => hk.2) (.int .i64 t6025)) (fun _ hk => hk.2) (.int .i64 t6026)) (fun _ hk => hk.2) (.int .i64 t6027)) (fun _ hk => hk.2) (.slice Ao29 t6028.length co29)) (fun _ h_ => h_.1))) hb); replace HO6030 := mk (Kd.R_below (by exact (Kd.R_mono (Kd.R_far (p := ⟨gb6032, 3, none⟩) (Kd.R_far (p := ⟨gb6032, 2, none⟩) (Kd.R_far (p := ⟨gb6032, 1, none⟩) (Kd.R_far (p := ⟨gb6032, 0, none⟩) (Kd.R_types HO6030.out BK6032.out (by decide)) (fun _ hk => hk.2) (.int .i64 t6025)) (fun _ hk => hk.2) (.int .i64 t6026)) (fun _ hk => hk.2) (.int .i64 t6027)) (fun _ hk => hk.2) (.slice Ao29 t6028.length co29)) (fun _ h_ => h_.1))) hb); replace BK6015 := mk (blk_below (g := gb6015) (o := .cells #[.int .i64 t6001, .int .i64 t6002, .int .i64 t6003, .slice Ao12 t6004.length co12] 28 (0, 0)) (by refine blk_far ?_ NB6015_6032.out _; refine blk_far ?_ NB6015_6032.out _; refine blk_far ?_ NB6015_6032.out _; refine blk_far ?_ NB6015_6032.out _; (with_reducible repeat (first | refine blk_drewN ?_ _ | refine blk_drew ?_ | refine blk_alloc ?_ _)); exact BK6015.out) hb); replace BK6016 := mk (blk_below (g := gb6016) (o := .cells #[.int .i64 t6007, .int .i64 t6008, .int .i64 t6009, .int .i64 t6010, .int .i64 t6011, .slice Ao14 t6012.length co14] 43 (0, 0)) (by refine blk_far ?_ NB6016_6032.out _; refine blk_far ?_ NB6016_6032.out _; refine blk_far ?_ NB6016_6032.out _; refine blk_far ?_ NB6016_6032.out _; (with_reducible repeat (first | refine blk_drewN ?_ _ | refine blk_drew ?_ | refine blk_alloc ?_ _)); exact BK6016.out) hb); replace BK6024 := mk (blk_below (g := gb6024) (o := .cells #[.int .i64 t6017, .int .i64 t6018, .int .i64 t6019, .slice Ao20 t6020.length co20] 28 (0, 0)) (by refine blk_far ?_ NB6024_6032.out _; refine blk_far ?_ NB6024_6032.out _; refine blk_far ?_ NB6024_6032.out _; refine blk_far ?_ NB6024_6032.out _; (with_reducible repeat (first | refine blk_drewN ?_ _ | refine blk_drew ?_ | refine blk_alloc ?_ _)); exact BK6024.out) hb); replace BK6032 := mk (blk_below (g := gb6032) (o := .cells #[.int .i64 t6025, .int .i64 t6026, .int .i64 t6027, .slice Ao29 t6028.length co29] 28 (0, 0)) (by refine blk_put (cs := #[.int .i64 t6025, .int .i64 t6026, .int .i64 t6027, .slice none 0 0]) ?_ 3 _ rfl; refine blk_put (cs := #[.int .i64 t6025, .int .i64 t6026, .int .i64 0, .slice none 0 0]) ?_ 2 _ rfl; refine blk_put (cs := #[.int .i64 t6025, .int .i64 0, .int .i64 0, .slice none 0 0]) ?_ 1 _ rfl; refine blk_put (cs := #[.int .i64 0, .int .i64 0, .int .i64 0, .slice none 0 0]) ?_ 0 _ rfl; (with_reducible repeat (first | refine blk_drewN ?_ _ | refine blk_drew ?_ | refine blk_alloc ?_ _)); exact BK6032.out) hb); replace HB := mk (below_step (by repeat (with_reducible first | exact HB.out | refine below_set ?_ GE6032.out)) hb); (try clear hb)))
  go_meet
  case rel => exact ⟨_, (true), (by rfl), H', ⟨by omega⟩, ⟨by (with_reducible repeat (first | apply Kd.Q_alloc | apply Kd.Q_drewN | apply Kd.Q_drew)); exact Kd.Q_mono HO6006.out (fun _ hk => ⟨hk.1.1, ⟨hk.1.2, hk.2⟩⟩)⟩, ⟨by (with_reducible repeat (first | apply Kd.Q_alloc | apply Kd.Q_drewN | apply Kd.Q_drew)); exact Kd.Q_mono HO6014.out (fun _ hk => ⟨hk.1.1, ⟨hk.1.2, hk.2⟩⟩)⟩, ⟨Kd.Q_of_R (by exact Kd.R_mono HO6022.out (fun _ hk => ⟨hk.1.1.2, ⟨hk.1.2, hk.2⟩⟩))⟩, ⟨Kd.Q_of_R (by exact Kd.R_mono HO6030.out (fun _ hk => ⟨hk.1.1.2, ⟨hk.1.2, hk.2⟩⟩))⟩, ⟨by (with_reducible repeat (first | refine blk_drewN ?_ _ | refine blk_drew ?_ | refine blk_alloc ?_ _)); exact BK6015.out⟩, ⟨by (with_reducible repeat (first | refine blk_drewN ?_ _ | refine blk_drew ?_ | refine blk_alloc ?_ _)); exact BK6016.out⟩, ⟨by (with_reducible repeat (first | refine blk_drewN ?_ _ | refine blk_drew ?_ | refine blk_alloc ?_ _)); exact BK6024.out⟩, ⟨by (with_reducible repeat (first | refine blk_drewN ?_ _ | refine blk_drew ?_ | refine blk_alloc ?_ _)); exact BK6032.out⟩, ⟨by exact HB.out⟩⟩
 case rest =>
  clear HC6
  try clear c1
  try clear c2
  try clear c2b0
  try clear c2b1
  try clear p2
  try clear c3
  try clear c4
  try clear c5
  try clear c6
  try clear c10
  try clear c17
  try clear c18
  try clear c21
  try clear c22
  try clear c23
  try clear c24
  try clear c25
  try clear c26
  try clear c27
  try clear c31
  try clear c32
  try clear c32b0
  try clear c32b1
  try clear c32b2
  try clear c33
  try clear c34
  try clear c35
  try clear c37
  try clear c38
  try clear c41
  try clear c42
  try clear c43
  try clear c44
  try clear c46
  try clear c47
  try clear c50
  try clear c52
  try clear c53
  try clear c54
  try clear c56
  try clear c57
  try clear c60
  try clear c61
  try clear c62
  try clear c64
  try clear c65
  try clear hcz11_0
  try clear hcz11_1
  try clear hcz11_2
  try clear hcz11_3
  try clear hcz13_0
  try clear hcz13_1
  try clear hcz13_2
  try clear hcz13_3
  try clear hcz13_4
  try clear hcz13_5
  try clear hcz19_0
  try clear hcz19_1
  try clear hcz19_2
  try clear hcz19_3
  try clear hcz21_0
  try clear hcz21_1
  try clear hcz21_2
  try clear hcz21_3
  try clear hcz22_0
  try clear hcz22_1
  try clear hcz22_2
  try clear hcz22_3
  try clear hcz22_4
  try clear hcz22_5
  try clear hcz28_0
  try clear hcz28_1
  try clear hcz28_2
  try clear hcz28_3
  try clear hcz36_0
  try clear hcz36_1
  try clear hcz36_2
  try clear hcz36_3
  try clear hcz39_0
  try clear hcz39_1
  try clear hcz39_2
  try clear hcz39_3
  try clear hcz45_0
  try clear hcz45_1
  try clear hcz45_2
  try clear hcz45_3
  try clear hcz48_0
  try clear hcz48_1
  try clear hcz48_2
  try clear hcz48_3
  try clear hcz51_0
  try clear hcz51_1
  try clear hcz51_2
  try clear hcz51_3
  try clear hcz51_4
  try clear hcz51_5
  try clear hcz55_0
  try clear hcz55_1
  try clear hcz55_2
  try clear hcz55_3
  try clear hcz58_0
  try clear hcz58_1
  try clear hcz58_2
  try clear hcz58_3
  try clear hcz63_0
  try clear hcz63_1
  try clear hcz63_2
  try clear hcz63_3
  try clear hcz66_0
  try clear hcz66_1
  try clear hcz66_2
  try clear hcz66_3
  try clear hfz11_0
  try clear hfz11_1
  try clear hfz11_2
  try clear hfz11_3
  try clear hfz13_0
  try clear hfz13_1
  try clear hfz13_2
  try clear hfz13_3
  try clear hfz13_4
  try clear hfz13_5
  try clear hfz19_0
  try clear hfz19_1
  try clear hfz19_2
  try clear hfz19_3
  try clear hfz21_0
  try clear hfz21_1
  try clear hfz21_2
  try clear hfz21_3
  try clear hfz22_0
  try clear hfz22_1
  try clear hfz22_2
  try clear hfz22_3
  try clear hfz22_4
  try clear hfz22_5
  try clear hfz28_0
  try clear hfz28_1
  try clear hfz28_2
  try clear hfz28_3
  try clear hfz36_0
  try clear hfz36_1
  try clear hfz36_2
  try clear hfz36_3
  try clear hfz39_0
  try clear hfz39_1
  try clear hfz39_2
  try clear hfz39_3
  try clear hfz45_0
  try clear hfz45_1
  try clear hfz45_2
  try clear hfz45_3
  try clear hfz48_0
  try clear hfz48_1
  try clear hfz48_2
  try clear hfz48_3
  try clear hfz51_0
  try clear hfz51_1
  try clear hfz51_2
  try clear hfz51_3
  try clear hfz51_4
  try clear hfz51_5
  try clear hfz55_0
  try clear hfz55_1
  try clear hfz55_2
  try clear hfz55_3
  try clear hfz58_0
  try clear hfz58_1
  try clear hfz58_2
  try clear hfz58_3
  try clear hfz63_0
  try clear hfz63_1
  try clear hfz63_2
  try clear hfz63_3
  try clear hfz66_0
  try clear hfz66_1
  try clear hfz66_2
  try clear hfz66_3
  obtain ⟨kq, x52_5, rfl, HA, HJ5, HOz1, HOz2, HOz0, HOz3, BK6015, BK6016, BK6024, BK6032, HB⟩ := hcut
  cases kq with
  | zero => exact absurd HA.out (by simp [laws_FnDoStepFill.j0])
  | succ kj5 =>
   have H := HA.out
   clear HA
   simp only [laws_FnDoStepFill.j0] at H
   by_cases c68 : x52_5 = true
   ·subst c68
    have H1 : ((laws_equalImage.f kj5 t6017 t6018 t6019 t6020 t6025 t6026 t6027 t6028).bind fun t6034 => (if t6034 = true then (some (t6023 == t6031)) else (some false))) = some r := by rw [if_pos rfl] at H; exact H
    clear H
    have H := H1
    clear H1
    replace H := Option.bind_eq_some_iff.mp H
    obtain ⟨t6034, A690, H⟩ := H
    replace H : (if t6034 = true then (some (t6023 == t6031)) else (some false)) = some r := H
    have A69 := mk A690
    clear A690
    by_cases c70 : t6034 = true
    ·subst c70
     have H1 : (some (t6023 == t6031)) = some r := by rw [if_pos rfl] at H; exact H
     clear H
     have H := H1
     clear H1
     obtain rfl := Option.some.inj H
     have hcz74_0 : wc.cell? ⟨gb6024, 0, none⟩ = some (.int .i64 t6017) := (blk_cell BK6024.out 0).trans rfl
     have hcz74_1 : wc.cell? ⟨gb6024, 1, none⟩ = some (.int .i64 t6018) := (blk_cell BK6024.out 1).trans rfl
     have hcz74_2 : wc.cell? ⟨gb6024, 2, none⟩ = some (.int .i64 t6019) := (blk_cell BK6024.out 2).trans rfl
     have hcz74_3 : wc.cell? ⟨gb6024, 3, none⟩ = some (.slice Ao20 t6020.length co20) := (blk_cell BK6024.out 3).trans rfl
     have hcz77_0 : wc.cell? ⟨gb6032, 0, none⟩ = some (.int .i64 t6025) := (blk_cell BK6032.out 0).trans rfl
     have hcz77_1 : wc.cell? ⟨gb6032, 1, none⟩ = some (.int .i64 t6026) := (blk_cell BK6032.out 1).trans rfl
     have hcz77_2 : wc.cell? ⟨gb6032, 2, none⟩ = some (.int .i64 t6027) := (blk_cell BK6032.out 2).trans rfl
     have hcz77_3 : wc.cell? ⟨gb6032, 3, none⟩ = some (.slice Ao29 t6028.length co29) := (blk_cell BK6032.out 3).trans rfl
     go_wp2_with (first | ((with_reducible refine gate_callee (f := 24) rfl ?_); refine goesL_ (some 55) rfl rfl Try.func24 (by kernel_rfl) rfl #[.agg #[.int .i64 t6017, .int .i64 t6018, .int .i64 t6019, .slice Ao20 t6020.length co20], .agg #[.int .i64 t6025, .int .i64 t6026, .int .i64 t6027, .slice Ao29 t6028.length co29]] rfl (by (try simp only [List.map_toArray, List.map_cons, List.map_nil]); rfl) ?_; (with_reducible refine (laws_equalImage.calls kj5 t6017 t6018 t6019 _ _ t6020 t6025 t6026 t6027 _ _ t6028 true _ ?side1 ?side2 ?side3 ?side4 A69.out).mono ?_); (case side1 => repeat (exact (Kd.Q_reads' HOz0.out).2.2)); (case side2 => exact (Kd.Q_reads' HOz0.out).2.1); (case side3 => repeat (exact (Kd.Q_reads' HOz3.out).2.2)); (case side4 => exact (Kd.Q_reads' HOz3.out).2.1); rintro e w78 ⟨rfl, hb⟩; refine ⟨_, rfl, ?_⟩; have n8_ := mk (below_step HB.out hb); clear HOz1; clear HOz2; clear HOz0; clear HOz3; clear BK6015; clear BK6016; clear BK6024; clear BK6032; clear HB; have HB := n8_; (try clear hb)))
     go_ret
     exact ⟨by rfl, by exact HB.out⟩
    replace c70 := Bool.eq_false_iff.mpr c70
    subst c70
    have H1 : (some false) = some r := by rw [if_neg (show ¬ (false = true) by decide)] at H; exact H
    clear H
    have H := H1
    clear H1
    exact absurd ((Option.some.inj H).trans HRT.out) (by decide)
   replace c68 := Bool.eq_false_iff.mpr c68
   subst c68
   have H1 : ((impl_CropImage.f t6017 t6018 t6019 t6020 t6008 t6009 t6010 t6011).bind fun bt6035 => ((impl_CropImage.f t6001 t6002 t6003 t6004 t6008 t6009 t6010 t6011).bind fun bt6043 => ((impl_PasteImage.f t6017 t6018 t6019 t6020 t6008 t6009 bt6043.1 bt6043.2.1 bt6043.2.2.1 bt6043.2.2.2.1).bind fun bt6051 => (if bt6035.2.2.2.2 = true then (if bt6043.2.2.2.2 = true then (if bt6051.2.2.2.2 = true then ((impl_FillImage.f kj5 t6010 t6011 t6012).bind fun bt6059 => ((laws_equalImage.f kj5 bt6035.1 bt6035.2.1 bt6035.2.2.1 bt6035.2.2.2.1 bt6059.1 bt6059.2.1 bt6059.2.2.1 bt6059.2.2.2).bind fun t6065 => (if t6065 = true then ((laws_equalImage.f kj5 bt6051.1 bt6051.2.1 bt6051.2.2.1 bt6051.2.2.2.1 t6001 t6002 t6003 t6004).bind fun t6066 => (some t6066)) else (some false)))) else (some false)) else (some false)) else (some false))))) = some r := by rw [if_neg (show ¬ (false = true) by decide)] at H; exact H
   clear H
   have H := H1
   clear H1
   replace H := Option.bind_eq_some_iff.mp H
   obtain ⟨⟨t6035, t6036, t6037, t6038, t6041⟩, A870, H⟩ := H
   replace H : ((impl_CropImage.f t6001 t6002 t6003 t6004 t6008 t6009 t6010 t6011).bind fun bt6043 => ((impl_PasteImage.f t6017 t6018 t6019 t6020 t6008 t6009 bt6043.1 bt6043.2.1 bt6043.2.2.1 bt6043.2.2.2.1).bind fun bt6051 => (if t6041 = true then (if bt6043.2.2.2.2 = true then (if bt6051.2.2.2.2 = true then ((impl_FillImage.f kj5 t6010 t6011 t6012).bind fun bt6059 => ((laws_equalImage.f kj5 t6035 t6036 t6037 t6038 bt6059.1 bt6059.2.1 bt6059.2.2.1 bt6059.2.2.2).bind fun t6065 => (if t6065 = true then ((laws_equalImage.f kj5 bt6051.1 bt6051.2.1 bt6051.2.2.1 bt6051.2.2.2.1 t6001 t6002 t6003 t6004).bind fun t6066 => (some t6066)) else (some false)))) else (some false)) else (some false)) else (some false)))) = some r := H
   have A87 := mk A870
   clear A870
   replace H := Option.bind_eq_some_iff.mp H
   obtain ⟨⟨t6043, t6044, t6045, t6046, t6049⟩, A880, H⟩ := H
   replace H : ((impl_PasteImage.f t6017 t6018 t6019 t6020 t6008 t6009 t6043 t6044 t6045 t6046).bind fun bt6051 => (if t6041 = true then (if t6049 = true then (if bt6051.2.2.2.2 = true then ((impl_FillImage.f kj5 t6010 t6011 t6012).bind fun bt6059 => ((laws_equalImage.f kj5 t6035 t6036 t6037 t6038 bt6059.1 bt6059.2.1 bt6059.2.2.1 bt6059.2.2.2).bind fun t6065 => (if t6065 = true then ((laws_equalImage.f kj5 bt6051.1 bt6051.2.1 bt6051.2.2.1 bt6051.2.2.2.1 t6001 t6002 t6003 t6004).bind fun t6066 => (some t6066)) else (some false)))) else (some false)) else (some false)) else (some false))) = some r := H
   have A88 := mk A880
   clear A880
   replace H := Option.bind_eq_some_iff.mp H
   obtain ⟨⟨t6051, t6052, t6053, t6054, t6057⟩, A890, H⟩ := H
   replace H : (if t6041 = true then (if t6049 = true then (if t6057 = true then ((impl_FillImage.f kj5 t6010 t6011 t6012).bind fun bt6059 => ((laws_equalImage.f kj5 t6035 t6036 t6037 t6038 bt6059.1 bt6059.2.1 bt6059.2.2.1 bt6059.2.2.2).bind fun t6065 => (if t6065 = true then ((laws_equalImage.f kj5 t6051 t6052 t6053 t6054 t6001 t6002 t6003 t6004).bind fun t6066 => (some t6066)) else (some false)))) else (some false)) else (some false)) else (some false)) = some r := H
   have A89 := mk A890
   clear A890
   by_cases c90 : t6041 = true
   ·subst c90
    have H1 : (if t6049 = true then (if t6057 = true then ((impl_FillImage.f kj5 t6010 t6011 t6012).bind fun bt6059 => ((laws_equalImage.f kj5 t6035 t6036 t6037 t6038 bt6059.1 bt6059.2.1 bt6059.2.2.1 bt6059.2.2.2).bind fun t6065 => (if t6065 = true then ((laws_equalImage.f kj5 t6051 t6052 t6053 t6054 t6001 t6002 t6003 t6004).bind fun t6066 => (some t6066)) else (some false)))) else (some false)) else (some false)) = some r := by rw [if_pos rfl] at H; exact H
    clear H
    have H := H1
    clear H1
    by_cases c91 : t6049 = true
    ·subst c91
     have H1 : (if t6057 = true then ((impl_FillImage.f kj5 t6010 t6011 t6012).bind fun bt6059 => ((laws_equalImage.f kj5 t6035 t6036 t6037 t6038 bt6059.1 bt6059.2.1 bt6059.2.2.1 bt6059.2.2.2).bind fun t6065 => (if t6065 = true then ((laws_equalImage.f kj5 t6051 t6052 t6053 t6054 t6001 t6002 t6003 t6004).bind fun t6066 => (some t6066)) else (some false)))) else (some false)) = some r := by rw [if_pos rfl] at H; exact H
     clear H
     have H := H1
     clear H1
     by_cases c92 : t6057 = true
     ·subst c92
      have H1 : ((impl_FillImage.f kj5 t6010 t6011 t6012).bind fun bt6059 => ((laws_equalImage.f kj5 t6035 t6036 t6037 t6038 bt6059.1 bt6059.2.1 bt6059.2.2.1 bt6059.2.2.2).bind fun t6065 => (if t6065 = true then ((laws_equalImage.f kj5 t6051 t6052 t6053 t6054 t6001 t6002 t6003 t6004).bind fun t6066 => (some t6066)) else (some false)))) = some r := by rw [if_pos rfl] at H; exact H
      clear H
      have H := H1
      clear H1
      replace H := Option.bind_eq_some_iff.mp H
      obtain ⟨⟨t6059, t6060, t6061, t6062⟩, A930, H⟩ := H
      replace H : ((laws_equalImage.f kj5 t6035 t6036 t6037 t6038 t6059 t6060 t6061 t6062).bind fun t6065 => (if t6065 = true then ((laws_equalImage.f kj5 t6051 t6052 t6053 t6054 t6001 t6002 t6003 t6004).bind fun t6066 => (some t6066)) else (some false))) = some r := H
      have A93 := mk A930
      clear A930
      replace H := Option.bind_eq_some_iff.mp H
      obtain ⟨t6065, A940, H⟩ := H
      replace H : (if t6065 = true then ((laws_equalImage.f kj5 t6051 t6052 t6053 t6054 t6001 t6002 t6003 t6004).bind fun t6066 => (some t6066)) else (some false)) = some r := H
      have A94 := mk A940
      clear A940
      by_cases c95 : t6065 = true
      ·subst c95
       have H1 : ((laws_equalImage.f kj5 t6051 t6052 t6053 t6054 t6001 t6002 t6003 t6004).bind fun t6066 => (some t6066)) = some r := by rw [if_pos rfl] at H; exact H
       clear H
       have H := H1
       clear H1
       replace H := Option.bind_eq_some_iff.mp H
       obtain ⟨t6066, A960, H⟩ := H
       replace H : (some t6066) = some r := H
       have A96 := mk A960
       clear A960
       obtain rfl := Option.some.inj H
       have hcz100_0 : wc.cell? ⟨gb6024, 0, none⟩ = some (.int .i64 t6017) := (blk_cell BK6024.out 0).trans rfl
       have hcz100_1 : wc.cell? ⟨gb6024, 1, none⟩ = some (.int .i64 t6018) := (blk_cell BK6024.out 1).trans rfl
       have hcz100_2 : wc.cell? ⟨gb6024, 2, none⟩ = some (.int .i64 t6019) := (blk_cell BK6024.out 2).trans rfl
       have hcz100_3 : wc.cell? ⟨gb6024, 3, none⟩ = some (.slice Ao20 t6020.length co20) := (blk_cell BK6024.out 3).trans rfl
       have hcz103_1 : wc.cell? ⟨gb6016, 1, none⟩ = some (.int .i64 t6008) := (blk_cell BK6016.out 1).trans rfl
       have hcz103_2 : wc.cell? ⟨gb6016, 2, none⟩ = some (.int .i64 t6009) := (blk_cell BK6016.out 2).trans rfl
       have hcz103_3 : wc.cell? ⟨gb6016, 3, none⟩ = some (.int .i64 t6010) := (blk_cell BK6016.out 3).trans rfl
       have hcz103_4 : wc.cell? ⟨gb6016, 4, none⟩ = some (.int .i64 t6011) := (blk_cell BK6016.out 4).trans rfl
       try go_wp2_with (first | ((with_reducible refine gate_callee (f := 29) rfl ?_); refine goesL_ (some 65) rfl rfl Try.func29 (by kernel_rfl) rfl #[.agg #[.int .i64 t6017, .int .i64 t6018, .int .i64 t6019, .slice Ao20 t6020.length co20], .agg #[.int .i64 t6008, .int .i64 t6009, .int .i64 t6010, .int .i64 t6011]] rfl (by (try simp only [List.map_toArray, List.map_cons, List.map_nil]); rfl) ?_; (with_reducible refine (impl_CropImage.calls t6017 t6018 t6019 _ _ t6020 t6008 t6009 t6010 t6011 t6035 t6036 t6037 t6038 true _ ?side1 ?side2 A87.out).mono ?_); (case side1 => repeat (exact (Kd.Q_reads' HOz0.out).2.2)); (case side2 => exact (Kd.Q_reads' HOz0.out).2.1); rintro e w104 ⟨v6039, rfl, ho0, hb⟩; refine ⟨_, rfl, ?_⟩; have HO6040 := mk (Kd.R_lower (Kd.R_new' (Kd.R_new' (Kd.R_new' (Kd.R_new' ho0 (Kd.Q_lt HOz1.out)) (Kd.Q_lt HOz2.out)) (Kd.Q_lt HOz0.out)) (Kd.Q_lt HOz3.out)) (below_size HB.out)); replace HOz1 := mk (Kd.Q_elder' HOz1.out (Kd.R_base ho0) hb); replace HOz2 := mk (Kd.Q_elder' HOz2.out (Kd.R_base ho0) hb); replace HOz0 := mk (Kd.Q_elder' HOz0.out (Kd.R_base ho0) hb); replace HOz3 := mk (Kd.Q_elder' HOz3.out (Kd.R_base ho0) hb); replace BK6015 := mk (blk_below BK6015.out hb); replace BK6016 := mk (blk_below BK6016.out hb); replace BK6024 := mk (blk_below BK6024.out hb); replace BK6032 := mk (blk_below BK6032.out hb); replace HB := mk (below_step HB.out hb); (try clear hb); (try clear ho0)) | ((with_reducible refine gate_dst (N := 9) rfl ?_); refine box_event (by rfl) (N := 9) (by rfl) (cs := #[.int .i64 0, .int .i64 0, .int .i64 0, .slice none 0 0]) (t := 28) (by go_simp; done) ?_; intro gb6042 hg w105 hbox hb; replace HOz1 := mk (Kd.Q_below HOz1.out hb); replace HOz2 := mk (Kd.Q_below HOz2.out hb); replace HOz0 := mk (Kd.Q_below HOz0.out hb); replace HOz3 := mk (Kd.Q_below HOz3.out hb); replace HO6040 := mk (Kd.R_below HO6040.out hb); have BK6042 := mk (hbox); have GE6042 := mk ((by rw [hg]; exact (below_size HB.out) : w.heap.size ≤ gb6042)); replace HB := mk (below_step HB.out hb); have NB6015_6042 := mk ((by rw [hg]; exact Nat.ne_of_lt (blk_lt BK6015.out) : gb6015 ≠ gb6042)); replace BK6015 := mk (blk_below BK6015.out hb); have NB6016_6042 := mk ((by rw [hg]; exact Nat.ne_of_lt (blk_lt BK6016.out) : gb6016 ≠ gb6042)); have NB6042_6016 := mk ((by rw [hg]; exact Nat.ne_of_gt (blk_lt BK6016.out) : gb6042 ≠ gb6016)); replace BK6016 := mk (blk_below BK6016.out hb); have NB6024_6042 := mk ((by rw [hg]; exact Nat.ne_of_lt (blk_lt BK6024.out) : gb6024 ≠ gb6042)); have NB6042_6024 := mk ((by rw [hg]; exact Nat.ne_of_gt (blk_lt BK6024.out) : gb6042 ≠ gb6024)); replace BK6024 := mk (blk_below BK6024.out hb); have NB6032_6042 := mk ((by rw [hg]; exact Nat.ne_of_lt (blk_lt BK6032.out) : gb6032 ≠ gb6042)); have NB6042_6032 := mk ((by rw [hg]; exact Nat.ne_of_gt (blk_lt BK6032.out) : gb6042 ≠ gb6032)); replace BK6032 := mk (blk_below BK6032.out hb); clear hb hbox hg; have hnc106 := NB6015_6042.out; have hnb107 := NB6042_6016.out; have hnc107 := NB6016_6042.out; have hnb108 := NB6042_6024.out; have hnc108 := NB6024_6042.out; have hnb109 := NB6042_6032.out; have hnc109 := NB6032_6042.out; have hcz110_0 : w105.cell? ⟨gb6042, 0, none⟩ = some (.int .i64 0) := (blk_cell BK6042.out 0).trans rfl; have hcz110_1 : w105.cell? ⟨gb6042, 1, none⟩ = some (.int .i64 0) := (blk_cell BK6042.out 1).trans rfl; have hcz110_2 : w105.cell? ⟨gb6042, 2, none⟩ = some (.int .i64 0) := (blk_cell BK6042.out 2).trans rfl; have hcz110_3 : w105.cell? ⟨gb6042, 3, none⟩ = some (.slice none 0 0) := (blk_cell BK6042.out 3).trans rfl; have hfz110_0 := blk_frozen BK6042.out 0; have hfz110_1 := blk_frozen BK6042.out 1; have hfz110_2 := blk_frozen BK6042.out 2; have hfz110_3 := blk_frozen BK6042.out 3; obtain ⟨Ao111, co111, eo111⟩ := Kd.R_slice HO6040.out; subst eo111; have hnb112 := NB6015_6032.out; have hnc112 := NB6032_6015.out; have hcz113_0 : w105.cell? ⟨gb6015, 0, none⟩ = some (.int .i64 t6001) := (blk_cell BK6015.out 0).trans rfl; have hcz113_1 : w105.cell? ⟨gb6015, 1, none⟩ = some (.int .i64 t6002) := (blk_cell BK6015.out 1).trans rfl; have hcz113_2 : w105.cell? ⟨gb6015, 2, none⟩ = some (.int .i64 t6003) := (blk_cell BK6015.out 2).trans rfl; have hcz113_3 : w105.cell? ⟨gb6015, 3, none⟩ = some (.slice Ao12 t6004.length co12) := (blk_cell BK6015.out 3).trans rfl; have hcz114_1 : w105.cell? ⟨gb6016, 1, none⟩ = some (.int .i64 t6008) := (blk_cell BK6016.out 1).trans rfl; have hcz114_2 : w105.cell? ⟨gb6016, 2, none⟩ = some (.int .i64 t6009) := (blk_cell BK6016.out 2).trans rfl; have hcz114_3 : w105.cell? ⟨gb6016, 3, none⟩ = some (.int .i64 t6010) := (blk_cell BK6016.out 3).trans rfl; have hcz114_4 : w105.cell? ⟨gb6016, 4, none⟩ = some (.int .i64 t6011) := (blk_cell BK6016.out 4).trans rfl) | ((with_reducible refine gate_callee (f := 29) rfl ?_); refine goesL_ (some 72) rfl rfl Try.func29 (by kernel_rfl) rfl #[.agg #[.int .i64 t6001, .int .i64 t6002, .int .i64 t6003, .slice Ao12 t6004.length co12], .agg #[.int .i64 t6008, .int .i64 t6009, .int .i64 t6010, .int .i64 t6011]] rfl (by (try simp only [List.map_toArray, List.map_cons, List.map_nil]); rfl) ?_; (with_reducible refine (impl_CropImage.calls t6001 t6002 t6003 _ _ t6004 t6008 t6009 t6010 t6011 t6043 t6044 t6045 t6046 true _ ?side1 ?side2 A88.out).mono ?_); (case side1 => refine (Kd.Q_reads' (e := 3) (base := w.heap.size) (ok := fun k_ => ((some k_ ≠ (.slice Ao14 t6012.length co14 : Value).ownBlock ∧ (some k_ ≠ (.slice Ao20 t6020.length co20 : Value).ownBlock ∧ some k_ ≠ (.slice Ao29 t6028.length co29 : Value).ownBlock)) ∧ some k_ ≠ (.slice Ao111 t6038.length co111 : Value).ownBlock)) (n := t6004.length) (c := co12) ?_).2.2; exact (by exact (Kd.Q_mono (Kd.Q_far (p := ⟨gb6042, 3, none⟩) (Kd.Q_far (p := ⟨gb6042, 2, none⟩) (Kd.Q_far (p := ⟨gb6042, 1, none⟩) (Kd.Q_far (p := ⟨gb6042, 0, none⟩) (Kd.Q_types HOz1.out BK6042.out (by decide)) (fun _ hk => hk.2) (.int .i64 t6035)) (fun _ hk => hk.2) (.int .i64 t6036)) (fun _ hk => hk.2) (.int .i64 t6037)) (fun _ hk => hk.2) (.slice Ao111 t6038.length co111)) (fun _ h_ => h_.1)))); (case side2 => exact (Kd.Q_reads' HOz1.out).2.1); rintro e w115 ⟨v6047, rfl, ho0, hb⟩; refine ⟨_, rfl, ?_⟩; have HO6048 := mk (Kd.R_lower (Kd.R_new' (Kd.R_new' (Kd.R_new' (Kd.R_new' (Kd.R_new' ho0 (Kd.Q_lt (by exact (Kd.Q_mono (Kd.Q_far (p := ⟨gb6042, 3, none⟩) (Kd.Q_far (p := ⟨gb6042, 2, none⟩) (Kd.Q_far (p := ⟨gb6042, 1, none⟩) (Kd.Q_far (p := ⟨gb6042, 0, none⟩) (Kd.Q_types HOz1.out BK6042.out (by decide)) (fun _ hk => hk.2) (.int .i64 t6035)) (fun _ hk => hk.2) (.int .i64 t6036)) (fun _ hk => hk.2) (.int .i64 t6037)) (fun _ hk => hk.2) (.slice Ao111 t6038.length co111)) (fun _ h_ => h_.1))))) (Kd.Q_lt (by exact (Kd.Q_mono (Kd.Q_far (p := ⟨gb6042, 3, none⟩) (Kd.Q_far (p := ⟨gb6042, 2, none⟩) (Kd.Q_far (p := ⟨gb6042, 1, none⟩) (Kd.Q_far (p := ⟨gb6042, 0, none⟩) (Kd.Q_types HOz2.out BK6042.out (by decide)) (fun _ hk => hk.2) (.int .i64 t6035)) (fun _ hk => hk.2) (.int .i64 t6036)) (fun _ hk => hk.2) (.int .i64 t6037)) (fun _ hk => hk.2) (.slice Ao111 t6038.length co111)) (fun _ h_ => h_.1))))) (Kd.Q_lt (by exact (Kd.Q_mono (Kd.Q_far (p := ⟨gb6042, 3, none⟩) (Kd.Q_far (p := ⟨gb6042, 2, none⟩) (Kd.Q_far (p := ⟨gb6042, 1, none⟩) (Kd.Q_far (p := ⟨gb6042, 0, none⟩) (Kd.Q_types HOz0.out BK6042.out (by decide)) (fun _ hk => hk.2) (.int .i64 t6035)) (fun _ hk => hk.2) (.int .i64 t6036)) (fun _ hk => hk.2) (.int .i64 t6037)) (fun _ hk => hk.2) (.slice Ao111 t6038.length co111)) (fun _ h_ => h_.1))))) (Kd.Q_lt (by exact (Kd.Q_mono (Kd.Q_far (p := ⟨gb6042, 3, none⟩) (Kd.Q_far (p := ⟨gb6042, 2, none⟩) (Kd.Q_far (p := ⟨gb6042, 1, none⟩) (Kd.Q_far (p := ⟨gb6042, 0, none⟩) (Kd.Q_types HOz3.out BK6042.out (by decide)) (fun _ hk => hk.2) (.int .i64 t6035)) (fun _ hk => hk.2) (.int .i64 t6036)) (fun _ hk => hk.2) (.int .i64 t6037)) (fun _ hk => hk.2) (.slice Ao111 t6038.length co111)) (fun _ h_ => h_.1))))) (Kd.R_lt (by exact (Kd.R_mono (Kd.R_far (p := ⟨gb6042, 3, none⟩) (Kd.R_far (p := ⟨gb6042, 2, none⟩) (Kd.R_far (p := ⟨gb6042, 1, none⟩) (Kd.R_far (p := ⟨gb6042, 0, none⟩) (Kd.R_types HO6040.out BK6042.out (by decide)) (fun _ hk => hk.2) (.int .i64 t6035)) (fun _ hk => hk.2) (.int .i64 t6036)) (fun _ hk => hk.2) (.int .i64 t6037)) (fun _ hk => hk.2) (.slice Ao111 t6038.length co111)) (fun _ h_ => h_.1))))) (below_size (by repeat (with_reducible first | exact HB.out | refine below_set ?_ GE6042.out)))); replace HOz1 := mk (Kd.Q_elder' (by exact (Kd.Q_mono (Kd.Q_far (p := ⟨gb6042, 3, none⟩) (Kd.Q_far (p := ⟨gb6042, 2, none⟩) (Kd.Q_far (p := ⟨gb6042, 1, none⟩) (Kd.Q_far (p := ⟨gb6042, 0, none⟩) (Kd.Q_types HOz1.out BK6042.out (by decide)) (fun _ hk => hk.2) (.int .i64 t6035)) (fun _ hk => hk.2) (.int .i64 t6036)) (fun _ hk => hk.2) (.int .i64 t6037)) (fun _ hk => hk.2) (.slice Ao111 t6038.length co111)) (fun _ h_ => h_.1))) (Kd.R_base ho0) hb); replace HOz2 := mk (Kd.Q_elder' (by exact (Kd.Q_mono (Kd.Q_far (p := ⟨gb6042, 3, none⟩) (Kd.Q_far (p := ⟨gb6042, 2, none⟩) (Kd.Q_far (p := ⟨gb6042, 1, none⟩) (Kd.Q_far (p := ⟨gb6042, 0, none⟩) (Kd.Q_types HOz2.out BK6042.out (by decide)) (fun _ hk => hk.2) (.int .i64 t6035)) (fun _ hk => hk.2) (.int .i64 t6036)) (fun _ hk => hk.2) (.int .i64 t6037)) (fun _ hk => hk.2) (.slice Ao111 t6038.length co111)) (fun _ h_ => h_.1))) (Kd.R_base ho0) hb); replace HOz0 := mk (Kd.Q_elder' (by exact (Kd.Q_mono (Kd.Q_far (p := ⟨gb6042, 3, none⟩) (Kd.Q_far (p := ⟨gb6042, 2, none⟩) (Kd.Q_far (p := ⟨gb6042, 1, none⟩) (Kd.Q_far (p := ⟨gb6042, 0, none⟩) (Kd.Q_types HOz0.out BK6042.out (by decide)) (fun _ hk => hk.2) (.int .i64 t6035)) (fun _ hk => hk.2) (.int .i64 t6036)) (fun _ hk => hk.2) (.int .i64 t6037)) (fun _ hk => hk.2) (.slice Ao111 t6038.length co111)) (fun _ h_ => h_.1))) (Kd.R_base ho0) hb); replace HOz3 := mk (Kd.Q_elder' (by exact (Kd.Q_mono (Kd.Q_far (p := ⟨gb6042, 3, none⟩) (Kd.Q_far (p := ⟨gb6042, 2, none⟩) (Kd.Q_far (p := ⟨gb6042, 1, none⟩) (Kd.Q_far (p := ⟨gb6042, 0, none⟩) (Kd.Q_types HOz3.out BK6042.out (by decide)) (fun _ hk => hk.2) (.int .i64 t6035)) (fun _ hk => hk.2) (.int .i64 t6036)) (fun _ hk => hk.2) (.int .i64 t6037)) (fun _ hk => hk.2) (.slice Ao111 t6038.length co111)) (fun _ h_ => h_.1))) (Kd.R_base ho0) hb); replace HO6040 := mk (Kd.R_elder' (by exact (Kd.R_mono (Kd.R_far (p := ⟨gb6042, 3, none⟩) (Kd.R_far (p := ⟨gb6042, 2, none⟩) (Kd.R_far (p := ⟨gb6042, 1, none⟩) (Kd.R_far (p := ⟨gb6042, 0, none⟩) (Kd.R_types HO6040.out BK6042.out (by decide)) (fun _ hk => hk.2) (.int .i64 t6035)) (fun _ hk => hk.2) (.int .i64 t6036)) (fun _ hk => hk.2) (.int .i64 t6037)) (fun _ hk => hk.2) (.slice Ao111 t6038.length co111)) (fun _ h_ => h_.1))) (Kd.R_base ho0) hb); replace BK6015 := mk (blk_below (g := gb6015) (o := .cells #[.int .i64 t6001, .int .i64 t6002, .int .i64 t6003, .slice Ao12 t6004.length co12] 28 (0, 0)) (by refine blk_far ?_ NB6015_6042.out _; refine blk_far ?_ NB6015_6042.out _; refine blk_far ?_ NB6015_6042.out _; refine blk_far ?_ NB6015_6042.out _; (with_reducible repeat (first | refine blk_drewN ?_ _ | refine blk_drew ?_ | refine blk_alloc ?_ _)); exact BK6015.out) hb); replace BK6016 := mk (blk_below (g := gb6016) (o := .cells #[.int .i64 t6007, .int .i64 t6008, .int .i64 t6009, .int .i64 t6010, .int .i64 t6011, .slice Ao14 t6012.length co14] 43 (0, 0)) (by refine blk_far ?_ NB6016_6042.out _; refine blk_far ?_ NB6016_6042.out _; refine blk_far ?_ NB6016_6042.out _; refine blk_far ?_ NB6016_6042.out _; (with_reducible repeat (first | refine blk_drewN ?_ _ | refine blk_drew ?_ | refine blk_alloc ?_ _)); exact BK6016.out) hb); replace BK6024 := mk (blk_below (g := gb6024) (o := .cells #[.int .i64 t6017, .int .i64 t6018, .int .i64 t6019, .slice Ao20 t6020.length co20] 28 (0, 0)) (by refine blk_far ?_ NB6024_6042.out _; refine blk_far ?_ NB6024_6042.out _; refine blk_far ?_ NB6024_6042.out _; refine blk_far ?_ NB6024_6042.out _; (with_reducible repeat (first | refine blk_drewN ?_ _ | refine blk_drew ?_ | refine blk_alloc ?_ _)); exact BK6024.out) hb); replace BK6032 := mk (blk_below (g := gb6032) (o := .cells #[.int .i64 t6025, .int .i64 t6026, .int .i64 t6027, .slice Ao29 t6028.length co29] 28 (0, 0)) (by refine blk_far ?_ NB6032_6042.out _; refine blk_far ?_ NB6032_6042.out _; refine blk_far ?_ NB6032_6042.out _; refine blk_far ?_ NB6032_6042.out _; (with_reducible repeat (first | refine blk_drewN ?_ _ | refine blk_drew ?_ | refine blk_alloc ?_ _)); exact BK6032.out) hb); replace BK6042 := mk (blk_below (g := gb6042) (o := .cells #[.int .i64 t6035, .int .i64 t6036, .int .i64 t6037, .slice Ao111 t6038.length co111] 28 (0, 0)) (by refine blk_put (cs := #[.int .i64 t6035, .int .i64 t6036, .int .i64 t6037, .slice none 0 0]) ?_ 3 _ rfl; refine blk_put (cs := #[.int .i64 t6035, .int .i64 t6036, .int .i64 0, .slice none 0 0]) ?_ 2 _ rfl; refine blk_put (cs := #[.int .i64 t6035, .int .i64 0, .int .i64 0, .slice none 0 0]) ?_ 1 _ rfl; refine blk_put (cs := #[.int .i64 0, .int .i64 0, .int .i64 0, .slice none 0 0]) ?_ 0 _ rfl; (with_reducible repeat (first | refine blk_drewN ?_ _ | refine blk_drew ?_ | refine blk_alloc ?_ _)); exact BK6042.out) hb); replace HB := mk (below_step (by repeat (with_reducible first | exact HB.out | refine below_set ?_ GE6042.out)) hb); (try clear hb); (try clear ho0)) | ((with_reducible refine gate_dst (N := 11) rfl ?_); refine box_event (by rfl) (N := 11) (by rfl) (cs := #[.int .i64 0, .int .i64 0, .int .i64 0, .slice none 0 0]) (t := 28) (by go_simp; done) ?_; intro gb6050 hg w116 hbox hb; replace HOz1 := mk (Kd.Q_below HOz1.out hb); replace HOz2 := mk (Kd.Q_below HOz2.out hb); replace HOz0 := mk (Kd.Q_below HOz0.out hb); replace HOz3 := mk (Kd.Q_below HOz3.out hb); replace HO6040 := mk (Kd.R_below HO6040.out hb); replace HO6048 := mk (Kd.R_below HO6048.out hb); have BK6050 := mk (hbox); have GE6050 := mk ((by rw [hg]; exact (below_size HB.out) : w.heap.size ≤ gb6050)); replace HB := mk (below_step HB.out hb); have NB6015_6050 := mk ((by rw [hg]; exact Nat.ne_of_lt (blk_lt BK6015.out) : gb6015 ≠ gb6050)); replace BK6015 := mk (blk_below BK6015.out hb); have NB6016_6050 := mk ((by rw [hg]; exact Nat.ne_of_lt (blk_lt BK6016.out) : gb6016 ≠ gb6050)); replace BK6016 := mk (blk_below BK6016.out hb); have NB6024_6050 := mk ((by rw [hg]; exact Nat.ne_of_lt (blk_lt BK6024.out) : gb6024 ≠ gb6050)); have NB6050_6024 := mk ((by rw [hg]; exact Nat.ne_of_gt (blk_lt BK6024.out) : gb6050 ≠ gb6024)); replace BK6024 := mk (blk_below BK6024.out hb); have NB6032_6050 := mk ((by rw [hg]; exact Nat.ne_of_lt (blk_lt BK6032.out) : gb6032 ≠ gb6050)); have NB6050_6032 := mk ((by rw [hg]; exact Nat.ne_of_gt (blk_lt BK6032.out) : gb6050 ≠ gb6032)); replace BK6032 := mk (blk_below BK6032.out hb); have NB6042_6050 := mk ((by rw [hg]; exact Nat.ne_of_lt (blk_lt BK6042.out) : gb6042 ≠ gb6050)); have NB6050_6042 := mk ((by rw [hg]; exact Nat.ne_of_gt (blk_lt BK6042.out) : gb6050 ≠ gb6042)); replace BK6042 := mk (blk_below BK6042.out hb); clear hb hbox hg; have hnc118 := NB6016_6050.out; have hnb119 := NB6050_6024.out; have hnc119 := NB6024_6050.out; have hnb120 := NB6050_6032.out; have hnc120 := NB6032_6050.out; have hnb121 := NB6050_6042.out; have hnc121 := NB6042_6050.out; have hcz122_0 : w116.cell? ⟨gb6050, 0, none⟩ = some (.int .i64 0) := (blk_cell BK6050.out 0).trans rfl; have hcz122_1 : w116.cell? ⟨gb6050, 1, none⟩ = some (.int .i64 0) := (blk_cell BK6050.out 1).trans rfl; have hcz122_2 : w116.cell? ⟨gb6050, 2, none⟩ = some (.int .i64 0) := (blk_cell BK6050.out 2).trans rfl; have hcz122_3 : w116.cell? ⟨gb6050, 3, none⟩ = some (.slice none 0 0) := (blk_cell BK6050.out 3).trans rfl; have hfz122_0 := blk_frozen BK6050.out 0; have hfz122_1 := blk_frozen BK6050.out 1; have hfz122_2 := blk_frozen BK6050.out 2; have hfz122_3 := blk_frozen BK6050.out 3; obtain ⟨Ao123, co123, eo123⟩ := Kd.R_slice HO6048.out; subst eo123; have hcz124_0 : w116.cell? ⟨gb6024, 0, none⟩ = some (.int .i64 t6017) := (blk_cell BK6024.out 0).trans rfl; have hcz124_1 : w116.cell? ⟨gb6024, 1, none⟩ = some (.int .i64 t6018) := (blk_cell BK6024.out 1).trans rfl; have hcz124_2 : w116.cell? ⟨gb6024, 2, none⟩ = some (.int .i64 t6019) := (blk_cell BK6024.out 2).trans rfl; have hcz124_3 : w116.cell? ⟨gb6024, 3, none⟩ = some (.slice Ao20 t6020.length co20) := (blk_cell BK6024.out 3).trans rfl; have hcz125_1 : w116.cell? ⟨gb6016, 1, none⟩ = some (.int .i64 t6008) := (blk_cell BK6016.out 1).trans rfl; have hcz125_2 : w116.cell? ⟨gb6016, 2, none⟩ = some (.int .i64 t6009) := (blk_cell BK6016.out 2).trans rfl) | ((with_reducible refine gate_callee (f := 30) rfl ?_); refine goesL_ (some 84) rfl rfl Try.func30 (by kernel_rfl) rfl #[.agg #[.int .i64 t6017, .int .i64 t6018, .int .i64 t6019, .slice Ao20 t6020.length co20], .int .i64 t6008, .int .i64 t6009, .agg #[.int .i64 t6043, .int .i64 t6044, .int .i64 t6045, .slice Ao123 t6046.length co123]] rfl (by (try simp only [List.map_toArray, List.map_cons, List.map_nil]); rfl) ?_; (with_reducible refine (impl_PasteImage.calls t6017 t6018 t6019 _ _ t6020 t6008 t6009 t6043 t6044 t6045 _ _ t6046 t6051 t6052 t6053 t6054 true _ ?side1 ?side2 ?side3 ?side4 A89.out).mono ?_); (case side1 => refine (Kd.Q_reads' (e := 3) (base := w.heap.size) (ok := fun k_ => (((some k_ ≠ (.slice Ao12 t6004.length co12 : Value).ownBlock ∧ (some k_ ≠ (.slice Ao14 t6012.length co14 : Value).ownBlock ∧ some k_ ≠ (.slice Ao29 t6028.length co29 : Value).ownBlock)) ∧ some k_ ≠ (.slice Ao111 t6038.length co111 : Value).ownBlock) ∧ some k_ ≠ (.slice Ao123 t6046.length co123 : Value).ownBlock)) (n := t6020.length) (c := co20) ?_).2.2; exact (by exact (Kd.Q_mono (Kd.Q_far (p := ⟨gb6050, 3, none⟩) (Kd.Q_far (p := ⟨gb6050, 2, none⟩) (Kd.Q_far (p := ⟨gb6050, 1, none⟩) (Kd.Q_far (p := ⟨gb6050, 0, none⟩) (Kd.Q_types HOz0.out BK6050.out (by decide)) (fun _ hk => hk.2) (.int .i64 t6043)) (fun _ hk => hk.2) (.int .i64 t6044)) (fun _ hk => hk.2) (.int .i64 t6045)) (fun _ hk => hk.2) (.slice Ao123 t6046.length co123)) (fun _ h_ => h_.1)))); (case side2 => exact (Kd.Q_reads' HOz0.out).2.1); (case side3 => refine (Kd.R_reads' (e := 3) (base := w.heap.size) (ok := fun k_ => (((((True ∧ some k_ ≠ (.slice Ao12 t6004.length co12 : Value).ownBlock) ∧ some k_ ≠ (.slice Ao14 t6012.length co14 : Value).ownBlock) ∧ some k_ ≠ (.slice Ao20 t6020.length co20 : Value).ownBlock) ∧ some k_ ≠ (.slice Ao29 t6028.length co29 : Value).ownBlock) ∧ some k_ ≠ (.slice Ao111 t6038.length co111 : Value).ownBlock)) (n := t6046.length) (c := co123) ?_).2.2; exact (by exact (Kd.R_mono (Kd.R_far (p := ⟨gb6050, 3, none⟩) (Kd.R_far (p := ⟨gb6050, 2, none⟩) (Kd.R_far (p := ⟨gb6050, 1, none⟩) (Kd.R_far (p := ⟨gb6050, 0, none⟩) (Kd.R_types HO6048.out BK6050.out (by decide)) (fun _ hk => hk.2) (.int .i64 t6043)) (fun _ hk => hk.2) (.int .i64 t6044)) (fun _ hk => hk.2) (.int .i64 t6045)) (fun _ hk => hk.2) (.slice Ao123 t6046.length co123)) (fun _ h_ => h_.1)))); (case side4 => exact (Kd.R_reads' HO6048.out).2.1); rintro e w126 ⟨v6055, rfl, ho0, hb⟩; refine ⟨_, rfl, ?_⟩; have HO6056 := mk (Kd.R_lower (Kd.R_new' (Kd.R_new' (Kd.R_new' (Kd.R_new' (Kd.R_new' (Kd.R_new' ho0 (Kd.Q_lt (by exact (Kd.Q_mono (Kd.Q_far (p := ⟨gb6050, 3, none⟩) (Kd.Q_far (p := ⟨gb6050, 2, none⟩) (Kd.Q_far (p := ⟨gb6050, 1, none⟩) (Kd.Q_far (p := ⟨gb6050, 0, none⟩) (Kd.Q_types HOz1.out BK6050.out (by decide)) (fun _ hk => hk.2) (.int .i64 t6043)) (fun _ hk => hk.2) (.int .i64 t6044)) (fun _ hk => hk.2) (.int .i64 t6045)) (fun _ hk => hk.2) (.slice Ao123 t6046.length co123)) (fun _ h_ => h_.1))))) (Kd.Q_lt (by exact (Kd.Q_mono (Kd.Q_far (p := ⟨gb6050, 3, none⟩) (Kd.Q_far (p := ⟨gb6050, 2, none⟩) (Kd.Q_far (p := ⟨gb6050, 1, none⟩) (Kd.Q_far (p := ⟨gb6050, 0, none⟩) (Kd.Q_types HOz2.out BK6050.out (by decide)) (fun _ hk => hk.2) (.int .i64 t6043)) (fun _ hk => hk.2) (.int .i64 t6044)) (fun _ hk => hk.2) (.int .i64 t6045)) (fun _ hk => hk.2) (.slice Ao123 t6046.length co123)) (fun _ h_ => h_.1))))) (Kd.Q_lt (by exact (Kd.Q_mono (Kd.Q_far (p := ⟨gb6050, 3, none⟩) (Kd.Q_far (p := ⟨gb6050, 2, none⟩) (Kd.Q_far (p := ⟨gb6050, 1, none⟩) (Kd.Q_far (p := ⟨gb6050, 0, none⟩) (Kd.Q_types HOz0.out BK6050.out (by decide)) (fun _ hk => hk.2) (.int .i64 t6043)) (fun _ hk => hk.2) (.int .i64 t6044)) (fun _ hk => hk.2) (.int .i64 t6045)) (fun _ hk => hk.2) (.slice Ao123 t6046.length co123)) (fun _ h_ => h_.1))))) (Kd.Q_lt (by exact (Kd.Q_mono (Kd.Q_far (p := ⟨gb6050, 3, none⟩) (Kd.Q_far (p := ⟨gb6050, 2, none⟩) (Kd.Q_far (p := ⟨gb6050, 1, none⟩) (Kd.Q_far (p := ⟨gb6050, 0, none⟩) (Kd.Q_types HOz3.out BK6050.out (by decide)) (fun _ hk => hk.2) (.int .i64 t6043)) (fun _ hk => hk.2) (.int .i64 t6044)) (fun _ hk => hk.2) (.int .i64 t6045)) (fun _ hk => hk.2) (.slice Ao123 t6046.length co123)) (fun _ h_ => h_.1))))) (Kd.R_lt (by exact (Kd.R_mono (Kd.R_far (p := ⟨gb6050, 3, none⟩) (Kd.R_far (p := ⟨gb6050, 2, none⟩) (Kd.R_far (p := ⟨gb6050, 1, none⟩) (Kd.R_far (p := ⟨gb6050, 0, none⟩) (Kd.R_types HO6040.out BK6050.out (by decide)) (fun _ hk => hk.2) (.int .i64 t6043)) (fun _ hk => hk.2) (.int .i64 t6044)) (fun _ hk => hk.2) (.int .i64 t6045)) (fun _ hk => hk.2) (.slice Ao123 t6046.length co123)) (fun _ h_ => h_.1))))) (Kd.R_lt (by exact (Kd.R_mono (Kd.R_far (p := ⟨gb6050, 3, none⟩) (Kd.R_far (p := ⟨gb6050, 2, none⟩) (Kd.R_far (p := ⟨gb6050, 1, none⟩) (Kd.R_far (p := ⟨gb6050, 0, none⟩) (Kd.R_types HO6048.out BK6050.out (by decide)) (fun _ hk => hk.2) (.int .i64 t6043)) (fun _ hk => hk.2) (.int .i64 t6044)) (fun _ hk => hk.2) (.int .i64 t6045)) (fun _ hk => hk.2) (.slice Ao123 t6046.length co123)) (fun _ h_ => h_.1))))) (below_size (by repeat (with_reducible first | exact HB.out | refine below_set ?_ GE6050.out)))); replace HOz1 := mk (Kd.Q_elder' (by exact (Kd.Q_mono (Kd.Q_far (p := ⟨gb6050, 3, none⟩) (Kd.Q_far (p := ⟨gb6050, 2, none⟩) (Kd.Q_far (p := ⟨gb6050, 1, none⟩) (Kd.Q_far (p := ⟨gb6050, 0, none⟩) (Kd.Q_types HOz1.out BK6050.out (by decide)) (fun _ hk => hk.2) (.int .i64 t6043)) (fun _ hk => hk.2) (.int .i64 t6044)) (fun _ hk => hk.2) (.int .i64 t6045)) (fun _ hk => hk.2) (.slice Ao123 t6046.length co123)) (fun _ h_ => h_.1))) (Kd.R_base ho0) hb); replace HOz2 := mk (Kd.Q_elder' (by exact (Kd.Q_mono (Kd.Q_far (p := ⟨gb6050, 3, none⟩) (Kd.Q_far (p := ⟨gb6050, 2, none⟩) (Kd.Q_far (p := ⟨gb6050, 1, none⟩) (Kd.Q_far (p := ⟨gb6050, 0, none⟩) (Kd.Q_types HOz2.out BK6050.out (by decide)) (fun _ hk => hk.2) (.int .i64 t6043)) (fun _ hk => hk.2) (.int .i64 t6044)) (fun _ hk => hk.2) (.int .i64 t6045)) (fun _ hk => hk.2) (.slice Ao123 t6046.length co123)) (fun _ h_ => h_.1))) (Kd.R_base ho0) hb); replace HOz0 := mk (Kd.Q_elder' (by exact (Kd.Q_mono (Kd.Q_far (p := ⟨gb6050, 3, none⟩) (Kd.Q_far (p := ⟨gb6050, 2, none⟩) (Kd.Q_far (p := ⟨gb6050, 1, none⟩) (Kd.Q_far (p := ⟨gb6050, 0, none⟩) (Kd.Q_types HOz0.out BK6050.out (by decide)) (fun _ hk => hk.2) (.int .i64 t6043)) (fun _ hk => hk.2) (.int .i64 t6044)) (fun _ hk => hk.2) (.int .i64 t6045)) (fun _ hk => hk.2) (.slice Ao123 t6046.length co123)) (fun _ h_ => h_.1))) (Kd.R_base ho0) hb); replace HOz3 := mk (Kd.Q_elder' (by exact (Kd.Q_mono (Kd.Q_far (p := ⟨gb6050, 3, none⟩) (Kd.Q_far (p := ⟨gb6050, 2, none⟩) (Kd.Q_far (p := ⟨gb6050, 1, none⟩) (Kd.Q_far (p := ⟨gb6050, 0, none⟩) (Kd.Q_types HOz3.out BK6050.out (by decide)) (fun _ hk => hk.2) (.int .i64 t6043)) (fun _ hk => hk.2) (.int .i64 t6044)) (fun _ hk => hk.2) (.int .i64 t6045)) (fun _ hk => hk.2) (.slice Ao123 t6046.length co123)) (fun _ h_ => h_.1))) (Kd.R_base ho0) hb); replace HO6040 := mk (Kd.R_elder' (by exact (Kd.R_mono (Kd.R_far (p := ⟨gb6050, 3, none⟩) (Kd.R_far (p := ⟨gb6050, 2, none⟩) (Kd.R_far (p := ⟨gb6050, 1, none⟩) (Kd.R_far (p := ⟨gb6050, 0, none⟩) (Kd.R_types HO6040.out BK6050.out (by decide)) (fun _ hk => hk.2) (.int .i64 t6043)) (fun _ hk => hk.2) (.int .i64 t6044)) (fun _ hk => hk.2) (.int .i64 t6045)) (fun _ hk => hk.2) (.slice Ao123 t6046.length co123)) (fun _ h_ => h_.1))) (Kd.R_base ho0) hb); replace HO6048 := mk (Kd.R_elder' (by exact (Kd.R_mono (Kd.R_far (p := ⟨gb6050, 3, none⟩) (Kd.R_far (p := ⟨gb6050, 2, none⟩) (Kd.R_far (p := ⟨gb6050, 1, none⟩) (Kd.R_far (p := ⟨gb6050, 0, none⟩) (Kd.R_types HO6048.out BK6050.out (by decide)) (fun _ hk => hk.2) (.int .i64 t6043)) (fun _ hk => hk.2) (.int .i64 t6044)) (fun _ hk => hk.2) (.int .i64 t6045)) (fun _ hk => hk.2) (.slice Ao123 t6046.length co123)) (fun _ h_ => h_.1))) (Kd.R_base ho0) hb); replace BK6015 := mk (blk_below (g := gb6015) (o := .cells #[.int .i64 t6001, .int .i64 t6002, .int .i64 t6003, .slice Ao12 t6004.length co12] 28 (0, 0)) (by refine blk_far ?_ NB6015_6050.out _; refine blk_far ?_ NB6015_6050.out _; refine blk_far ?_ NB6015_6050.out _; refine blk_far ?_ NB6015_6050.out _; (with_reducible repeat (first | refine blk_drewN ?_ _ | refine blk_drew ?_ | refine blk_alloc ?_ _)); exact BK6015.out) hb); replace BK6016 := mk (blk_below (g := gb6016) (o := .cells #[.int .i64 t6007, .int .i64 t6008, .int .i64 t6009, .int .i64 t6010, .int .i64 t6011, .slice Ao14 t6012.length co14] 43 (0, 0)) (by refine blk_far ?_ NB6016_6050.out _; refine blk_far ?_ NB6016_6050.out _; refine blk_far ?_ NB6016_6050.out _; refine blk_far ?_ NB6016_6050.out _; (with_reducible repeat (first | refine blk_drewN ?_ _ | refine blk_drew ?_ | refine blk_alloc ?_ _)); exact BK6016.out) hb); replace BK6024 := mk (blk_below (g := gb6024) (o := .cells #[.int .i64 t6017, .int .i64 t6018, .int .i64 t6019, .slice Ao20 t6020.length co20] 28 (0, 0)) (by refine blk_far ?_ NB6024_6050.out _; refine blk_far ?_ NB6024_6050.out _; refine blk_far ?_ NB6024_6050.out _; refine blk_far ?_ NB6024_6050.out _; (with_reducible repeat (first | refine blk_drewN ?_ _ | refine blk_drew ?_ | refine blk_alloc ?_ _)); exact BK6024.out) hb); replace BK6032 := mk (blk_below (g := gb6032) (o := .cells #[.int .i64 t6025, .int .i64 t6026, .int .i64 t6027, .slice Ao29 t6028.length co29] 28 (0, 0)) (by refine blk_far ?_ NB6032_6050.out _; refine blk_far ?_ NB6032_6050.out _; refine blk_far ?_ NB6032_6050.out _; refine blk_far ?_ NB6032_6050.out _; (with_reducible repeat (first | refine blk_drewN ?_ _ | refine blk_drew ?_ | refine blk_alloc ?_ _)); exact BK6032.out) hb); replace BK6042 := mk (blk_below (g := gb6042) (o := .cells #[.int .i64 t6035, .int .i64 t6036, .int .i64 t6037, .slice Ao111 t6038.length co111] 28 (0, 0)) (by refine blk_far ?_ NB6042_6050.out _; refine blk_far ?_ NB6042_6050.out _; refine blk_far ?_ NB6042_6050.out _; refine blk_far ?_ NB6042_6050.out _; (with_reducible repeat (first | refine blk_drewN ?_ _ | refine blk_drew ?_ | refine blk_alloc ?_ _)); exact BK6042.out) hb); replace BK6050 := mk (blk_below (g := gb6050) (o := .cells #[.int .i64 t6043, .int .i64 t6044, .int .i64 t6045, .slice Ao123 t6046.length co123] 28 (0, 0)) (by refine blk_put (cs := #[.int .i64 t6043, .int .i64 t6044, .int .i64 t6045, .slice none 0 0]) ?_ 3 _ rfl; refine blk_put (cs := #[.int .i64 t6043, .int .i64 t6044, .int .i64 0, .slice none 0 0]) ?_ 2 _ rfl; refine blk_put (cs := #[.int .i64 t6043, .int .i64 0, .int .i64 0, .slice none 0 0]) ?_ 1 _ rfl; refine blk_put (cs := #[.int .i64 0, .int .i64 0, .int .i64 0, .slice none 0 0]) ?_ 0 _ rfl; (with_reducible repeat (first | refine blk_drewN ?_ _ | refine blk_drew ?_ | refine blk_alloc ?_ _)); exact BK6050.out) hb); replace HB := mk (below_step (by repeat (with_reducible first | exact HB.out | refine below_set ?_ GE6050.out)) hb); (try clear hb); (try clear ho0)) | ((with_reducible refine gate_dst (N := 13) rfl ?_); refine box_event (by rfl) (N := 13) (by rfl) (cs := #[.int .i64 0, .int .i64 0, .int .i64 0, .slice none 0 0]) (t := 28) (by go_simp; done) ?_; intro gb6058 hg w127 hbox hb; replace HOz1 := mk (Kd.Q_below HOz1.out hb); replace HOz2 := mk (Kd.Q_below HOz2.out hb); replace HOz0 := mk (Kd.Q_below HOz0.out hb); replace HOz3 := mk (Kd.Q_below HOz3.out hb); replace HO6040 := mk (Kd.R_below HO6040.out hb); replace HO6048 := mk (Kd.R_below HO6048.out hb); replace HO6056 := mk (Kd.R_below HO6056.out hb); have BK6058 := mk (hbox); have GE6058 := mk ((by rw [hg]; exact (below_size HB.out) : w.heap.size ≤ gb6058)); replace HB := mk (below_step HB.out hb); have NB6015_6058 := mk ((by rw [hg]; exact Nat.ne_of_lt (blk_lt BK6015.out) : gb6015 ≠ gb6058)); replace BK6015 := mk (blk_below BK6015.out hb); have NB6016_6058 := mk ((by rw [hg]; exact Nat.ne_of_lt (blk_lt BK6016.out) : gb6016 ≠ gb6058)); replace BK6016 := mk (blk_below BK6016.out hb); have NB6024_6058 := mk ((by rw [hg]; exact Nat.ne_of_lt (blk_lt BK6024.out) : gb6024 ≠ gb6058)); replace BK6024 := mk (blk_below BK6024.out hb); have NB6032_6058 := mk ((by rw [hg]; exact Nat.ne_of_lt (blk_lt BK6032.out) : gb6032 ≠ gb6058)); replace BK6032 := mk (blk_below BK6032.out hb); have NB6042_6058 := mk ((by rw [hg]; exact Nat.ne_of_lt (blk_lt BK6042.out) : gb6042 ≠ gb6058)); replace BK6042 := mk (blk_below BK6042.out hb); have NB6050_6058 := mk ((by rw [hg]; exact Nat.ne_of_lt (blk_lt BK6050.out) : gb6050 ≠ gb6058)); replace BK6050 := mk (blk_below BK6050.out hb); clear hb hbox hg; have hcz134_0 : w127.cell? ⟨gb6058, 0, none⟩ = some (.int .i64 0) := (blk_cell BK6058.out 0).trans rfl; have hcz134_1 : w127.cell? ⟨gb6058, 1, none⟩ = some (.int .i64 0) := (blk_cell BK6058.out 1).trans rfl; have hcz134_2 : w127.cell? ⟨gb6058, 2, none⟩ = some (.int .i64 0) := (blk_cell BK6058.out 2).trans rfl; have hcz134_3 : w127.cell? ⟨gb6058, 3, none⟩ = some (.slice none 0 0) := (blk_cell BK6058.out 3).trans rfl; have hfz134_0 := blk_frozen BK6058.out 0; have hfz134_1 := blk_frozen BK6058.out 1; have hfz134_2 := blk_frozen BK6058.out 2; have hfz134_3 := blk_frozen BK6058.out 3; obtain ⟨Ao135, co135, eo135⟩ := Kd.R_slice HO6056.out; subst eo135))
       have n0_ : Aside0 (Kd.Q (Kd.int .i64) 3 ((((w127.setCell ⟨gb6058, 0, none⟩ (.int .i64 t6051)).setCell ⟨gb6058, 1, none⟩ (.int .i64 t6052)).setCell ⟨gb6058, 2, none⟩ (.int .i64 t6053)).setCell ⟨gb6058, 3, none⟩ (.slice Ao135 t6054.length co135)) w.heap.size (fun k_ => some k_ ≠ (.slice Ao14 t6012.length co14 : Value).ownBlock ∧ some k_ ≠ (.slice Ao20 t6020.length co20 : Value).ownBlock ∧ some k_ ≠ (.slice Ao29 t6028.length co29 : Value).ownBlock ∧ some k_ ≠ (.slice Ao111 t6038.length co111 : Value).ownBlock ∧ some k_ ≠ (.slice Ao123 t6046.length co123 : Value).ownBlock ∧ some k_ ≠ (.slice Ao135 t6054.length co135 : Value).ownBlock) (.slice Ao12 t6004.length co12) t6004) := ⟨by (with_reducible repeat (first | apply Kd.Q_alloc | apply Kd.Q_drewN | apply Kd.Q_drew)); exact Kd.Q_mono (Kd.Q_far (p := ⟨gb6058, 3, none⟩) (Kd.Q_far (p := ⟨gb6058, 2, none⟩) (Kd.Q_far (p := ⟨gb6058, 1, none⟩) (Kd.Q_far (p := ⟨gb6058, 0, none⟩) (Kd.Q_types HOz1.out BK6058.out (by decide)) (fun _ hk => hk.2) (.int .i64 t6051)) (fun _ hk => hk.2) (.int .i64 t6052)) (fun _ hk => hk.2) (.int .i64 t6053)) (fun _ hk => hk.2) (.slice Ao135 t6054.length co135)) (fun _ hk => ⟨hk.1.1.1.1.1, ⟨hk.1.1.1.1.2.1, ⟨hk.1.1.1.1.2.2, ⟨hk.1.1.1.2, ⟨hk.1.1.2, hk.1.2⟩⟩⟩⟩⟩)⟩
       have n1_ : Aside0 (Kd.Q (Kd.int .i64) 3 ((((w127.setCell ⟨gb6058, 0, none⟩ (.int .i64 t6051)).setCell ⟨gb6058, 1, none⟩ (.int .i64 t6052)).setCell ⟨gb6058, 2, none⟩ (.int .i64 t6053)).setCell ⟨gb6058, 3, none⟩ (.slice Ao135 t6054.length co135)) w.heap.size (fun k_ => some k_ ≠ (.slice Ao12 t6004.length co12 : Value).ownBlock ∧ some k_ ≠ (.slice Ao20 t6020.length co20 : Value).ownBlock ∧ some k_ ≠ (.slice Ao29 t6028.length co29 : Value).ownBlock ∧ some k_ ≠ (.slice Ao111 t6038.length co111 : Value).ownBlock ∧ some k_ ≠ (.slice Ao123 t6046.length co123 : Value).ownBlock ∧ some k_ ≠ (.slice Ao135 t6054.length co135 : Value).ownBlock) (.slice Ao14 t6012.length co14) t6012) := ⟨by (with_reducible repeat (first | apply Kd.Q_alloc | apply Kd.Q_drewN | apply Kd.Q_drew)); exact Kd.Q_mono (Kd.Q_far (p := ⟨gb6058, 3, none⟩) (Kd.Q_far (p := ⟨gb6058, 2, none⟩) (Kd.Q_far (p := ⟨gb6058, 1, none⟩) (Kd.Q_far (p := ⟨gb6058, 0, none⟩) (Kd.Q_types HOz2.out BK6058.out (by decide)) (fun _ hk => hk.2) (.int .i64 t6051)) (fun _ hk => hk.2) (.int .i64 t6052)) (fun _ hk => hk.2) (.int .i64 t6053)) (fun _ hk => hk.2) (.slice Ao135 t6054.length co135)) (fun _ hk => ⟨hk.1.1.1.1.1, ⟨hk.1.1.1.1.2.1, ⟨hk.1.1.1.1.2.2, ⟨hk.1.1.1.2, ⟨hk.1.1.2, hk.1.2⟩⟩⟩⟩⟩)⟩
       have n2_ : Aside0 (Kd.Q (Kd.int .i64) 3 ((((w127.setCell ⟨gb6058, 0, none⟩ (.int .i64 t6051)).setCell ⟨gb6058, 1, none⟩ (.int .i64 t6052)).setCell ⟨gb6058, 2, none⟩ (.int .i64 t6053)).setCell ⟨gb6058, 3, none⟩ (.slice Ao135 t6054.length co135)) w.heap.size (fun k_ => some k_ ≠ (.slice Ao12 t6004.length co12 : Value).ownBlock ∧ some k_ ≠ (.slice Ao14 t6012.length co14 : Value).ownBlock ∧ some k_ ≠ (.slice Ao29 t6028.length co29 : Value).ownBlock ∧ some k_ ≠ (.slice Ao111 t6038.length co111 : Value).ownBlock ∧ some k_ ≠ (.slice Ao123 t6046.length co123 : Value).ownBlock ∧ some k_ ≠ (.slice Ao135 t6054.length co135 : Value).ownBlock) (.slice Ao20 t6020.length co20) t6020) := ⟨by (with_reducible repeat (first | apply Kd.Q_alloc | apply Kd.Q_drewN | apply Kd.Q_drew)); exact Kd.Q_mono (Kd.Q_far (p := ⟨gb6058, 3, none⟩) (Kd.Q_far (p := ⟨gb6058, 2, none⟩) (Kd.Q_far (p := ⟨gb6058, 1, none⟩) (Kd.Q_far (p := ⟨gb6058, 0, none⟩) (Kd.Q_types HOz0.out BK6058.out (by decide)) (fun _ hk => hk.2) (.int .i64 t6051)) (fun _ hk => hk.2) (.int .i64 t6052)) (fun _ hk => hk.2) (.int .i64 t6053)) (fun _ hk => hk.2) (.slice Ao135 t6054.length co135)) (fun _ hk => ⟨hk.1.1.1.1.1, ⟨hk.1.1.1.1.2.1, ⟨hk.1.1.1.1.2.2, ⟨hk.1.1.1.2, ⟨hk.1.1.2, hk.1.2⟩⟩⟩⟩⟩)⟩
       have n3_ : Aside0 (Kd.Q (Kd.int .i64) 3 ((((w127.setCell ⟨gb6058, 0, none⟩ (.int .i64 t6051)).setCell ⟨gb6058, 1, none⟩ (.int .i64 t6052)).setCell ⟨gb6058, 2, none⟩ (.int .i64 t6053)).setCell ⟨gb6058, 3, none⟩ (.slice Ao135 t6054.length co135)) w.heap.size (fun k_ => some k_ ≠ (.slice Ao12 t6004.length co12 : Value).ownBlock ∧ some k_ ≠ (.slice Ao14 t6012.length co14 : Value).ownBlock ∧ some k_ ≠ (.slice Ao20 t6020.length co20 : Value).ownBlock ∧ some k_ ≠ (.slice Ao111 t6038.length co111 : Value).ownBlock ∧ some k_ ≠ (.slice Ao123 t6046.length co123 : Value).ownBlock ∧ some k_ ≠ (.slice Ao135 t6054.length co135 : Value).ownBlock) (.slice Ao29 t6028.length co29) t6028) := ⟨by (with_reducible repeat (first | apply Kd.Q_alloc | apply Kd.Q_drewN | apply Kd.Q_drew)); exact Kd.Q_mono (Kd.Q_far (p := ⟨gb6058, 3, none⟩) (Kd.Q_far (p := ⟨gb6058, 2, none⟩) (Kd.Q_far (p := ⟨gb6058, 1, none⟩) (Kd.Q_far (p := ⟨gb6058, 0, none⟩) (Kd.Q_types HOz3.out BK6058.out (by decide)) (fun _ hk => hk.2) (.int .i64 t6051)) (fun _ hk => hk.2) (.int .i64 t6052)) (fun _ hk => hk.2) (.int .i64 t6053)) (fun _ hk => hk.2) (.slice Ao135 t6054.length co135)) (fun _ hk => ⟨hk.1.1.1.1.1, ⟨hk.1.1.1.1.2.1, ⟨hk.1.1.1.1.2.2, ⟨hk.1.1.1.2, ⟨hk.1.1.2, hk.1.2⟩⟩⟩⟩⟩)⟩
       have n4_ : Aside0 (Kd.R (Kd.int .i64) 3 ((((w127.setCell ⟨gb6058, 0, none⟩ (.int .i64 t6051)).setCell ⟨gb6058, 1, none⟩ (.int .i64 t6052)).setCell ⟨gb6058, 2, none⟩ (.int .i64 t6053)).setCell ⟨gb6058, 3, none⟩ (.slice Ao135 t6054.length co135)) w.heap.size (fun k_ => some k_ ≠ (.slice Ao12 t6004.length co12 : Value).ownBlock ∧ some k_ ≠ (.slice Ao14 t6012.length co14 : Value).ownBlock ∧ some k_ ≠ (.slice Ao20 t6020.length co20 : Value).ownBlock ∧ some k_ ≠ (.slice Ao29 t6028.length co29 : Value).ownBlock ∧ some k_ ≠ (.slice Ao123 t6046.length co123 : Value).ownBlock ∧ some k_ ≠ (.slice Ao135 t6054.length co135 : Value).ownBlock) (.slice Ao111 t6038.length co111) t6038) := ⟨by (with_reducible repeat (first | apply Kd.R_alloc | apply Kd.R_drewN | apply Kd.R_drew)); exact Kd.R_mono (Kd.R_far (p := ⟨gb6058, 3, none⟩) (Kd.R_far (p := ⟨gb6058, 2, none⟩) (Kd.R_far (p := ⟨gb6058, 1, none⟩) (Kd.R_far (p := ⟨gb6058, 0, none⟩) (Kd.R_types HO6040.out BK6058.out (by decide)) (fun _ hk => hk.2) (.int .i64 t6051)) (fun _ hk => hk.2) (.int .i64 t6052)) (fun _ hk => hk.2) (.int .i64 t6053)) (fun _ hk => hk.2) (.slice Ao135 t6054.length co135)) (fun _ hk => ⟨hk.1.1.1.1.1.1.2, ⟨hk.1.1.1.1.1.2, ⟨hk.1.1.1.1.2, ⟨hk.1.1.1.2, ⟨hk.1.1.2, hk.1.2⟩⟩⟩⟩⟩)⟩
       have n5_ : Aside0 (Kd.R (Kd.int .i64) 3 ((((w127.setCell ⟨gb6058, 0, none⟩ (.int .i64 t6051)).setCell ⟨gb6058, 1, none⟩ (.int .i64 t6052)).setCell ⟨gb6058, 2, none⟩ (.int .i64 t6053)).setCell ⟨gb6058, 3, none⟩ (.slice Ao135 t6054.length co135)) w.heap.size (fun k_ => some k_ ≠ (.slice Ao12 t6004.length co12 : Value).ownBlock ∧ some k_ ≠ (.slice Ao14 t6012.length co14 : Value).ownBlock ∧ some k_ ≠ (.slice Ao20 t6020.length co20 : Value).ownBlock ∧ some k_ ≠ (.slice Ao29 t6028.length co29 : Value).ownBlock ∧ some k_ ≠ (.slice Ao111 t6038.length co111 : Value).ownBlock ∧ some k_ ≠ (.slice Ao135 t6054.length co135 : Value).ownBlock) (.slice Ao123 t6046.length co123) t6046) := ⟨by (with_reducible repeat (first | apply Kd.R_alloc | apply Kd.R_drewN | apply Kd.R_drew)); exact Kd.R_mono (Kd.R_far (p := ⟨gb6058, 3, none⟩) (Kd.R_far (p := ⟨gb6058, 2, none⟩) (Kd.R_far (p := ⟨gb6058, 1, none⟩) (Kd.R_far (p := ⟨gb6058, 0, none⟩) (Kd.R_types HO6048.out BK6058.out (by decide)) (fun _ hk => hk.2) (.int .i64 t6051)) (fun _ hk => hk.2) (.int .i64 t6052)) (fun _ hk => hk.2) (.int .i64 t6053)) (fun _ hk => hk.2) (.slice Ao135 t6054.length co135)) (fun _ hk => ⟨hk.1.1.1.1.1.1.2, ⟨hk.1.1.1.1.1.2, ⟨hk.1.1.1.1.2, ⟨hk.1.1.1.2, ⟨hk.1.1.2, hk.1.2⟩⟩⟩⟩⟩)⟩
       have n6_ : Aside0 (Kd.R (Kd.int .i64) 3 ((((w127.setCell ⟨gb6058, 0, none⟩ (.int .i64 t6051)).setCell ⟨gb6058, 1, none⟩ (.int .i64 t6052)).setCell ⟨gb6058, 2, none⟩ (.int .i64 t6053)).setCell ⟨gb6058, 3, none⟩ (.slice Ao135 t6054.length co135)) w.heap.size (fun k_ => some k_ ≠ (.slice Ao12 t6004.length co12 : Value).ownBlock ∧ some k_ ≠ (.slice Ao14 t6012.length co14 : Value).ownBlock ∧ some k_ ≠ (.slice Ao20 t6020.length co20 : Value).ownBlock ∧ some k_ ≠ (.slice Ao29 t6028.length co29 : Value).ownBlock ∧ some k_ ≠ (.slice Ao111 t6038.length co111 : Value).ownBlock ∧ some k_ ≠ (.slice Ao123 t6046.length co123 : Value).ownBlock) (.slice Ao135 t6054.length co135) t6054) := ⟨by (with_reducible repeat (first | apply Kd.R_alloc | apply Kd.R_drewN | apply Kd.R_drew)); exact Kd.R_mono (Kd.R_far (p := ⟨gb6058, 3, none⟩) (Kd.R_far (p := ⟨gb6058, 2, none⟩) (Kd.R_far (p := ⟨gb6058, 1, none⟩) (Kd.R_far (p := ⟨gb6058, 0, none⟩) (Kd.R_types HO6056.out BK6058.out (by decide)) (fun _ hk => hk.2) (.int .i64 t6051)) (fun _ hk => hk.2) (.int .i64 t6052)) (fun _ hk => hk.2) (.int .i64 t6053)) (fun _ hk => hk.2) (.slice Ao135 t6054.length co135)) (fun _ hk => ⟨hk.1.1.1.1.1.1.2, ⟨hk.1.1.1.1.1.2, ⟨hk.1.1.1.1.2, ⟨hk.1.1.1.2, ⟨hk.1.1.2, hk.1.2⟩⟩⟩⟩⟩)⟩
       have n7_ : Aside0 (((((w127.setCell ⟨gb6058, 0, none⟩ (.int .i64 t6051)).setCell ⟨gb6058, 1, none⟩ (.int .i64 t6052)).setCell ⟨gb6058, 2, none⟩ (.int .i64 t6053)).setCell ⟨gb6058, 3, none⟩ (.slice Ao135 t6054.length co135)).heap[gb6015]? = some (.cells #[.int .i64 t6001, .int .i64 t6002, .int .i64 t6003, .slice Ao12 t6004.length co12] 28 (0, 0))) := ⟨by refine blk_far ?_ NB6015_6058.out _; refine blk_far ?_ NB6015_6058.out _; refine blk_far ?_ NB6015_6058.out _; refine blk_far ?_ NB6015_6058.out _; (with_reducible repeat (first | refine blk_drewN ?_ _ | refine blk_drew ?_ | refine blk_alloc ?_ _)); exact BK6015.out⟩
       have n8_ : Aside0 (((((w127.setCell ⟨gb6058, 0, none⟩ (.int .i64 t6051)).setCell ⟨gb6058, 1, none⟩ (.int .i64 t6052)).setCell ⟨gb6058, 2, none⟩ (.int .i64 t6053)).setCell ⟨gb6058, 3, none⟩ (.slice Ao135 t6054.length co135)).heap[gb6016]? = some (.cells #[.int .i64 t6007, .int .i64 t6008, .int .i64 t6009, .int .i64 t6010, .int .i64 t6011, .slice Ao14 t6012.length co14] 43 (0, 0))) := ⟨by refine blk_far ?_ NB6016_6058.out _; refine blk_far ?_ NB6016_6058.out _; refine blk_far ?_ NB6016_6058.out _; refine blk_far ?_ NB6016_6058.out _; (with_reducible repeat (first | refine blk_drewN ?_ _ | refine blk_drew ?_ | refine blk_alloc ?_ _)); exact BK6016.out⟩
       have n9_ : Aside0 (((((w127.setCell ⟨gb6058, 0, none⟩ (.int .i64 t6051)).setCell ⟨gb6058, 1, none⟩ (.int .i64 t6052)).setCell ⟨gb6058, 2, none⟩ (.int .i64 t6053)).setCell ⟨gb6058, 3, none⟩ (.slice Ao135 t6054.length co135)).heap[gb6024]? = some (.cells #[.int .i64 t6017, .int .i64 t6018, .int .i64 t6019, .slice Ao20 t6020.length co20] 28 (0, 0))) := ⟨by refine blk_far ?_ NB6024_6058.out _; refine blk_far ?_ NB6024_6058.out _; refine blk_far ?_ NB6024_6058.out _; refine blk_far ?_ NB6024_6058.out _; (with_reducible repeat (first | refine blk_drewN ?_ _ | refine blk_drew ?_ | refine blk_alloc ?_ _)); exact BK6024.out⟩
       have n10_ : Aside0 (((((w127.setCell ⟨gb6058, 0, none⟩ (.int .i64 t6051)).setCell ⟨gb6058, 1, none⟩ (.int .i64 t6052)).setCell ⟨gb6058, 2, none⟩ (.int .i64 t6053)).setCell ⟨gb6058, 3, none⟩ (.slice Ao135 t6054.length co135)).heap[gb6032]? = some (.cells #[.int .i64 t6025, .int .i64 t6026, .int .i64 t6027, .slice Ao29 t6028.length co29] 28 (0, 0))) := ⟨by refine blk_far ?_ NB6032_6058.out _; refine blk_far ?_ NB6032_6058.out _; refine blk_far ?_ NB6032_6058.out _; refine blk_far ?_ NB6032_6058.out _; (with_reducible repeat (first | refine blk_drewN ?_ _ | refine blk_drew ?_ | refine blk_alloc ?_ _)); exact BK6032.out⟩
       have n11_ : Aside0 (((((w127.setCell ⟨gb6058, 0, none⟩ (.int .i64 t6051)).setCell ⟨gb6058, 1, none⟩ (.int .i64 t6052)).setCell ⟨gb6058, 2, none⟩ (.int .i64 t6053)).setCell ⟨gb6058, 3, none⟩ (.slice Ao135 t6054.length co135)).heap[gb6042]? = some (.cells #[.int .i64 t6035, .int .i64 t6036, .int .i64 t6037, .slice Ao111 t6038.length co111] 28 (0, 0))) := ⟨by refine blk_far ?_ NB6042_6058.out _; refine blk_far ?_ NB6042_6058.out _; refine blk_far ?_ NB6042_6058.out _; refine blk_far ?_ NB6042_6058.out _; (with_reducible repeat (first | refine blk_drewN ?_ _ | refine blk_drew ?_ | refine blk_alloc ?_ _)); exact BK6042.out⟩
       have n12_ : Aside0 (((((w127.setCell ⟨gb6058, 0, none⟩ (.int .i64 t6051)).setCell ⟨gb6058, 1, none⟩ (.int .i64 t6052)).setCell ⟨gb6058, 2, none⟩ (.int .i64 t6053)).setCell ⟨gb6058, 3, none⟩ (.slice Ao135 t6054.length co135)).heap[gb6050]? = some (.cells #[.int .i64 t6043, .int .i64 t6044, .int .i64 t6045, .slice Ao123 t6046.length co123] 28 (0, 0))) := ⟨by refine blk_far ?_ NB6050_6058.out _; refine blk_far ?_ NB6050_6058.out _; refine blk_far ?_ NB6050_6058.out _; refine blk_far ?_ NB6050_6058.out _; (with_reducible repeat (first | refine blk_drewN ?_ _ | refine blk_drew ?_ | refine blk_alloc ?_ _)); exact BK6050.out⟩
       have n13_ : Aside0 (((((w127.setCell ⟨gb6058, 0, none⟩ (.int .i64 t6051)).setCell ⟨gb6058, 1, none⟩ (.int .i64 t6052)).setCell ⟨gb6058, 2, none⟩ (.int .i64 t6053)).setCell ⟨gb6058, 3, none⟩ (.slice Ao135 t6054.length co135)).heap[gb6058]? = some (.cells #[.int .i64 t6051, .int .i64 t6052, .int .i64 t6053, .slice Ao135 t6054.length co135] 28 (0, 0))) := ⟨by refine blk_put (cs := #[.int .i64 t6051, .int .i64 t6052, .int .i64 t6053, .slice none 0 0]) ?_ 3 _ rfl; refine blk_put (cs := #[.int .i64 t6051, .int .i64 t6052, .int .i64 0, .slice none 0 0]) ?_ 2 _ rfl; refine blk_put (cs := #[.int .i64 t6051, .int .i64 0, .int .i64 0, .slice none 0 0]) ?_ 1 _ rfl; refine blk_put (cs := #[.int .i64 0, .int .i64 0, .int .i64 0, .slice none 0 0]) ?_ 0 _ rfl; (with_reducible repeat (first | refine blk_drewN ?_ _ | refine blk_drew ?_ | refine blk_alloc ?_ _)); exact BK6058.out⟩
       have n14_ : Aside0 (Below w.heap.size w ((((w127.setCell ⟨gb6058, 0, none⟩ (.int .i64 t6051)).setCell ⟨gb6058, 1, none⟩ (.int .i64 t6052)).setCell ⟨gb6058, 2, none⟩ (.int .i64 t6053)).setCell ⟨gb6058, 3, none⟩ (.slice Ao135 t6054.length co135))) := ⟨by repeat (with_reducible first | exact HB.out | refine below_set ?_ GE6058.out)⟩
       (try clear HOz1)
       (try clear HOz2)
       (try clear HOz0)
       (try clear HOz3)
       (try clear HO6040)
       (try clear HO6048)
       (try clear HO6056)
       (try clear BK6015)
       (try clear BK6016)
       (try clear BK6024)
       (try clear BK6032)
       (try clear BK6042)
       (try clear BK6050)
       (try clear BK6058)
       (try clear HB)
       generalize ((((w127.setCell ⟨gb6058, 0, none⟩ (.int .i64 t6051)).setCell ⟨gb6058, 1, none⟩ (.int .i64 t6052)).setCell ⟨gb6058, 2, none⟩ (.int .i64 t6053)).setCell ⟨gb6058, 3, none⟩ (.slice Ao135 t6054.length co135)) = w136 at n0_ n1_ n2_ n3_ n4_ n5_ n6_ n7_ n8_ n9_ n10_ n11_ n12_ n13_ n14_ ⊢
       revert n0_ n1_ n2_ n3_ n4_ n5_ n6_ n7_ n8_ n9_ n10_ n11_ n12_ n13_ n14_; intro HOz1 HOz2 HOz0 HOz3 HO6040 HO6048 HO6056 BK6015 BK6016 BK6024 BK6032 BK6042 BK6050 BK6058 HB
       have n0_ := mk (Kd.Q_drew HOz1.out)
       have n1_ := mk (Kd.Q_drew HOz2.out)
       have n2_ := mk (Kd.Q_drew HOz0.out)
       have n3_ := mk (Kd.Q_drew HOz3.out)
       have n4_ := mk (Kd.R_drew HO6040.out)
       have n5_ := mk (Kd.R_drew HO6048.out)
       have n6_ := mk (Kd.R_drew HO6056.out)
       have n7_ := mk (blk_drew BK6015.out)
       have n8_ := mk (blk_drew BK6016.out)
       have n9_ := mk (blk_drew BK6024.out)
       have n10_ := mk (blk_drew BK6032.out)
       have n11_ := mk (blk_drew BK6042.out)
       have n12_ := mk (blk_drew BK6050.out)
       have n13_ := mk (blk_drew BK6058.out)
       have n14_ := mk (below_drew1 HB.out)
       clear HOz1 HOz2 HOz0 HOz3 HO6040 HO6048 HO6056 BK6015 BK6016 BK6024 BK6032 BK6042 BK6050 BK6058 HB
       revert n0_ n1_ n2_ n3_ n4_ n5_ n6_ n7_ n8_ n9_ n10_ n11_ n12_ n13_ n14_; intro HOz1 HOz2 HOz0 HOz3 HO6040 HO6048 HO6056 BK6015 BK6016 BK6024 BK6032 BK6042 BK6050 BK6058 HB
       refine start_ (n := 26) (S := fun w' => w'.cell? ⟨gb6042, 0, none⟩ = some (.int .i64 t6035) ∧ w'.cell? ⟨gb6042, 1, none⟩ = some (.int .i64 t6036) ∧ w'.cell? ⟨gb6042, 2, none⟩ = some (.int .i64 t6037) ∧ w'.cell? ⟨gb6042, 3, none⟩ = some (.slice Ao111 t6038.length co111) ∧ w'.cell? ⟨gb6016, 0, none⟩ = some (.int .i64 t6007) ∧ w'.cell? ⟨gb6016, 1, none⟩ = some (.int .i64 t6008) ∧ w'.cell? ⟨gb6016, 2, none⟩ = some (.int .i64 t6009) ∧ w'.cell? ⟨gb6016, 3, none⟩ = some (.int .i64 t6010) ∧ w'.cell? ⟨gb6016, 4, none⟩ = some (.int .i64 t6011) ∧ w'.cell? ⟨gb6016, 5, none⟩ = some (.slice Ao14 t6012.length co14) ∧ w'.cell? ⟨gb6058, 0, none⟩ = some (.int .i64 t6051) ∧ w'.cell? ⟨gb6058, 1, none⟩ = some (.int .i64 t6052) ∧ w'.cell? ⟨gb6058, 2, none⟩ = some (.int .i64 t6053) ∧ w'.cell? ⟨gb6058, 3, none⟩ = some (.slice Ao135 t6054.length co135) ∧ w'.cell? ⟨gb6015, 0, none⟩ = some (.int .i64 t6001) ∧ w'.cell? ⟨gb6015, 1, none⟩ = some (.int .i64 t6002) ∧ w'.cell? ⟨gb6015, 2, none⟩ = some (.int .i64 t6003) ∧ w'.cell? ⟨gb6015, 3, none⟩ = some (.slice Ao12 t6004.length co12)) (ds := []) #[false, false, false, false, false, false, false, false, false, false, false, false, false, false, false, false, false, false, false, false, false, false, false, false, false, false] (by kernel_rfl) rfl rfl ⟨(blk_cell BK6042.out 0).trans rfl, (blk_cell BK6042.out 1).trans rfl, (blk_cell BK6042.out 2).trans rfl, (blk_cell BK6042.out 3).trans rfl, (blk_cell BK6016.out 0).trans rfl, (blk_cell BK6016.out 1).trans rfl, (blk_cell BK6016.out 2).trans rfl, (blk_cell BK6016.out 3).trans rfl, (blk_cell BK6016.out 4).trans rfl, (blk_cell BK6016.out 5).trans rfl, (blk_cell BK6058.out 0).trans rfl, (blk_cell BK6058.out 1).trans rfl, (blk_cell BK6058.out 2).trans rfl, (blk_cell BK6058.out 3).trans rfl, (blk_cell BK6015.out 0).trans rfl, (blk_cell BK6015.out 1).trans rfl, (blk_cell BK6015.out 2).trans rfl, (blk_cell BK6015.out 3).trans rfl⟩ (fun hHeld => ?_); refine with_tabW laws_FnDoStepFill.tab11 laws_FnDoStepFill.bits11 (fun HT_ HW_ => ?_)
       generalize w136.drew = w137 at HOz1 HOz2 HOz0 HOz3 HO6040 HO6048 HO6056 BK6015 BK6016 BK6024 BK6032 BK6042 BK6050 BK6058 HB hHeld ⊢
       refine pure_ (i := 0) (N := some 87) (v := ?_) (a' := ?_) #[true, false, false, false, false, false, false, false, false, false, false, false, false, false, false, false, false, false, false, false, false, false, false, false, false, false] rfl rfl (any_of HT_.out (by kernel_rfl)) (fun _ _ _ h => h) (Or.inl ⟨by rfl, ?_⟩) ?_ ?_
       rotate_left
       ·intro w'
        go_simp
        with_reducible rfl
       rotate_left
       ·simp only [Act.put, List.setIfInBounds_toArray, List.set_cons_zero, List.set_cons_succ, i64_w, i32_w]
        rfl
       refine pure_ (i := 1) (N := some 88) (v := ?_) (a' := ?_) #[true, true, false, false, false, false, false, false, false, false, false, false, false, false, false, false, false, false, false, false, false, false, false, false, false, false] rfl rfl (any_of HT_.out (by kernel_rfl)) (fun _ _ _ h => h) (Or.inl ⟨by rfl, ?_⟩) ?_ ?_
       rotate_left
       ·intro w'
        go_simp
        with_reducible rfl
       rotate_left
       ·simp only [Act.put, List.setIfInBounds_toArray, List.set_cons_zero, List.set_cons_succ, i64_w, i32_w]
        rfl
       refine pure_ (i := 2) (N := some 89) (v := ?_) (a' := ?_) #[true, true, true, false, false, false, false, false, false, false, false, false, false, false, false, false, false, false, false, false, false, false, false, false, false, false] rfl rfl (any_of HT_.out (by kernel_rfl)) (fun _ _ _ h => h) (Or.inl ⟨by rfl, ?_⟩) ?_ ?_
       rotate_left
       ·intro w'
        go_simp
        with_reducible rfl
       rotate_left
       ·simp only [Act.put, List.setIfInBounds_toArray, List.set_cons_zero, List.set_cons_succ, i64_w, i32_w]
        rfl
       refine pure_ (i := 3) (N := some 90) (v := ?_) (a' := ?_) #[true, true, true, true, false, false, false, false, false, false, false, false, false, false, false, false, false, false, false, false, false, false, false, false, false, false] rfl rfl (any_of HT_.out (by kernel_rfl)) (fun _ _ _ h => h) (Or.inl ⟨by rfl, ?_⟩) ?_ ?_
       rotate_left
       ·intro w'
        go_simp
        with_reducible rfl
       rotate_left
       ·simp only [Act.put, List.setIfInBounds_toArray, List.set_cons_zero, List.set_cons_succ, i64_w, i32_w]
        rfl
       refine pure_ (i := 4) (N := some 91) (v := ?_) (a' := ?_) #[true, true, true, true, true, false, false, false, false, false, false, false, false, false, false, false, false, false, false, false, false, false, false, false, false, false] rfl rfl (any_of HT_.out (by kernel_rfl)) (fun _ _ _ h => h) (Or.inl ⟨by rfl, ?_⟩) ?_ ?_
       rotate_left
       ·intro w'
        go_simp
        with_reducible rfl
       rotate_left
       ·simp only [Act.put, List.setIfInBounds_toArray, List.set_cons_zero, List.set_cons_succ, i64_w, i32_w]
        rfl
       refine pure_ (i := 5) (N := some 92) (v := ?_) (a' := ?_) #[true, true, true, true, true, true, false, false, false, false, false, false, false, false, false, false, false, false, false, false, false, false, false, false, false, false] rfl rfl (any_of HT_.out (by kernel_rfl)) (fun _ _ _ h => h) (Or.inl ⟨by rfl, ?_⟩) ?_ ?_
       rotate_left
       ·intro w'
        go_simp
        with_reducible rfl
       rotate_left
       ·simp only [Act.put, List.setIfInBounds_toArray, List.set_cons_zero, List.set_cons_succ, i64_w, i32_w]
        rfl
       refine pure_ (i := 6) (N := some 93) (v := ?_) (a' := ?_) #[true, true, true, true, true, true, true, false, false, false, false, false, false, false, false, false, false, false, false, false, false, false, false, false, false, false] rfl rfl (any_of HT_.out (by kernel_rfl)) (fun _ _ _ h => h) (Or.inl ⟨by rfl, ?_⟩) ?_ ?_
       rotate_left
       ·intro w'
        go_simp
        with_reducible rfl
       rotate_left
       ·simp only [Act.put, List.setIfInBounds_toArray, List.set_cons_zero, List.set_cons_succ, i64_w, i32_w]
        rfl
       refine pure_ (i := 7) (N := some 94) (v := ?_) (a' := ?_) #[true, true, true, true, true, true, true, true, false, false, false, false, false, false, false, false, false, false, false, false, false, false, false, false, false, false] rfl rfl (any_of HT_.out (by kernel_rfl)) (fun _ _ _ h => h) (Or.inl ⟨by rfl, ?_⟩) ?_ ?_
       rotate_left
       ·intro w'
        go_simp
        with_reducible rfl
       rotate_left
       ·simp only [Act.put, List.setIfInBounds_toArray, List.set_cons_zero, List.set_cons_succ, i64_w, i32_w]
        rfl
       refine pure_ (i := 9) (N := some 96) (v := ?_) (a' := ?_) #[true, true, true, true, true, true, true, true, false, true, false, false, false, false, false, false, false, false, false, false, false, false, false, false, false, false] rfl rfl (any_of HT_.out (by kernel_rfl)) (fun _ _ _ h => h) (Or.inl ⟨by rfl, ?_⟩) ?_ ?_
       rotate_left
       ·intro w'
        go_simp
        with_reducible rfl
       rotate_left
       ·simp only [Act.put, List.setIfInBounds_toArray, List.set_cons_zero, List.set_cons_succ, i64_w, i32_w]
        rfl
       refine pure_ (i := 10) (N := some 97) (v := ?_) (a' := ?_) #[true, true, true, true, true, true, true, true, false, true, true, false, false, false, false, false, false, false, false, false, false, false, false, false, false, false] rfl rfl (any_of HT_.out (by kernel_rfl)) (fun _ _ _ h => h) (Or.inl ⟨by rfl, ?_⟩) ?_ ?_
       rotate_left
       ·intro w'
        go_simp
        with_reducible rfl
       rotate_left
       ·simp only [Act.put, List.setIfInBounds_toArray, List.set_cons_zero, List.set_cons_succ, i64_w, i32_w]
        rfl
       refine pure_ (i := 12) (N := some 99) (v := ?_) (a' := ?_) #[true, true, true, true, true, true, true, true, false, true, true, false, true, false, false, false, false, false, false, false, false, false, false, false, false, false] rfl rfl (any_of HT_.out (by kernel_rfl)) (fun _ _ _ h => h) (Or.inl ⟨by rfl, ?_⟩) ?_ ?_
       rotate_left
       ·intro w'
        go_simp
        with_reducible rfl
       rotate_left
       ·simp only [Act.put, List.setIfInBounds_toArray, List.set_cons_zero, List.set_cons_succ, i64_w, i32_w]
        rfl
       refine pure_ (i := 13) (N := some 100) (v := ?_) (a' := ?_) #[true, true, true, true, true, true, true, true, false, true, true, false, true, true, false, false, false, false, false, false, false, false, false, false, false, false] rfl rfl (any_of HT_.out (by kernel_rfl)) (fun _ _ _ h => h) (Or.inl ⟨by rfl, ?_⟩) ?_ ?_
       rotate_left
       ·intro w'
        go_simp
        with_reducible rfl
       rotate_left
       ·simp only [Act.put, List.setIfInBounds_toArray, List.set_cons_zero, List.set_cons_succ, i64_w, i32_w]
        rfl
       refine pure_ (i := 15) (N := some 102) (v := ?_) (a' := ?_) #[true, true, true, true, true, true, true, true, false, true, true, false, true, true, false, true, false, false, false, false, false, false, false, false, false, false] rfl rfl (any_of HT_.out (by kernel_rfl)) (fun _ _ _ h => h) (Or.inl ⟨by rfl, ?_⟩) ?_ ?_
       rotate_left
       ·intro w'
        go_simp
        with_reducible rfl
       rotate_left
       ·simp only [Act.put, List.setIfInBounds_toArray, List.set_cons_zero, List.set_cons_succ, i64_w, i32_w]
        rfl
       refine take_ (i := 8) (N := some 95) (v := ?_) (a' := ?_) #[true, true, true, true, true, true, true, true, true, true, true, false, true, true, false, true, false, false, false, false, false, false, false, false, false, false] rfl rfl (take_ofW HT_.out HW_.out (by kernel_rfl)) (fun _ _ _ h => h) (Or.inl ⟨by rfl, ?_⟩) hHeld ?_ ?_
       rotate_left
       ·rintro w' ⟨s0, s1, s2, s3, s4, s5, s6, s7, s8, s9, s10, s11, s12, s13, s14, s15, s16, s17⟩
        go_simp
        with_reducible rfl
       rotate_left
       ·simp only [Act.put, List.setIfInBounds_toArray, List.set_cons_zero, List.set_cons_succ, i64_w, i32_w]
        rfl
       refine take_ (i := 11) (N := some 98) (v := ?_) (a' := ?_) #[true, true, true, true, true, true, true, true, true, true, true, true, true, true, false, true, false, false, false, false, false, false, false, false, false, false] rfl rfl (take_ofW HT_.out HW_.out (by kernel_rfl)) (fun _ _ _ h => h) (Or.inl ⟨by rfl, ?_⟩) hHeld ?_ ?_
       rotate_left
       ·rintro w' ⟨s0, s1, s2, s3, s4, s5, s6, s7, s8, s9, s10, s11, s12, s13, s14, s15, s16, s17⟩
        go_simp
        with_reducible rfl
       rotate_left
       ·simp only [Act.put, List.setIfInBounds_toArray, List.set_cons_zero, List.set_cons_succ, i64_w, i32_w]
        rfl
       refine take_ (i := 14) (N := some 101) (v := ?_) (a' := ?_) #[true, true, true, true, true, true, true, true, true, true, true, true, true, true, true, true, false, false, false, false, false, false, false, false, false, false] rfl rfl (take_ofW HT_.out HW_.out (by kernel_rfl)) (fun _ _ _ h => h) (Or.inl ⟨by rfl, ?_⟩) hHeld ?_ ?_
       rotate_left
       ·rintro w' ⟨s0, s1, s2, s3, s4, s5, s6, s7, s8, s9, s10, s11, s12, s13, s14, s15, s16, s17⟩
        go_simp
        with_reducible rfl
       rotate_left
       ·simp only [Act.put, List.setIfInBounds_toArray, List.set_cons_zero, List.set_cons_succ, i64_w, i32_w]
        rfl
       refine take_ (i := 16) (N := some 103) (v := ?_) (a' := ?_) #[true, true, true, true, true, true, true, true, true, true, true, true, true, true, true, true, true, false, false, false, false, false, false, false, false, false] rfl rfl (take_ofW HT_.out HW_.out (by kernel_rfl)) (fun _ _ _ h => h) (Or.inl ⟨by rfl, ?_⟩) hHeld ?_ ?_
       rotate_left
       ·rintro w' ⟨s0, s1, s2, s3, s4, s5, s6, s7, s8, s9, s10, s11, s12, s13, s14, s15, s16, s17⟩
        go_simp
        with_reducible rfl
       rotate_left
       ·simp only [Act.put, List.setIfInBounds_toArray, List.set_cons_zero, List.set_cons_succ, i64_w, i32_w]
        rfl
       refine one_ (i := 17) (N := some 104) #[true, true, true, true, true, true, true, true, true, true, true, true, true, true, true, true, true, true, false, false, false, false, false, false, false, false] rfl rfl (one_of HT_.out (by kernel_rfl)) (by decide) (fun K hK => ?_)
       refine goes_ Try.func31 (by kernel_rfl) rfl #[.int .i64 t6010, .int .i64 t6011, .slice Ao14 t6012.length co14] (by rfl) rfl rfl (by (try simp only [List.map_toArray, List.map_cons, List.map_nil]); rfl) ?_
       with_reducible refine (impl_FillImage.calls kj5 t6010 t6011 _ _ t6012 t6059 t6060 t6061 t6062 _ ?side1 ?side2 A93.out).mono ?_
       (case side1 => repeat (exact (Kd.Q_reads' HOz2.out).2.2))
       (case side2 => exact (Kd.Q_reads' HOz2.out).2.1)
       rintro e w138 ⟨v6063, rfl, ho0, hb⟩
       refine ⟨_, rfl, ?_⟩
       have n0_ := mk (Kd.Q_elder' HOz1.out (Kd.R_base ho0) hb)
       have n1_ := mk (Kd.Q_elder' HOz2.out (Kd.R_base ho0) hb)
       have n2_ := mk (Kd.Q_elder' HOz0.out (Kd.R_base ho0) hb)
       have n3_ := mk (Kd.Q_elder' HOz3.out (Kd.R_base ho0) hb)
       have n4_ := mk (Kd.R_elder' HO6040.out (Kd.R_base ho0) hb)
       have n5_ := mk (Kd.R_elder' HO6048.out (Kd.R_base ho0) hb)
       have n6_ := mk (Kd.R_elder' HO6056.out (Kd.R_base ho0) hb)
       have n7_ := mk (Kd.R_lower (Kd.R_new' (Kd.R_new' (Kd.R_new' (Kd.R_new' (Kd.R_new' (Kd.R_new' (Kd.R_new' ho0 (Kd.Q_lt HOz1.out)) (Kd.Q_lt HOz2.out)) (Kd.Q_lt HOz0.out)) (Kd.Q_lt HOz3.out)) (Kd.R_lt HO6040.out)) (Kd.R_lt HO6048.out)) (Kd.R_lt HO6056.out)) (below_size HB.out))
       have n8_ := mk (blk_below BK6015.out hb)
       have n9_ := mk (blk_below BK6016.out hb)
       have n10_ := mk (blk_below BK6024.out hb)
       have n11_ := mk (blk_below BK6032.out hb)
       have n12_ := mk (blk_below BK6042.out hb)
       have n13_ := mk (blk_below BK6050.out hb)
       have n14_ := mk (blk_below BK6058.out hb)
       have n15_ := mk (below_step HB.out hb)
       clear HOz1 HOz2 HOz0 HOz3 HO6040 HO6048 HO6056 BK6015 BK6016 BK6024 BK6032 BK6042 BK6050 BK6058 HB
       revert n0_ n1_ n2_ n3_ n4_ n5_ n6_ n7_ n8_ n9_ n10_ n11_ n12_ n13_ n14_ n15_; intro HOz1 HOz2 HOz0 HOz3 HO6040 HO6048 HO6056 HO6064 BK6015 BK6016 BK6024 BK6032 BK6042 BK6050 BK6058 HB
       (try clear hb)
       (try clear ho0)
       obtain ⟨Ao139, co139, eo139⟩ := Kd.R_slice HO6064.out
       (subst eo139)
       refine hK.out _ _ ⟨(blk_cell BK6042.out 0).trans rfl, (blk_cell BK6042.out 1).trans rfl, (blk_cell BK6042.out 2).trans rfl, (blk_cell BK6042.out 3).trans rfl, (blk_cell BK6016.out 0).trans rfl, (blk_cell BK6016.out 1).trans rfl, (blk_cell BK6016.out 2).trans rfl, (blk_cell BK6016.out 3).trans rfl, (blk_cell BK6016.out 4).trans rfl, (blk_cell BK6016.out 5).trans rfl, (blk_cell BK6058.out 0).trans rfl, (blk_cell BK6058.out 1).trans rfl, (blk_cell BK6058.out 2).trans rfl, (blk_cell BK6058.out 3).trans rfl, (blk_cell BK6015.out 0).trans rfl, (blk_cell BK6015.out 1).trans rfl, (blk_cell BK6015.out 2).trans rfl, (blk_cell BK6015.out 3).trans rfl⟩ (fun hHeld => ?_)
       clear hK K
       refine norm_ (a' := ?_) ?_ ?_
       rotate_left
       ·show Act.put _ (some 104) _ = _
        simp only [Act.put, List.setIfInBounds_toArray, List.set_cons_zero, List.set_cons_succ, i64_w, i32_w]
        rfl
       refine one_ (i := 18) (N := some 105) #[true, true, true, true, true, true, true, true, true, true, true, true, true, true, true, true, true, true, true, false, false, false, false, false, false, false] rfl rfl (one_of HT_.out (by kernel_rfl)) (by decide) (fun K hK => ?_)
       refine goes_ Try.func24 (by kernel_rfl) rfl #[.agg #[.int .i64 t6035, .int .i64 t6036, .int .i64 t6037, .slice Ao111 t6038.length co111], .agg #[.int .i64 t6059, .int .i64 t6060, .int .i64 t6061, .slice Ao139 t6062.length co139]] (by rfl) rfl rfl (by (try simp only [List.map_toArray, List.map_cons, List.map_nil]); rfl) ?_
       with_reducible refine (laws_equalImage.calls kj5 t6035 t6036 t6037 _ _ t6038 t6059 t6060 t6061 _ _ t6062 true _ ?side1 ?side2 ?side3 ?side4 A94.out).mono ?_
       (case side1 => repeat (exact (Kd.R_reads' HO6040.out).2.2))
       (case side2 => exact (Kd.R_reads' HO6040.out).2.1)
       (case side3 => repeat (exact (Kd.R_reads' HO6064.out).2.2))
       (case side4 => exact (Kd.R_reads' HO6064.out).2.1)
       rintro e w140 ⟨rfl, hb⟩
       refine ⟨_, rfl, ?_⟩
       have n0_ := mk (Kd.Q_below HOz1.out hb)
       have n1_ := mk (Kd.Q_below HOz2.out hb)
       have n2_ := mk (Kd.Q_below HOz0.out hb)
       have n3_ := mk (Kd.Q_below HOz3.out hb)
       have n4_ := mk (Kd.R_below HO6040.out hb)
       have n5_ := mk (Kd.R_below HO6048.out hb)
       have n6_ := mk (Kd.R_below HO6056.out hb)
       have n7_ := mk (Kd.R_below HO6064.out hb)
       have n8_ := mk (blk_below BK6015.out hb)
       have n9_ := mk (blk_below BK6016.out hb)
       have n10_ := mk (blk_below BK6024.out hb)
       have n11_ := mk (blk_below BK6032.out hb)
       have n12_ := mk (blk_below BK6042.out hb)
       have n13_ := mk (blk_below BK6050.out hb)
       have n14_ := mk (blk_below BK6058.out hb)
       have n15_ := mk (below_step HB.out hb)
       clear HOz1 HOz2 HOz0 HOz3 HO6040 HO6048 HO6056 HO6064 BK6015 BK6016 BK6024 BK6032 BK6042 BK6050 BK6058 HB
       revert n0_ n1_ n2_ n3_ n4_ n5_ n6_ n7_ n8_ n9_ n10_ n11_ n12_ n13_ n14_ n15_; intro HOz1 HOz2 HOz0 HOz3 HO6040 HO6048 HO6056 HO6064 BK6015 BK6016 BK6024 BK6032 BK6042 BK6050 BK6058 HB
       (try clear hb)
       refine hK.out _ _ ⟨(blk_cell BK6042.out 0).trans rfl, (blk_cell BK6042.out 1).trans rfl, (blk_cell BK6042.out 2).trans rfl, (blk_cell BK6042.out 3).trans rfl, (blk_cell BK6016.out 0).trans rfl, (blk_cell BK6016.out 1).trans rfl, (blk_cell BK6016.out 2).trans rfl, (blk_cell BK6016.out 3).trans rfl, (blk_cell BK6016.out 4).trans rfl, (blk_cell BK6016.out 5).trans rfl, (blk_cell BK6058.out 0).trans rfl, (blk_cell BK6058.out 1).trans rfl, (blk_cell BK6058.out 2).trans rfl, (blk_cell BK6058.out 3).trans rfl, (blk_cell BK6015.out 0).trans rfl, (blk_cell BK6015.out 1).trans rfl, (blk_cell BK6015.out 2).trans rfl, (blk_cell BK6015.out 3).trans rfl⟩ (fun hHeld => ?_)
       clear hK K
       refine norm_ (a' := ?_) ?_ ?_
       rotate_left
       ·show Act.put _ (some 105) _ = _
        simp only [Act.put, List.setIfInBounds_toArray, List.set_cons_zero, List.set_cons_succ, i64_w, i32_w]
        rfl
       refine pure_ (i := 19) (N := some 106) (v := ?_) (a' := ?_) #[true, true, true, true, true, true, true, true, true, true, true, true, true, true, true, true, true, true, true, true, false, false, false, false, false, false] rfl rfl (any_of HT_.out (by kernel_rfl)) (fun _ _ _ h => h) (Or.inl ⟨by rfl, ?_⟩) ?_ ?_
       rotate_left
       ·intro w'
        go_simp
        with_reducible rfl
       rotate_left
       ·simp only [Act.put, List.setIfInBounds_toArray, List.set_cons_zero, List.set_cons_succ, i64_w, i32_w]
        rfl
       refine pure_ (i := 20) (N := some 107) (v := ?_) (a' := ?_) #[true, true, true, true, true, true, true, true, true, true, true, true, true, true, true, true, true, true, true, true, true, false, false, false, false, false] rfl rfl (any_of HT_.out (by kernel_rfl)) (fun _ _ _ h => h) (Or.inl ⟨by rfl, ?_⟩) ?_ ?_
       rotate_left
       ·intro w'
        go_simp
        with_reducible rfl
       rotate_left
       ·simp only [Act.put, List.setIfInBounds_toArray, List.set_cons_zero, List.set_cons_succ, i64_w, i32_w]
        rfl
       refine take_ (i := 21) (N := some 108) (v := ?_) (a' := ?_) #[true, true, true, true, true, true, true, true, true, true, true, true, true, true, true, true, true, true, true, true, true, true, false, false, false, false] rfl rfl (take_ofW HT_.out HW_.out (by kernel_rfl)) (fun _ _ _ h => h) (Or.inl ⟨by rfl, ?_⟩) hHeld ?_ ?_
       rotate_left
       ·rintro w' ⟨s0, s1, s2, s3, s4, s5, s6, s7, s8, s9, s10, s11, s12, s13, s14, s15, s16, s17⟩
        go_simp
        with_reducible rfl
       rotate_left
       ·simp only [Act.put, List.setIfInBounds_toArray, List.set_cons_zero, List.set_cons_succ, i64_w, i32_w]
        rfl
       refine take_ (i := 22) (N := some 109) (v := ?_) (a' := ?_) #[true, true, true, true, true, true, true, true, true, true, true, true, true, true, true, true, true, true, true, true, true, true, true, false, false, false] rfl rfl (take_ofW HT_.out HW_.out (by kernel_rfl)) (fun _ _ _ h => h) (Or.inl ⟨by rfl, ?_⟩) hHeld ?_ ?_
       rotate_left
       ·rintro w' ⟨s0, s1, s2, s3, s4, s5, s6, s7, s8, s9, s10, s11, s12, s13, s14, s15, s16, s17⟩
        go_simp
        with_reducible rfl
       rotate_left
       ·simp only [Act.put, List.setIfInBounds_toArray, List.set_cons_zero, List.set_cons_succ, i64_w, i32_w]
        rfl
       refine one_ (i := 23) (N := some 110) #[true, true, true, true, true, true, true, true, true, true, true, true, true, true, true, true, true, true, true, true, true, true, true, true, false, false] rfl rfl (one_of HT_.out (by kernel_rfl)) (by decide) (fun K hK => ?_)
       refine goes_ Try.func24 (by kernel_rfl) rfl #[.agg #[.int .i64 t6051, .int .i64 t6052, .int .i64 t6053, .slice Ao135 t6054.length co135], .agg #[.int .i64 t6001, .int .i64 t6002, .int .i64 t6003, .slice Ao12 t6004.length co12]] (by rfl) rfl rfl (by (try simp only [List.map_toArray, List.map_cons, List.map_nil]); rfl) ?_
       with_reducible refine (laws_equalImage.calls kj5 t6051 t6052 t6053 _ _ t6054 t6001 t6002 t6003 _ _ t6004 t6066 _ ?side1 ?side2 ?side3 ?side4 A96.out).mono ?_
       (case side1 => repeat (exact (Kd.R_reads' HO6056.out).2.2))
       (case side2 => exact (Kd.R_reads' HO6056.out).2.1)
       (case side3 => repeat (exact (Kd.Q_reads' HOz1.out).2.2))
       (case side4 => exact (Kd.Q_reads' HOz1.out).2.1)
       rintro e w141 ⟨rfl, hb⟩
       refine ⟨_, rfl, ?_⟩
       have n0_ := mk (Kd.Q_below HOz1.out hb)
       have n1_ := mk (Kd.Q_below HOz2.out hb)
       have n2_ := mk (Kd.Q_below HOz0.out hb)
       have n3_ := mk (Kd.Q_below HOz3.out hb)
       have n4_ := mk (Kd.R_below HO6040.out hb)
       have n5_ := mk (Kd.R_below HO6048.out hb)
       have n6_ := mk (Kd.R_below HO6056.out hb)
       have n7_ := mk (Kd.R_below HO6064.out hb)
       have n8_ := mk (blk_below BK6015.out hb)
       have n9_ := mk (blk_below BK6016.out hb)
       have n10_ := mk (blk_below BK6024.out hb)
       have n11_ := mk (blk_below BK6032.out hb)
       have n12_ := mk (blk_below BK6042.out hb)
       have n13_ := mk (blk_below BK6050.out hb)
       have n14_ := mk (blk_below BK6058.out hb)
       have n15_ := mk (below_step HB.out hb)
       clear HOz1 HOz2 HOz0 HOz3 HO6040 HO6048 HO6056 HO6064 BK6015 BK6016 BK6024 BK6032 BK6042 BK6050 BK6058 HB
       revert n0_ n1_ n2_ n3_ n4_ n5_ n6_ n7_ n8_ n9_ n10_ n11_ n12_ n13_ n14_ n15_; intro HOz1 HOz2 HOz0 HOz3 HO6040 HO6048 HO6056 HO6064 BK6015 BK6016 BK6024 BK6032 BK6042 BK6050 BK6058 HB
       (try clear hb)
       refine hK.out _ _ ⟨(blk_cell BK6042.out 0).trans rfl, (blk_cell BK6042.out 1).trans rfl, (blk_cell BK6042.out 2).trans rfl, (blk_cell BK6042.out 3).trans rfl, (blk_cell BK6016.out 0).trans rfl, (blk_cell BK6016.out 1).trans rfl, (blk_cell BK6016.out 2).trans rfl, (blk_cell BK6016.out 3).trans rfl, (blk_cell BK6016.out 4).trans rfl, (blk_cell BK6016.out 5).trans rfl, (blk_cell BK6058.out 0).trans rfl, (blk_cell BK6058.out 1).trans rfl, (blk_cell BK6058.out 2).trans rfl, (blk_cell BK6058.out 3).trans rfl, (blk_cell BK6015.out 0).trans rfl, (blk_cell BK6015.out 1).trans rfl, (blk_cell BK6015.out 2).trans rfl, (blk_cell BK6015.out 3).trans rfl⟩ (fun hHeld => ?_)
       clear hK K
       refine norm_ (a' := ?_) ?_ ?_
       rotate_left
       ·show Act.put _ (some 110) _ = _
        simp only [Act.put, List.setIfInBounds_toArray, List.set_cons_zero, List.set_cons_succ, i64_w, i32_w]
        rfl
       refine pure_ (i := 24) (N := some 111) (v := ?_) (a' := ?_) #[true, true, true, true, true, true, true, true, true, true, true, true, true, true, true, true, true, true, true, true, true, true, true, true, true, false] rfl rfl (any_of HT_.out (by kernel_rfl)) (fun _ _ _ h => h) (Or.inl ⟨by rfl, ?_⟩) ?_ ?_
       rotate_left
       ·intro w'
        go_simp
        with_reducible rfl
       rotate_left
       ·simp only [Act.put, List.setIfInBounds_toArray, List.set_cons_zero, List.set_cons_succ, i64_w, i32_w]
        rfl
       refine pure_ (i := 25) (N := some 2) (v := ?_) (a' := ?_) #[true, true, true, true, true, true, true, true, true, true, true, true, true, true, true, true, true, true, true, true, true, true, true, true, true, true] rfl rfl (any_of HT_.out (by kernel_rfl)) (fun _ _ _ h => h) (Or.inl ⟨by rfl, ?_⟩) ?_ ?_
       rotate_left
       ·intro w'
        go_simp
        with_reducible rfl
       rotate_left
       ·simp only [Act.put, List.setIfInBounds_toArray, List.set_cons_zero, List.set_cons_succ, i64_w, i32_w]
        rfl
       refine done_ (done_of HT_.out (by kernel_rfl)) ?_
       try go_wp2
       go_ret
       exact ⟨by rfl, by exact HB.out⟩
      replace c95 := Bool.eq_false_iff.mpr c95
      subst c95
      have H1 : (some false) = some r := by rw [if_neg (show ¬ (false = true) by decide)] at H; exact H
      clear H
      have H := H1
      clear H1
      exact absurd ((Option.some.inj H).trans HRT.out) (by decide)
     replace c92 := Bool.eq_false_iff.mpr c92
     subst c92
     have H1 : (some false) = some r := by rw [if_neg (show ¬ (false = true) by decide)] at H; exact H
     clear H
     have H := H1
     clear H1
     exact absurd ((Option.some.inj H).trans HRT.out) (by decide)
    replace c91 := Bool.eq_false_iff.mpr c91
    subst c91
    have H1 : (some false) = some r := by rw [if_neg (show ¬ (false = true) by decide)] at H; exact H
    clear H
    have H := H1
    clear H1
    exact absurd ((Option.some.inj H).trans HRT.out) (by decide)
   replace c90 := Bool.eq_false_iff.mpr c90
   subst c90
   have H1 : (some false) = some r := by rw [if_neg (show ¬ (false = true) by decide)] at H; exact H
   clear H
   have H := H1
   clear H1
   exact absurd ((Option.some.inj H).trans HRT.out) (by decide)

def laws_FnDoStepFill.Pure : Prop := ∀ (l0 : List Int), l0.length ≤ maxLen → l0.length * 1 ≤ 140737488351232 → (∀ x ∈ l0, (Lit.int .u8 x).wf = true) → ∃ k, laws_FnDoStepFill.f k l0 = some true
theorem laws_FnDoStepFill.walk (P : laws_FnDoStepFill.Pure) (a0 : Option Addr) (len0 cap0 : Nat) (z0 : List Int) (w : World) (w0 : (a0 = none ∧ len0 = 0 ∧ cap0 = 0 ∧ z0 = []) ∨ ∃ x, a0 = some x ∧ len0 ≤ cap0 ∧ cap0 ≤ maxLen ∧ z0.length = cap0 ∧ (∀ i, i < z0.length → w.cell? (x.add i) = some (.int .u8 (z0.getD i 0))) ∧ ∀ n ∈ z0, (Lit.int .u8 n).wf = true) (y0 : len0 * 1 ≤ 140737488351232) :
  Calls Try.prog 5 #[.slice a0 len0 cap0] w fun e w' => e = .returned (.bool true) ∧ Below w.heap.size w w' := by
 obtain ⟨l0, rfl, hr0, hm0, hw0, hc0⟩ := ReadsInt.ofRowC w0
 obtain ⟨k, h⟩ := P l0 hm0 y0 hw0
 refine (laws_FnDoStepFill.calls k _ _ l0 true w (Kd.C_of_reads (d := (0 : Int)) (h1 := fun _ => rfl) hr0) hc0 h rfl).mono ?_
 rintro e w' ⟨rfl, hd⟩
 exact ⟨rfl, hd⟩

end Go.Proofs.Ytgccpcnakkioiaa.Q

/- Images as pixels: lists of numbers cut into equal parts. -/
namespace Go.Proofs.Ytgccpcnakkioiaa.Pure
open Go.RowKit Go.Proofs.Ytgccpcnakkioiaa.Q Go.Proofs.YtgccpcnakkioiaaW.PrintWords Go.Proofs.YtgccpcnakkioiaaW.PrintLast Go.Proofs.YtgccpcnakkioiaaW.PrintMore
set_option linter.unusedVariables false
set_option linter.unusedSimpArgs false

def nx (n : Nat) (d : List Int) (i : Nat) : List Int := (d.drop (i * n)).take n
theorem nx_length {n m : Nat} {d : List Int} (hd : d.length = m * n) {i : Nat} (hi : i < m) : (nx n d i).length = n := by
 unfold nx
 have h : (i + 1) * n ≤ m * n := Nat.mul_le_mul_right n hi
 rw [Nat.add_mul, Nat.one_mul] at h
 rw [List.length_take, List.length_drop, hd]
 omega
theorem fm_length (f : Nat → List Int) (n : Nat) : ∀ m, (∀ i, i < m → (f i).length = n) → ((List.range m).flatMap f).length = m * n := by
 intro m
 induction m with
 | zero => intro _; simp
 | succ m ih =>
  intro h
  rw [List.range_succ, List.flatMap_append, List.length_append, ih (fun i hi => h i (by omega))]
  simp [h m (by omega), Nat.add_mul]
theorem fm_get (f : Nat → List Int) (n : Nat) : ∀ m, (∀ i, i < m → (f i).length = n) → ∀ i, i < m → nx n ((List.range m).flatMap f) i = f i := by
 intro m
 induction m with
 | zero => intro _ i hi; omega
 | succ m ih =>
  intro h i hi
  have hl := fm_length f n m (fun i hi => h i (by omega))
  rw [List.range_succ, List.flatMap_append]
  unfold nx
  by_cases c : i < m
  ·have h1 : (i + 1) * n ≤ m * n := Nat.mul_le_mul_right n c
   rw [Nat.add_mul, Nat.one_mul] at h1
   rw [List.drop_append_of_le_length (by omega), List.take_append_of_le_length (by rw [List.length_drop]; omega)]
   exact ih (fun i hi => h i (by omega)) i c
  ·have : i = m := by omega
   subst this
   rw [← hl, List.drop_left]
   simp only [List.flatMap_cons, List.flatMap_nil, List.append_nil]
   exact List.take_of_length_le (by rw [h i (by omega)]; exact Nat.le_refl _)
theorem fm_cut (n : Nat) : ∀ (m : Nat) (d : List Int), d.length = m * n → (List.range m).flatMap (nx n d) = d := by
 intro m
 induction m with
 | zero => intro d hd; simp at hd; simp [hd]
 | succ m ih =>
  intro d hd
  rw [Nat.add_mul, Nat.one_mul] at hd
  have h1 : (List.range m).flatMap (nx n d) = (List.range m).flatMap (nx n (d.take (m * n))) := by
   rw [List.flatMap_def, List.flatMap_def]
   congr 1
   refine List.map_congr_left (fun i hi => ?_)
   have hi' := List.mem_range.1 hi
   have h1 : (i + 1) * n ≤ m * n := Nat.mul_le_mul_right n hi'
   rw [Nat.add_mul, Nat.one_mul] at h1
   unfold nx
   rw [List.drop_take, List.take_take, Nat.min_eq_left (by omega)]
  rw [List.range_succ, List.flatMap_append, h1, ih _ (by rw [List.length_take]; omega)]
  simp only [List.flatMap_cons, List.flatMap_nil, List.append_nil]
  unfold nx
  rw [List.take_of_length_le (l := d.drop (m * n)) (by rw [List.length_drop]; omega), List.take_append_drop]
theorem ext_nx {n m : Nat} {d e : List Int} (hd : d.length = m * n) (he : e.length = m * n) (h : ∀ i, i < m → nx n d i = nx n e i) : d = e := by
 rw [← fm_cut n m d hd, ← fm_cut n m e he, List.flatMap_def, List.flatMap_def]
 congr 1
 exact List.map_congr_left (fun i hi => h i (List.mem_range.1 hi))
theorem imgD_congr {f g : Nat → Nat → List Int} {a b : Nat} (h : ∀ x y, x < a → y < b → f x y = g x y) : imgD f a b = imgD g a b := by
 unfold imgD rowD
 rw [List.flatMap_def, List.flatMap_def]
 congr 1
 refine List.map_congr_left (fun y hy => ?_)
 rw [List.flatMap_def, List.flatMap_def]
 congr 1
 exact List.map_congr_left (fun x hx => h x y (List.mem_range.1 hx) (List.mem_range.1 hy))
theorem rowD_length {px : Nat → Nat → List Int} {a n y : Nat} (h : ∀ x, x < a → (px x y).length = n) : (rowD px a y).length = a * n := fm_length _ n a h
theorem imgD_length {px : Nat → Nat → List Int} {a b n : Nat} (h : ∀ x y, x < a → y < b → (px x y).length = n) : (imgD px a b).length = (b * a) * n := by
 rw [Nat.mul_assoc]
 exact fm_length _ (a * n) b (fun y hy => rowD_length (fun x hx => h x y hx hy))
theorem nx_imgD {px : Nat → Nat → List Int} {a b n : Nat} (h : ∀ x y, x < a → y < b → (px x y).length = n) {x y : Nat} (hx : x < a) (hy : y < b) : nx n (imgD px a b) (y * a + x) = px x y := by
 have h1 := fm_get (rowD px a) (a * n) b (fun y hy => rowD_length (fun x hx => h x y hx hy)) y hy
 have h2 := fm_get (fun x => px x y) n a (fun x hx => h x y hx hy) x hx
 have h3 : (x + 1) * n ≤ a * n := Nat.mul_le_mul_right n hx
 rw [Nat.add_mul, Nat.one_mul] at h3
 show nx n ((List.range b).flatMap (rowD px a)) (y * a + x) = px x y
 rw [← h2]
 show _ = nx n (rowD px a y) x
 rw [← h1]
 unfold nx
 rw [List.drop_take, List.take_take, Nat.min_eq_left (by omega), List.drop_drop, Nat.add_mul, Nat.mul_assoc]
theorem lin_lt {a b x y : Nat} (hx : x < a) (hy : y < b) : y * a + x < b * a := by
 have : (y + 1) * a ≤ b * a := Nat.mul_le_mul_right a hy
 rw [Nat.add_mul, Nat.one_mul] at this
 omega
theorem lin_ne {a x y x' y' : Nat} (hx : x < a) (hx' : x' < a) (h : y * a + x = y' * a + x') : x = x' ∧ y = y' := by
 have ha : 0 < a := by omega
 have e1 := congrArg (· % a) h
 have e2 := congrArg (· / a) h
 simp only [Nat.mul_comm _ a, Nat.mul_add_mod, Nat.mul_add_div ha, Nat.mod_eq_of_lt hx, Nat.mod_eq_of_lt hx', Nat.div_eq_of_lt hx, Nat.div_eq_of_lt hx', Nat.add_zero] at e1 e2
 exact ⟨e1, e2⟩
theorem lin_of {a b i : Nat} (h : i < b * a) : i % a < a ∧ i / a < b ∧ (i / a) * a + i % a = i := by
 have ha : 0 < a := by
  rcases Nat.eq_zero_or_pos a with rfl | h'
  ·simp at h
  ·exact h'
 refine ⟨Nat.mod_lt _ ha, (Nat.div_lt_iff_lt_mul ha).2 h, ?_⟩
 rw [Nat.mul_comm]; exact Nat.div_add_mod i a
theorem ext_img {n a b : Nat} {d e : List Int} (hd : d.length = (b * a) * n) (he : e.length = (b * a) * n) (h : ∀ x y, x < a → y < b → nx n d (y * a + x) = nx n e (y * a + x)) : d = e := by
 refine ext_nx hd he (fun i hi => ?_)
 obtain ⟨h1, h2, h3⟩ := lin_of hi
 rw [← h3]
 exact h _ _ h1 h2
theorem imgD_nx {n a b : Nat} {d : List Int} (hd : d.length = (b * a) * n) : imgD (fun x y => nx n d (y * a + x)) a b = d := by
 have hl : ∀ x y, x < a → y < b → (nx n d (y * a + x)).length = n := fun x y hx hy => nx_length hd (lin_lt hx hy)
 exact ext_img (imgD_length hl) hd (fun x y hx hy => nx_imgD hl hx hy)
theorem nx_laid {n m : Nat} {d ys : List Int} (hd : d.length = m * n) (hy : ys.length = n) {j : Nat} (hj : j < m) {i : Nat} (hi : i < m) : nx n (laidOver d (j * n) ys) i = if i = j then ys else nx n d i := by
 have hj1 : (j + 1) * n ≤ m * n := Nat.mul_le_mul_right n hj
 have hi1 : (i + 1) * n ≤ m * n := Nat.mul_le_mul_right n hi
 rw [Nat.add_mul, Nat.one_mul] at hj1 hi1
 unfold nx laidOver
 have hlt : (d.take (j * n)).length = j * n := by rw [List.length_take]; omega
 by_cases c : i = j
 ·subst c
  rw [if_pos rfl]
  have e1 : (d.take (i * n) ++ (ys ++ d.drop (i * n + ys.length))).drop (i * n) = ys ++ d.drop (i * n + ys.length) := by
   rw [List.drop_append, List.drop_eq_nil_of_le (by omega), hlt, Nat.sub_self, List.drop_zero, List.nil_append]
  rw [e1, ← hy, List.take_left]
 ·rw [if_neg c]
  by_cases c2 : i < j
  ·have h1 : (i + 1) * n ≤ j * n := Nat.mul_le_mul_right n c2
   rw [Nat.add_mul, Nat.one_mul] at h1
   rw [List.drop_append_of_le_length (by omega), List.take_append_of_le_length (by rw [List.length_drop]; omega), List.drop_take, List.take_take, Nat.min_eq_left (by omega)]
  ·have h1 : (j + 1) * n ≤ i * n := Nat.mul_le_mul_right n (by omega)
   rw [Nat.add_mul, Nat.one_mul] at h1
   rw [← List.append_assoc, List.drop_append, List.drop_eq_nil_of_le (by rw [List.length_append, hlt, hy]; omega), List.nil_append, List.drop_drop, List.length_append, hlt, hy]
   congr 2
   omega
theorem nat_of {a b p : Int} {d : List Int} (hv : validI a b p d = true) : ∃ an bn pn : Nat, a = an ∧ b = bn ∧ p = pn ∧ 1 ≤ an ∧ an ≤ 16 ∧ 1 ≤ bn ∧ bn ≤ 16 ∧ 1 ≤ pn ∧ pn ≤ 4 ∧ d.length = (bn * an) * pn := by
 obtain ⟨hs, hl, _⟩ := (validI_iff a b p d).1 hv
 obtain ⟨an, rfl⟩ := Int.eq_ofNat_of_zero_le (show 0 ≤ a by omega)
 obtain ⟨bn, rfl⟩ := Int.eq_ofNat_of_zero_le (show 0 ≤ b by omega)
 obtain ⟨pn, rfl⟩ := Int.eq_ofNat_of_zero_le (show 0 ≤ p by omega)
 refine ⟨an, bn, pn, rfl, rfl, rfl, by omega, by omega, by omega, by omega, by omega, by omega, ?_⟩
 have : (d.length : Int) = ((an * bn * pn : Nat) : Int) := by rw [hl]; push_cast; rfl
 rw [Nat.mul_comm bn an]
 exact Int.ofNat.inj this
theorem small {an bn pn : Nat} (h1 : an ≤ 16) (h2 : bn ≤ 16) (h3 : pn ≤ 4) : (bn * an) * pn ≤ 1024 := by
 have := Nat.mul_le_mul (Nat.mul_le_mul h2 h1) h3
 omega
theorem pixJ_nat {an bn pn x y : Nat} (h1 : an ≤ 16) (h2 : bn ≤ 16) (h3 : pn ≤ 4) (hx : x < an) (hy : y < bn) : pixJ an pn x y = (((y * an + x) * pn : Nat) : Int) ∧ (y * an + x) * pn + pn ≤ (bn * an) * pn := by
 have hl := lin_lt hx hy
 have hm : (y * an + x + 1) * pn ≤ (bn * an) * pn := Nat.mul_le_mul_right pn hl
 rw [Nat.add_mul, Nat.one_mul] at hm
 have hs := small h1 h2 h3
 have hya : y * an ≤ 16 * 16 := Nat.mul_le_mul (by omega) (by omega)
 refine ⟨?_, hm⟩
 unfold pixJ
 have e1 : ((y : Int) * (an : Int)) = ((y * an : Nat) : Int) := by push_cast; rfl
 rw [e1, w64 (x := ((y * an : Nat) : Int)) (by omega) (by omega)]
 have e2 : ((y * an : Nat) : Int) + (x : Int) = ((y * an + x : Nat) : Int) := by push_cast; rfl
 rw [e2, w64 (x := ((y * an + x : Nat) : Int)) (by omega) (by omega)]
 have e3 : ((y * an + x : Nat) : Int) * (pn : Int) = (((y * an + x) * pn : Nat) : Int) := by push_cast; rfl
 rw [e3, w64 (by omega) (by omega)]
theorem pxAt_nat {an bn pn x y : Nat} (h1 : an ≤ 16) (h2 : bn ≤ 16) (h3 : pn ≤ 4) (hx : x < an) (hy : y < bn) (d : List Int) : pxAt an pn d x y = nx pn d (y * an + x) := by
 obtain ⟨hj, hm⟩ := pixJ_nat h1 h2 h3 hx hy
 have hs := small h1 h2 h3
 unfold pxAt pixT nx
 rw [hj, w64 (by omega) (by omega)]
 have : ((((y * an + x) * pn : Nat) : Int) + (pn : Int)).toNat = (y * an + x) * pn + pn := by omega
 rw [this, Int.toNat_natCast, List.drop_take]
 congr 1
 omega

/- What the reference does with pixels: reads, writes, parts and pastes. -/

theorem ev_run {σ ρ : Type} (n : Nat) (L : Nat → Nat → σ → Option ρ) (E : σ → Nat → Option ρ) (Inv : Nat → σ → Prop)
  (step : ∀ i s, i < n → Inv i s → ∃ s', Inv (i + 1) s' ∧ ∀ r, Ev (fun k => L k (i + 1) s') r → Ev (fun k => L k i s) r)
  (last : ∀ s, Inv n s → ∀ r, Ev (E s) r → Ev (fun k => L k n s) r) :
  ∀ d i s, i + d = n → Inv i s → ∃ s', Inv n s' ∧ ∀ r, Ev (E s') r → Ev (fun k => L k i s) r := by
 intro d
 induction d with
 | zero =>
  intro i s hi hinv
  have : i = n := by omega
  subst this
  exact ⟨s, hinv, last s hinv⟩
 | succ d ih =>
  intro i s hi hinv
  obtain ⟨s1, h1, h2⟩ := step i s (by omega) hinv
  obtain ⟨s2, h3, h4⟩ := ih (i + 1) s1 (by omega) h1
  exact ⟨s2, h3, fun r hr => h2 r (h4 r hr)⟩
theorem copyInts_px (l : List Int) (hl : l.length ≤ 1000000) : spec_copyInts.f l = some l := by
 unfold spec_copyInts.f
 simp only [Option.bind_some]
 rw [if_pos (by simp; omega)]
 simp
theorem laid_set (d ys : List Int) (j i : Nat) (hi : i < ys.length) (hj : j + ys.length ≤ d.length) : (laidOver d j (ys.take i)).set (j + i) ys[i] = laidOver d j (ys.take (i + 1)) := by
 have h1 : (ys.take i).length = i := by rw [List.length_take]; omega
 have h2 : (ys.take (i + 1)).length = i + 1 := by rw [List.length_take]; omega
 have h3 : (d.take j).length = j := by rw [List.length_take]; omega
 unfold laidOver
 rw [h1, h2, List.set_append_right _ _ (by omega), h3, Nat.add_sub_cancel_left, List.set_append_right _ _ (by omega), h1, Nat.sub_self, List.drop_eq_getElem_cons (show j + i < d.length by omega), List.set_cons_zero, List.take_succ_eq_append_getElem hi, List.append_assoc]
 rfl
theorem setPixel_ev {an bn pn x y : Nat} (h1 : an ≤ 16) (h2 : bn ≤ 16) (h3 : pn ≤ 4) (hx : x < an) (hy : y < bn) (d ys : List Int) (hd : d.length = (bn * an) * pn) (hys : ys.length = pn) :
  Ev (fun k => spec_setPixel.f k an bn pn d x y ys) (laidOver d ((y * an + x) * pn) ys) := by
 obtain ⟨hj, hm⟩ := pixJ_nat h1 h2 h3 hx hy
 have hs := small h1 h2 h3
 have hJ : wrap64 ((wrap64 ((wrap64 ((y : Int) * (an : Int))) + (x : Int))) * (pn : Int)) = (((y * an + x) * pn : Nat) : Int) := hj
 generalize hjj : (y * an + x) * pn = j at *
 have HJ := Aside0.mk hJ
 clear hJ hj hjj
 have key := ev_up pn (fun k i s => spec_setPixel.l0 k (x : Int) (y : Int) ys (i : Int) an bn pn s) (fun i s => s = laidOver d j (ys.take i)) (fun _ _ => laidOver d j ys)
  (by
   intro i s hi hinv
   subst hinv
   right
   refine ⟨_, fun k => ?_, laid_set d ys j i (by omega) (by omega), rfl⟩
   simp only [spec_setPixel.l0]
   have e : (((j : Nat) : Int) + (i : Int)) = ((j + i : Nat) : Int) := by push_cast; rfl
   have hl : (laidOver d j (ys.take i)).length = d.length := laidOver_length d j _ (by rw [List.length_take]; omega)
   rw [HJ.out, e, w64 (x := ((j + i : Nat) : Int)) (by omega) (by omega), hl, if_pos (by omega), if_pos (by omega), if_pos (by omega), if_pos (by omega), if_pos (by omega), rd_nat ys i (by omega), w64n i (by omega), Int.toNat_natCast])
  (by
   intro s hinv
   subst hinv
   refine Ev.step (f := fun _ => some (laidOver d j ys)) (fun k => ?_) (Ev.now _)
   simp only [spec_setPixel.l0]
   rw [if_neg (by omega), List.take_of_length_le (by omega)])
  pn 0 d (by omega) (by unfold laidOver; simp)
 unfold spec_setPixel.f
 exact key
theorem pixelAt_eq {an bn pn x y : Nat} (h1 : an ≤ 16) (h2 : bn ≤ 16) (h3 : pn ≤ 4) (hx : x < an) (hy : y < bn) (d : List Int) (hd : d.length = (bn * an) * pn) : spec_pixelAt.f an bn pn d x y = some (nx pn d (y * an + x)) := by
 obtain ⟨hj, hm⟩ := pixJ_nat h1 h2 h3 hx hy
 have hs := small h1 h2 h3
 have hJ : wrap64 ((wrap64 ((wrap64 ((y : Int) * (an : Int))) + (x : Int))) * (pn : Int)) = (((y * an + x) * pn : Nat) : Int) := hj
 have e : ((((y * an + x) * pn : Nat) : Int) + (pn : Int)) = (((y * an + x) * pn + pn : Nat) : Int) := by push_cast; rfl
 have HJ := Aside0.mk hJ
 clear hJ hj
 unfold spec_pixelAt.f nx
 generalize (y * an + x) * pn = j at *
 rw [HJ.out, e, w64 (x := ((j + pn : Nat) : Int)) (by omega) (by omega), if_pos (by omega), if_pos (by omega), if_pos (by omega), Int.toNat_natCast, Int.toNat_natCast, copyInts_px _ (by rw [List.length_drop, List.length_take]; omega)]
 simp only [Option.bind_some]
 congr 1
 rw [List.drop_take]
 congr 1
 omega
theorem newImg_eq {wn hn pn : Nat} (h1 : wn ≤ 16) (h2 : hn ≤ 16) (h3 : pn ≤ 4) : spec_newImage.f wn hn pn = some ((wn : Int), (hn : Int), (pn : Int), List.replicate ((hn * wn) * pn) 0) := by
 have hs := small h1 h2 h3
 have hw : hn * wn ≤ 16 * 16 := Nat.mul_le_mul h2 h1
 have e1 : (wn : Int) * (hn : Int) = ((hn * wn : Nat) : Int) := by rw [Nat.mul_comm]; push_cast; rfl
 have e2 : ((hn * wn : Nat) : Int) * (pn : Int) = (((hn * wn) * pn : Nat) : Int) := by push_cast; rfl
 unfold spec_newImage.f
 rw [e1, w64 (x := ((hn * wn : Nat) : Int)) (by omega) (by omega), e2, w64 (by omega) (by omega), if_pos (by omega), Int.toNat_natCast, if_pos (by omega)]
def cropD (an pn : Nat) (d : List Int) (X Y wn hn : Nat) : List Int := imgD (fun x y => nx pn d ((Y + y) * an + (X + x))) wn hn
theorem cropD_len {an bn pn X Y wn hn : Nat} {d : List Int} (hd : d.length = (bn * an) * pn) (hX : X + wn ≤ an) (hY : Y + hn ≤ bn) : ∀ x y, x < wn → y < hn → (nx pn d ((Y + y) * an + (X + x))).length = pn := fun x y hx hy => nx_length hd (lin_lt (by omega) (by omega))
theorem crop_ev {an bn pn X Y wn hn : Nat} (h1 : an ≤ 16) (h2 : bn ≤ 16) (h3 : pn ≤ 4) (hX : X + wn ≤ an) (hY : Y + hn ≤ bn) (d : List Int) (hd : d.length = (bn * an) * pn) :
  Ev (fun k => spec_crop.f k an bn pn d X Y wn hn) ((wn : Int), (hn : Int), (pn : Int), cropD an pn d X Y wn hn) := by
 unfold spec_crop.f
 refine ev_now (newImg_eq (by omega) (by omega) h3) ?_
 have hlen := cropD_len hd hX hY
 have hfl : (cropD an pn d X Y wn hn).length = (hn * wn) * pn := imgD_length hlen
 have inner : ∀ (r : Nat), r < hn → ∀ s : List Int, (s.length = (hn * wn) * pn ∧ ∀ x y, x < wn → y < r → nx pn s (y * wn + x) = nx pn d ((Y + y) * an + (X + x))) →
   ∃ s' : List Int, (s'.length = (hn * wn) * pn ∧ ∀ x y, x < wn → y < r + 1 → nx pn s' (y * wn + x) = nx pn d ((Y + y) * an + (X + x))) ∧
    ∀ res, Ev (fun k => spec_crop.l0 k X Y wn hn ((r + 1 : Nat) : Int) an bn pn d wn hn pn s') res → Ev (fun k => spec_crop.l1 k X Y wn hn (r : Int) 0 an bn pn d wn hn pn s) res := by
  intro r hr s hs
  obtain ⟨s', h4, h5⟩ := ev_run wn (fun k c s => spec_crop.l1 k X Y wn hn (r : Int) (c : Int) an bn pn d wn hn pn s) (fun s k => spec_crop.l0 k X Y wn hn ((r + 1 : Nat) : Int) an bn pn d wn hn pn s)
   (fun c s => s.length = (hn * wn) * pn ∧ (∀ x y, x < wn → y < r → nx pn s (y * wn + x) = nx pn d ((Y + y) * an + (X + x))) ∧ ∀ x, x < c → nx pn s (r * wn + x) = nx pn d ((Y + r) * an + (X + x)))
   (by
    intro c s hc ⟨hsl, i1, i2⟩
    have hyl : (nx pn d ((Y + r) * an + (X + c))).length = pn := hlen c r hc hr
    have hlin := lin_lt hc hr
    have hm : (r * wn + c + 1) * pn ≤ (hn * wn) * pn := Nat.mul_le_mul_right pn hlin
    rw [Nat.add_mul, Nat.one_mul] at hm
    refine ⟨laidOver s ((r * wn + c) * pn) (nx pn d ((Y + r) * an + (X + c))), ⟨by rw [laidOver_length _ _ _ (by rw [hyl, hsl]; exact hm)]; exact hsl, ?_, ?_⟩, ?_⟩
    ·intro x y hx hy
     rw [nx_laid hsl hyl hlin (lin_lt hx (by omega)), if_neg (fun e => by have := (lin_ne hx hc e).2; omega)]
     exact i1 x y hx hy
    ·intro x hx
     rw [nx_laid hsl hyl hlin (lin_lt (by omega) hr)]
     by_cases e : x = c
     ·subst e; rw [if_pos rfl]
     ·rw [if_neg (by omega)]; exact i2 x (by omega)
    ·intro res hres
     refine Ev.step (f := fun k => (spec_pixelAt.f an bn pn d ((X + c : Nat) : Int) ((Y + r : Nat) : Int)).bind fun t => (spec_setPixel.f k wn hn pn s (c : Int) (r : Int) t).bind fun u => spec_crop.l1 k X Y wn hn (r : Int) ((c + 1 : Nat) : Int) an bn pn d wn hn pn u) (fun k => ?_) (ev_now (pixelAt_eq h1 h2 h3 (by omega) (by omega) d hd) (ev_bind (setPixel_ev (by omega) (by omega) h3 hc hr s _ hsl hyl) hres))
     simp only [spec_crop.l1]
     rw [if_pos (by omega), w64 (x := (X : Int) + (c : Int)) (by omega) (by omega), w64 (x := (Y : Int) + (r : Int)) (by omega) (by omega), w64n c (by omega)]
     push_cast
     rfl)
   (by
    intro s _ res hres
    refine Ev.step (fun k => ?_) hres
    simp only [spec_crop.l1]
    rw [if_neg (by omega), w64n r (by omega)])
   wn 0 s (by omega) ⟨hs.1, hs.2, fun x hx => by omega⟩
  refine ⟨s', ⟨h4.1, fun x y hx hy => ?_⟩, h5⟩
  by_cases e : y = r
  ·subst e; exact h4.2.2 x hx
  ·exact h4.2.1 x y hx (by omega)
 obtain ⟨s', h4, h5⟩ := ev_run hn (fun k r s => spec_crop.l0 k X Y wn hn (r : Int) an bn pn d wn hn pn s) (fun s _ => some ((wn : Int), (hn : Int), (pn : Int), s))
  (fun r s => s.length = (hn * wn) * pn ∧ ∀ x y, x < wn → y < r → nx pn s (y * wn + x) = nx pn d ((Y + y) * an + (X + x)))
  (by
   intro r s hr hs
   obtain ⟨s', i1, i2⟩ := inner r hr s hs
   refine ⟨s', i1, fun res hres => Ev.step (fun k => ?_) (i2 res hres)⟩
   simp only [spec_crop.l0]
   rw [if_pos (by omega)])
  (by
   intro s _ res hres
   refine Ev.step (fun k => ?_) hres
   simp only [spec_crop.l0]
   rw [if_neg (by omega)])
  hn 0 (List.replicate ((hn * wn) * pn) 0) (by omega) ⟨by simp, fun x y hx hy => by omega⟩
 have e : s' = cropD an pn d X Y wn hn := ext_img h4.1 hfl (fun x y hx hy => by rw [h4.2 x y hx hy]; unfold cropD; rw [nx_imgD hlen hx hy])
 subst e
 exact h5 _ (Ev.now _)
def pastePx (an pn : Nat) (d : List Int) (X Y : Int) (wn hn : Nat) (e : List Int) (x y : Nat) : List Int :=
 if X ≤ (x : Int) ∧ (x : Int) < X + wn ∧ Y ≤ (y : Int) ∧ (y : Int) < Y + hn then nx pn e (((y : Int) - Y).toNat * wn + ((x : Int) - X).toNat) else nx pn d (y * an + x)
theorem pastePx_len {an bn pn wn hn : Nat} {d e : List Int} {X Y : Int} (hd : d.length = (bn * an) * pn) (he : e.length = (hn * wn) * pn) : ∀ x y, x < an → y < bn → (pastePx an pn d X Y wn hn e x y).length = pn := by
 intro x y hx hy
 unfold pastePx
 split
 ·exact nx_length he (lin_lt (by omega) (by omega))
 ·exact nx_length hd (lin_lt hx hy)
theorem onImage_eq {an bn : Nat} (h1 : 1 ≤ an ∧ an ≤ 16) (h2 : 1 ≤ bn ∧ bn ≤ 16) (p : Int) (d : List Int) (x y : Int) : spec_onImage.f an bn p d x y = some (decide (0 ≤ x ∧ x < an ∧ 0 ≤ y ∧ y < bn)) := by
 unfold spec_onImage.f
 rw [w64 (x := (an : Int) - 1) (by omega) (by omega), w64 (x := (bn : Int) - 1) (by omega) (by omega), spec_inRangeI_eq, spec_inRangeI_eq]
 simp only [Option.bind_some]
 by_cases c : 0 ≤ x ∧ x ≤ (an : Int) - 1
 ·rw [if_pos (by simpa using c)]; congr 1; rw [Bool.eq_iff_iff]; simp; omega
 ·rw [if_neg (by simpa using c), decide_eq_false (by omega)]
theorem paste_ev {an bn pn wn hn : Nat} {X Y : Int} (h1 : 1 ≤ an ∧ an ≤ 16) (h2 : 1 ≤ bn ∧ bn ≤ 16) (h3 : pn ≤ 4) (h4 : wn ≤ 16) (h5 : hn ≤ 16) (hX : -16 ≤ X ∧ X ≤ 16) (hY : -16 ≤ Y ∧ Y ≤ 16) (d e : List Int) (hd : d.length = (bn * an) * pn) (he : e.length = (hn * wn) * pn) :
  Ev (fun k => spec_paste.f k an bn pn d X Y wn hn pn e) (imgD (pastePx an pn d X Y wn hn e) an bn) := by
 unfold spec_paste.f
 have hlen := pastePx_len (X := X) (Y := Y) hd he
 let I : Nat → Nat → List Int → Prop := fun r c s => s.length = (bn * an) * pn ∧ ∀ x y : Nat, x < an → y < bn → nx pn s (y * an + x) = if X ≤ (x : Int) ∧ (x : Int) < X + wn ∧ Y ≤ (y : Int) ∧ (y : Int) < Y + hn ∧ ((y : Int) < Y + r ∨ ((y : Int) = Y + r ∧ (x : Int) < X + c)) then nx pn e (((y : Int) - Y).toNat * wn + ((x : Int) - X).toNat) else nx pn d (y * an + x)
 have inner : ∀ (r : Nat), r < hn → ∀ s : List Int, I r 0 s → ∃ s' : List Int, I (r + 1) 0 s' ∧
    ∀ res, Ev (fun k => spec_paste.l0 k X Y ((r + 1 : Nat) : Int) an bn pn s' wn hn pn e) res → Ev (fun k => spec_paste.l1 k X Y (r : Int) 0 an bn pn s wn hn pn e) res := by
  intro r hr s hs
  obtain ⟨s', i4, i5⟩ := ev_run wn (fun k c s => spec_paste.l1 k X Y (r : Int) (c : Int) an bn pn s wn hn pn e) (fun s k => spec_paste.l0 k X Y ((r + 1 : Nat) : Int) an bn pn s wn hn pn e) (fun c s => I r c s)
   (by
    intro c s hc ⟨hsl, i1⟩
    have w1 := w64 (x := X + (c : Int)) (by omega) (by omega)
    have w2 := w64 (x := Y + (r : Int)) (by omega) (by omega)
    by_cases on : 0 ≤ X + (c : Int) ∧ X + (c : Int) < an ∧ 0 ≤ Y + (r : Int) ∧ Y + (r : Int) < bn
    ·obtain ⟨x0, hx0⟩ := Int.eq_ofNat_of_zero_le on.1
     obtain ⟨y0, hy0⟩ := Int.eq_ofNat_of_zero_le on.2.2.1
     have hx0a : x0 < an := by omega
     have hy0b : y0 < bn := by omega
     have hyl : (nx pn e (r * wn + c)).length = pn := nx_length he (lin_lt hc hr)
     have hlin := lin_lt hx0a hy0b
     have hm : (y0 * an + x0 + 1) * pn ≤ (bn * an) * pn := Nat.mul_le_mul_right pn hlin
     rw [Nat.add_mul, Nat.one_mul] at hm
     refine ⟨laidOver s ((y0 * an + x0) * pn) (nx pn e (r * wn + c)), ⟨by rw [laidOver_length _ _ _ (by rw [hyl, hsl]; exact hm)]; exact hsl, ?_⟩, ?_⟩
     ·intro x y hx hy
      rw [nx_laid hsl hyl hlin (lin_lt hx hy)]
      by_cases q : x = x0 ∧ y = y0
      ·obtain ⟨rfl, rfl⟩ := q
       rw [if_pos rfl, if_pos (by omega), show ((y : Int) - Y).toNat = r by omega, show ((x : Int) - X).toNat = c by omega]
      ·rw [if_neg (fun z => q (lin_ne hx hx0a z)), i1 x y hx hy]
       by_cases z : X ≤ (x : Int) ∧ (x : Int) < X + wn ∧ Y ≤ (y : Int) ∧ (y : Int) < Y + hn ∧ ((y : Int) < Y + r ∨ ((y : Int) = Y + r ∧ (x : Int) < X + c))
       ·rw [if_pos z, if_pos (by omega)]
       ·rw [if_neg z, if_neg (by omega)]
     ·intro res hres
      refine Ev.step (f := fun k => (spec_onImage.f an bn pn s (X + (c : Int)) (Y + (r : Int))).bind fun u => if u = true then ((spec_pixelAt.f wn hn pn e (c : Int) (r : Int)).bind fun t => (spec_setPixel.f k an bn pn s (X + (c : Int)) (Y + (r : Int)) t).bind fun v => spec_paste.l1 k X Y (r : Int) ((c + 1 : Nat) : Int) an bn pn v wn hn pn e) else spec_paste.l1 k X Y (r : Int) ((c + 1 : Nat) : Int) an bn pn s wn hn pn e) (fun k => ?_) (ev_now (onImage_eq h1 h2 _ _ _ _) (ev_pos (decide_eq_true on) (ev_now (pixelAt_eq h4 h5 h3 hc hr e he) (ev_bind ?_ hres))))
      ·simp only [spec_paste.l1]
       rw [if_pos (by omega), w1, w2, w64n c (by omega)]
      ·rw [hx0, hy0]
       exact setPixel_ev h1.2 h2.2 h3 hx0a hy0b s _ hsl hyl
    ·refine ⟨s, ⟨hsl, fun x y hx hy => ?_⟩, ?_⟩
     ·rw [i1 x y hx hy]
      by_cases z : X ≤ (x : Int) ∧ (x : Int) < X + wn ∧ Y ≤ (y : Int) ∧ (y : Int) < Y + hn ∧ ((y : Int) < Y + r ∨ ((y : Int) = Y + r ∧ (x : Int) < X + c))
      ·rw [if_pos z, if_pos (by omega)]
      ·rw [if_neg z, if_neg (by omega)]
     ·intro res hres
      refine Ev.step (f := fun k => (spec_onImage.f an bn pn s (X + (c : Int)) (Y + (r : Int))).bind fun u => if u = true then ((spec_pixelAt.f wn hn pn e (c : Int) (r : Int)).bind fun t => (spec_setPixel.f k an bn pn s (X + (c : Int)) (Y + (r : Int)) t).bind fun v => spec_paste.l1 k X Y (r : Int) ((c + 1 : Nat) : Int) an bn pn v wn hn pn e) else spec_paste.l1 k X Y (r : Int) ((c + 1 : Nat) : Int) an bn pn s wn hn pn e) (fun k => ?_) (ev_now (onImage_eq h1 h2 _ _ _ _) (ev_neg (by simpa using on) hres))
      simp only [spec_paste.l1]
      rw [if_pos (by omega), w1, w2, w64n c (by omega)])
   (by
    intro s _ res hres
    refine Ev.step (fun k => ?_) hres
    simp only [spec_paste.l1]
    rw [if_neg (by omega), w64n r (by omega)])
   wn 0 s (by omega) hs
  refine ⟨s', ⟨i4.1, fun x y hx hy => ?_⟩, i5⟩
  rw [i4.2 x y hx hy]
  by_cases z : X ≤ (x : Int) ∧ (x : Int) < X + wn ∧ Y ≤ (y : Int) ∧ (y : Int) < Y + hn ∧ ((y : Int) < Y + r ∨ ((y : Int) = Y + r ∧ (x : Int) < X + wn))
  ·rw [if_pos z, if_pos (by omega)]
  ·rw [if_neg z, if_neg (by omega)]
 obtain ⟨s', i4, i5⟩ := ev_run hn (fun k r s => spec_paste.l0 k X Y (r : Int) an bn pn s wn hn pn e) (fun s _ => some s) (fun r s => I r 0 s)
  (by
   intro r s hr hs
   obtain ⟨s', i1, i2⟩ := inner r hr s hs
   refine ⟨s', i1, fun res hres => Ev.step (fun k => ?_) (i2 res hres)⟩
   simp only [spec_paste.l0]
   rw [if_pos (by omega)])
  (by
   intro s _ res hres
   refine Ev.step (fun k => ?_) hres
   simp only [spec_paste.l0]
   rw [if_neg (by omega)])
  hn 0 d (by omega) ⟨hd, fun x y hx hy => by rw [if_neg (by omega)]⟩
 have q : s' = imgD (pastePx an pn d X Y wn hn e) an bn := ext_img i4.1 (imgD_length hlen) (fun x y hx hy => by
  rw [i4.2 x y hx hy, nx_imgD hlen hx hy]
  unfold pastePx
  by_cases z : X ≤ (x : Int) ∧ (x : Int) < X + wn ∧ Y ≤ (y : Int) ∧ (y : Int) < Y + hn
  ·rw [if_pos z, if_pos (by omega)]
  ·rw [if_neg z, if_neg (by omega)])
 subst q
 exact i5 _ (Ev.now _)

/- One step, as the program and the reference have it. -/

theorem copyImage_px (a b p : Int) (d : List Int) (hl : d.length ≤ 1000000) : spec_copyImage.f a b p d = some (a, b, p, d) := by
 unfold spec_copyImage.f
 rw [copyInts_px d hl]
 rfl
def mirD (an bn pn : Nat) (d : List Int) : List Int := imgD (fun x y => nx pn d (y * an + (an - 1 - x))) an bn
theorem mirD_len {an bn pn : Nat} {d : List Int} (h1 : 1 ≤ an) (h2 : 1 ≤ bn) (hd : d.length = (bn * an) * pn) : ∀ x y, x < an → y < bn → (nx pn d (y * an + (an - 1 - x))).length = pn := fun x y hx hy => nx_length hd (lin_lt (by omega) (by omega))
theorem mirror_ev {an bn pn : Nat} (h1 : 1 ≤ an ∧ an ≤ 16) (h2 : 1 ≤ bn ∧ bn ≤ 16) (h3 : pn ≤ 4) (d : List Int) (hd : d.length = (bn * an) * pn) : Ev (fun k => spec_mirror.f k an bn pn d) ((an : Int), (bn : Int), (pn : Int), mirD an bn pn d) := by
 have sm := small h1.2 h2.2 h3
 unfold spec_mirror.f
 refine ev_now (copyImage_px _ _ _ d (by omega)) ?_
 have hlen := mirD_len h1.1 h2.1 hd
 let I : Nat → Nat → List Int → Prop := fun r c s => s.length = (bn * an) * pn ∧ ∀ x y : Nat, x < an → y < bn → (y < r ∨ (y = r ∧ x < c)) → nx pn s (y * an + (an - 1 - x)) = nx pn d (y * an + x)
 have inner : ∀ (r : Nat), r < bn → ∀ s : List Int, I r 0 s → ∃ s' : List Int, I (r + 1) 0 s' ∧
    ∀ res, Ev (fun k => spec_mirror.l0 k ((r + 1 : Nat) : Int) an bn pn d an bn pn s') res → Ev (fun k => spec_mirror.l1 k (r : Int) 0 an bn pn d an bn pn s) res := by
  intro r hr s hs
  obtain ⟨s', i4, i5⟩ := ev_run an (fun k c s => spec_mirror.l1 k (r : Int) (c : Int) an bn pn d an bn pn s) (fun s k => spec_mirror.l0 k ((r + 1 : Nat) : Int) an bn pn d an bn pn s) (fun c s => I r c s)
   (by
    intro c s hc ⟨hsl, i1⟩
    have hyl : (nx pn d (r * an + c)).length = pn := nx_length hd (lin_lt hc hr)
    have htx : an - 1 - c < an := by omega
    have hty : r < bn := by omega
    have hlin := lin_lt htx hty
    have hm : (r * an + (an - 1 - c) + 1) * pn ≤ (bn * an) * pn := Nat.mul_le_mul_right pn hlin
    rw [Nat.add_mul, Nat.one_mul] at hm
    refine ⟨laidOver s ((r * an + (an - 1 - c)) * pn) (nx pn d (r * an + c)), ⟨by rw [laidOver_length _ _ _ (by rw [hyl, hsl]; exact hm)]; exact hsl, ?_⟩, ?_⟩
    ·intro x y hx hy hdn
     have hxy : an - 1 - x < an := by omega
     rw [nx_laid hsl hyl hlin (lin_lt hxy (by omega))]
     by_cases q : x = c ∧ y = r
     ·obtain ⟨rfl, rfl⟩ := q
      rw [if_pos rfl]
     ·rw [if_neg (fun z => q (by have t := lin_ne hxy htx z; omega))]
      exact i1 x y hx hy (by omega)
    ·intro res hres
     clear hm hlin i1
     refine Ev.step (f := fun k => (spec_pixelAt.f an bn pn d (c : Int) (r : Int)).bind fun t => (spec_setPixel.f k an bn pn s ((an - 1 - c : Nat) : Int) ((r : Nat) : Int) t).bind fun u => spec_mirror.l1 k (r : Int) ((c + 1 : Nat) : Int) an bn pn d an bn pn u) (fun k => ?_) (ev_now (pixelAt_eq h1.2 h2.2 h3 hc hr d hd) (ev_bind (setPixel_ev (by omega) (by omega) h3 htx hty s _ hsl hyl) hres))
     simp only [spec_mirror.l1]
     rw [if_pos (by omega), w64 (x := (an : Int) - 1) (by omega) (by omega), w64 (x := (an : Int) - 1 - (c : Int)) (by omega) (by omega), show (an : Int) - 1 - (c : Int) = ((an - 1 - c : Nat) : Int) by omega, w64n c (by omega)])
   (by
    intro s _ res hres
    refine Ev.step (fun k => ?_) hres
    simp only [spec_mirror.l1]
    rw [if_neg (by omega), w64n r (by omega)])
   an 0 s (by omega) hs
  exact ⟨s', ⟨i4.1, fun x y hx hy hdn => i4.2 x y hx hy (by omega)⟩, i5⟩
 obtain ⟨s', i4, i5⟩ := ev_run bn (fun k r s => spec_mirror.l0 k (r : Int) an bn pn d an bn pn s) (fun s _ => some ((an : Int), (bn : Int), (pn : Int), s)) (fun r s => I r 0 s)
  (by
   intro r s hr hs
   obtain ⟨s', i1, i2⟩ := inner r hr s hs
   refine ⟨s', i1, fun res hres => Ev.step (fun k => ?_) (i2 res hres)⟩
   simp only [spec_mirror.l0]
   rw [if_pos (by omega)])
  (by
   intro s _ res hres
   refine Ev.step (fun k => ?_) hres
   simp only [spec_mirror.l0]
   rw [if_neg (by omega)])
  bn 0 (d) (by omega) ⟨by first | exact hd | simp, fun x y hx hy hdn => by omega⟩
 have q : s' = mirD an bn pn d := ext_img i4.1 (imgD_length hlen) (fun x y hx hy => by
  rw [show mirD an bn pn d = imgD (fun x y => nx pn d (y * an + (an - 1 - x))) an bn from rfl, nx_imgD hlen hx hy]
  have z := i4.2 (an - 1 - x) y (by omega) hy (by omega)
  rw [show an - 1 - (an - 1 - x) = x by omega] at z
  exact z)
 subst q
 exact i5 _ (Ev.now _)
def turnD (an bn pn : Nat) (d : List Int) : List Int := imgD (fun x y => nx pn d ((bn - 1 - x) * an + y)) bn an
theorem turnD_len {an bn pn : Nat} {d : List Int} (h1 : 1 ≤ an) (h2 : 1 ≤ bn) (hd : d.length = (bn * an) * pn) : ∀ x y, x < bn → y < an → (nx pn d ((bn - 1 - x) * an + y)).length = pn := fun x y hx hy => nx_length hd (lin_lt (by omega) (by omega))
theorem turn_ev {an bn pn : Nat} (h1 : 1 ≤ an ∧ an ≤ 16) (h2 : 1 ≤ bn ∧ bn ≤ 16) (h3 : pn ≤ 4) (d : List Int) (hd : d.length = (bn * an) * pn) : Ev (fun k => spec_turn.f k an bn pn d) ((bn : Int), (an : Int), (pn : Int), turnD an bn pn d) := by
 have sm := small h1.2 h2.2 h3
 unfold spec_turn.f
 refine ev_now (newImg_eq h2.2 h1.2 h3) ?_
 have hlen := turnD_len h1.1 h2.1 hd
 let I : Nat → Nat → List Int → Prop := fun r c s => s.length = (an * bn) * pn ∧ ∀ x y : Nat, x < an → y < bn → (y < r ∨ (y = r ∧ x < c)) → nx pn s (x * bn + (bn - 1 - y)) = nx pn d (y * an + x)
 have inner : ∀ (r : Nat), r < bn → ∀ s : List Int, I r 0 s → ∃ s' : List Int, I (r + 1) 0 s' ∧
    ∀ res, Ev (fun k => spec_turn.l0 k ((r + 1 : Nat) : Int) an bn pn d bn an pn s') res → Ev (fun k => spec_turn.l1 k (r : Int) 0 an bn pn d bn an pn s) res := by
  intro r hr s hs
  obtain ⟨s', i4, i5⟩ := ev_run an (fun k c s => spec_turn.l1 k (r : Int) (c : Int) an bn pn d bn an pn s) (fun s k => spec_turn.l0 k ((r + 1 : Nat) : Int) an bn pn d bn an pn s) (fun c s => I r c s)
   (by
    intro c s hc ⟨hsl, i1⟩
    have hyl : (nx pn d (r * an + c)).length = pn := nx_length hd (lin_lt hc hr)
    have htx : bn - 1 - r < bn := by omega
    have hty : c < an := by omega
    have hlin := lin_lt htx hty
    have hm : (c * bn + (bn - 1 - r) + 1) * pn ≤ (an * bn) * pn := Nat.mul_le_mul_right pn hlin
    rw [Nat.add_mul, Nat.one_mul] at hm
    refine ⟨laidOver s ((c * bn + (bn - 1 - r)) * pn) (nx pn d (r * an + c)), ⟨by rw [laidOver_length _ _ _ (by rw [hyl, hsl]; exact hm)]; exact hsl, ?_⟩, ?_⟩
    ·intro x y hx hy hdn
     have hxy : bn - 1 - y < bn := by omega
     rw [nx_laid hsl hyl hlin (lin_lt hxy (by omega))]
     by_cases q : x = c ∧ y = r
     ·obtain ⟨rfl, rfl⟩ := q
      rw [if_pos rfl]
     ·rw [if_neg (fun z => q (by have t := lin_ne hxy htx z; omega))]
      exact i1 x y hx hy (by omega)
    ·intro res hres
     clear hm hlin i1
     refine Ev.step (f := fun k => (spec_pixelAt.f an bn pn d (c : Int) (r : Int)).bind fun t => (spec_setPixel.f k bn an pn s ((bn - 1 - r : Nat) : Int) ((c : Nat) : Int) t).bind fun u => spec_turn.l1 k (r : Int) ((c + 1 : Nat) : Int) an bn pn d bn an pn u) (fun k => ?_) (ev_now (pixelAt_eq h1.2 h2.2 h3 hc hr d hd) (ev_bind (setPixel_ev (by omega) (by omega) h3 htx hty s _ hsl hyl) hres))
     simp only [spec_turn.l1]
     rw [if_pos (by omega), w64 (x := (bn : Int) - 1) (by omega) (by omega), w64 (x := (bn : Int) - 1 - (r : Int)) (by omega) (by omega), show (bn : Int) - 1 - (r : Int) = ((bn - 1 - r : Nat) : Int) by omega, w64n c (by omega)])
   (by
    intro s _ res hres
    refine Ev.step (fun k => ?_) hres
    simp only [spec_turn.l1]
    rw [if_neg (by omega), w64n r (by omega)])
   an 0 s (by omega) hs
  exact ⟨s', ⟨i4.1, fun x y hx hy hdn => i4.2 x y hx hy (by omega)⟩, i5⟩
 obtain ⟨s', i4, i5⟩ := ev_run bn (fun k r s => spec_turn.l0 k (r : Int) an bn pn d bn an pn s) (fun s _ => some ((bn : Int), (an : Int), (pn : Int), s)) (fun r s => I r 0 s)
  (by
   intro r s hr hs
   obtain ⟨s', i1, i2⟩ := inner r hr s hs
   refine ⟨s', i1, fun res hres => Ev.step (fun k => ?_) (i2 res hres)⟩
   simp only [spec_turn.l0]
   rw [if_pos (by omega)])
  (by
   intro s _ res hres
   refine Ev.step (fun k => ?_) hres
   simp only [spec_turn.l0]
   rw [if_neg (by omega)])
  bn 0 (List.replicate ((an * bn) * pn) 0) (by omega) ⟨by first | exact hd | simp, fun x y hx hy hdn => by omega⟩
 have q : s' = turnD an bn pn d := ext_img i4.1 (imgD_length hlen) (fun x y hx hy => by
  rw [show turnD an bn pn d = imgD (fun x y => nx pn d ((bn - 1 - x) * an + y)) bn an from rfl, nx_imgD hlen hx hy]
  have z := i4.2 y (bn - 1 - x) hy (by omega) (by omega)
  rw [show bn - 1 - (bn - 1 - x) = x by omega] at z
  exact z)
 subst q
 exact i5 _ (Ev.now _)
theorem set_map (f : Int → Int) (d : List Int) (i : Nat) (hi : i < d.length) : ((d.take i).map f ++ d.drop i).set i (f d[i]) = (d.take (i + 1)).map f ++ d.drop (i + 1) := by
 have h1 : ((d.take i).map f).length = i := by rw [List.length_map, List.length_take]; omega
 rw [List.set_append_right _ _ (by omega), h1, Nat.sub_self, List.drop_eq_getElem_cons hi, List.set_cons_zero, List.take_succ_eq_append_getElem hi, List.map_append, List.append_assoc]
 rfl
theorem invert_ev (a b p : Int) (d : List Int) (hv : validI a b p d = true) (hl : d.length ≤ 1000000) : Ev (fun k => spec_InvertImage.f k a b p d) (a, b, p, invD d) := by
 unfold spec_InvertImage.f
 have hv0 := spec_validImage_ev a b p d (by omega)
 rw [hv] at hv0
 refine ev_bind hv0 (ev_pos rfl (ev_now (copyImage_px a b p d hl) ?_))
 refine ev_up d.length (fun k i s => spec_InvertImage.l0 k (i : Int) a b p d a b p s) (fun i s => s = (d.take i).map (fun n => wrap64 (255 - n)) ++ d.drop i) (fun _ _ => (a, b, p, invD d))
  (by
   intro i s hi hinv
   right
   refine ⟨(d.take (i + 1)).map (fun n => wrap64 (255 - n)) ++ d.drop (i + 1), fun k => ?_, rfl, rfl⟩
   have hsl : s.length = d.length := by rw [hinv, List.length_append, List.length_map, List.length_take, List.length_drop]; omega
   simp only [spec_InvertImage.l0]
   rw [if_pos (by rw [hsl]; omega), if_pos (by omega), if_pos (by omega), rd_nat d i hi, w64n i (by omega), Int.toNat_natCast, hinv, set_map (fun n => wrap64 (255 - n)) d i hi])
  (by
   intro s hinv
   have hsl : s.length = d.length := by rw [hinv, List.length_append, List.length_map, List.length_take, List.length_drop]; omega
   refine Ev.step (f := fun _ => some (a, b, p, invD d)) (fun k => ?_) (Ev.now _)
   simp only [spec_InvertImage.l0]
   rw [if_neg (by rw [hsl]; omega), hinv, List.take_length, List.drop_length, List.append_nil]
   rfl)
  d.length 0 d (by omega) (by simp)
theorem validBox_on {a b p : Int} {d : List Int} (hs : 1 ≤ a ∧ a ≤ 16 ∧ 1 ≤ b ∧ b ≤ 16) (x y wd hg : Int) : spec_validBox.f a b p d x y wd hg = some (boxOn a b x y wd hg) := by
 unfold spec_validBox.f boxOn
 simp only [spec_inRangeI_eq, Option.bind_some]
 rw [w64 (x := a - 1) (by omega) (by omega), w64 (x := b - 1) (by omega) (by omega)]
 by_cases c1 : 0 ≤ x ∧ x ≤ a - 1
 ·rw [if_pos (by simpa using c1), w64 (x := a - x) (by omega) (by omega)]
  by_cases c2 : 0 ≤ y ∧ y ≤ b - 1
  ·rw [if_pos (by simpa using c2), w64 (x := b - y) (by omega) (by omega)]
   by_cases c3 : 1 ≤ wd ∧ wd ≤ a - x
   ·rw [if_pos (by simpa using c3)]
    congr 1; rw [Bool.eq_iff_iff]; simp; omega
   ·rw [if_neg (by simpa using c3), decide_eq_false (by omega)]
  ·rw [if_neg (by simpa using c2), decide_eq_false (by omega)]
 ·rw [if_neg (by simpa using c1), decide_eq_false (by omega)]
theorem fill_ev {wn hn pn : Nat} (h1 : 1 ≤ wn ∧ wn ≤ 16) (h2 : 1 ≤ hn ∧ hn ≤ 16) (h3 : 1 ≤ pn ∧ pn ≤ 4) (pix : List Int) (hp : pix.length = pn) (hb : pix.all byteI = true) :
  ∃ e : List Int, e.length = (hn * wn) * pn ∧ (∀ x y, x < wn → y < hn → nx pn e (y * wn + x) = pix) ∧ Ev (fun k => spec_FillImage.f k wn hn pix) ((wn : Int), (hn : Int), (pn : Int), e) := by
 have sm := small h1.2 h2.2 h3.2
 obtain ⟨s', i4, i5⟩ := ev_run ((hn * wn) * pn) (fun k i s => spec_FillImage.l0 k pix (i : Int) wn hn pn s) (fun s _ => some ((wn : Int), (hn : Int), (pn : Int), s)) (fun i s => s.length = (hn * wn) * pn ∧ ∀ q, q < i → s.getD q 0 = pix.getD (q % pn) 0)
  (by
   intro i s hi ⟨hsl, i1⟩
   have hmod : i % pn < pn := Nat.mod_lt _ (by omega)
   have htm : Int.tmod (i : Int) (pix.length : Int) = ((i % pn : Nat) : Int) := by rw [hp]; rfl
   refine ⟨s.set i (pix.getD (i % pn) 0), ⟨by rw [List.length_set]; exact hsl, fun q hq => ?_⟩, fun res hres => Ev.step (fun k => ?_) hres⟩
   ·by_cases e : q = i
    ·subst e
     rw [List.getD_eq_getElem?_getD, List.getElem?_set_self (by omega)]
     rfl
    ·rw [List.getD_eq_getElem?_getD, List.getElem?_set_ne (by omega), ← List.getD_eq_getElem?_getD]
     exact i1 q (by omega)
   ·simp only [spec_FillImage.l0]
    rw [htm, if_pos (by omega), if_neg (by omega), if_pos (by omega), if_pos (by omega), if_pos (by omega), w64n i (by omega), Int.toNat_natCast]
    rfl)
  (by
   intro s ⟨hsl, _⟩ res hres
   refine Ev.step (fun k => ?_) hres
   simp only [spec_FillImage.l0]
   rw [if_neg (by omega)])
  ((hn * wn) * pn) 0 (List.replicate ((hn * wn) * pn) 0) (by omega) ⟨by simp, fun q hq => by omega⟩
 refine ⟨s', i4.1, fun x y hx hy => ?_, ?_⟩
 ·have hl := lin_lt hx hy
  have hn1 : (nx pn s' (y * wn + x)).length = pn := nx_length i4.1 hl
  have hm : (y * wn + x + 1) * pn ≤ (hn * wn) * pn := Nat.mul_le_mul_right pn hl
  rw [Nat.add_mul, Nat.one_mul] at hm
  refine List.ext_getElem (by rw [hn1, hp]) (fun q hq1 hq2 => ?_)
  have z := i4.2 ((y * wn + x) * pn + q) (by omega)
  rw [Nat.mul_comm (y * wn + x) pn, Nat.mul_add_mod, Nat.mod_eq_of_lt (show q < pn by omega), Nat.mul_comm pn (y * wn + x)] at z
  have z1 : (nx pn s' (y * wn + x)).getD q 0 = pix.getD q 0 := by
   rw [← z]
   unfold nx
   rw [List.getD_eq_getElem?_getD, List.getElem?_take, if_pos (by omega), List.getElem?_drop, List.getD_eq_getElem?_getD]
  rw [List.getD_eq_getElem?_getD, List.getElem?_eq_getElem hq1, List.getD_eq_getElem?_getD, List.getElem?_eq_getElem hq2] at z1
  exact z1
 ·unfold spec_FillImage.f
  have hsh : shapeI wn hn (pix.length : Int) = true := (shapeI_iff _ _ _).2 (by omega)
  have hb0 := spec_allInI_ev pix (by omega)
  rw [hb] at hb0
  refine ev_now ((spec_validShape_eq wn hn (pix.length : Int)).trans (by rw [hsh])) (ev_pos rfl (ev_bind hb0 ?_))
  refine Ev.step (f := fun k => (spec_newImage.f wn hn (pix.length : Int)).bind fun t => spec_FillImage.l0 k pix 0 t.1 t.2.1 t.2.2.1 t.2.2.2) (fun k => ?_) (ev_now (by rw [hp]; exact newImg_eq h1.2 h2.2 h3.2) (i5 _ (Ev.now _)))
  simp only [spec_FillImage.j0, Bool.not_true]
  rw [if_neg (by simp)]
theorem spec_doStep_ev (a b p : Int) (d : List Int) (kind x y wd hg : Int) (pix : List Int) (hv : validI a b p d = true) (hpl : pix.length ≤ 1000000000) : Ev (fun k => spec_doStep.f k a b p d kind x y wd hg pix) (doStepV a b p d kind x y wd hg pix) := by
 have hs := ((validI_iff a b p d).1 hv).1
 have hs' : 1 ≤ a ∧ a ≤ 16 ∧ 1 ≤ b ∧ b ≤ 16 := by omega
 have hvb := fun x y wd hg => validBox_on (p := p) (d := d) hs' x y wd hg
 have hv1 := hv
 obtain ⟨an, bn, pn, ea, eb, ep, q1, q2, q3, q4, q5, q6, q7⟩ := nat_of hv
 have sm := small q2 q4 q6
 unfold spec_doStep.f doStepV
 by_cases k0 : kind = 0
 ·rw [if_pos k0]
  refine ev_pos k0 ?_
  subst ea eb ep
  rw [show imgD (mirPx an pn d) (an : Int).toNat (bn : Int).toNat = mirD an bn pn d from imgD_congr (fun x y hx hy => by
   simp only [Int.toNat_natCast] at hx hy
   unfold mirPx
   rw [show ((an : Int) - 1 - (x : Int)).toNat = an - 1 - x by omega, pxAt_nat q2 q4 q6 (by omega) hy])]
  exact ev_bind (mirror_ev ⟨q1, q2⟩ ⟨q3, q4⟩ q6 d q7) (Ev.now _)
 ·rw [if_neg k0]
  refine ev_neg k0 ?_
  by_cases k1 : kind = 1
  ·rw [if_pos k1]
   refine ev_pos k1 ?_
   subst ea eb ep
   rw [show imgD (turnPx an bn pn d) (bn : Int).toNat (an : Int).toNat = turnD an bn pn d from imgD_congr (fun x y hx hy => by
    simp only [Int.toNat_natCast] at hx hy
    unfold turnPx
    rw [show ((bn : Int) - 1 - (x : Int)).toNat = bn - 1 - x by omega, pxAt_nat q2 q4 q6 hy (by omega)])]
   exact ev_bind (turn_ev ⟨q1, q2⟩ ⟨q3, q4⟩ q6 d q7) (Ev.now _)
  ·rw [if_neg k1]
   refine ev_neg k1 ?_
   by_cases k2 : kind = 2
   ·rw [if_pos k2]
    exact ev_pos k2 (ev_bind (invert_ev a b p d hv (by omega)) (Ev.now _))
   ·rw [if_neg k2]
    refine ev_neg k2 ?_
    by_cases k3 : kind = 3
    ·rw [if_pos k3]
     refine ev_pos k3 ?_
     unfold spec_CropImage.f
     have hv0 := spec_validImage_ev a b p d (by omega)
     rw [hv] at hv0
     by_cases c : boxOn a b x y wd hg = true
     ·rw [if_pos c]
      obtain ⟨b1, b2, b3, b4, b5, b6, b7, b8⟩ := (boxOn_iff _ _ _ _ _ _).1 c
      obtain ⟨X, eX⟩ := Int.eq_ofNat_of_zero_le b1
      obtain ⟨Y, eY⟩ := Int.eq_ofNat_of_zero_le b3
      obtain ⟨wn, ew⟩ := Int.eq_ofNat_of_zero_le (show 0 ≤ wd by omega)
      obtain ⟨hn, eh⟩ := Int.eq_ofNat_of_zero_le (show 0 ≤ hg by omega)
      subst ea eb ep eX eY ew eh
      rw [show imgD (cropPx an pn d (X : Int).toNat (Y : Int).toNat) (wn : Int).toNat (hn : Int).toNat = cropD an pn d X Y wn hn from imgD_congr (fun x y hx hy => by
       simp only [Int.toNat_natCast] at hx hy ⊢
       unfold cropPx
       rw [pxAt_nat q2 q4 q6 (by omega) (by omega)])]
      exact ev_bind (ev_bind hv0 (ev_pos rfl (ev_now (hvb _ _ _ _) (ev_pos c (ev_bind (crop_ev q2 q4 q6 (by omega) (by omega) d q7) (Ev.now _)))))) (Ev.now _)
     ·rw [if_neg c]
      exact ev_bind (ev_bind hv0 (ev_pos rfl (ev_now (hvb _ _ _ _) (ev_neg c (Ev.now _))))) (Ev.now _)
    ·rw [if_neg k3]
     refine ev_neg k3 ?_
     by_cases k4 : kind = 4
     ·rw [if_pos k4]
      refine ev_pos k4 ?_
      have stop : ∀ q, ¬ (boxOn a b x y wd hg = true ∧ (pix.length : Int) = p ∧ pix.all byteI = true) → q = true → Ev (fun k => spec_doStep.j0 k q a b p d kind x y wd hg pix) (if boxOn a b x y wd hg = true ∧ (pix.length : Int) = p ∧ pix.all byteI = true then (a, b, p, imgD (fillPx a p d x.toNat y.toNat wd.toNat hg.toNat pix) a.toNat b.toNat, true) else (0, 0, 0, [], false)) := by
       intro q hn hq
       subst hq
       rw [if_neg hn]
       refine Ev.step (f := fun _ => some (0, 0, 0, [], false)) (fun k => ?_) (Ev.now _)
       simp only [spec_doStep.j0]
       rw [if_pos trivial]
      refine ev_now (hvb _ _ _ _) ?_
      by_cases c : boxOn a b x y wd hg = true
      ·refine ev_pos c ?_
       by_cases c2 : (pix.length : Int) = p
       ·refine ev_pos c2 (ev_bind (spec_allInI_ev pix (by omega)) ?_)
        by_cases c3 : pix.all byteI = true
        ·rw [c3, if_pos ⟨c, c2, rfl⟩]
         obtain ⟨b1, b2, b3, b4, b5, b6, b7, b8⟩ := (boxOn_iff _ _ _ _ _ _).1 c
         obtain ⟨X, eX⟩ := Int.eq_ofNat_of_zero_le b1
         obtain ⟨Y, eY⟩ := Int.eq_ofNat_of_zero_le b3
         obtain ⟨wn, ew⟩ := Int.eq_ofNat_of_zero_le (show 0 ≤ wd by omega)
         obtain ⟨hn, eh⟩ := Int.eq_ofNat_of_zero_le (show 0 ≤ hg by omega)
         subst ea eb ep eX eY ew eh
         have c2 := Int.ofNat.inj c2
         obtain ⟨e, e1, e2, e3⟩ := fill_ev (wn := wn) (hn := hn) ⟨by omega, by omega⟩ ⟨by omega, by omega⟩ ⟨q5, q6⟩ pix c2 c3
         rw [show imgD (fillPx an pn d (X : Int).toNat (Y : Int).toNat (wn : Int).toNat (hn : Int).toNat pix) (an : Int).toNat (bn : Int).toNat = imgD (pastePx an pn d X Y wn hn e) an bn from imgD_congr (fun x y hx hy => by
          simp only [Int.toNat_natCast] at hx hy ⊢
          unfold fillPx inBox pastePx
          by_cases z : X ≤ x ∧ x < X + wn ∧ Y ≤ y ∧ y < Y + hn
          ·rw [if_pos (decide_eq_true z), if_pos (by omega), e2 _ _ (by omega) (by omega)]
          ·rw [if_neg (by simpa using z), if_neg (by omega), pxAt_nat q2 q4 q6 hx hy])]
         refine Ev.step (f := fun k => (spec_copyImage.f an bn pn d).bind fun t => (spec_FillImage.f k wn hn pix).bind fun u => (spec_paste.f k t.1 t.2.1 t.2.2.1 t.2.2.2 X Y u.1 u.2.1 u.2.2.1 u.2.2.2).bind fun v => some (t.1, t.2.1, t.2.2.1, v, true)) (fun k => ?_) (ev_now (copyImage_px _ _ _ d (by omega)) (ev_bind e3 (ev_bind (paste_ev ⟨q1, q2⟩ ⟨q3, q4⟩ q6 (by omega) (by omega) ⟨by omega, by omega⟩ ⟨by omega, by omega⟩ d e q7 e1) (Ev.now _))))
         simp only [spec_doStep.j0, Bool.not_true]
         rw [if_neg (by simp)]
        ·rw [Bool.eq_false_iff.2 c3]
         have z := stop true (fun h => c3 h.2.2) rfl
         rw [Bool.eq_false_iff.2 c3] at z
         exact z
       ·exact ev_neg c2 (stop _ (fun h => c2 h.2.1) rfl)
      ·exact ev_neg c (stop _ (fun h => c h.1) rfl)
     ·rw [if_neg k4]
      exact ev_neg k4 (Ev.now _)
def doneV (a b p : Int) (d : List Int) (kind x y wd hg : Int) (pix : List Int) : Int × Int × Int × List Int × Bool := if validI a b p d = true then doStepV a b p d kind x y wd hg pix else (0, 0, 0, [], false)
theorem impl_DoStep_eq (a b p : Int) (d : List Int) (kind x y wd hg : Int) (pix : List Int) : impl_DoStep.f a b p d kind x y wd hg pix = some (doneV a b p d kind x y wd hg pix) := by
 unfold impl_DoStep.f doneV
 rw [impl_isImage_eq]
 simp only [Option.bind_some]
 by_cases c : validI a b p d = true
 ·rw [if_pos c, if_pos c]
  unfold impl_doStep.f
  rw [if_pos c]
  rfl
 ·rw [if_neg c, if_neg c]
theorem spec_DoStep_ev (a b p : Int) (d : List Int) (kind x y wd hg : Int) (pix : List Int) (hl : d.length ≤ 2000000) (hpl : pix.length ≤ 1000000000) : Ev (fun k => spec_DoStep.f k a b p d kind x y wd hg pix) (doneV a b p d kind x y wd hg pix) := by
 unfold spec_DoStep.f doneV
 refine ev_bind (spec_validImage_ev a b p d (by omega)) ?_
 by_cases c : validI a b p d = true
 ·rw [if_pos c]
  exact ev_pos c (ev_bind (spec_doStep_ev a b p d kind x y wd hg pix c hpl) (Ev.now _))
 ·rw [if_neg c]
  exact ev_neg c (Ev.now _)
theorem doneV_len (a b p : Int) (d : List Int) (kind x y wd hg : Int) (pix : List Int) (hpl : pix.length ≤ 1000000000) : (doneV a b p d kind x y wd hg pix).2.2.2.1.length ≤ 1024 := by
 unfold doneV
 by_cases c : validI a b p d = true
 ·rw [if_pos c]
  obtain ⟨an, bn, pn, ea, eb, ep, q1, q2, q3, q4, q5, q6, q7⟩ := nat_of c
  have sm := small q2 q4 q6
  subst ea eb ep
  unfold doStepV
  split
  ·show (imgD _ _ _).length ≤ 1024
   rw [imgD_length (n := pn) (fun x y hx hy => by
    simp only [Int.toNat_natCast] at hx hy
    unfold mirPx
    rw [pxAt_nat q2 q4 q6 (by omega) hy]
    exact nx_length q7 (lin_lt (by omega) hy))]
   exact sm
  ·split
   ·show (imgD _ _ _).length ≤ 1024
    rw [imgD_length (n := pn) (fun x y hx hy => by
     simp only [Int.toNat_natCast] at hx hy
     unfold turnPx
     rw [pxAt_nat q2 q4 q6 hy (by omega)]
     exact nx_length q7 (lin_lt hy (by omega)))]
    exact small q4 q2 q6
   ·split
    ·show (invD d).length ≤ 1024
     unfold invD
     rw [List.length_map]
     omega
    ·split
     ·split
      ·rename_i cb
       obtain ⟨b1, b2, b3, b4, b5, b6, b7, b8⟩ := (boxOn_iff _ _ _ _ _ _).1 cb
       show (imgD _ _ _).length ≤ 1024
       rw [imgD_length (n := pn) (fun x y hx hy => by
        unfold cropPx
        rw [pxAt_nat q2 q4 q6 (by omega) (by omega)]
        exact nx_length q7 (lin_lt (by omega) (by omega)))]
       exact small (by omega) (by omega) q6
      ·simp
     ·split
      ·split
       ·rename_i cb
        obtain ⟨cb, cl, _⟩ := cb
        obtain ⟨b1, b2, b3, b4, b5, b6, b7, b8⟩ := (boxOn_iff _ _ _ _ _ _).1 cb
        have cl := Int.ofNat.inj cl
        show (imgD _ _ _).length ≤ 1024
        rw [imgD_length (n := pn) (fun x y hx hy => by
         simp only [Int.toNat_natCast] at hx hy
         unfold fillPx
         split
         ·exact cl
         ·rw [pxAt_nat q2 q4 q6 hx hy]
          exact nx_length q7 (lin_lt hx hy))]
        exact sm
       ·simp
      ·simp
 ·rw [if_neg c]
  simp

/- The reader of draws: whatever the code's bytes are, it answers, in range. -/

/-- What a reader reads from: at most 2000 bytes. -/
def Bytes (b : List Int) : Prop := b.length ≤ 2000 ∧ ∀ x ∈ b, 0 ≤ x ∧ x ≤ 255
theorem Bytes.rd_ {b : List Int} (h : Bytes b) (i : Int) : 0 ≤ rd b i ∧ rd b i ≤ 255 := by
  unfold rd
  by_cases c : i.toNat < b.length
  · rw [List.getD_eq_getElem?_getD, List.getElem?_eq_getElem c]; exact h.2 _ (List.getElem_mem c)
  · rw [List.getD_eq_getElem?_getD, List.getElem?_eq_none (by omega)]; simp
theorem xor_nn (a b : Int) (ha : 0 ≤ a) (ha' : a < 4611686018427387904) (hb : 0 ≤ b) (hb' : b < 4611686018427387904) : 0 ≤ Go.bits .xor .i64 a b := by
  obtain ⟨a, rfl⟩ := Int.eq_ofNat_of_zero_le ha
  obtain ⟨b, rfl⟩ := Int.eq_ofNat_of_zero_le hb
  have ha2 : a < 2 ^ 62 := by have : (2 : Nat) ^ 62 = 4611686018427387904 := by decide +kernel
                              omega
  have hb2 : b < 2 ^ 62 := by have : (2 : Nat) ^ 62 = 4611686018427387904 := by decide +kernel
                              omega
  have e64 : IntKind.bits .i64 = 64 := rfl
  have hx := Nat.xor_lt_two_pow ha2 hb2
  have h62 : (2 : Nat) ^ 62 = 4611686018427387904 := by decide +kernel
  have h64 : (2 : Nat) ^ 64 = 18446744073709551616 := by decide +kernel
  simp only [Go.bits, BitVec.ofInt_natCast, BitVec.toNat_xor, BitVec.toNat_ofNat, e64]
  rw [Nat.mod_eq_of_lt (by omega), Nat.mod_eq_of_lt (by omega), IntKind.wrap_i64]
  generalize a ^^^ b = z at *
  omega
theorem tmod_range (x n : Int) (hx : 0 ≤ x) (hn : 1 ≤ n) : 0 ≤ Int.tmod x n ∧ Int.tmod x n < n := by
  rw [tmod_nn _ _ hx]
  exact ⟨Int.emod_nonneg _ (by omega), Int.emod_lt_of_pos _ (by omega)⟩
theorem pick_at (b : List Int) (p n : Int) (hb : Bytes b) (hp0 : 0 ≤ p) (hp : p ≤ 1000000000000) :
    ∃ v, (∀ k, 0 < k → spec_reader_pick.f k b p n = some (v, p + 1)) ∧ 0 ≤ v ∧ (1 ≤ n → v < n) ∧ (n < 1 → v = 0) := by
  by_cases hn : n < 1
  · refine ⟨0, fun k hk => ?_, by omega, by omega, fun _ => rfl⟩
    obtain ⟨k, rfl⟩ : ∃ m, k = m + 1 := ⟨k - 1, by omega⟩
    unfold spec_reader_pick.f
    rw [if_pos hn, w64 (by omega) (by omega)]
    simp only [spec_reader_pick.j0, if_true]
  by_cases he : b.length = 0
  · refine ⟨0, fun k hk => ?_, by omega, by omega, fun _ => rfl⟩
    obtain ⟨k, rfl⟩ : ∃ m, k = m + 1 := ⟨k - 1, by omega⟩
    unfold spec_reader_pick.f
    rw [if_neg hn, w64 (by omega) (by omega)]
    simp only [spec_reader_pick.j0, he]; simp
  have hlen := hb.1
  by_cases hlt : p < (b.length : Int)
  · have hr := hb.rd_ p
    have ht := tmod_range (rd b p) n hr.1 (by omega)
    refine ⟨Int.tmod (rd b p) n, fun k hk => ?_, ht.1, fun _ => ht.2, by omega⟩
    obtain ⟨k, rfl⟩ : ∃ m, k = m + 1 := ⟨k - 1, by omega⟩
    unfold spec_reader_pick.f
    rw [if_neg hn, w64 (x := p + 1) (by omega) (by omega)]
    simp only [spec_reader_pick.j0]
    rw [if_neg (by simp only [beq_iff_eq]; omega), w64 (x := p + 1 - 1) (by omega) (by omega), show p + 1 - 1 = p by omega, if_pos hlt, if_pos hp0, if_neg (by omega), w64 (x := rd b p) (by omega) (by omega)]
  · have h1 := tmod_range p (b.length : Int) hp0 (by omega)
    have h2 := tmod_range (p * 7 + 3) (b.length : Int) (by omega) (by omega)
    have r1 := hb.rd_ (Int.tmod p (b.length : Int))
    have r2 := hb.rd_ (Int.tmod (p * 7 + 3) (b.length : Int))
    have hd : 0 ≤ Int.tdiv p (b.length : Int) ∧ Int.tdiv p (b.length : Int) ≤ p := by
      rw [tdiv_nn _ _ hp0]
      exact ⟨Int.ediv_nonneg hp0 (by omega), Int.ediv_le_self _ hp0⟩
    generalize h1e : Int.tmod p (b.length : Int) = t1 at *
    generalize h2e : Int.tmod (p * 7 + 3) (b.length : Int) = t2 at *
    generalize hde : Int.tdiv p (b.length : Int) = d at *
    generalize hr1e : rd b t1 = x1 at *
    generalize hr2e : rd b t2 = x2 at *
    have hx := xor_nn (x1 * 131 + x2 * 1117 + p * 29 + d * 53) ((x1 * 131 + x2 * 1117 + p * 29 + d * 53) / 64) (by omega) (by omega) (by omega) (by omega)
    have ht := tmod_range _ n hx (by omega)
    refine ⟨Int.tmod (Go.bits .xor .i64 (x1 * 131 + x2 * 1117 + p * 29 + d * 53) ((x1 * 131 + x2 * 1117 + p * 29 + d * 53) / 64)) n, fun k hk => ?_, ht.1, fun _ => ht.2, by omega⟩
    obtain ⟨k, rfl⟩ : ∃ m, k = m + 1 := ⟨k - 1, by omega⟩
    unfold spec_reader_pick.f
    rw [if_neg hn, w64 (x := p + 1) (by omega) (by omega)]
    simp only [spec_reader_pick.j0]
    rw [if_neg (by simp only [beq_iff_eq]; omega), w64 (x := p + 1 - 1) (by omega) (by omega), show p + 1 - 1 = p by omega, if_neg hlt, if_neg (by omega),
      w64 (x := p * 7) (by omega) (by omega), w64 (x := p * 7 + 3) (by omega) (by omega), h1e, h2e, hde, hr1e, hr2e, if_pos (by omega), if_pos (by omega), if_pos (by omega), if_pos (by omega), if_neg (by omega),
      w64 (x := x1) (by omega) (by omega), w64 (x := x2) (by omega) (by omega), w64 (x := d) (by omega) (by omega), w64 (x := x1 * 131) (by omega) (by omega), w64 (x := x2 * 1117) (by omega) (by omega), w64 (x := p * 29) (by omega) (by omega), w64 (x := d * 53) (by omega) (by omega),
      w64 (x := x1 * 131 + x2 * 1117) (by omega) (by omega), w64 (x := x1 * 131 + x2 * 1117 + p * 29) (by omega) (by omega), w64 (x := x1 * 131 + x2 * 1117 + p * 29 + d * 53) (by omega) (by omega), tdiv_nn _ 64 (by omega),
      w64 (x := (x1 * 131 + x2 * 1117 + p * 29 + d * 53) / 64) (by omega) (by omega)]
theorem one_at (b : List Int) (p : Int) (l : List Int) (hl : 0 < l.length) (hl' : l.length ≤ 1000) (hb : Bytes b) (hp0 : 0 ≤ p) (hp : p ≤ 1000000000000) :
    ∃ v, (∀ k, 0 < k → spec_reader_one.f k b p l = some (v, p + 1)) ∧ v ∈ l := by
  obtain ⟨v, hv, h0, h1, _⟩ := pick_at b p (l.length : Int) hb hp0 hp
  have h1' := h1 (by omega)
  obtain ⟨v, rfl⟩ := Int.eq_ofNat_of_zero_le h0
  refine ⟨l[v]'(by omega), fun k hk => ?_, List.getElem_mem _⟩
  unfold spec_reader_one.f
  rw [hv k hk]
  simp only [Option.bind_some]
  rw [if_pos (by omega), if_pos (by omega), rd_nat l v (by omega)]
theorem newReader_at (l : List Int) (h : ∀ x ∈ l, 0 ≤ x ∧ x ≤ 255) : ∃ b, spec_newReader.f l = some (b, 0) ∧ Bytes b := by
  unfold spec_newReader.f
  by_cases c : (l.length : Int) > 2000
  · rw [if_pos c, if_pos (by omega)]
    exact ⟨_, rfl, by rw [List.length_take]; omega, fun x hx => h x (List.mem_of_mem_take hx)⟩
  · rw [if_neg c]
    exact ⟨_, rfl, by omega, h⟩
/-- What a law is told of its code: bytes. -/
theorem code_bytes (l : List Int) (h : ∀ x ∈ l, (Lit.int .u8 x).wf = true) : ∀ x ∈ l, 0 ≤ x ∧ x ≤ 255 := by
  intro x hx
  have := h x hx
  simp only [Lit.wf, Bool.and_eq_true, decide_eq_true_eq] at this
  have e1 : IntKind.min .u8 = 0 := by decide
  have e2 : IntKind.max .u8 = 255 := by decide
  omega

/- Images that are drawn from bytes. -/

theorem one_in (b : List Int) (p : Int) (l : List Int) (hl : 0 < l.length) (hl' : l.length ≤ 1000) (hb : Bytes b) (hp0 : 0 ≤ p) (hp : p ≤ 1000000000000) : ∃ v, Ev (fun k => spec_reader_one.f k b p l) (v, p + 1) ∧ v ∈ l := by
 obtain ⟨v, h, hv⟩ := one_at b p l hl hl' hb hp0 hp
 exact ⟨v, ev_of 0 h, hv⟩
theorem pick_in (b : List Int) (p n : Int) (hn : 1 ≤ n) (hb : Bytes b) (hp0 : 0 ≤ p) (hp : p ≤ 1000000000000) : ∃ v, Ev (fun k => spec_reader_pick.f k b p n) (v, p + 1) ∧ 0 ≤ v ∧ v < n := by
 obtain ⟨v, h, h0, h1, _⟩ := pick_at b p n hb hp0 hp
 exact ⟨v, ev_of 0 h, h0, h1 hn⟩
theorem newImage_eq (w h p : Int) (hs : 1 ≤ w ∧ w ≤ 16 ∧ 1 ≤ h ∧ h ≤ 16 ∧ 1 ≤ p ∧ p ≤ 4) : spec_newImage.f w h p = some (w, h, p, List.replicate (w * h * p).toNat 0) := by
 have := shape_prod hs
 unfold spec_newImage.f
 rw [shape_wrap hs, if_pos (by omega), if_pos (by omega)]
theorem randomLoop (b : List Int) (hb : Bytes b) (m : Int) (w h p : Int) : ∀ (n i : Nat) (x pos : Int) (d : List Int), i + n = d.length → 0 ≤ pos → pos + n ≤ 1000000000000 → d.length ≤ 1000000 →
  ∃ (d' : List Int) (q : Int), d'.length = d.length ∧ pos ≤ q ∧ q ≤ pos + n ∧ Ev (fun k => spec_randomImage.l0 k m x (i : Int) b pos w h p d) (w, h, p, d', q) := by
 intro n
 induction n with
 | zero =>
  intro i x pos d hi h0 h1 h2
  refine ⟨d, pos, rfl, by omega, by omega, ?_⟩
  refine Ev.step (f := fun _ => some (w, h, p, d, pos)) (fun k => ?_) (Ev.now _)
  simp only [spec_randomImage.l0]
  rw [if_neg (by omega)]
 | succ n ih =>
  intro i x pos d hi h0 h1 h2
  have go : ∀ (v x' pos' : Int), pos ≤ pos' → pos' ≤ pos + 1 → ∃ (d' : List Int) (q : Int), d'.length = d.length ∧ pos ≤ q ∧ q ≤ pos + ((n + 1 : Nat) : Int) ∧ Ev (fun k => spec_randomImage.l0 k m x' ((i + 1 : Nat) : Int) b pos' w h p (d.set i v)) (w, h, p, d', q) := by
   intro v x' pos' a1 a2
   obtain ⟨d', q, e1, e2, e3, e4⟩ := ih (i + 1) x' pos' (d.set i v) (by rw [List.length_set]; omega) (by omega) (by omega) (by rw [List.length_set]; omega)
   exact ⟨d', q, by rw [e1, List.length_set], by omega, by omega, e4⟩
  by_cases c0 : m = 0
  ·obtain ⟨v, hv, _, _⟩ := pick_in b pos 256 (by omega) hb h0 (by omega)
   obtain ⟨d', q, e1, e2, e3, e4⟩ := go v v (pos + 1) (by omega) (by omega)
   refine ⟨d', q, e1, e2, e3, ?_⟩
   refine Ev.step (f := fun k => (spec_reader_pick.f k b pos 256).bind fun bt => if 0 ≤ (i : Int) then spec_randomImage.l0 k m bt.1 (wrap64 ((i : Int) + 1)) b bt.2 w h p (d.set (i : Int).toNat bt.1) else none) (fun k => ?_) ?_
   ·simp only [spec_randomImage.l0]
    rw [if_pos (by omega), if_pos c0]
   ·refine ev_bind hv (ev_pos (by omega) ?_)
    simp only [Int.toNat_natCast, w64n i (by omega)]
    exact e4
  ·by_cases c1 : m = 1
   ·obtain ⟨v, hv, _, _⟩ := pick_in b pos 5 (by omega) hb h0 (by omega)
    obtain ⟨d', q, e1, e2, e3, e4⟩ := go (Int.tmod (wrap64 ((wrap64 (x + v)) + 254)) 256) (Int.tmod (wrap64 ((wrap64 (x + v)) + 254)) 256) (pos + 1) (by omega) (by omega)
    refine ⟨d', q, e1, e2, e3, ?_⟩
    refine Ev.step (f := fun k => (spec_reader_pick.f k b pos 5).bind fun bt => if 0 ≤ (i : Int) then spec_randomImage.l0 k m (Int.tmod (wrap64 ((wrap64 (x + bt.1)) + 254)) 256) (wrap64 ((i : Int) + 1)) b bt.2 w h p (d.set (i : Int).toNat (Int.tmod (wrap64 ((wrap64 (x + bt.1)) + 254)) 256)) else none) (fun k => ?_) ?_
    ·simp only [spec_randomImage.l0]
     rw [if_pos (by omega), if_neg c0, if_pos c1]
    ·refine ev_bind hv (ev_pos (by omega) ?_)
     simp only [Int.toNat_natCast, w64n i (by omega)]
     exact e4
   ·by_cases c2 : m = 2
    ·obtain ⟨v, hv, _, _⟩ := pick_in b pos 4 (by omega) hb h0 (by omega)
     obtain ⟨d', q, e1, e2, e3, e4⟩ := go (wrap64 (60 * v)) (wrap64 (60 * v)) (pos + 1) (by omega) (by omega)
     refine ⟨d', q, e1, e2, e3, ?_⟩
     refine Ev.step (f := fun k => (spec_reader_pick.f k b pos 4).bind fun bt => if 0 ≤ (i : Int) then spec_randomImage.l0 k m (wrap64 (60 * bt.1)) (wrap64 ((i : Int) + 1)) b bt.2 w h p (d.set (i : Int).toNat (wrap64 (60 * bt.1))) else none) (fun k => ?_) ?_
     ·simp only [spec_randomImage.l0]
      rw [if_pos (by omega), if_neg c0, if_neg c1, if_pos c2]
     ·refine ev_bind hv (ev_pos (by omega) ?_)
      simp only [Int.toNat_natCast, w64n i (by omega)]
      exact e4
    ·obtain ⟨d', q, e1, e2, e3, e4⟩ := go x x pos (by omega) (by omega)
     refine ⟨d', q, e1, e2, e3, Ev.step (fun k => ?_) e4⟩
     simp only [spec_randomImage.l0]
     rw [if_pos (by omega), if_neg c0, if_neg c1, if_neg c2, if_pos (by omega), Int.toNat_natCast, w64n i (by omega)]
theorem randomImage_ev (b : List Int) (pos p : Int) (hb : Bytes b) (h0 : 0 ≤ pos) (h1 : pos ≤ 100000000) (hp : 1 ≤ p ∧ p ≤ 4) :
  ∃ (w h : Int) (d : List Int) (q : Int), 1 ≤ w ∧ w ≤ 8 ∧ 1 ≤ h ∧ h ≤ 8 ∧ (d.length : Int) = w * h * p ∧ 1 ≤ d.length ∧ d.length ≤ 1024 ∧ pos ≤ q ∧ q ≤ pos + 2000 ∧ Ev (fun k => spec_randomImage.f k b pos p) (w, h, p, d, q) := by
 obtain ⟨w, hw, mw⟩ := one_in b pos [3, 4, 2, 5, 1, 8, 6] (by simp) (by simp) hb h0 (by omega)
 obtain ⟨h, hh, mh⟩ := one_in b (pos + 1) [3, 2, 4, 1, 5, 8] (by simp) (by simp) hb (by omega) (by omega)
 obtain ⟨m, hm, _, _⟩ := pick_in b (pos + 1 + 1) 4 (by omega) hb (by omega) (by omega)
 obtain ⟨x, hx, _, _⟩ := pick_in b (pos + 1 + 1 + 1) 256 (by omega) hb (by omega) (by omega)
 have bw : 1 ≤ w ∧ w ≤ 8 := by simp only [List.mem_cons, List.not_mem_nil, or_false] at mw; omega
 have bh : 1 ≤ h ∧ h ≤ 8 := by simp only [List.mem_cons, List.not_mem_nil, or_false] at mh; omega
 have hs : 1 ≤ w ∧ w ≤ 16 ∧ 1 ≤ h ∧ h ≤ 16 ∧ 1 ≤ p ∧ p ≤ 4 := by omega
 have hpr := shape_prod hs
 have hpos : 1 ≤ w * h * p := by
  have e1 : 1 * 1 ≤ w * h := Int.mul_le_mul (by omega) (by omega) (by omega) (by omega)
  have e2 : 1 * 1 ≤ w * h * p := Int.mul_le_mul (by omega) (by omega) (by omega) (by omega)
  omega
 have hlen : (List.replicate (w * h * p).toNat (0 : Int)).length = (w * h * p).toNat := List.length_replicate
 obtain ⟨d', q, e1, e2, e3, e4⟩ := randomLoop b hb m w h p (w * h * p).toNat 0 x (pos + 1 + 1 + 1 + 1) (List.replicate (w * h * p).toNat 0) (by omega) (by omega) (by omega) (by omega)
 refine ⟨w, h, d', q, bw.1, bw.2, bh.1, bh.2, by omega, by omega, by omega, by omega, by omega, ?_⟩
 unfold spec_randomImage.f
 exact ev_bind hw (ev_bind hh (ev_now (newImage_eq w h p hs) (ev_bind hm (ev_bind hx e4))))
theorem anyPlanes_ev (b : List Int) (pos : Int) (hb : Bytes b) (h0 : 0 ≤ pos) (h1 : pos ≤ 100000000) : ∃ p, 1 ≤ p ∧ p ≤ 4 ∧ Ev (fun k => spec_anyPlanes.f k b pos) (p, pos + 1) := by
 obtain ⟨p, hp, mp⟩ := one_in b pos [1, 3, 1, 4, 2] (by simp) (by simp) hb h0 (by omega)
 simp only [List.mem_cons, List.not_mem_nil, or_false] at mp
 refine ⟨p, by omega, by omega, ?_⟩
 unfold spec_anyPlanes.f
 exact ev_bind hp (Ev.now _)

/- A box that is drawn from bytes. -/

theorem anyBox_any (b : List Int) (pos : Int) (hB : Bytes b) (h0 : 0 ≤ pos) (h1 : pos ≤ 1000000) : ∃ (X Y W H : Int), Ev (fun k => spec_anyBox.f k b pos) (X, Y, W, H, pos + 1 + 1 + 1 + 1) := by
 obtain ⟨x0, g0, _⟩ := one_at b pos [0, 1, 2, (-1), 0, 4] (by simp) (by simp) hB (by omega) (by omega)
 obtain ⟨x1, g1, _⟩ := one_at b (pos + 1) [0, 1, 0, 2, (-1)] (by simp) (by simp) hB (by omega) (by omega)
 obtain ⟨x2, g2, _⟩ := one_at b (pos + 1 + 1) [1, 2, 3, 1, 0, 16] (by simp) (by simp) hB (by omega) (by omega)
 obtain ⟨x3, g3, _⟩ := one_at b (pos + 1 + 1 + 1) [1, 2, 1, 3, 0] (by simp) (by simp) hB (by omega) (by omega)
 refine ⟨x0, x1, x2, x3, ?_⟩
 unfold spec_anyBox.f
 exact ev_bind (ev_of 0 g0) (ev_bind (ev_of 0 g1) (ev_bind (ev_of 0 g2) (ev_bind (ev_of 0 g3) (Ev.now _))))

/- Steps that are drawn from bytes. -/

theorem copyI_px (l : List Int) (hl : l.length ≤ 1000000) : spec_copyInts.f l = some l := by
 unfold spec_copyInts.f
 simp only [Option.bind_some]
 rw [if_pos (by simp; omega)]
 simp
theorem spoilImage_p (b : List Int) (pos : Int) (w h p : Int) (d : List Int) (hb : Bytes b) (h0 : 0 ≤ pos) (h1 : pos ≤ 100000000) (hd : 1 ≤ d.length) (hp : 0 ≤ p ∧ p ≤ 5) :
  ∃ (w' h' p' : Int) (d' : List Int) (q : Int), d'.length ≤ d.length ∧ 0 ≤ p' ∧ p' ≤ 5 ∧ pos ≤ q ∧ q ≤ pos + 2 ∧ Ev (fun k => spec_spoilImage.f k b pos w h p d) (w', h', p', d', q) := by
 obtain ⟨v, hv, _, _⟩ := pick_in b pos 40 (by omega) hb h0 (by omega)
 unfold spec_spoilImage.f
 by_cases c0 : v = 0
 ·obtain ⟨x, hx, _⟩ := one_in b (pos + 1) [0, 17, wrap64 (w + 1)] (by simp) (by simp) hb (by omega) (by omega)
  exact ⟨x, h, p, d, pos + 1 + 1, by omega, hp.1, hp.2, by omega, by omega, ev_bind hv (ev_pos c0 (ev_bind hx (Ev.now _)))⟩
 ·by_cases c1 : v = 1
  ·exact ⟨w, h, p, d.drop (1 : Int).toNat, pos + 1, by rw [List.length_drop]; omega, hp.1, hp.2, by omega, by omega, ev_bind hv (ev_neg c0 (ev_pos c1 (ev_pos (by omega) (Ev.now _))))⟩
  ·by_cases c2 : v = 2
   ·obtain ⟨x, hx, _⟩ := one_in b (pos + 1) [(-1), 256] (by simp) (by simp) hb (by omega) (by omega)
    exact ⟨w, h, p, d.set (0 : Int).toNat x, pos + 1 + 1, by rw [List.length_set]; omega, hp.1, hp.2, by omega, by omega, ev_bind hv (ev_neg c0 (ev_neg c1 (ev_pos c2 (ev_bind hx (ev_pos (by omega) (Ev.now _))))))⟩
   ·by_cases c3 : v = 3
    ·obtain ⟨x, hx, mx⟩ := one_in b (pos + 1) [0, 5] (by simp) (by simp) hb (by omega) (by omega)
     have bx : 0 ≤ x ∧ x ≤ 5 := by simp only [List.mem_cons, List.not_mem_nil, or_false] at mx; omega
     exact ⟨w, h, x, d, pos + 1 + 1, by omega, bx.1, bx.2, by omega, by omega, ev_bind hv (ev_neg c0 (ev_neg c1 (ev_neg c2 (ev_pos c3 (ev_bind hx (Ev.now _))))))⟩
    ·exact ⟨w, h, p, d, pos + 1, by omega, hp.1, hp.2, by omega, by omega, ev_bind hv (ev_neg c0 (ev_neg c1 (ev_neg c2 (ev_neg c3 (Ev.now _)))))⟩
theorem anyImage_p (b : List Int) (pos : Int) (hb : Bytes b) (h0 : 0 ≤ pos) (h1 : pos ≤ 90000000) :
  ∃ (w h p : Int) (d : List Int) (q : Int), d.length ≤ 1024 ∧ 0 ≤ p ∧ p ≤ 5 ∧ pos ≤ q ∧ q ≤ pos + 3000 ∧ Ev (fun k => spec_anyImage.f k b pos) (w, h, p, d, q) := by
 obtain ⟨p, p1, p2, hp⟩ := anyPlanes_ev b pos hb h0 (by omega)
 obtain ⟨w, h, d, q, _, _, _, _, _, d1, d2, q1, q2, hr⟩ := randomImage_ev b (pos + 1) p hb (by omega) (by omega) ⟨p1, p2⟩
 obtain ⟨w', h', p', d', q', d3, p3, p4, q3, q4, hs⟩ := spoilImage_p b q w h p d hb (by omega) (by omega) d1 (by omega)
 refine ⟨w', h', p', d', q', by omega, p3, p4, by omega, by omega, ?_⟩
 unfold spec_anyImage.f
 exact ev_bind hp (ev_bind hr (ev_bind hs (Ev.now _)))
theorem spoil_ev (b : List Int) (pos z : Int) (l : List Int) (hb : Bytes b) (h0 : 0 ≤ pos) (h1 : pos ≤ 100000000) (hl : l.length ≤ 1000) :
  ∃ (l' : List Int) (q : Int), l'.length ≤ l.length + 1 ∧ pos ≤ q ∧ q ≤ pos + 3 ∧ Ev (fun k => spec_reader_spoil.f k b pos l z) (l', q) := by
 obtain ⟨v, hv, _, _⟩ := pick_in b pos 20 (by omega) hb h0 (by omega)
 unfold spec_reader_spoil.f
 have hc := copyI_px l (by omega)
 by_cases c0 : v = 0
 ·exact ⟨l ++ [z], pos + 1, by simp, by omega, by omega, ev_now hc (ev_bind hv (ev_pos c0 (ev_pos (by omega) (Ev.now _))))⟩
 ·by_cases c1 : v = 1
  ·by_cases c2 : (l.length : Int) > 0
   ·exact ⟨l.drop (1 : Int).toNat, pos + 1, by rw [List.length_drop]; omega, by omega, by omega, ev_now hc (ev_bind hv (ev_neg c0 (ev_pos c1 (ev_pos c2 (ev_pos (by omega) (Ev.now _))))))⟩
   ·exact ⟨l, pos + 1, by omega, by omega, by omega, ev_now hc (ev_bind hv (ev_neg c0 (ev_pos c1 (ev_neg c2 (Ev.now _)))))⟩
  ·by_cases c2 : v = 2
   ·by_cases c3 : (l.length : Int) > 0
    ·obtain ⟨i, hi, i0, i1⟩ := pick_in b (pos + 1) (l.length : Int) (by omega) hb (by omega) (by omega)
     obtain ⟨x, hx, _⟩ := one_in b (pos + 1 + 1) [(-1), z, 0, 1] (by simp) (by simp) hb (by omega) (by omega)
     exact ⟨l.set i.toNat x, pos + 1 + 1 + 1, by rw [List.length_set]; omega, by omega, by omega, ev_now hc (ev_bind hv (ev_neg c0 (ev_neg c1 (ev_pos c2 (ev_pos c3 (ev_bind hi (ev_bind hx (ev_pos i0 (ev_pos i1 (Ev.now _))))))))))⟩
    ·exact ⟨l, pos + 1, by omega, by omega, by omega, ev_now hc (ev_bind hv (ev_neg c0 (ev_neg c1 (ev_pos c2 (ev_neg c3 (Ev.now _))))))⟩
   ·exact ⟨l, pos + 1, by omega, by omega, by omega, ev_now hc (ev_bind hv (ev_neg c0 (ev_neg c1 (ev_neg c2 (Ev.now _)))))⟩
theorem anyPixelLoop (b : List Int) (p : Int) (hb : Bytes b) : ∀ (n i : Nat) (pos : Int) (l : List Int), (i : Int) + n = p → i + n ≤ 5 → l.length = i → 0 ≤ pos → pos + n ≤ 90000010 →
  ∃ (l' : List Int) (q : Int), l'.length ≤ 100 ∧ pos ≤ q ∧ q ≤ pos + n + 3 ∧ Ev (fun k => spec_anyPixel.l0 k p l (i : Int) b pos) (l', q) := by
 intro n
 induction n with
 | zero =>
  intro i pos l hi h5 hl h0 h1
  obtain ⟨l', q, e1, e2, e3, e4⟩ := spoil_ev b pos 256 l hb h0 (by omega) (by omega)
  refine ⟨l', q, by omega, e2, by omega, Ev.step (f := fun k => (spec_reader_spoil.f k b pos l 256).bind fun t => some (t.1, t.2)) (fun k => ?_) (ev_bind e4 (Ev.now _))⟩
  simp only [spec_anyPixel.l0]
  rw [if_neg (by omega)]
 | succ n ih =>
  intro i pos l hi h5 hl h0 h1
  obtain ⟨v, hv, _, _⟩ := pick_in b pos 256 (by omega) hb h0 (by omega)
  obtain ⟨l', q, e1, e2, e3, e4⟩ := ih (i + 1) (pos + 1) (l ++ [v]) (by omega) (by omega) (by simp [hl]) (by omega) (by omega)
  refine ⟨l', q, e1, by omega, by omega, Ev.step (f := fun k => (spec_reader_pick.f k b pos 256).bind fun t => if l.length < 17592186044416 then spec_anyPixel.l0 k p (l ++ [t.1]) ((i + 1 : Nat) : Int) b t.2 else none) (fun k => ?_) (ev_bind hv (ev_pos (by omega) e4))⟩
  simp only [spec_anyPixel.l0]
  rw [if_pos (by omega), w64n i (by omega)]
theorem anyPixel_ev (b : List Int) (pos p : Int) (hb : Bytes b) (h0 : 0 ≤ pos) (h1 : pos ≤ 90000000) (hp : 0 ≤ p ∧ p ≤ 5) :
  ∃ (l' : List Int) (q : Int), l'.length ≤ 100 ∧ pos ≤ q ∧ q ≤ pos + 8 ∧ Ev (fun k => spec_anyPixel.f k b pos p) (l', q) := by
 obtain ⟨n, rfl⟩ := Int.eq_ofNat_of_zero_le hp.1
 obtain ⟨l', q, e1, e2, e3, e4⟩ := anyPixelLoop b n hb n 0 pos [] (by omega) (by omega) rfl h0 (by omega)
 exact ⟨l', q, e1, e2, by omega, e4⟩
theorem anyStep_ev (b : List Int) (pos p : Int) (hb : Bytes b) (h0 : 0 ≤ pos) (h1 : pos ≤ 900000) (hp : 0 ≤ p ∧ p ≤ 5) :
  ∃ (kind X Y W H : Int) (pix : List Int) (q : Int), pix.length ≤ 100 ∧ Ev (fun k => spec_anyStep.f k b pos p) (kind, X, Y, W, H, pix, q) := by
 obtain ⟨kind, hk, _⟩ := one_in b pos [0, 1, 2, 3, 4, 0, 1, 2, 5, (-1)] (by simp) (by simp) hb h0 (by omega)
 have key : ∀ t : Bool, ∃ (X Y W H : Int) (pix : List Int) (q : Int), pix.length ≤ 100 ∧ Ev (fun k => spec_anyStep.j0 k p t b (pos + 1) kind 0 0 0 0) (kind, X, Y, W, H, pix, q) := by
  intro t
  cases t with
  | true =>
   obtain ⟨X, Y, W, H, hB⟩ := anyBox_any b (pos + 1) hb (by omega) (by omega)
   by_cases c : kind = 4
   ·obtain ⟨l, q, e1, _, _, e4⟩ := anyPixel_ev b (pos + 1 + 1 + 1 + 1 + 1) p hb (by omega) (by omega) hp
    refine ⟨X, Y, W, H, l, q, e1, Ev.step (f := fun k => (spec_anyBox.f k b (pos + 1)).bind fun t => if kind = 4 then ((spec_anyPixel.f k b t.2.2.2.2 p).bind fun u => some (kind, t.1, t.2.1, t.2.2.1, t.2.2.2.1, u.1, u.2)) else some (kind, t.1, t.2.1, t.2.2.1, t.2.2.2.1, [], t.2.2.2.2)) (fun k => ?_) (ev_bind hB (ev_pos c (ev_bind e4 (Ev.now _))))⟩
    simp only [spec_anyStep.j0]
    rw [if_pos trivial]
   ·refine ⟨X, Y, W, H, [], pos + 1 + 1 + 1 + 1 + 1, by simp, Ev.step (f := fun k => (spec_anyBox.f k b (pos + 1)).bind fun t => if kind = 4 then ((spec_anyPixel.f k b t.2.2.2.2 p).bind fun u => some (kind, t.1, t.2.1, t.2.2.1, t.2.2.2.1, u.1, u.2)) else some (kind, t.1, t.2.1, t.2.2.1, t.2.2.2.1, [], t.2.2.2.2)) (fun k => ?_) (ev_bind hB (ev_neg c (Ev.now _)))⟩
    simp only [spec_anyStep.j0]
    rw [if_pos trivial]
  | false =>
   by_cases c : kind = 4
   ·obtain ⟨l, q, e1, _, _, e4⟩ := anyPixel_ev b (pos + 1) p hb (by omega) (by omega) hp
    refine ⟨0, 0, 0, 0, l, q, e1, Ev.step (f := fun k => if kind = 4 then ((spec_anyPixel.f k b (pos + 1) p).bind fun u => some (kind, (0 : Int), (0 : Int), (0 : Int), (0 : Int), u.1, u.2)) else some (kind, 0, 0, 0, 0, [], pos + 1)) (fun k => ?_) (ev_pos c (ev_bind e4 (Ev.now _)))⟩
    simp only [spec_anyStep.j0]
    rw [if_neg (by simp)]
   ·refine ⟨0, 0, 0, 0, [], pos + 1, by simp, Ev.step (f := fun k => if kind = 4 then ((spec_anyPixel.f k b (pos + 1) p).bind fun u => some (kind, (0 : Int), (0 : Int), (0 : Int), (0 : Int), u.1, u.2)) else some (kind, 0, 0, 0, 0, [], pos + 1)) (fun k => ?_) (ev_neg c (Ev.now _))⟩
    simp only [spec_anyStep.j0]
    rw [if_neg (by simp)]
 unfold spec_anyStep.f
 by_cases c : kind = 3
 ·obtain ⟨X, Y, W, H, pix, q, e1, e2⟩ := key true
  exact ⟨kind, X, Y, W, H, pix, q, e1, ev_bind hk (ev_pos c e2)⟩
 ·obtain ⟨X, Y, W, H, pix, q, e1, e2⟩ := key (kind == 4)
  exact ⟨kind, X, Y, W, H, pix, q, e1, ev_bind hk (ev_neg c e2)⟩
theorem drawStep (code : List Int) (hw : ∀ x ∈ code, (Lit.int .u8 x).wf = true) : ∃ (w h p : Int) (d : List Int) (kind X Y W H : Int) (pix : List Int), d.length ≤ 1024 ∧ pix.length ≤ 100 ∧ Ev (fun k => spec_DrawDoStep.f k code) (w, h, p, d, kind, X, Y, W, H, pix) := by
 obtain ⟨b, hb, hB⟩ := newReader_at code (code_bytes code hw)
 obtain ⟨w, h, p, d, q, hd, p1, p2, q1, q2, he⟩ := anyImage_p b 0 hB (by omega) (by omega)
 obtain ⟨kind, X, Y, W, H, pix, q', hl, hs⟩ := anyStep_ev b q p hB (by omega) (by omega) ⟨p1, p2⟩
 refine ⟨w, h, p, d, kind, X, Y, W, H, pix, hd, hl, ?_⟩
 unfold spec_DrawDoStep.f
 exact ev_now hb (ev_bind he (ev_bind hs (Ev.now _)))

/- Lists of numbers and images, compared one by one. -/

theorem equalIntsC (l m : List Int) (hl : l.length ≤ 1000000) : Ev (fun k => laws_equalInts.f k l m) (decide (l = m)) := by
 unfold laws_equalInts.f
 by_cases hn : l.length = m.length
 ·have key := ev_up l.length (fun k i (_ : Unit) => laws_equalInts.l0 k l m (i : Int)) (fun _ _ => True) (fun i _ => decide (l.drop i = m.drop i))
   (by
    intro i s hi _
    have e1 := List.drop_eq_getElem_cons hi
    have e2 := List.drop_eq_getElem_cons (show i < m.length by omega)
    by_cases c : l[i] = m[i]'(by omega)
    ·refine .inr ⟨(), fun k => ?_, trivial, ?_⟩
     ·simp only [laws_equalInts.l0]
      rw [if_pos (by omega), if_pos (by omega), if_pos (by omega), rd_nat l i hi, rd_nat m i (by omega), if_pos c, w64n i (by omega)]
     ·rw [e1, e2, decide_eq_decide, List.cons.injEq]
      exact ⟨fun h => ⟨c, h⟩, fun h => h.2⟩
    ·left
     rw [e1, e2, decide_eq_false (by rw [List.cons.injEq]; exact fun h => c h.1)]
     refine Ev.step (f := fun _ => some false) (fun k => ?_) (Ev.now _)
     simp only [laws_equalInts.l0]
     rw [if_pos (by omega), if_pos (by omega), if_pos (by omega), rd_nat l i hi, rd_nat m i (by omega), if_neg c])
   (by
    intro s _
    refine Ev.step (f := fun _ => some true) (fun k => ?_) (ev_const (by rw [List.drop_length, hn, List.drop_length]; rfl))
    simp only [laws_equalInts.l0]
    rw [if_neg (by omega)])
   l.length 0 () (by omega) trivial
  exact ev_pos (by omega) (by simpa using key)
 ·refine ev_neg (by omega) ?_
  rw [decide_eq_false (fun h => hn (by rw [h]))]
  exact Ev.now _
theorem equalImage_ev (a b p : Int) (d : List Int) (a' b' p' : Int) (d' : List Int) (hl : d.length ≤ 1000000) : Ev (fun k => laws_equalImage.f k a b p d a' b' p' d') (decide (a = a' ∧ b = b' ∧ p = p' ∧ d = d')) := by
 unfold laws_equalImage.f
 by_cases c1 : a = a'
 ·refine ev_pos c1 ?_
  by_cases c2 : b = b'
  ·refine ev_pos c2 ?_
   by_cases c3 : p = p'
   ·refine ev_pos c3 ?_
    rw [decide_eq_decide.2 (show (a = a' ∧ b = b' ∧ p = p' ∧ d = d') ↔ d = d' from ⟨fun h => h.2.2.2, fun h => ⟨c1, c2, c3, h⟩⟩)]
    exact ev_bind (equalIntsC d d' hl) (Ev.now _)
   ·refine ev_neg c3 ?_
    rw [decide_eq_false (fun h => c3 h.2.2.1)]
    exact Ev.now _
  ·refine ev_neg c2 ?_
   rw [decide_eq_false (fun h => c2 h.2.1)]
   exact Ev.now _
 ·refine ev_neg c1 ?_
  rw [decide_eq_false (fun h => c1 h.1)]
  exact Ev.now _

/- Filled boxes have one color: the law FnDoStepFill over lists of numbers alone. -/

def AllBy (l : List Int) : Prop := ∀ n ∈ l, 0 ≤ n ∧ n ≤ 255
theorem allBy_nx {d : List Int} (h : AllBy d) (n i : Nat) : AllBy (nx n d i) := fun x hx => h x (List.mem_of_mem_drop (List.mem_of_mem_take hx))
theorem valid_img {an bn pn : Nat} {px : Nat → Nat → List Int} (h1 : 1 ≤ an ∧ an ≤ 16) (h2 : 1 ≤ bn ∧ bn ≤ 16) (h3 : 1 ≤ pn ∧ pn ≤ 4) (hl : ∀ x y, x < an → y < bn → (px x y).length = pn) (hb : ∀ x y, x < an → y < bn → AllBy (px x y)) : validI an bn pn (imgD px an bn) = true := by
 refine (validI_iff _ _ _ _).2 ⟨by omega, by rw [imgD_length hl, Nat.mul_comm bn an]; push_cast; rfl, fun n hn => ?_⟩
 unfold imgD rowD at hn
 obtain ⟨y, hy, hn⟩ := List.mem_flatMap.1 hn
 obtain ⟨x, hx, hn⟩ := List.mem_flatMap.1 hn
 exact hb x y (List.mem_range.1 hx) (List.mem_range.1 hy) n hn
theorem done_valid {a b p : Int} {d : List Int} {kind x y wd hg : Int} {pix : List Int} (h : (doneV a b p d kind x y wd hg pix).2.2.2.2 = true) : validI a b p d = true ∧ validI (doneV a b p d kind x y wd hg pix).1 (doneV a b p d kind x y wd hg pix).2.1 (doneV a b p d kind x y wd hg pix).2.2.1 (doneV a b p d kind x y wd hg pix).2.2.2.1 = true := by
 unfold doneV at h ⊢
 by_cases c : validI a b p d = true
 ·rw [if_pos c] at h ⊢
  refine ⟨c, ?_⟩
  have hb := ((validI_iff _ _ _ _).1 c).2.2
  obtain ⟨an, bn, pn, ea, eb, ep, q1, q2, q3, q4, q5, q6, q7⟩ := nat_of c
  subst ea eb ep
  unfold doStepV at h ⊢
  by_cases k0 : kind = 0
  ·rw [if_pos k0]
   refine valid_img ⟨q1, q2⟩ ⟨q3, q4⟩ ⟨q5, q6⟩ (fun i j hi hj => ?_) (fun i j hi hj => ?_)
   all_goals
    unfold mirPx
    try simp only [Int.toNat_natCast] at hi hj
    rw [pxAt_nat q2 q4 q6 (by omega) hj]
   ·exact nx_length q7 (lin_lt (by omega) hj)
   ·exact allBy_nx hb _ _
  ·rw [if_neg k0] at h ⊢
   by_cases k1 : kind = 1
   ·rw [if_pos k1]
    refine valid_img ⟨q3, q4⟩ ⟨q1, q2⟩ ⟨q5, q6⟩ (fun i j hi hj => ?_) (fun i j hi hj => ?_)
    all_goals
     unfold turnPx
     try simp only [Int.toNat_natCast] at hi hj
     rw [pxAt_nat q2 q4 q6 hj (by omega)]
    ·exact nx_length q7 (lin_lt hj (by omega))
    ·exact allBy_nx hb _ _
   ·rw [if_neg k1] at h ⊢
    by_cases k2 : kind = 2
    ·rw [if_pos k2]
     refine (validI_iff _ _ _ _).2 ⟨((validI_iff _ _ _ _).1 c).1, by show ((invD d).length : Int) = _; unfold invD; rw [List.length_map]; exact ((validI_iff _ _ _ _).1 c).2.1, fun n hn => ?_⟩
     have hn : n ∈ invD d := hn
     unfold invD at hn
     obtain ⟨m, hm, rfl⟩ := List.mem_map.1 hn
     have := hb m hm
     rw [w64 (by omega) (by omega)]
     omega
    ·rw [if_neg k2] at h ⊢
     by_cases k3 : kind = 3
     ·rw [if_pos k3] at h ⊢
      by_cases cb : boxOn an bn x y wd hg = true
      ·rw [if_pos cb]
       obtain ⟨b1, b2, b3, b4, b5, b6, b7, b8⟩ := (boxOn_iff _ _ _ _ _ _).1 cb
       obtain ⟨X, eX⟩ := Int.eq_ofNat_of_zero_le b1
       obtain ⟨Y, eY⟩ := Int.eq_ofNat_of_zero_le b3
       obtain ⟨wn, ew⟩ := Int.eq_ofNat_of_zero_le (show 0 ≤ wd by omega)
       obtain ⟨hn, eh⟩ := Int.eq_ofNat_of_zero_le (show 0 ≤ hg by omega)
       subst eX eY ew eh
       refine valid_img (an := wn) (bn := hn) ⟨by omega, by omega⟩ ⟨by omega, by omega⟩ ⟨q5, q6⟩ (fun i j hi hj => ?_) (fun i j hi hj => ?_)
       all_goals
        unfold cropPx
        try simp only [Int.toNat_natCast] at hi hj ⊢
        rw [pxAt_nat q2 q4 q6 (by omega) (by omega)]
       ·exact nx_length q7 (lin_lt (by omega) (by omega))
       ·exact allBy_nx hb _ _
      ·rw [if_neg cb] at h; cases h
     ·rw [if_neg k3] at h ⊢
      by_cases k4 : kind = 4
      ·rw [if_pos k4] at h ⊢
       by_cases cb : boxOn an bn x y wd hg = true ∧ (pix.length : Int) = pn ∧ pix.all byteI = true
       ·rw [if_pos cb]
        obtain ⟨cb, cl, ca⟩ := cb
        have cl := Int.ofNat.inj cl
        refine valid_img ⟨q1, q2⟩ ⟨q3, q4⟩ ⟨q5, q6⟩ (fun i j hi hj => ?_) (fun i j hi hj => ?_)
        all_goals
         unfold fillPx
         try simp only [Int.toNat_natCast] at hi hj
         split
        ·exact cl
        ·rw [pxAt_nat q2 q4 q6 hi hj]
         exact nx_length q7 (lin_lt hi hj)
        ·exact fun n hn => (byteI_iff n).1 (List.all_eq_true.1 ca n hn)
        ·rw [pxAt_nat q2 q4 q6 hi hj]
         exact allBy_nx hb _ _
       ·rw [if_neg cb] at h; cases h
      ·rw [if_neg k4] at h; cases h
 ·rw [if_neg c] at h; cases h
theorem ifill_ev {wn hn pn : Nat} (h1 : 1 ≤ wn ∧ wn ≤ 16) (h2 : 1 ≤ hn ∧ hn ≤ 16) (h3 : 1 ≤ pn ∧ pn ≤ 4) (pix : List Int) (hp : pix.length = pn) (hb : pix.all byteI = true) :
  ∃ e : List Int, e.length = (hn * wn) * pn ∧ (∀ i, i < hn * wn → nx pn e i = pix) ∧ Ev (fun k => impl_FillImage.f k wn hn pix) ((wn : Int), (hn : Int), (pn : Int), e) := by
 have sm := small h1.2 h2.2 h3.2
 have hw : hn * wn ≤ 16 * 16 := Nat.mul_le_mul h2.2 h1.2
 have hfm := fm_length (fun _ => pix) pn
 obtain ⟨s', i4, i5⟩ := ev_run (hn * wn) (fun k i s => impl_FillImage.l0 k pix ((hn * wn : Nat) : Int) (i : Int) wn hn pn s) (fun s _ => some ((wn : Int), (hn : Int), (pn : Int), s)) (fun i s => s = (List.range i).flatMap (fun _ => pix))
  (by
   intro i s hi hinv
   refine ⟨s ++ pix, by rw [hinv, List.range_succ, List.flatMap_append]; simp, fun res hres => Ev.step (fun k => ?_) hres⟩
   have hl : s.length = i * pn := by rw [hinv]; exact hfm i (fun _ _ => hp)
   have hm : i * pn ≤ (hn * wn) * pn := Nat.mul_le_mul_right pn (by omega)
   simp only [impl_FillImage.l0]
   rw [if_pos (by omega), if_pos (by omega), w64n i (by omega)])
  (by
   intro s _ res hres
   refine Ev.step (fun k => ?_) hres
   simp only [impl_FillImage.l0]
   rw [if_neg (by omega)])
  (hn * wn) 0 [] (by omega) (by simp)
 refine ⟨s', by rw [i4]; exact hfm _ (fun _ _ => hp), fun i hi => by rw [i4]; exact fm_get (fun _ => pix) pn _ (fun _ _ => hp) i hi, ?_⟩
 unfold impl_FillImage.f
 refine ev_now (impl_isSide_eq _) (ev_pos (decide_eq_true (by omega)) (ev_now (impl_isSide_eq _) (ev_pos (decide_eq_true (by omega)) (ev_neg (by omega) (ev_neg (by omega) (ev_now ((areBytesI_eq pix).trans (by rw [hb])) ?_))))))
 refine Ev.step (f := fun k => impl_FillImage.l0 k pix ((hn * wn : Nat) : Int) 0 wn hn pn []) (fun k => ?_) (i5 _ (Ev.now _))
 have e1 : (wn : Int) * (hn : Int) = ((hn * wn : Nat) : Int) := by rw [Nat.mul_comm]; push_cast; rfl
 simp only [impl_FillImage.j0, Bool.not_true]
 rw [if_neg (by simp), hp, e1, w64 (by omega) (by omega)]
theorem FnDoStepFill : laws_FnDoStepFill.Pure := by
 intro code _ _ hw
 apply Ev.rounds
 unfold laws_FnDoStepFill.f
 by_cases c : (code.length : Int) > 1048576
 ·exact ev_pos c (Ev.now true)
 refine ev_neg c ?_
 obtain ⟨w, h, p, d, kind, x, y, wd, hg, pix, hdl, hpl, hd⟩ := drawStep code hw
 have hI := impl_DoStep_eq w h p d kind x y wd hg pix
 have hS := spec_DoStep_ev w h p d kind x y wd hg pix (by omega) (by omega)
 have hVl := doneV_len w h p d kind x y wd hg pix (by omega)
 have hval := @done_valid w h p d kind x y wd hg pix
 by_cases hk : kind = 4 ∧ (doneV w h p d kind x y wd hg pix).2.2.2.2 = true
 ·obtain ⟨rfl, hok⟩ := hk
  have c2 := (hval hok).2
  have c1 := (hval hok).1
  have hc : boxOn w h x y wd hg = true ∧ (pix.length : Int) = p ∧ pix.all byteI = true := by
   unfold doneV at hok
   rw [if_pos c1] at hok
   have hok : (if boxOn w h x y wd hg = true ∧ (pix.length : Int) = p ∧ pix.all byteI = true then (w, h, p, imgD (fillPx w p d x.toNat y.toNat wd.toNat hg.toNat pix) w.toNat h.toNat, true) else ((0 : Int), (0 : Int), (0 : Int), ([] : List Int), false)).2.2.2.2 = true := hok
   by_cases z : boxOn w h x y wd hg = true ∧ (pix.length : Int) = p ∧ pix.all byteI = true
   ·exact z
   ·rw [if_neg z] at hok; cases hok
  have hV : doneV w h p d 4 x y wd hg pix = (w, h, p, imgD (fillPx w p d x.toNat y.toNat wd.toNat hg.toNat pix) w.toNat h.toNat, true) := by
   unfold doneV doStepV
   rw [if_pos c1]
   simp [hc]
  rw [hV] at hI hS hVl c2
  clear hval hok hV
  obtain ⟨cb, cl, ca⟩ := hc
  have hb1 := ((validI_iff _ _ _ _).1 c1).2.2
  obtain ⟨an, bn, pn, rfl, rfl, rfl, q1, q2, q3, q4, q5, q6, q7⟩ := nat_of c1
  obtain ⟨b1, b2, b3, b4, b5, b6, b7, b8⟩ := (boxOn_iff _ _ _ _ _ _).1 cb
  obtain ⟨X, rfl⟩ := Int.eq_ofNat_of_zero_le b1
  obtain ⟨Y, rfl⟩ := Int.eq_ofNat_of_zero_le b3
  obtain ⟨wn, rfl⟩ := Int.eq_ofNat_of_zero_le (show 0 ≤ wd by omega)
  obtain ⟨hn, rfl⟩ := Int.eq_ofNat_of_zero_le (show 0 ≤ hg by omega)
  have cl := Int.ofNat.inj cl
  simp only [Int.toNat_natCast] at hI hS hVl c2
  have hDl := fun i j (hi : i < an) (hj : j < bn) => show (fillPx an pn d X Y wn hn pix i j).length = pn from by
   unfold fillPx
   split
   ·exact cl
   ·rw [pxAt_nat q2 q4 q6 hi hj]; exact nx_length q7 (lin_lt hi hj)
  have hDn := fun i j (hi : i < an) (hj : j < bn) => nx_imgD (px := fillPx an pn d X Y wn hn pix) hDl hi hj
  have hDL := imgD_length (px := fillPx an pn d X Y wn hn pix) hDl
  generalize imgD (fillPx an pn d X Y wn hn pix) an bn = D at *
  have hVl : D.length ≤ 1024 := hVl
  have hcr : ∀ (E : List Int), E.length = (bn * an) * pn → ∀ i j, i < wn → j < hn → cropPx an pn E X Y i j = nx pn E ((Y + j) * an + (X + i)) := fun E _ i j hi hj => by
   unfold cropPx
   rw [pxAt_nat q2 q4 q6 (by omega) (by omega)]
  have hcl : ∀ (E : List Int), E.length = (bn * an) * pn → ∀ i j, i < wn → j < hn → (cropPx an pn E X Y i j).length = pn := fun E hE i j hi hj => by
   rw [hcr E hE i j hi hj]
   exact nx_length hE (lin_lt (by omega) (by omega))
  have hov : validI wn hn pn (imgD (cropPx an pn d X Y) wn hn) = true := valid_img ⟨by omega, by omega⟩ ⟨by omega, by omega⟩ ⟨q5, q6⟩ (hcl d q7) (fun i j hi hj => by
   rw [hcr d q7 i j hi hj]
   exact allBy_nx hb1 _ _)
  have hP : impl_CropImage.f an bn pn D X Y wn hn = some ((wn : Int), (hn : Int), (pn : Int), imgD (cropPx an pn D X Y) wn hn, true) := by
   unfold impl_CropImage.f
   rw [if_pos ⟨c2, cb⟩]
   rfl
  have hO : impl_CropImage.f an bn pn d X Y wn hn = some ((wn : Int), (hn : Int), (pn : Int), imgD (cropPx an pn d X Y) wn hn, true) := by
   unfold impl_CropImage.f
   rw [if_pos ⟨c1, cb⟩]
   rfl
  have hB : impl_PasteImage.f an bn pn D X Y wn hn pn (imgD (cropPx an pn d X Y) wn hn) = some ((an : Int), (bn : Int), (pn : Int), imgD (laidPx an pn D wn hn (imgD (cropPx an pn d X Y) wn hn) X Y) an bn, true) := by
   unfold impl_PasteImage.f
   rw [if_pos ⟨c2, hov, rfl, ⟨by omega, by omega⟩, by omega, by omega⟩]
   rfl
  obtain ⟨e, f1, f2, f3⟩ := ifill_ev (wn := wn) (hn := hn) ⟨by omega, by omega⟩ ⟨by omega, by omega⟩ ⟨q5, q6⟩ pix cl ca
  have g1 : imgD (cropPx an pn D X Y) wn hn = e := ext_img (imgD_length (hcl D hDL)) f1 (fun i j hi hj => by
   rw [nx_imgD (hcl D hDL) hi hj, hcr D hDL i j hi hj, f2 _ (lin_lt hi hj), hDn _ _ (by omega) (by omega)]
   unfold fillPx inBox
   rw [if_pos (decide_eq_true (by omega))])
  have hll : ∀ i j, i < an → j < bn → laidPx an pn D wn hn (imgD (cropPx an pn d X Y) wn hn) X Y i j = nx pn d (j * an + i) := fun i j hi hj => by
   unfold laidPx inPart
   by_cases z : X ≤ i ∧ i < X + wn ∧ Y ≤ j ∧ j < Y + hn
   ·rw [if_pos (decide_eq_true (by omega)), pxAt_nat (by omega) (by omega) q6 (by omega) (by omega), nx_imgD (hcl d q7) (by omega) (by omega), hcr d q7 _ _ (by omega) (by omega), show Y + ((j : Int) - (Y : Int)).toNat = j by omega, show X + ((i : Int) - (X : Int)).toNat = i by omega]
   ·rw [if_neg (by rw [decide_eq_false (by omega)]; decide), pxAt_nat q2 q4 q6 hi hj, hDn i j hi hj]
    unfold fillPx inBox
    rw [if_neg (by rw [decide_eq_false z]; decide), pxAt_nat q2 q4 q6 hi hj]
  have g2 : imgD (laidPx an pn D wn hn (imgD (cropPx an pn d X Y) wn hn) X Y) an bn = d := by
   rw [imgD_congr hll]
   exact imgD_nx q7
  rw [g1] at hP
  rw [g2] at hB
  have sm := small q2 q4 q6
  have sm2 := small (show wn ≤ 16 by omega) (show hn ≤ 16 by omega) q6
  have heq := ev_val (equalImage_ev an bn pn D an bn pn D (by omega)) (decide_eq_true ⟨rfl, rfl, rfl, rfl⟩)
  have heq2 := ev_val (equalImage_ev wn hn pn e wn hn pn e (by omega)) (decide_eq_true ⟨rfl, rfl, rfl, rfl⟩)
  have heq3 := ev_val (equalImage_ev an bn pn d an bn pn d (by omega)) (decide_eq_true ⟨rfl, rfl, rfl, rfl⟩)
  generalize imgD (cropPx an pn d X Y) wn hn = O at *
  refine ev_bind hd (ev_now hI (ev_bind hS (ev_bind heq (ev_pos rfl (ev_neg (by simp) (ev_pos rfl ?_))))))
  refine Ev.step (f := fun k => (impl_CropImage.f an bn pn D X Y wn hn).bind fun t => (impl_CropImage.f an bn pn d X Y wn hn).bind fun u => (impl_PasteImage.f an bn pn D X Y u.1 u.2.1 u.2.2.1 u.2.2.2.1).bind fun v => if t.2.2.2.2 = true then (if u.2.2.2.2 = true then (if v.2.2.2.2 = true then ((impl_FillImage.f k wn hn pix).bind fun z => (laws_equalImage.f k t.1 t.2.1 t.2.2.1 t.2.2.2.1 z.1 z.2.1 z.2.2.1 z.2.2.2).bind fun z => if z = true then ((laws_equalImage.f k v.1 v.2.1 v.2.2.1 v.2.2.2.1 an bn pn d).bind fun z => some z) else some false) else some false) else some false) else some false) (fun k => ?_) (ev_now hP (ev_now hO (ev_now hB (ev_pos rfl (ev_pos rfl (ev_pos rfl (ev_bind f3 (ev_bind heq2 (ev_pos rfl (ev_bind heq3 (Ev.now _)))))))))))
  simp only [laws_FnDoStepFill.j0]
  rw [if_neg (by simp)]
 ·generalize doneV w h p d kind x y wd hg pix = V at hI hS hVl hk
  obtain ⟨v0, v1, v2, v3, vok⟩ := V
  have hVl : v3.length ≤ 1024 := hVl
  have heq := ev_val (equalImage_ev v0 v1 v2 v3 v0 v1 v2 v3 (by omega)) (decide_eq_true ⟨rfl, rfl, rfl, rfl⟩)
  have stop : ∀ q : Bool, q = true → Ev (fun k => laws_FnDoStepFill.j0 k vok vok q w h p d kind x y wd hg pix v0 v1 v2 v3 v0 v1 v2 v3) true := by
   intro q hq
   subst hq
   refine Ev.step (f := fun k => (laws_equalImage.f k v0 v1 v2 v3 v0 v1 v2 v3).bind fun t => if t = true then some (vok == vok) else some false) (fun k => ?_) (ev_bind heq (ev_pos rfl (ev_const (by simp))))
   simp only [laws_FnDoStepFill.j0]
   rw [if_pos trivial]
  refine ev_bind hd (ev_now hI (ev_bind hS (ev_bind heq (ev_pos rfl (ev_neg (by simp) ?_)))))
  by_cases hv : vok = true
  ·exact ev_pos hv (stop _ (by have : kind ≠ 4 := fun z => hk ⟨z, hv⟩; simpa using this))
  ·exact ev_neg hv (stop _ rfl)
end Go.Proofs.Ytgccpcnakkioiaa.Pure

/- The head of the translation reads as a plain cut. -/
namespace Go.Proofs.Ytgccpcnakkioiaa.Head
set_option maxRecDepth 100000
theorem wordsSigns_word (w r : List Char) (h : w.all (fun c => !(c == Char.ofNat 32)) = true) : wordsSigns (w ++ Char.ofNat 32 :: r) = w :: wordsSigns r := by
  induction w with
  | nil => rfl
  | cons c w ih =>
    simp only [List.all_cons, Bool.and_eq_true, Bool.not_eq_true', beq_eq_false_iff_ne, ne_eq] at h
    have h1 := ih (by simpa using h.2)
    rw [List.cons_append, wordsSigns.eq_3 c _ h.1, h1]
def w1 : List Char := [104, 97, 114, 110, 101, 115, 115].map Char.ofNat
def w2 : List Char := [52, 49, 100, 48, 51, 48, 57, 101, 54, 52, 50, 98, 53, 55, 98, 54, 49, 99, 54, 49, 56, 48, 55, 53, 48, 48, 51, 50, 51, 98, 100, 52, 101, 99, 48, 51, 97, 52, 49, 54, 56, 100, 48, 98, 55, 54, 100, 54, 97, 97, 98, 98, 100, 98, 51, 102, 53, 102, 100, 102, 101, 51, 100, 56].map Char.ofNat
def w3 : List Char := [99, 117, 116].map Char.ofNat
def w4 : List Char := [97, 116, 32, 108, 111, 111, 112, 46, 101, 120, 97, 109, 112, 108, 101, 47, 112, 105, 120, 101, 108, 119, 111, 114, 107, 115, 47, 108, 97, 119, 115, 46, 70, 110, 69, 120, 97, 99, 116, 82, 117, 110, 83, 116, 101, 112, 115, 32, 108, 111, 111, 112, 46, 101, 120, 97, 109, 112, 108, 101, 47, 112, 105, 120, 101, 108, 119, 111, 114, 107, 115, 47, 108, 97, 119, 115, 46, 70, 110, 68, 111, 83, 116, 101, 112, 32, 108, 111, 111, 112, 46, 101, 120, 97, 109, 112, 108, 101, 47, 112, 105, 120, 101, 108, 119, 111, 114, 107, 115, 47, 108, 97, 119, 115, 46, 70, 110, 68, 111, 83, 116, 101, 112, 70, 105, 108, 108, 32, 108, 111, 111, 112, 46, 101, 120, 97, 109, 112, 108, 101, 47, 112, 105, 120, 101, 108, 119, 111, 114, 107, 115, 47, 108, 97, 119, 115, 46, 70, 110, 69, 120, 97, 99, 116, 68, 111, 83, 116, 101, 112, 32, 108, 111, 111, 112, 46, 101, 120, 97, 109, 112, 108, 101, 47, 112, 105, 120, 101, 108, 119, 111, 114, 107, 115, 47, 108, 97, 119, 115, 46, 70, 110, 82, 117, 110, 83, 116, 101, 112, 115, 80, 97, 114, 116, 115, 32, 108, 111, 111, 112, 46, 101, 120, 97, 109, 112, 108, 101, 47, 112, 105, 120, 101, 108, 119, 111, 114, 107, 115, 47, 108, 97, 119, 115, 46, 70, 110, 82, 117, 110, 83, 116, 101, 112, 115, 32, 108, 111, 111, 112, 46, 101, 120, 97, 109, 112, 108, 101, 47, 112, 105, 120, 101, 108, 119, 111, 114, 107, 115, 47, 108, 97, 119, 115, 46, 70, 110, 83, 105, 109, 112, 108, 105, 102, 121, 83, 116, 101, 112, 115].map Char.ofNat
theorem signs0 : Try.prog.initOrder = String.ofList (w1 ++ Char.ofNat 32 :: (w2 ++ Char.ofNat 32 :: (w3 ++ Char.ofNat 32 :: w4))) := by kernel_rfl
theorem behind : behindMainWord (wordsSigns Try.prog.initOrder.toList) = w3 :: wordsSigns w4 := by
  rw [signs0, String.toList_ofList, wordsSigns_word w1 _ (by kernel_rfl), wordsSigns_word w2 _ (by kernel_rfl), wordsSigns_word w3 _ (by kernel_rfl)]
  unfold behindMainWord
  dsimp only
  rw [if_pos (by kernel_rfl)]
theorem strip_cut (R : List (List Char)) : stripLifts liftWords (w3 :: R) = ([], w3 :: R) := by kernel_rfl
theorem mayEnter_of (P : Program) (R : List (List Char)) (h : behindMainWord (wordsSigns P.initOrder.toList) = w3 :: R) (h1 : P.laysLater = false) (h2 : P.bearsReflect = false) (h3 : P.doorFits [] = true) : P.mayEnter = true := by
  unfold Program.mayEnter
  rw [h]
  dsimp only
  rw [strip_cut, h1, h2, h3]
  kernel_rfl
theorem liftsFinal_of (P : Program) (R : List (List Char)) (h : behindMainWord (wordsSigns P.initOrder.toList) = w3 :: R) : P.liftsFinal = false := by
  unfold Program.liftsFinal Program.headLifts
  rw [h]
  dsimp only
  rw [strip_cut]
  kernel_rfl
theorem make_of (P : Program) (R : List (List Char)) (h : behindMainWord (wordsSigns P.initOrder.toList) = w3 :: R) : P.make = some .cut := by
  unfold Program.make
  rw [h]
  kernel_rfl
theorem mayEnter : Try.prog.mayEnter = true := mayEnter_of _ _ behind (by kernel_rfl) (by kernel_rfl) (by kernel_rfl)
theorem liftsFinal : Try.prog.liftsFinal = false := liftsFinal_of _ _ behind
theorem make : Try.prog.make = some .cut := make_of _ _ behind
end Go.Proofs.Ytgccpcnakkioiaa.Head

-- PRINTED by print.py: the row of the law laws_FnDoStepFill, out of its Pure (the session's) and the printed walk. Not trusted: Lean checks it.
namespace Go.Proofs.Ytgccpcnakkioiaa.fnDoStepFill
open Go.ChangeShapes Go.WideShapes Go.ChangeAt Go.RowKit
open Go.ChangeMaps (open_string shut_string)
set_option linter.unusedVariables false
theorem own : ownKnob Try.prog.godebug = none := by kernel_rfl
theorem laidOut : laidOutB Try.prog = true := by kernel_rfl
def IsRow (k : IntKind) (w : World) (a : Option Addr) (len cap : Nat) (zs : List Int) : Prop :=
  (a = none ∧ len = 0 ∧ cap = 0 ∧ zs = []) ∨
  ∃ x, a = some x ∧ len ≤ cap ∧ cap ≤ maxLen ∧ zs.length = cap ∧ (∀ i, i < zs.length → w.cell? (x.add i) = some (.int k (zs.getD i 0))) ∧ ∀ n ∈ zs, (Lit.int k n).wf = true
set_option maxRecDepth 100000 in
theorem lifted (os : Os) (started : os.Started) (H : Type) (enc : TypeId × Value → H) :
    ReturnsInHanded {} Try.checked os 5 .any (Rows.fnDoStepFillSpec.pre6 enc Try.prog Try.f5 Rows.fnDoStepFillRow.domain false) (Rows.fnDoStepFillSpec.post enc Try.prog Try.f5 false true false false) := by
  refine returnsInHanded_of_change_sized (C := Try.checked) own started (by kernel_rfl) Try.func5
    (ChangeSpec.witness6 (enc := enc) (C := Try.checked) false ⟨#[], #[.slice none 0 0], []⟩ 8 (by kernel_rfl) (by kernel_rfl) (by kernel_rfl) (by kernel_rfl)) ?_
  intro W base args ds gs before hval0 hW hcnd hsz0 _
  have hsz : (DataW.weightsEach Try.prog (Try.f5.params.toList ++ Rows.fnDoStepFillSpec.plain.varTypes Try.prog) (ds ++ gs)).all (· ≤ reachBytes) = true := hsz0
  have hval : ∀ (j : Nat) t v, Try.f5.params[j]? = some t → args[j]? = some v → Value.okWide Try.prog W .any base t v := hval0
  have hW' := hW
  obtain ⟨p, q, hA0, hV, rfl, hfz, hnd⟩ := hW
  have hA : DataW.TrodAll enc Try.prog W 0 (fun _ => true) true Try.f5.params.toList args.toList ds p := hA0
  rw [Try.params5] at hA hval hsz
  obtain ⟨v0, vs0, d0, ds0, p0, q0, hargs, rfl, rfl, h0, r0⟩ := trodAll_cons hA
  obtain ⟨rfl, rfl, rfl⟩ := trodAll_nil r0
  obtain rfl : args = #[v0] := by cases args; simp_all
  obtain ⟨rfl, rfl⟩ := trodVars_none hV
  obtain ⟨a0, len0, cap0, rfl⟩ := okWide_slice Try.underlying39 (hval 0 39 v0 rfl rfl)
  have k0 := h0
  have lt0 : ∀ x ∈ p0, x.block < W.heap.size := by obtain ⟨m, hm⟩ := k0; exact DataW.trod_lt m _ _ _ hm
  obtain ⟨z0, w0⟩ : ∃ zs, IsRow .u8 W a0 len0 cap0 zs := by
    obtain ⟨fuel, hf⟩ := h0
    rcases open_ints Try.underlying39 Try.underlying5 (by kernel_rfl) hf with ⟨hcs, _⟩ | ⟨x, l, c, zs, hcs, _, hl, hm, hz, _, hcell, hwz⟩
    · simp [Value.cells] at hcs
      obtain ⟨rfl, rfl, rfl⟩ := hcs
      exact ⟨[], .inl ⟨rfl, rfl, rfl, rfl⟩⟩
    · simp [Value.cells] at hcs
      obtain ⟨rfl, rfl, rfl⟩ := hcs
      exact ⟨zs, .inr ⟨_, rfl, hl, hm, by simpa using hz, hcell, hwz⟩⟩
  have y0 : len0 * 1 ≤ 140737488351232 := Go.Proofs.YtgccpcnakkioiaaW.PrintWords.sized_ints hsz (j := 0) (t := 39) rfl rfl Try.underlying39 Try.underlying5 (by kernel_rfl) (by kernel_rfl) h0
  clear hA0 hval0 hsz0 hsz
  refine (Q.laws_FnDoStepFill.walk Pure.FnDoStepFill a0 len0 cap0 z0 W w0 y0).mono fun e W' ⟨he, bel⟩ => ?_
  subst he
  exact ⟨_, rfl, _, _, _, [], _, [], hW', trodAll_mk1 (shut_bool Try.underlying4 _), (trodAll_cons_mk (Below.trod laidOut (by kernel_rfl) (of_decide_eq_true (by kernel_rfl)) k0 bel lt0) trodAll_mk0), rfl, bel.frame _, fun h => by cases h⟩
set_option maxHeartbeats 4000000 in
theorem closed : joinedFacts Try.prog 5 Try.f5 Rows.fnDoStepFillSpec Rows.fnDoStepFillRow = true := by
  unfold joinedFacts
  rw [Head.mayEnter, Head.liftsFinal, Head.make]
  simp only [Bool.and_eq_true]
  repeat' apply And.intro
  all_goals first | exact True.intro | (as_aux_lemma => kernel_rfl)
theorem over : Rows.fnDoStepFillRow.holds Try.pinned (OpenSpec.ofChange Rows.fnDoStepFillSpec) :=
  OpenClaim.holds_of_wide 5 Try.f5 rfl rfl rfl rfl rfl rfl rfl ⟨rfl, rfl, rfl, rfl, rfl⟩ rfl rfl rfl rfl rfl (by kernel_rfl) Try.func5 closed
    (of_decide_eq_true (by kernel_rfl)) (by unfold Func.isWrapper; first | (rw [if_pos (by decide +kernel)]; kernel_rfl) | (rw [if_neg (by decide +kernel)]; exact ⟨rfl, rfl⟩))
    (fun os started H enc _ => lifted os started H enc)
theorem proved : Rows.FnDoStepFillSaid := over
#print axioms proved
end Go.Proofs.Ytgccpcnakkioiaa.fnDoStepFill
namespace Go.Proofs.Ytgccpcnakkioiaa
/-- The row, under a short name, for the claim. -/
theorem fnDoStepFill_holds : Rows.FnDoStepFillSaid := fnDoStepFill.proved
end Go.Proofs.Ytgccpcnakkioiaa
