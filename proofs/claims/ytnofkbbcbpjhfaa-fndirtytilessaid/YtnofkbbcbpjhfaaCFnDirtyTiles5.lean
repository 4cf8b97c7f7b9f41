/- A part of the proof that the statement FnDirtyTilesSaid holds, under no condition of its own: Clean tiles are unchanged: the law FnDirtyTiles over lists of numbers alone. -/
import Derived.Test.YtnofkbbcbpjhfaaCFnDirtyTiles1
import Derived.Test.YtnofkbbcbpjhfaaCFnDirtyTiles2
import Derived.Test.YtnofkbbcbpjhfaaCFnDirtyTiles3
import Derived.Test.YtnofkbbcbpjhfaaCFnDirtyTiles4
namespace Go.Proofs.Ytnofkbbcbpjhfaa.Q
open Go.RowKit Go.Proofs.YtnofkbbcbpjhfaaW.PrintWords Go.Proofs.YtnofkbbcbpjhfaaW.PrintLast Go.Proofs.YtnofkbbcbpjhfaaW.PrintMore
open Go.Proofs.YtnofkbbcbpjhfaaW.PrintWords.Aside0 (mk)
attribute [local go_sem] max2_int min2_int max_two min_two max_three min_three max_four min_four
set_option linter.unusedVariables false
set_option linter.unusedSimpArgs false
mutual
def laws_FnDirtyTiles.j0 : Nat → List Int → Bool → Int → Int → Int → List Int → Int → Int → Int → List Int → Int → Int → Int → Int → Bool → Int → Int → Int → List Int → Option (Bool)
 | 0, _, _, _, _, _, _, _, _, _, _, _, _, _, _, _, _, _, _, _ => none
 | k + 1, x5, x40, xz0, xz1, xz2, xz3, xz8, xz9, xz10, xz11, xz12, xz13, xz14, xz15, xz16, xz4, xz5, xz6, xz7 => if x40 = true then ((spec_DirtyTiles.f k xz0 xz1 xz2 xz3 xz8 xz9 xz10 xz11 xz12 xz13 xz14 xz15 xz16).bind fun t9035 => ((laws_equalInts.f k x5 t9035).bind fun t9038 => (some t9038))) else ((impl_TileBoxes.f k xz0 xz1 xz2 xz3).bind fun t9039 => (laws_FnDirtyTiles.l0 k x5 t9039 0 xz0 xz1 xz2 xz3 xz4 xz5 xz6 xz7))
def laws_FnDirtyTiles.l0 : Nat → List Int → List S47 → Int → Int → Int → Int → List Int → Int → Int → Int → List Int → Option (Bool)
 | 0, _, _, _, _, _, _, _, _, _, _, _ => none
 | k + 1, x5, x8, x9, xz0, xz1, xz2, xz3, xz4, xz5, xz6, xz7 => if x9 < (x8.length : Int) then (if 0 ≤ x9 then ((impl_CropImage.f xz0 xz1 xz2 xz3 ((rd_T47 x8 x9).f0) ((rd_T47 x8 x9).f1) ((rd_T47 x8 x9).f2) ((rd_T47 x8 x9).f3)).bind fun bt9043 => ((impl_CropImage.f xz4 xz5 xz6 xz7 ((rd_T47 x8 x9).f0) ((rd_T47 x8 x9).f1) ((rd_T47 x8 x9).f2) ((rd_T47 x8 x9).f3)).bind fun bt9052 => (if bt9043.2.2.2.2 = true then (if bt9052.2.2.2.2 = true then ((laws_isIn.f k x5 x9).bind fun t9060 => (if t9060 = true then (laws_FnDirtyTiles.l0 k x5 x8 (wrap64 (x9 + 1)) xz0 xz1 xz2 xz3 xz4 xz5 xz6 xz7) else ((laws_equalImage.f k bt9043.1 bt9043.2.1 bt9043.2.2.1 bt9043.2.2.2.1 bt9052.1 bt9052.2.1 bt9052.2.2.1 bt9052.2.2.2.1).bind fun t9061 => (if t9061 = true then (laws_FnDirtyTiles.l0 k x5 x8 (wrap64 (x9 + 1)) xz0 xz1 xz2 xz3 xz4 xz5 xz6 xz7) else (some false))))) else (some false)) else (some false)))) else none) else (some true)
end
def laws_FnDirtyTiles.f (k : Nat) (l0 : List Int) : Option Bool := if (l0.length : Int) > 1048576 then (some true) else ((spec_DrawDirtyTiles.f k l0).bind fun bt9001 => ((impl_DirtyTiles.f k bt9001.1 bt9001.2.1 bt9001.2.2.1 bt9001.2.2.2.1 bt9001.2.2.2.2.1 bt9001.2.2.2.2.2.1 bt9001.2.2.2.2.2.2.1 bt9001.2.2.2.2.2.2.2.1 bt9001.2.2.2.2.2.2.2.2.1 bt9001.2.2.2.2.2.2.2.2.2.1 bt9001.2.2.2.2.2.2.2.2.2.2.1 bt9001.2.2.2.2.2.2.2.2.2.2.2.1 bt9001.2.2.2.2.2.2.2.2.2.2.2.2).bind fun t9020 => ((impl_CoverImage.f bt9001.1 bt9001.2.1 bt9001.2.2.1 bt9001.2.2.2.1 bt9001.2.2.2.2.1 bt9001.2.2.2.2.2.1 bt9001.2.2.2.2.2.2.1 bt9001.2.2.2.2.2.2.2.1 bt9001.2.2.2.2.2.2.2.2.1 bt9001.2.2.2.2.2.2.2.2.2.1 bt9001.2.2.2.2.2.2.2.2.2.2.1 bt9001.2.2.2.2.2.2.2.2.2.2.2.1 bt9001.2.2.2.2.2.2.2.2.2.2.2.2).bind fun bt9023 => ((spec_DirtyTiles.f k bt9001.1 bt9001.2.1 bt9001.2.2.1 bt9001.2.2.2.1 bt9001.2.2.2.2.1 bt9001.2.2.2.2.2.1 bt9001.2.2.2.2.2.2.1 bt9001.2.2.2.2.2.2.2.1 bt9001.2.2.2.2.2.2.2.2.1 bt9001.2.2.2.2.2.2.2.2.2.1 bt9001.2.2.2.2.2.2.2.2.2.2.1 bt9001.2.2.2.2.2.2.2.2.2.2.2.1 bt9001.2.2.2.2.2.2.2.2.2.2.2.2).bind fun t9031 => ((laws_equalInts.f k t9020 t9031).bind fun t9034 => (if t9034 = true then (laws_FnDirtyTiles.j0 k t9020 (!bt9023.2.2.2.2) bt9001.1 bt9001.2.1 bt9001.2.2.1 bt9001.2.2.2.1 bt9001.2.2.2.2.1 bt9001.2.2.2.2.2.1 bt9001.2.2.2.2.2.2.1 bt9001.2.2.2.2.2.2.2.1 bt9001.2.2.2.2.2.2.2.2.1 bt9001.2.2.2.2.2.2.2.2.2.1 bt9001.2.2.2.2.2.2.2.2.2.2.1 bt9001.2.2.2.2.2.2.2.2.2.2.2.1 bt9001.2.2.2.2.2.2.2.2.2.2.2.2 bt9023.1 bt9023.2.1 bt9023.2.2.1 bt9023.2.2.2.1) else (laws_FnDirtyTiles.j0 k t9020 true bt9001.1 bt9001.2.1 bt9001.2.2.1 bt9001.2.2.2.1 bt9001.2.2.2.2.1 bt9001.2.2.2.2.2.1 bt9001.2.2.2.2.2.2.1 bt9001.2.2.2.2.2.2.2.1 bt9001.2.2.2.2.2.2.2.2.1 bt9001.2.2.2.2.2.2.2.2.2.1 bt9001.2.2.2.2.2.2.2.2.2.2.1 bt9001.2.2.2.2.2.2.2.2.2.2.2.1 bt9001.2.2.2.2.2.2.2.2.2.2.2.2 bt9023.1 bt9023.2.1 bt9023.2.2.1 bt9023.2.2.2.1)))))))
theorem laws_FnDirtyTiles.mono_l : ∀ k, (∀ y0 y1 y2 y3 y4 y5 y6 y7 y8 y9 y10 y11 y12 y13 y14 y15 y16 y17 y18, LeO (laws_FnDirtyTiles.j0 k y0 y1 y2 y3 y4 y5 y6 y7 y8 y9 y10 y11 y12 y13 y14 y15 y16 y17 y18) (laws_FnDirtyTiles.j0 (k + 1) y0 y1 y2 y3 y4 y5 y6 y7 y8 y9 y10 y11 y12 y13 y14 y15 y16 y17 y18)) ∧ (∀ y0 y1 y2 y3 y4 y5 y6 y7 y8 y9 y10, LeO (laws_FnDirtyTiles.l0 k y0 y1 y2 y3 y4 y5 y6 y7 y8 y9 y10) (laws_FnDirtyTiles.l0 (k + 1) y0 y1 y2 y3 y4 y5 y6 y7 y8 y9 y10))
 | 0 => ⟨fun _ _ _ _ _ _ _ _ _ _ _ _ _ _ _ _ _ _ _ r h => by simp [laws_FnDirtyTiles.j0] at h, fun _ _ _ _ _ _ _ _ _ _ _ r h => by simp [laws_FnDirtyTiles.l0] at h⟩
 | k + 1 => by
  obtain ⟨ih0, ih1⟩ := laws_FnDirtyTiles.mono_l k
  refine ⟨?_, ?_⟩
  ·intro y0 y1 y2 y3 y4 y5 y6 y7 y8 y9 y10 y11 y12 y13 y14 y15 y16 y17 y18
   unfold laws_FnDirtyTiles.j0
   repeat' first | (with_reducible exact ih1 _ _ _ _ _ _ _ _ _ _ _) | (with_reducible exact impl_TileBoxes.mono _ _ _ _ _) | (with_reducible exact laws_equalInts.mono _ _ _) | (with_reducible exact spec_DirtyTiles.mono _ _ _ _ _ _ _ _ _ _ _ _ _ _) | (with_reducible exact LeO.refl _) | (with_reducible refine LeO.ite ?_ ?_) | (with_reducible refine LeO.bind ?_ (fun _ => ?_))
  ·intro y0 y1 y2 y3 y4 y5 y6 y7 y8 y9 y10
   unfold laws_FnDirtyTiles.l0
   repeat' first | (with_reducible exact ih1 _ _ _ _ _ _ _ _ _ _ _) | (with_reducible exact laws_equalImage.mono _ _ _ _ _ _ _ _ _) | (with_reducible exact laws_isIn.mono _ _ _) | (with_reducible exact LeO.refl _) | (with_reducible refine LeO.ite ?_ ?_) | (with_reducible refine LeO.bind ?_ (fun _ => ?_))
theorem laws_FnDirtyTiles.mono : ∀ a0 k, LeO (laws_FnDirtyTiles.f k a0) (laws_FnDirtyTiles.f (k + 1) a0) := by
 intro a0 k
 obtain ⟨ih0, ih1⟩ := laws_FnDirtyTiles.mono_l k
 unfold laws_FnDirtyTiles.f
 repeat' first | (with_reducible exact ih0 _ _ _ _ _ _ _ _ _ _ _ _ _ _ _ _ _ _ _) | (with_reducible exact impl_DirtyTiles.mono _ _ _ _ _ _ _ _ _ _ _ _ _ _) | (with_reducible exact laws_equalInts.mono _ _ _) | (with_reducible exact spec_DirtyTiles.mono _ _ _ _ _ _ _ _ _ _ _ _ _ _) | (with_reducible exact spec_DrawDirtyTiles.mono _ _) | (with_reducible exact LeO.refl _) | (with_reducible refine LeO.ite ?_ ?_) | (with_reducible refine LeO.bind ?_ (fun _ => ?_))
def laws_FnDirtyTiles.T12 : Bool × List (List Nat × List Nat) := (true, [([], []), ([], []), ([], []), ([1, 2], [1, 2]), ([3], [3]), ([0, 4], [0, 4]), ([5], [5]), ([6], [6]), ([6], [6]), ([], []), ([9, 7, 5, 0, 1, 2, 3, 4, 5, 6, 7, 9], [7, 9]), ([8, 10, 0, 1, 2, 3, 4, 5, 6, 7, 8, 9, 10], [8])])
def laws_FnDirtyTiles.B12 : List Nat := [0, 0, 0, 6, 14, 31, 63, 127, 127, 0, 767, 2047]
theorem laws_FnDirtyTiles.tab12 : rtab .any (opsOf Try.f8 12) = laws_FnDirtyTiles.T12 := by kernel_rfl
theorem laws_FnDirtyTiles.bits12 : waitsOk laws_FnDirtyTiles.T12.2 laws_FnDirtyTiles.B12 = true := by kernel_rfl
def laws_FnDirtyTiles.T13 : Bool × List (List Nat × List Nat) := (true, [([], []), ([], []), ([], []), ([1, 2], [1, 2]), ([3], [3]), ([0, 4], [0, 4]), ([5], [5]), ([6], [6]), ([6], [6]), ([], []), ([9, 7, 5, 0, 1, 2, 3, 4, 5, 6, 7, 9], [7, 9]), ([8, 10, 0, 1, 2, 3, 4, 5, 6, 7, 8, 9, 10], [8])])
def laws_FnDirtyTiles.B13 : List Nat := [0, 0, 0, 6, 14, 31, 63, 127, 127, 0, 767, 2047]
theorem laws_FnDirtyTiles.tab13 : rtab .any (opsOf Try.f8 13) = laws_FnDirtyTiles.T13 := by kernel_rfl
theorem laws_FnDirtyTiles.bits13 : waitsOk laws_FnDirtyTiles.T13.2 laws_FnDirtyTiles.B13 = true := by kernel_rfl
set_option maxHeartbeats 8000000 in
set_option maxRecDepth 100000 in
theorem laws_FnDirtyTiles.calls (k : Nat) (A0 : Option Addr) (c0 : Nat) (l0 : List Int) (r : Bool) (w : World) (hr0 : Kd.C (Kd.int .u8) w A0 l0.length l0) (hc0 : l0.length ≤ c0) (h : laws_FnDirtyTiles.f k l0 = some r) (hrt : r = true) :
  Calls Try.prog 8 #[.slice A0 l0.length c0] w fun e w' => e = .returned (.bool r) ∧ Below w.heap.size w w' := by
 have HRT := mk hrt
 clear hrt
 have hu27 := Try.underlying27
 have hu55 := Try.underlying55
 have hu47 := Try.underlying47
 have HR0 := mk hr0
 have HC0 := mk hc0
 clear hr0 hc0
 have HB := mk (Below.refl w.heap.size w)
 have H : (if (l0.length : Int) > 1048576 then (some true) else ((spec_DrawDirtyTiles.f k l0).bind fun bt9001 => ((impl_DirtyTiles.f k bt9001.1 bt9001.2.1 bt9001.2.2.1 bt9001.2.2.2.1 bt9001.2.2.2.2.1 bt9001.2.2.2.2.2.1 bt9001.2.2.2.2.2.2.1 bt9001.2.2.2.2.2.2.2.1 bt9001.2.2.2.2.2.2.2.2.1 bt9001.2.2.2.2.2.2.2.2.2.1 bt9001.2.2.2.2.2.2.2.2.2.2.1 bt9001.2.2.2.2.2.2.2.2.2.2.2.1 bt9001.2.2.2.2.2.2.2.2.2.2.2.2).bind fun t9020 => ((impl_CoverImage.f bt9001.1 bt9001.2.1 bt9001.2.2.1 bt9001.2.2.2.1 bt9001.2.2.2.2.1 bt9001.2.2.2.2.2.1 bt9001.2.2.2.2.2.2.1 bt9001.2.2.2.2.2.2.2.1 bt9001.2.2.2.2.2.2.2.2.1 bt9001.2.2.2.2.2.2.2.2.2.1 bt9001.2.2.2.2.2.2.2.2.2.2.1 bt9001.2.2.2.2.2.2.2.2.2.2.2.1 bt9001.2.2.2.2.2.2.2.2.2.2.2.2).bind fun bt9023 => ((spec_DirtyTiles.f k bt9001.1 bt9001.2.1 bt9001.2.2.1 bt9001.2.2.2.1 bt9001.2.2.2.2.1 bt9001.2.2.2.2.2.1 bt9001.2.2.2.2.2.2.1 bt9001.2.2.2.2.2.2.2.1 bt9001.2.2.2.2.2.2.2.2.1 bt9001.2.2.2.2.2.2.2.2.2.1 bt9001.2.2.2.2.2.2.2.2.2.2.1 bt9001.2.2.2.2.2.2.2.2.2.2.2.1 bt9001.2.2.2.2.2.2.2.2.2.2.2.2).bind fun t9031 => ((laws_equalInts.f k t9020 t9031).bind fun t9034 => (if t9034 = true then (laws_FnDirtyTiles.j0 k t9020 (!bt9023.2.2.2.2) bt9001.1 bt9001.2.1 bt9001.2.2.1 bt9001.2.2.2.1 bt9001.2.2.2.2.1 bt9001.2.2.2.2.2.1 bt9001.2.2.2.2.2.2.1 bt9001.2.2.2.2.2.2.2.1 bt9001.2.2.2.2.2.2.2.2.1 bt9001.2.2.2.2.2.2.2.2.2.1 bt9001.2.2.2.2.2.2.2.2.2.2.1 bt9001.2.2.2.2.2.2.2.2.2.2.2.1 bt9001.2.2.2.2.2.2.2.2.2.2.2.2 bt9023.1 bt9023.2.1 bt9023.2.2.1 bt9023.2.2.2.1) else (laws_FnDirtyTiles.j0 k t9020 true bt9001.1 bt9001.2.1 bt9001.2.2.1 bt9001.2.2.2.1 bt9001.2.2.2.2.1 bt9001.2.2.2.2.2.1 bt9001.2.2.2.2.2.2.1 bt9001.2.2.2.2.2.2.2.1 bt9001.2.2.2.2.2.2.2.2.1 bt9001.2.2.2.2.2.2.2.2.2.1 bt9001.2.2.2.2.2.2.2.2.2.2.1 bt9001.2.2.2.2.2.2.2.2.2.2.2.1 bt9001.2.2.2.2.2.2.2.2.2.2.2.2 bt9023.1 bt9023.2.1 bt9023.2.2.1 bt9023.2.2.2.1)))))))) = some r := h
 clear h
 by_cases c2 : (l0.length : Int) > 1048576
 ·rw [if_pos c2] at H
  have c2b0 : decide (1048576 < (l0.length : Int)) = true := decide_eq_true c2
  have c2b1 : decide (1048576 < l0.length) = true := decide_eq_true (by omega)
  clear c2
  obtain rfl := Option.some.inj H
  go_enter Try.func8, Try.ntmps8
  go_wp2
  go_ret
  exact ⟨by rfl, by exact HB.out⟩
 ·rw [if_neg c2] at H
  have c2b0 : decide (1048576 < (l0.length : Int)) = false := decide_eq_false c2
  have c2b1 : decide (1048576 < l0.length) = false := decide_eq_false (by omega)
  clear c2
  replace H := Option.bind_eq_some_iff.mp H
  obtain ⟨⟨t9001, t9002, t9003, t9004, t9007, t9008, t9009, t9010, t9013, t9014, t9015, t9016, t9017⟩, A30, H⟩ := H
  replace H : ((impl_DirtyTiles.f k t9001 t9002 t9003 t9004 t9007 t9008 t9009 t9010 t9013 t9014 t9015 t9016 t9017).bind fun t9020 => ((impl_CoverImage.f t9001 t9002 t9003 t9004 t9007 t9008 t9009 t9010 t9013 t9014 t9015 t9016 t9017).bind fun bt9023 => ((spec_DirtyTiles.f k t9001 t9002 t9003 t9004 t9007 t9008 t9009 t9010 t9013 t9014 t9015 t9016 t9017).bind fun t9031 => ((laws_equalInts.f k t9020 t9031).bind fun t9034 => (if t9034 = true then (laws_FnDirtyTiles.j0 k t9020 (!bt9023.2.2.2.2) t9001 t9002 t9003 t9004 t9007 t9008 t9009 t9010 t9013 t9014 t9015 t9016 t9017 bt9023.1 bt9023.2.1 bt9023.2.2.1 bt9023.2.2.2.1) else (laws_FnDirtyTiles.j0 k t9020 true t9001 t9002 t9003 t9004 t9007 t9008 t9009 t9010 t9013 t9014 t9015 t9016 t9017 bt9023.1 bt9023.2.1 bt9023.2.2.1 bt9023.2.2.2.1)))))) = some r := H
  have A3 := mk A30
  clear A30
  replace H := Option.bind_eq_some_iff.mp H
  obtain ⟨t9020, A40, H⟩ := H
  replace H : ((impl_CoverImage.f t9001 t9002 t9003 t9004 t9007 t9008 t9009 t9010 t9013 t9014 t9015 t9016 t9017).bind fun bt9023 => ((spec_DirtyTiles.f k t9001 t9002 t9003 t9004 t9007 t9008 t9009 t9010 t9013 t9014 t9015 t9016 t9017).bind fun t9031 => ((laws_equalInts.f k t9020 t9031).bind fun t9034 => (if t9034 = true then (laws_FnDirtyTiles.j0 k t9020 (!bt9023.2.2.2.2) t9001 t9002 t9003 t9004 t9007 t9008 t9009 t9010 t9013 t9014 t9015 t9016 t9017 bt9023.1 bt9023.2.1 bt9023.2.2.1 bt9023.2.2.2.1) else (laws_FnDirtyTiles.j0 k t9020 true t9001 t9002 t9003 t9004 t9007 t9008 t9009 t9010 t9013 t9014 t9015 t9016 t9017 bt9023.1 bt9023.2.1 bt9023.2.2.1 bt9023.2.2.2.1))))) = some r := H
  have A4 := mk A40
  clear A40
  replace H := Option.bind_eq_some_iff.mp H
  obtain ⟨⟨t9023, t9024, t9025, t9026, t9029⟩, A50, H⟩ := H
  replace H : ((spec_DirtyTiles.f k t9001 t9002 t9003 t9004 t9007 t9008 t9009 t9010 t9013 t9014 t9015 t9016 t9017).bind fun t9031 => ((laws_equalInts.f k t9020 t9031).bind fun t9034 => (if t9034 = true then (laws_FnDirtyTiles.j0 k t9020 (!t9029) t9001 t9002 t9003 t9004 t9007 t9008 t9009 t9010 t9013 t9014 t9015 t9016 t9017 t9023 t9024 t9025 t9026) else (laws_FnDirtyTiles.j0 k t9020 true t9001 t9002 t9003 t9004 t9007 t9008 t9009 t9010 t9013 t9014 t9015 t9016 t9017 t9023 t9024 t9025 t9026)))) = some r := H
  have A5 := mk A50
  clear A50
  have HC6 := mk H
  clear H
  go_enter Try.func8, Try.ntmps8
  go_upto_region 6 with (first | ((with_reducible refine gate_callee (f := 48) rfl ?_); refine goesL_ (some 19) rfl rfl Try.func48 (by kernel_rfl) rfl #[.slice A0 l0.length c0] rfl (by (try simp only [List.map_toArray, List.map_cons, List.map_nil]); rfl) ?_; (with_reducible refine (spec_DrawDirtyTiles.calls k _ _ l0 t9001 t9002 t9003 t9004 t9007 t9008 t9009 t9010 t9013 t9014 t9015 t9016 t9017 _ ?side1 ?side2 A3.out).mono ?_); (case side1 => repeat (exact HR0.out)); (case side2 => exact HC0.out); rintro e w7 ⟨v9005, v9011, rfl, ho0, ho1, hb⟩; refine ⟨_, rfl, ?_⟩; have HO9006 := mk (Kd.Q_lower ho0 (below_size HB.out)); have HO9012 := mk (Kd.Q_lower ho1 (below_size HB.out)); replace HB := mk (below_step HB.out hb); (try clear hb); (try clear ho0); (try clear ho1)) | ((with_reducible refine gate_dst (N := 3) rfl ?_); refine box_event (by rfl) (N := 3) (by rfl) (cs := #[.int .i64 0, .int .i64 0, .int .i64 0, .slice none 0 0]) (t := 27) (by go_simp; done) ?_; intro gb9018 hg w8 hbox hb; replace HO9006 := mk (Kd.Q_below HO9006.out hb); replace HO9012 := mk (Kd.Q_below HO9012.out hb); have BK9018 := mk (hbox); have GW9018 := mk ((by rw [hg]; exact (below_size HB.out) : w.heap.size ≤ gb9018)); have GE9018 := mk ((by rw [hg]; exact (below_size HB.out) : w.heap.size ≤ gb9018)); replace HB := mk (below_step HB.out hb); clear hb hbox hg) | ((with_reducible refine gate_dst (N := 4) rfl ?_); refine box_event (by rfl) (N := 4) (by rfl) (cs := #[.int .i64 0, .int .i64 0, .int .i64 0, .slice none 0 0, .int .i64 0, .int .i64 0, .int .i64 0, .int .i64 0, .bool false]) (t := 55) (by go_simp; done) ?_; intro gb9019 hg w9 hbox hb; replace HO9006 := mk (Kd.Q_below HO9006.out hb); replace HO9012 := mk (Kd.Q_below HO9012.out hb); have BK9019 := mk (hbox); have GW9019 := mk ((by rw [hg]; exact (below_size HB.out) : w.heap.size ≤ gb9019)); have GE9019 := mk ((by rw [hg]; exact (below_size HB.out) : w.heap.size ≤ gb9019)); replace HB := mk (below_step HB.out hb); have NB9018_9019 := mk ((by rw [hg]; exact Nat.ne_of_lt (blk_lt BK9018.out) : gb9018 ≠ gb9019)); have NB9019_9018 := mk ((by rw [hg]; exact Nat.ne_of_gt (blk_lt BK9018.out) : gb9019 ≠ gb9018)); replace BK9018 := mk (blk_below BK9018.out hb); clear hb hbox hg; have hnb10 := NB9018_9019.out; have hnc10 := NB9019_9018.out; have hcz11_0 : w9.cell? ⟨gb9018, 0, none⟩ = some (.int .i64 0) := (blk_cell BK9018.out 0).trans rfl; have hcz11_1 : w9.cell? ⟨gb9018, 1, none⟩ = some (.int .i64 0) := (blk_cell BK9018.out 1).trans rfl; have hcz11_2 : w9.cell? ⟨gb9018, 2, none⟩ = some (.int .i64 0) := (blk_cell BK9018.out 2).trans rfl; have hcz11_3 : w9.cell? ⟨gb9018, 3, none⟩ = some (.slice none 0 0) := (blk_cell BK9018.out 3).trans rfl; have hfz11_0 := blk_frozen BK9018.out 0; have hfz11_1 := blk_frozen BK9018.out 1; have hfz11_2 := blk_frozen BK9018.out 2; have hfz11_3 := blk_frozen BK9018.out 3; obtain ⟨Ao12, co12, eo12, _⟩ := Kd.Q_slice HO9006.out; subst eo12; have hcz13_0 : w9.cell? ⟨gb9019, 0, none⟩ = some (.int .i64 0) := (blk_cell BK9019.out 0).trans rfl; have hcz13_1 : w9.cell? ⟨gb9019, 1, none⟩ = some (.int .i64 0) := (blk_cell BK9019.out 1).trans rfl; have hcz13_2 : w9.cell? ⟨gb9019, 2, none⟩ = some (.int .i64 0) := (blk_cell BK9019.out 2).trans rfl; have hcz13_3 : w9.cell? ⟨gb9019, 3, none⟩ = some (.slice none 0 0) := (blk_cell BK9019.out 3).trans rfl; have hcz13_4 : w9.cell? ⟨gb9019, 4, none⟩ = some (.int .i64 0) := (blk_cell BK9019.out 4).trans rfl; have hcz13_5 : w9.cell? ⟨gb9019, 5, none⟩ = some (.int .i64 0) := (blk_cell BK9019.out 5).trans rfl; have hcz13_6 : w9.cell? ⟨gb9019, 6, none⟩ = some (.int .i64 0) := (blk_cell BK9019.out 6).trans rfl; have hcz13_7 : w9.cell? ⟨gb9019, 7, none⟩ = some (.int .i64 0) := (blk_cell BK9019.out 7).trans rfl; have hcz13_8 : w9.cell? ⟨gb9019, 8, none⟩ = some (.bool false) := (blk_cell BK9019.out 8).trans rfl; have hfz13_0 := blk_frozen BK9019.out 0; have hfz13_1 := blk_frozen BK9019.out 1; have hfz13_2 := blk_frozen BK9019.out 2; have hfz13_3 := blk_frozen BK9019.out 3; have hfz13_4 := blk_frozen BK9019.out 4; have hfz13_5 := blk_frozen BK9019.out 5; have hfz13_6 := blk_frozen BK9019.out 6; have hfz13_7 := blk_frozen BK9019.out 7; have hfz13_8 := blk_frozen BK9019.out 8; obtain ⟨Ao14, co14, eo14, _⟩ := Kd.Q_slice HO9012.out; subst eo14) | ((with_reducible refine gate_callee (f := 42) rfl ?_); refine goesL_ (some 24) rfl rfl Try.func42 (by kernel_rfl) rfl #[.agg #[.int .i64 t9001, .int .i64 t9002, .int .i64 t9003, .slice Ao12 t9004.length co12], .agg #[.int .i64 t9007, .int .i64 t9008, .int .i64 t9009, .slice Ao14 t9010.length co14, .int .i64 t9013, .int .i64 t9014, .int .i64 t9015, .int .i64 t9016, .bool t9017]] rfl (by (try simp only [List.map_toArray, List.map_cons, List.map_nil]); rfl) ?_; (with_reducible refine (impl_DirtyTiles.calls k t9001 t9002 t9003 _ _ t9004 t9007 t9008 t9009 _ _ t9010 t9013 t9014 t9015 t9016 t9017 t9020 _ ?side1 ?side2 ?side3 ?side4 A4.out).mono ?_); (case side1 => refine (Kd.Q_reads' (e := 3) (base := w.heap.size) (ok := fun k_ => some k_ ≠ (.slice Ao14 t9010.length co14 : Value).ownBlock) (n := t9004.length) (c := co12) ?_).2.2; exact (by exact (Kd.Q_mono (Kd.Q_mono (Kd.Q_far (p := ⟨gb9019, 8, none⟩) (Kd.Q_far (p := ⟨gb9019, 7, none⟩) (Kd.Q_far (p := ⟨gb9019, 6, none⟩) (Kd.Q_far (p := ⟨gb9019, 5, none⟩) (Kd.Q_far (p := ⟨gb9019, 4, none⟩) (Kd.Q_far (p := ⟨gb9019, 3, none⟩) (Kd.Q_far (p := ⟨gb9019, 2, none⟩) (Kd.Q_far (p := ⟨gb9019, 1, none⟩) (Kd.Q_far (p := ⟨gb9019, 0, none⟩) (Kd.Q_far (p := ⟨gb9018, 3, none⟩) (Kd.Q_far (p := ⟨gb9018, 2, none⟩) (Kd.Q_far (p := ⟨gb9018, 1, none⟩) (Kd.Q_far (p := ⟨gb9018, 0, none⟩) (Kd.Q_types (Kd.Q_types HO9006.out BK9018.out (by decide)) BK9019.out (by decide)) (fun _ hk => hk.1.2) (.int .i64 t9001)) (fun _ hk => hk.1.2) (.int .i64 t9002)) (fun _ hk => hk.1.2) (.int .i64 t9003)) (fun _ hk => hk.1.2) (.slice Ao12 t9004.length co12)) (fun _ hk => hk.2) (.int .i64 t9007)) (fun _ hk => hk.2) (.int .i64 t9008)) (fun _ hk => hk.2) (.int .i64 t9009)) (fun _ hk => hk.2) (.slice Ao14 t9010.length co14)) (fun _ hk => hk.2) (.int .i64 t9013)) (fun _ hk => hk.2) (.int .i64 t9014)) (fun _ hk => hk.2) (.int .i64 t9015)) (fun _ hk => hk.2) (.int .i64 t9016)) (fun _ hk => hk.2) (.bool t9017)) (fun _ h_ => h_.1)) (fun _ h_ => h_.1)))); (case side2 => exact (Kd.Q_reads' HO9006.out).2.1); (case side3 => refine (Kd.Q_reads' (e := 3) (base := w.heap.size) (ok := fun k_ => some k_ ≠ (.slice Ao12 t9004.length co12 : Value).ownBlock) (n := t9010.length) (c := co14) ?_).2.2; exact (by exact (Kd.Q_mono (Kd.Q_mono (Kd.Q_far (p := ⟨gb9019, 8, none⟩) (Kd.Q_far (p := ⟨gb9019, 7, none⟩) (Kd.Q_far (p := ⟨gb9019, 6, none⟩) (Kd.Q_far (p := ⟨gb9019, 5, none⟩) (Kd.Q_far (p := ⟨gb9019, 4, none⟩) (Kd.Q_far (p := ⟨gb9019, 3, none⟩) (Kd.Q_far (p := ⟨gb9019, 2, none⟩) (Kd.Q_far (p := ⟨gb9019, 1, none⟩) (Kd.Q_far (p := ⟨gb9019, 0, none⟩) (Kd.Q_far (p := ⟨gb9018, 3, none⟩) (Kd.Q_far (p := ⟨gb9018, 2, none⟩) (Kd.Q_far (p := ⟨gb9018, 1, none⟩) (Kd.Q_far (p := ⟨gb9018, 0, none⟩) (Kd.Q_types (Kd.Q_types HO9012.out BK9018.out (by decide)) BK9019.out (by decide)) (fun _ hk => hk.1.2) (.int .i64 t9001)) (fun _ hk => hk.1.2) (.int .i64 t9002)) (fun _ hk => hk.1.2) (.int .i64 t9003)) (fun _ hk => hk.1.2) (.slice Ao12 t9004.length co12)) (fun _ hk => hk.2) (.int .i64 t9007)) (fun _ hk => hk.2) (.int .i64 t9008)) (fun _ hk => hk.2) (.int .i64 t9009)) (fun _ hk => hk.2) (.slice Ao14 t9010.length co14)) (fun _ hk => hk.2) (.int .i64 t9013)) (fun _ hk => hk.2) (.int .i64 t9014)) (fun _ hk => hk.2) (.int .i64 t9015)) (fun _ hk => hk.2) (.int .i64 t9016)) (fun _ hk => hk.2) (.bool t9017)) (fun _ h_ => h_.1)) (fun _ h_ => h_.1)))); (case side4 => exact (Kd.Q_reads' HO9012.out).2.1); rintro e w15 ⟨v9021, rfl, ho0, hb⟩; refine ⟨_, rfl, ?_⟩; have HO9022 := mk (Kd.R_lower (Kd.R_new' (Kd.R_new' ho0 (Kd.Q_lt (by exact (Kd.Q_mono (Kd.Q_mono (Kd.Q_far (p := ⟨gb9019, 8, none⟩) (Kd.Q_far (p := ⟨gb9019, 7, none⟩) (Kd.Q_far (p := ⟨gb9019, 6, none⟩) (Kd.Q_far (p := ⟨gb9019, 5, none⟩) (Kd.Q_far (p := ⟨gb9019, 4, none⟩) (Kd.Q_far (p := ⟨gb9019, 3, none⟩) (Kd.Q_far (p := ⟨gb9019, 2, none⟩) (Kd.Q_far (p := ⟨gb9019, 1, none⟩) (Kd.Q_far (p := ⟨gb9019, 0, none⟩) (Kd.Q_far (p := ⟨gb9018, 3, none⟩) (Kd.Q_far (p := ⟨gb9018, 2, none⟩) (Kd.Q_far (p := ⟨gb9018, 1, none⟩) (Kd.Q_far (p := ⟨gb9018, 0, none⟩) (Kd.Q_types (Kd.Q_types HO9006.out BK9018.out (by decide)) BK9019.out (by decide)) (fun _ hk => hk.1.2) (.int .i64 t9001)) (fun _ hk => hk.1.2) (.int .i64 t9002)) (fun _ hk => hk.1.2) (.int .i64 t9003)) (fun _ hk => hk.1.2) (.slice Ao12 t9004.length co12)) (fun _ hk => hk.2) (.int .i64 t9007)) (fun _ hk => hk.2) (.int .i64 t9008)) (fun _ hk => hk.2) (.int .i64 t9009)) (fun _ hk => hk.2) (.slice Ao14 t9010.length co14)) (fun _ hk => hk.2) (.int .i64 t9013)) (fun _ hk => hk.2) (.int .i64 t9014)) (fun _ hk => hk.2) (.int .i64 t9015)) (fun _ hk => hk.2) (.int .i64 t9016)) (fun _ hk => hk.2) (.bool t9017)) (fun _ h_ => h_.1)) (fun _ h_ => h_.1))))) (Kd.Q_lt (by exact (Kd.Q_mono (Kd.Q_mono (Kd.Q_far (p := ⟨gb9019, 8, none⟩) (Kd.Q_far (p := ⟨gb9019, 7, none⟩) (Kd.Q_far (p := ⟨gb9019, 6, none⟩) (Kd.Q_far (p := ⟨gb9019, 5, none⟩) (Kd.Q_far (p := ⟨gb9019, 4, none⟩) (Kd.Q_far (p := ⟨gb9019, 3, none⟩) (Kd.Q_far (p := ⟨gb9019, 2, none⟩) (Kd.Q_far (p := ⟨gb9019, 1, none⟩) (Kd.Q_far (p := ⟨gb9019, 0, none⟩) (Kd.Q_far (p := ⟨gb9018, 3, none⟩) (Kd.Q_far (p := ⟨gb9018, 2, none⟩) (Kd.Q_far (p := ⟨gb9018, 1, none⟩) (Kd.Q_far (p := ⟨gb9018, 0, none⟩) (Kd.Q_types (Kd.Q_types HO9012.out BK9018.out (by decide)) BK9019.out (by decide)) (fun _ hk => hk.1.2) (.int .i64 t9001)) (fun _ hk => hk.1.2) (.int .i64 t9002)) (fun _ hk => hk.1.2) (.int .i64 t9003)) (fun _ hk => hk.1.2) (.slice Ao12 t9004.length co12)) (fun _ hk => hk.2) (.int .i64 t9007)) (fun _ hk => hk.2) (.int .i64 t9008)) (fun _ hk => hk.2) (.int .i64 t9009)) (fun _ hk => hk.2) (.slice Ao14 t9010.length co14)) (fun _ hk => hk.2) (.int .i64 t9013)) (fun _ hk => hk.2) (.int .i64 t9014)) (fun _ hk => hk.2) (.int .i64 t9015)) (fun _ hk => hk.2) (.int .i64 t9016)) (fun _ hk => hk.2) (.bool t9017)) (fun _ h_ => h_.1)) (fun _ h_ => h_.1))))) (below_size (by repeat (with_reducible first | exact HB.out | refine below_set ?_ GE9018.out | refine below_set ?_ GE9019.out)))); replace HO9006 := mk (Kd.Q_elder' (by exact (Kd.Q_mono (Kd.Q_mono (Kd.Q_far (p := ⟨gb9019, 8, none⟩) (Kd.Q_far (p := ⟨gb9019, 7, none⟩) (Kd.Q_far (p := ⟨gb9019, 6, none⟩) (Kd.Q_far (p := ⟨gb9019, 5, none⟩) (Kd.Q_far (p := ⟨gb9019, 4, none⟩) (Kd.Q_far (p := ⟨gb9019, 3, none⟩) (Kd.Q_far (p := ⟨gb9019, 2, none⟩) (Kd.Q_far (p := ⟨gb9019, 1, none⟩) (Kd.Q_far (p := ⟨gb9019, 0, none⟩) (Kd.Q_far (p := ⟨gb9018, 3, none⟩) (Kd.Q_far (p := ⟨gb9018, 2, none⟩) (Kd.Q_far (p := ⟨gb9018, 1, none⟩) (Kd.Q_far (p := ⟨gb9018, 0, none⟩) (Kd.Q_types (Kd.Q_types HO9006.out BK9018.out (by decide)) BK9019.out (by decide)) (fun _ hk => hk.1.2) (.int .i64 t9001)) (fun _ hk => hk.1.2) (.int .i64 t9002)) (fun _ hk => hk.1.2) (.int .i64 t9003)) (fun _ hk => hk.1.2) (.slice Ao12 t9004.length co12)) (fun _ hk => hk.2) (.int .i64 t9007)) (fun _ hk => hk.2) (.int .i64 t9008)) (fun _ hk => hk.2) (.int .i64 t9009)) (fun _ hk => hk.2) (.slice Ao14 t9010.length co14)) (fun _ hk => hk.2) (.int .i64 t9013)) (fun _ hk => hk.2) (.int .i64 t9014)) (fun _ hk => hk.2) (.int .i64 t9015)) (fun _ hk => hk.2) (.int .i64 t9016)) (fun _ hk => hk.2) (.bool t9017)) (fun _ h_ => h_.1)) (fun _ h_ => h_.1))) (Kd.R_base ho0) hb); replace HO9012 := mk (Kd.Q_elder' (by exact (Kd.Q_mono (Kd.Q_mono (Kd.Q_far (p := ⟨gb9019, 8, none⟩) (Kd.Q_far (p := ⟨gb9019, 7, none⟩) (Kd.Q_far (p := ⟨gb9019, 6, none⟩) (Kd.Q_far (p := ⟨gb9019, 5, none⟩) (Kd.Q_far (p := ⟨gb9019, 4, none⟩) (Kd.Q_far (p := ⟨gb9019, 3, none⟩) (Kd.Q_far (p := ⟨gb9019, 2, none⟩) (Kd.Q_far (p := ⟨gb9019, 1, none⟩) (Kd.Q_far (p := ⟨gb9019, 0, none⟩) (Kd.Q_far (p := ⟨gb9018, 3, none⟩) (Kd.Q_far (p := ⟨gb9018, 2, none⟩) (Kd.Q_far (p := ⟨gb9018, 1, none⟩) (Kd.Q_far (p := ⟨gb9018, 0, none⟩) (Kd.Q_types (Kd.Q_types HO9012.out BK9018.out (by decide)) BK9019.out (by decide)) (fun _ hk => hk.1.2) (.int .i64 t9001)) (fun _ hk => hk.1.2) (.int .i64 t9002)) (fun _ hk => hk.1.2) (.int .i64 t9003)) (fun _ hk => hk.1.2) (.slice Ao12 t9004.length co12)) (fun _ hk => hk.2) (.int .i64 t9007)) (fun _ hk => hk.2) (.int .i64 t9008)) (fun _ hk => hk.2) (.int .i64 t9009)) (fun _ hk => hk.2) (.slice Ao14 t9010.length co14)) (fun _ hk => hk.2) (.int .i64 t9013)) (fun _ hk => hk.2) (.int .i64 t9014)) (fun _ hk => hk.2) (.int .i64 t9015)) (fun _ hk => hk.2) (.int .i64 t9016)) (fun _ hk => hk.2) (.bool t9017)) (fun _ h_ => h_.1)) (fun _ h_ => h_.1))) (Kd.R_base ho0) hb); replace BK9018 := mk (blk_below (g := gb9018) (o := .cells #[.int .i64 t9001, .int .i64 t9002, .int .i64 t9003, .slice Ao12 t9004.length co12] 27 (0, 0)) (by refine blk_far ?_ NB9018_9019.out _; refine blk_far ?_ NB9018_9019.out _; refine blk_far ?_ NB9018_9019.out _; refine blk_far ?_ NB9018_9019.out _; refine blk_far ?_ NB9018_9019.out _; refine blk_far ?_ NB9018_9019.out _; refine blk_far ?_ NB9018_9019.out _; refine blk_far ?_ NB9018_9019.out _; refine blk_far ?_ NB9018_9019.out _; refine blk_put (cs := #[.int .i64 t9001, .int .i64 t9002, .int .i64 t9003, .slice none 0 0]) ?_ 3 _ rfl; refine blk_put (cs := #[.int .i64 t9001, .int .i64 t9002, .int .i64 0, .slice none 0 0]) ?_ 2 _ rfl; refine blk_put (cs := #[.int .i64 t9001, .int .i64 0, .int .i64 0, .slice none 0 0]) ?_ 1 _ rfl; refine blk_put (cs := #[.int .i64 0, .int .i64 0, .int .i64 0, .slice none 0 0]) ?_ 0 _ rfl; (with_reducible repeat (first | refine blk_drewN ?_ _ | refine blk_drew ?_ | refine blk_alloc ?_ _)); exact BK9018.out) hb); replace BK9019 := mk (blk_below (g := gb9019) (o := .cells #[.int .i64 t9007, .int .i64 t9008, .int .i64 t9009, .slice Ao14 t9010.length co14, .int .i64 t9013, .int .i64 t9014, .int .i64 t9015, .int .i64 t9016, .bool t9017] 55 (0, 0)) (by refine blk_put (cs := #[.int .i64 t9007, .int .i64 t9008, .int .i64 t9009, .slice Ao14 t9010.length co14, .int .i64 t9013, .int .i64 t9014, .int .i64 t9015, .int .i64 t9016, .bool false]) ?_ 8 _ rfl; refine blk_put (cs := #[.int .i64 t9007, .int .i64 t9008, .int .i64 t9009, .slice Ao14 t9010.length co14, .int .i64 t9013, .int .i64 t9014, .int .i64 t9015, .int .i64 0, .bool false]) ?_ 7 _ rfl; refine blk_put (cs := #[.int .i64 t9007, .int .i64 t9008, .int .i64 t9009, .slice Ao14 t9010.length co14, .int .i64 t9013, .int .i64 t9014, .int .i64 0, .int .i64 0, .bool false]) ?_ 6 _ rfl; refine blk_put (cs := #[.int .i64 t9007, .int .i64 t9008, .int .i64 t9009, .slice Ao14 t9010.length co14, .int .i64 t9013, .int .i64 0, .int .i64 0, .int .i64 0, .bool false]) ?_ 5 _ rfl; refine blk_put (cs := #[.int .i64 t9007, .int .i64 t9008, .int .i64 t9009, .slice Ao14 t9010.length co14, .int .i64 0, .int .i64 0, .int .i64 0, .int .i64 0, .bool false]) ?_ 4 _ rfl; refine blk_put (cs := #[.int .i64 t9007, .int .i64 t9008, .int .i64 t9009, .slice none 0 0, .int .i64 0, .int .i64 0, .int .i64 0, .int .i64 0, .bool false]) ?_ 3 _ rfl; refine blk_put (cs := #[.int .i64 t9007, .int .i64 t9008, .int .i64 0, .slice none 0 0, .int .i64 0, .int .i64 0, .int .i64 0, .int .i64 0, .bool false]) ?_ 2 _ rfl; refine blk_put (cs := #[.int .i64 t9007, .int .i64 0, .int .i64 0, .slice none 0 0, .int .i64 0, .int .i64 0, .int .i64 0, .int .i64 0, .bool false]) ?_ 1 _ rfl; refine blk_put (cs := #[.int .i64 0, .int .i64 0, .int .i64 0, .slice none 0 0, .int .i64 0, .int .i64 0, .int .i64 0, .int .i64 0, .bool false]) ?_ 0 _ rfl; refine blk_far ?_ NB9019_9018.out _; refine blk_far ?_ NB9019_9018.out _; refine blk_far ?_ NB9019_9018.out _; refine blk_far ?_ NB9019_9018.out _; (with_reducible repeat (first | refine blk_drewN ?_ _ | refine blk_drew ?_ | refine blk_alloc ?_ _)); exact BK9019.out) hb); replace HB := mk (below_step (by repeat (with_reducible first | exact HB.out | refine below_set ?_ GE9018.out | refine below_set ?_ GE9019.out)) hb); (try clear hb); (try clear ho0); have hcz16_0 : w15.cell? ⟨gb9018, 0, none⟩ = some (.int .i64 t9001) := (blk_cell BK9018.out 0).trans rfl; have hcz16_1 : w15.cell? ⟨gb9018, 1, none⟩ = some (.int .i64 t9002) := (blk_cell BK9018.out 1).trans rfl; have hcz16_2 : w15.cell? ⟨gb9018, 2, none⟩ = some (.int .i64 t9003) := (blk_cell BK9018.out 2).trans rfl; have hcz16_3 : w15.cell? ⟨gb9018, 3, none⟩ = some (.slice Ao12 t9004.length co12) := (blk_cell BK9018.out 3).trans rfl; have hfz16_0 := blk_frozen BK9018.out 0; have hfz16_1 := blk_frozen BK9018.out 1; have hfz16_2 := blk_frozen BK9018.out 2; have hfz16_3 := blk_frozen BK9018.out 3; have hcz17_0 : w15.cell? ⟨gb9019, 0, none⟩ = some (.int .i64 t9007) := (blk_cell BK9019.out 0).trans rfl; have hcz17_1 : w15.cell? ⟨gb9019, 1, none⟩ = some (.int .i64 t9008) := (blk_cell BK9019.out 1).trans rfl; have hcz17_2 : w15.cell? ⟨gb9019, 2, none⟩ = some (.int .i64 t9009) := (blk_cell BK9019.out 2).trans rfl; have hcz17_3 : w15.cell? ⟨gb9019, 3, none⟩ = some (.slice Ao14 t9010.length co14) := (blk_cell BK9019.out 3).trans rfl; have hcz17_4 : w15.cell? ⟨gb9019, 4, none⟩ = some (.int .i64 t9013) := (blk_cell BK9019.out 4).trans rfl; have hcz17_5 : w15.cell? ⟨gb9019, 5, none⟩ = some (.int .i64 t9014) := (blk_cell BK9019.out 5).trans rfl; have hcz17_6 : w15.cell? ⟨gb9019, 6, none⟩ = some (.int .i64 t9015) := (blk_cell BK9019.out 6).trans rfl; have hcz17_7 : w15.cell? ⟨gb9019, 7, none⟩ = some (.int .i64 t9016) := (blk_cell BK9019.out 7).trans rfl; have hcz17_8 : w15.cell? ⟨gb9019, 8, none⟩ = some (.bool t9017) := (blk_cell BK9019.out 8).trans rfl; have hfz17_0 := blk_frozen BK9019.out 0; have hfz17_1 := blk_frozen BK9019.out 1; have hfz17_2 := blk_frozen BK9019.out 2; have hfz17_3 := blk_frozen BK9019.out 3; have hfz17_4 := blk_frozen BK9019.out 4; have hfz17_5 := blk_frozen BK9019.out 5; have hfz17_6 := blk_frozen BK9019.out 6; have hfz17_7 := blk_frozen BK9019.out 7; have hfz17_8 := blk_frozen BK9019.out 8) | ((with_reducible refine gate_callee (f := 49) rfl ?_); refine goesL_ (some 28) rfl rfl Try.func49 (by kernel_rfl) rfl #[.agg #[.int .i64 t9001, .int .i64 t9002, .int .i64 t9003, .slice Ao12 t9004.length co12], .agg #[.int .i64 t9007, .int .i64 t9008, .int .i64 t9009, .slice Ao14 t9010.length co14, .int .i64 t9013, .int .i64 t9014, .int .i64 t9015, .int .i64 t9016, .bool t9017]] rfl (by (try simp only [List.map_toArray, List.map_cons, List.map_nil]); rfl) ?_; (with_reducible refine (impl_CoverImage.calls t9001 t9002 t9003 _ _ t9004 t9007 t9008 t9009 _ _ t9010 t9013 t9014 t9015 t9016 t9017 t9023 t9024 t9025 t9026 t9029 _ ?side1 ?side2 ?side3 ?side4 A5.out).mono ?_); (case side1 => repeat (exact (Kd.Q_reads' HO9006.out).2.2)); (case side2 => exact (Kd.Q_reads' HO9006.out).2.1); (case side3 => repeat (exact (Kd.Q_reads' HO9012.out).2.2)); (case side4 => exact (Kd.Q_reads' HO9012.out).2.1); rintro e w18 ⟨v9027, rfl, ho0, hb⟩; refine ⟨_, rfl, ?_⟩; have HO9028 := mk (Kd.R_lower (Kd.R_new' (Kd.R_new' (Kd.R_new' ho0 (Kd.Q_lt HO9006.out)) (Kd.Q_lt HO9012.out)) (Kd.R_lt HO9022.out)) (below_size HB.out)); replace HO9006 := mk (Kd.Q_elder' HO9006.out (Kd.R_base ho0) hb); replace HO9012 := mk (Kd.Q_elder' HO9012.out (Kd.R_base ho0) hb); replace HO9022 := mk (Kd.R_elder' HO9022.out (Kd.R_base ho0) hb); replace BK9018 := mk (blk_below BK9018.out hb); replace BK9019 := mk (blk_below BK9019.out hb); replace HB := mk (below_step HB.out hb); (try clear hb); (try clear ho0)) | ((with_reducible refine gate_dst (N := 6) rfl ?_); refine box_event (by rfl) (N := 6) (by rfl) (cs := #[.int .i64 0, .int .i64 0, .int .i64 0, .slice none 0 0]) (t := 27) (by go_simp; done) ?_; intro gb9030 hg w19 hbox hb; replace HO9006 := mk (Kd.Q_below HO9006.out hb); replace HO9012 := mk (Kd.Q_below HO9012.out hb); replace HO9022 := mk (Kd.R_below HO9022.out hb); replace HO9028 := mk (Kd.R_below HO9028.out hb); have BK9030 := mk (hbox); have GW9030 := mk ((by rw [hg]; exact (below_size HB.out) : w.heap.size ≤ gb9030)); have GE9030 := mk ((by rw [hg]; exact (below_size HB.out) : w.heap.size ≤ gb9030)); replace HB := mk (below_step HB.out hb); have NB9018_9030 := mk ((by rw [hg]; exact Nat.ne_of_lt (blk_lt BK9018.out) : gb9018 ≠ gb9030)); have NB9030_9018 := mk ((by rw [hg]; exact Nat.ne_of_gt (blk_lt BK9018.out) : gb9030 ≠ gb9018)); replace BK9018 := mk (blk_below BK9018.out hb); have NB9019_9030 := mk ((by rw [hg]; exact Nat.ne_of_lt (blk_lt BK9019.out) : gb9019 ≠ gb9030)); have NB9030_9019 := mk ((by rw [hg]; exact Nat.ne_of_gt (blk_lt BK9019.out) : gb9030 ≠ gb9019)); replace BK9019 := mk (blk_below BK9019.out hb); clear hb hbox hg; have hnb20 := NB9030_9018.out; have hnc20 := NB9018_9030.out; have hnb21 := NB9030_9019.out; have hnc21 := NB9019_9030.out; have hcz22_0 : w19.cell? ⟨gb9030, 0, none⟩ = some (.int .i64 0) := (blk_cell BK9030.out 0).trans rfl; have hcz22_1 : w19.cell? ⟨gb9030, 1, none⟩ = some (.int .i64 0) := (blk_cell BK9030.out 1).trans rfl; have hcz22_2 : w19.cell? ⟨gb9030, 2, none⟩ = some (.int .i64 0) := (blk_cell BK9030.out 2).trans rfl; have hcz22_3 : w19.cell? ⟨gb9030, 3, none⟩ = some (.slice none 0 0) := (blk_cell BK9030.out 3).trans rfl; have hfz22_0 := blk_frozen BK9030.out 0; have hfz22_1 := blk_frozen BK9030.out 1; have hfz22_2 := blk_frozen BK9030.out 2; have hfz22_3 := blk_frozen BK9030.out 3; obtain ⟨Ao23, co23, eo23⟩ := Kd.R_slice HO9028.out; subst eo23))
  go_cut [40] (fun v40 wc => ∃ (kq : Nat) (x40_5 : Bool), v40 = .bool x40_5 ∧ Aside0 (laws_FnDirtyTiles.j0 kq t9020 x40_5 t9001 t9002 t9003 t9004 t9007 t9008 t9009 t9010 t9013 t9014 t9015 t9016 t9017 t9023 t9024 t9025 t9026 = some r) ∧ Aside0 (kq ≤ k) ∧ Aside0 (Kd.R (Kd.int .i64) 3 wc w.heap.size (fun k_ => some k_ ≠ ((.slice Ao12 t9004.length co12) : Value).ownBlock ∧ some k_ ≠ ((.slice Ao14 t9010.length co14) : Value).ownBlock ∧ some k_ ≠ ((.slice Ao23 t9026.length co23) : Value).ownBlock) v9021 t9020) ∧ Aside0 (Kd.Q (Kd.int .i64) 3 wc w.heap.size (fun k_ => some k_ ≠ (v9021 : Value).ownBlock ∧ some k_ ≠ ((.slice Ao14 t9010.length co14) : Value).ownBlock ∧ some k_ ≠ ((.slice Ao23 t9026.length co23) : Value).ownBlock) (.slice Ao12 t9004.length co12) t9004) ∧ Aside0 (Kd.Q (Kd.int .i64) 3 wc w.heap.size (fun k_ => some k_ ≠ (v9021 : Value).ownBlock ∧ some k_ ≠ ((.slice Ao12 t9004.length co12) : Value).ownBlock ∧ some k_ ≠ ((.slice Ao23 t9026.length co23) : Value).ownBlock) (.slice Ao14 t9010.length co14) t9010) ∧ Aside0 (Kd.Q (Kd.int .i64) 3 wc w.heap.size (fun k_ => some k_ ≠ (v9021 : Value).ownBlock ∧ some k_ ≠ ((.slice Ao12 t9004.length co12) : Value).ownBlock ∧ some k_ ≠ ((.slice Ao14 t9010.length co14) : Value).ownBlock) (.slice Ao23 t9026.length co23) t9026) ∧ Aside0 (wc.heap[gb9018]? = some (.cells #[.int .i64 t9001, .int .i64 t9002, .int .i64 t9003, (.slice Ao12 t9004.length co12)] 27 (0, 0))) ∧ Aside0 (wc.heap[gb9019]? = some (.cells #[.int .i64 t9007, .int .i64 t9008, .int .i64 t9009, (.slice Ao14 t9010.length co14), .int .i64 t9013, .int .i64 t9014, .int .i64 t9015, .int .i64 t9016, .bool t9017] 55 (0, 0))) ∧ Aside0 (wc.heap[gb9030]? = some (.cells #[.int .i64 t9023, .int .i64 t9024, .int .i64 t9025, (.slice Ao23 t9026.length co23)] 27 (0, 0))) ∧ Aside0 (Below w.heap.size w wc))
  case first =>
   have H := HC6.out
   clear HC6
   replace H := Option.bind_eq_some_iff.mp H
   obtain ⟨t9031, A240, H⟩ := H
   replace H : ((laws_equalInts.f k t9020 t9031).bind fun t9034 => (if t9034 = true then (laws_FnDirtyTiles.j0 k t9020 (!t9029) t9001 t9002 t9003 t9004 t9007 t9008 t9009 t9010 t9013 t9014 t9015 t9016 t9017 t9023 t9024 t9025 t9026) else (laws_FnDirtyTiles.j0 k t9020 true t9001 t9002 t9003 t9004 t9007 t9008 t9009 t9010 t9013 t9014 t9015 t9016 t9017 t9023 t9024 t9025 t9026))) = some r := H
   have A24 := mk A240
   clear A240
   replace H := Option.bind_eq_some_iff.mp H
   obtain ⟨t9034, A250, H⟩ := H
   replace H : (if t9034 = true then (laws_FnDirtyTiles.j0 k t9020 (!t9029) t9001 t9002 t9003 t9004 t9007 t9008 t9009 t9010 t9013 t9014 t9015 t9016 t9017 t9023 t9024 t9025 t9026) else (laws_FnDirtyTiles.j0 k t9020 true t9001 t9002 t9003 t9004 t9007 t9008 t9009 t9010 t9013 t9014 t9015 t9016 t9017 t9023 t9024 t9025 t9026)) = some r := H
   have A25 := mk A250
   clear A250
   by_cases c26 : t9034 = true
   ·subst c26
    have H1 : (laws_FnDirtyTiles.j0 k t9020 (!t9029) t9001 t9002 t9003 t9004 t9007 t9008 t9009 t9010 t9013 t9014 t9015 t9016 t9017 t9023 t9024 t9025 t9026) = some r := by rw [if_pos rfl] at H; exact H
    clear H
    have H := H1
    clear H1
    have H' := mk H
    clear H
    have hnb27 := NB9018_9019.out
    have hnc27 := NB9019_9018.out
    have hnb28 := NB9018_9030.out
    have hnc28 := NB9030_9018.out
    have hcz29_0 : w19.cell? ⟨gb9018, 0, none⟩ = some (.int .i64 t9001) := (blk_cell BK9018.out 0).trans rfl
    have hcz29_1 : w19.cell? ⟨gb9018, 1, none⟩ = some (.int .i64 t9002) := (blk_cell BK9018.out 1).trans rfl
    have hcz29_2 : w19.cell? ⟨gb9018, 2, none⟩ = some (.int .i64 t9003) := (blk_cell BK9018.out 2).trans rfl
    have hcz29_3 : w19.cell? ⟨gb9018, 3, none⟩ = some (.slice Ao12 t9004.length co12) := (blk_cell BK9018.out 3).trans rfl
    have hfz29_0 := blk_frozen BK9018.out 0
    have hfz29_1 := blk_frozen BK9018.out 1
    have hfz29_2 := blk_frozen BK9018.out 2
    have hfz29_3 := blk_frozen BK9018.out 3
    have hnb30 := NB9019_9030.out
    have hnc30 := NB9030_9019.out
    have hcz31_0 : w19.cell? ⟨gb9019, 0, none⟩ = some (.int .i64 t9007) := (blk_cell BK9019.out 0).trans rfl
    have hcz31_1 : w19.cell? ⟨gb9019, 1, none⟩ = some (.int .i64 t9008) := (blk_cell BK9019.out 1).trans rfl
    have hcz31_2 : w19.cell? ⟨gb9019, 2, none⟩ = some (.int .i64 t9009) := (blk_cell BK9019.out 2).trans rfl
    have hcz31_3 : w19.cell? ⟨gb9019, 3, none⟩ = some (.slice Ao14 t9010.length co14) := (blk_cell BK9019.out 3).trans rfl
    have hcz31_4 : w19.cell? ⟨gb9019, 4, none⟩ = some (.int .i64 t9013) := (blk_cell BK9019.out 4).trans rfl
    have hcz31_5 : w19.cell? ⟨gb9019, 5, none⟩ = some (.int .i64 t9014) := (blk_cell BK9019.out 5).trans rfl
    have hcz31_6 : w19.cell? ⟨gb9019, 6, none⟩ = some (.int .i64 t9015) := (blk_cell BK9019.out 6).trans rfl
    have hcz31_7 : w19.cell? ⟨gb9019, 7, none⟩ = some (.int .i64 t9016) := (blk_cell BK9019.out 7).trans rfl
    have hcz31_8 : w19.cell? ⟨gb9019, 8, none⟩ = some (.bool t9017) := (blk_cell BK9019.out 8).trans rfl
    have hfz31_0 := blk_frozen BK9019.out 0
    have hfz31_1 := blk_frozen BK9019.out 1
    have hfz31_2 := blk_frozen BK9019.out 2
    have hfz31_3 := blk_frozen BK9019.out 3
    have hfz31_4 := blk_frozen BK9019.out 4
    have hfz31_5 := blk_frozen BK9019.out 5
    have hfz31_6 := blk_frozen BK9019.out 6
    have hfz31_7 := blk_frozen BK9019.out 7
    have hfz31_8 := blk_frozen BK9019.out 8
    go_wp2_with (first | ((with_reducible refine gate_callee (f := 40) rfl ?_); refine goesL_ (some 34) rfl rfl Try.func40 (by kernel_rfl) rfl #[.agg #[.int .i64 t9001, .int .i64 t9002, .int .i64 t9003, .slice Ao12 t9004.length co12], .agg #[.int .i64 t9007, .int .i64 t9008, .int .i64 t9009, .slice Ao14 t9010.length co14, .int .i64 t9013, .int .i64 t9014, .int .i64 t9015, .int .i64 t9016, .bool t9017]] rfl (by (try simp only [List.map_toArray, List.map_cons, List.map_nil]); rfl) ?_; (with_reducible refine (spec_DirtyTiles.calls k t9001 t9002 t9003 _ _ t9004 t9007 t9008 t9009 _ _ t9010 t9013 t9014 t9015 t9016 t9017 t9031 _ ?side1 ?side2 ?side3 ?side4 A24.out).mono ?_); (case side1 => refine (Kd.Q_reads' (e := 3) (base := w.heap.size) (ok := fun k_ => ((some k_ ≠ (.slice Ao14 t9010.length co14 : Value).ownBlock ∧ some k_ ≠ (v9021 : Value).ownBlock) ∧ some k_ ≠ (.slice Ao23 t9026.length co23 : Value).ownBlock)) (n := t9004.length) (c := co12) ?_).2.2; exact (by exact (Kd.Q_mono (Kd.Q_far (p := ⟨gb9030, 3, none⟩) (Kd.Q_far (p := ⟨gb9030, 2, none⟩) (Kd.Q_far (p := ⟨gb9030, 1, none⟩) (Kd.Q_far (p := ⟨gb9030, 0, none⟩) (Kd.Q_types HO9006.out BK9030.out (by decide)) (fun _ hk => hk.2) (.int .i64 t9023)) (fun _ hk => hk.2) (.int .i64 t9024)) (fun _ hk => hk.2) (.int .i64 t9025)) (fun _ hk => hk.2) (.slice Ao23 t9026.length co23)) (fun _ h_ => h_.1)))); (case side2 => exact (Kd.Q_reads' HO9006.out).2.1); (case side3 => refine (Kd.Q_reads' (e := 3) (base := w.heap.size) (ok := fun k_ => ((some k_ ≠ (.slice Ao12 t9004.length co12 : Value).ownBlock ∧ some k_ ≠ (v9021 : Value).ownBlock) ∧ some k_ ≠ (.slice Ao23 t9026.length co23 : Value).ownBlock)) (n := t9010.length) (c := co14) ?_).2.2; exact (by exact (Kd.Q_mono (Kd.Q_far (p := ⟨gb9030, 3, none⟩) (Kd.Q_far (p := ⟨gb9030, 2, none⟩) (Kd.Q_far (p := ⟨gb9030, 1, none⟩) (Kd.Q_far (p := ⟨gb9030, 0, none⟩) (Kd.Q_types HO9012.out BK9030.out (by decide)) (fun _ hk => hk.2) (.int .i64 t9023)) (fun _ hk => hk.2) (.int .i64 t9024)) (fun _ hk => hk.2) (.int .i64 t9025)) (fun _ hk => hk.2) (.slice Ao23 t9026.length co23)) (fun _ h_ => h_.1)))); (case side4 => exact (Kd.Q_reads' HO9012.out).2.1); rintro e w32 ⟨v9032, rfl, ho0, hb⟩; refine ⟨_, rfl, ?_⟩; have HO9033 := mk (Kd.R_lower (Kd.R_new' (Kd.R_new' (Kd.R_new' (Kd.R_new' ho0 (Kd.Q_lt (by exact (Kd.Q_mono (Kd.Q_far (p := ⟨gb9030, 3, none⟩) (Kd.Q_far (p := ⟨gb9030, 2, none⟩) (Kd.Q_far (p := ⟨gb9030, 1, none⟩) (Kd.Q_far (p := ⟨gb9030, 0, none⟩) (Kd.Q_types HO9006.out BK9030.out (by decide)) (fun _ hk => hk.2) (.int .i64 t9023)) (fun _ hk => hk.2) (.int .i64 t9024)) (fun _ hk => hk.2) (.int .i64 t9025)) (fun _ hk => hk.2) (.slice Ao23 t9026.length co23)) (fun _ h_ => h_.1))))) (Kd.Q_lt (by exact (Kd.Q_mono (Kd.Q_far (p := ⟨gb9030, 3, none⟩) (Kd.Q_far (p := ⟨gb9030, 2, none⟩) (Kd.Q_far (p := ⟨gb9030, 1, none⟩) (Kd.Q_far (p := ⟨gb9030, 0, none⟩) (Kd.Q_types HO9012.out BK9030.out (by decide)) (fun _ hk => hk.2) (.int .i64 t9023)) (fun _ hk => hk.2) (.int .i64 t9024)) (fun _ hk => hk.2) (.int .i64 t9025)) (fun _ hk => hk.2) (.slice Ao23 t9026.length co23)) (fun _ h_ => h_.1))))) (Kd.R_lt (by exact (Kd.R_mono (Kd.R_far (p := ⟨gb9030, 3, none⟩) (Kd.R_far (p := ⟨gb9030, 2, none⟩) (Kd.R_far (p := ⟨gb9030, 1, none⟩) (Kd.R_far (p := ⟨gb9030, 0, none⟩) (Kd.R_types HO9022.out BK9030.out (by decide)) (fun _ hk => hk.2) (.int .i64 t9023)) (fun _ hk => hk.2) (.int .i64 t9024)) (fun _ hk => hk.2) (.int .i64 t9025)) (fun _ hk => hk.2) (.slice Ao23 t9026.length co23)) (fun _ h_ => h_.1))))) (Kd.R_lt (by exact (Kd.R_mono (Kd.R_far (p := ⟨gb9030, 3, none⟩) (Kd.R_far (p := ⟨gb9030, 2, none⟩) (Kd.R_far (p := ⟨gb9030, 1, none⟩) (Kd.R_far (p := ⟨gb9030, 0, none⟩) (Kd.R_types HO9028.out BK9030.out (by decide)) (fun _ hk => hk.2) (.int .i64 t9023)) (fun _ hk => hk.2) (.int .i64 t9024)) (fun _ hk => hk.2) (.int .i64 t9025)) (fun _ hk => hk.2) (.slice Ao23 t9026.length co23)) (fun _ h_ => h_.1))))) (below_size (by repeat (with_reducible first | exact HB.out | refine below_set ?_ GE9030.out)))); replace HO9006 := mk (Kd.Q_elder' (by exact (Kd.Q_mono (Kd.Q_far (p := ⟨gb9030, 3, none⟩) (Kd.Q_far (p := ⟨gb9030, 2, none⟩) (Kd.Q_far (p := ⟨gb9030, 1, none⟩) (Kd.Q_far (p := ⟨gb9030, 0, none⟩) (Kd.Q_types HO9006.out BK9030.out (by decide)) (fun _ hk => hk.2) (.int .i64 t9023)) (fun _ hk => hk.2) (.int .i64 t9024)) (fun _ hk => hk.2) (.int .i64 t9025)) (fun _ hk => hk.2) (.slice Ao23 t9026.length co23)) (fun _ h_ => h_.1))) (Kd.R_base ho0) hb); replace HO9012 := mk (Kd.Q_elder' (by exact (Kd.Q_mono (Kd.Q_far (p := ⟨gb9030, 3, none⟩) (Kd.Q_far (p := ⟨gb9030, 2, none⟩) (Kd.Q_far (p := ⟨gb9030, 1, none⟩) (Kd.Q_far (p := ⟨gb9030, 0, none⟩) (Kd.Q_types HO9012.out BK9030.out (by decide)) (fun _ hk => hk.2) (.int .i64 t9023)) (fun _ hk => hk.2) (.int .i64 t9024)) (fun _ hk => hk.2) (.int .i64 t9025)) (fun _ hk => hk.2) (.slice Ao23 t9026.length co23)) (fun _ h_ => h_.1))) (Kd.R_base ho0) hb); replace HO9022 := mk (Kd.R_elder' (by exact (Kd.R_mono (Kd.R_far (p := ⟨gb9030, 3, none⟩) (Kd.R_far (p := ⟨gb9030, 2, none⟩) (Kd.R_far (p := ⟨gb9030, 1, none⟩) (Kd.R_far (p := ⟨gb9030, 0, none⟩) (Kd.R_types HO9022.out BK9030.out (by decide)) (fun _ hk => hk.2) (.int .i64 t9023)) (fun _ hk => hk.2) (.int .i64 t9024)) (fun _ hk => hk.2) (.int .i64 t9025)) (fun _ hk => hk.2) (.slice Ao23 t9026.length co23)) (fun _ h_ => h_.1))) (Kd.R_base ho0) hb); replace HO9028 := mk (Kd.R_elder' (by exact (Kd.R_mono (Kd.R_far (p := ⟨gb9030, 3, none⟩) (Kd.R_far (p := ⟨gb9030, 2, none⟩) (Kd.R_far (p := ⟨gb9030, 1, none⟩) (Kd.R_far (p := ⟨gb9030, 0, none⟩) (Kd.R_types HO9028.out BK9030.out (by decide)) (fun _ hk => hk.2) (.int .i64 t9023)) (fun _ hk => hk.2) (.int .i64 t9024)) (fun _ hk => hk.2) (.int .i64 t9025)) (fun _ hk => hk.2) (.slice Ao23 t9026.length co23)) (fun _ h_ => h_.1))) (Kd.R_base ho0) hb); replace BK9018 := mk (blk_below (g := gb9018) (o := .cells #[.int .i64 t9001, .int .i64 t9002, .int .i64 t9003, .slice Ao12 t9004.length co12] 27 (0, 0)) (by refine blk_far ?_ NB9018_9030.out _; refine blk_far ?_ NB9018_9030.out _; refine blk_far ?_ NB9018_9030.out _; refine blk_far ?_ NB9018_9030.out _; (with_reducible repeat (first | refine blk_drewN ?_ _ | refine blk_drew ?_ | refine blk_alloc ?_ _)); exact BK9018.out) hb); replace BK9019 := mk (blk_below (g := gb9019) (o := .cells #[.int .i64 t9007, .int .i64 t9008, .int .i64 t9009, .slice Ao14 t9010.length co14, .int .i64 t9013, .int .i64 t9014, .int .i64 t9015, .int .i64 t9016, .bool t9017] 55 (0, 0)) (by refine blk_far ?_ NB9019_9030.out _; refine blk_far ?_ NB9019_9030.out _; refine blk_far ?_ NB9019_9030.out _; refine blk_far ?_ NB9019_9030.out _; (with_reducible repeat (first | refine blk_drewN ?_ _ | refine blk_drew ?_ | refine blk_alloc ?_ _)); exact BK9019.out) hb); replace BK9030 := mk (blk_below (g := gb9030) (o := .cells #[.int .i64 t9023, .int .i64 t9024, .int .i64 t9025, .slice Ao23 t9026.length co23] 27 (0, 0)) (by refine blk_put (cs := #[.int .i64 t9023, .int .i64 t9024, .int .i64 t9025, .slice none 0 0]) ?_ 3 _ rfl; refine blk_put (cs := #[.int .i64 t9023, .int .i64 t9024, .int .i64 0, .slice none 0 0]) ?_ 2 _ rfl; refine blk_put (cs := #[.int .i64 t9023, .int .i64 0, .int .i64 0, .slice none 0 0]) ?_ 1 _ rfl; refine blk_put (cs := #[.int .i64 0, .int .i64 0, .int .i64 0, .slice none 0 0]) ?_ 0 _ rfl; (with_reducible repeat (first | refine blk_drewN ?_ _ | refine blk_drew ?_ | refine blk_alloc ?_ _)); exact BK9030.out) hb); replace HB := mk (below_step (by repeat (with_reducible first | exact HB.out | refine below_set ?_ GE9030.out)) hb); (try clear hb); (try clear ho0); obtain ⟨Ao33, co33, eo33⟩ := Kd.R_slice HO9022.out; subst eo33; obtain ⟨Ao34, co34, eo34⟩ := Kd.R_slice HO9033.out; subst eo34) | ((with_reducible refine gate_callee (f := 50) rfl ?_); refine goesL_ (some 35) rfl rfl Try.func50 (by kernel_rfl) rfl #[.slice Ao33 t9020.length co33, .slice Ao34 t9031.length co34] rfl (by (try simp only [List.map_toArray, List.map_cons, List.map_nil]); rfl) ?_; (with_reducible refine (laws_equalInts.calls k _ _ t9020 _ _ t9031 true _ ?side1 ?side2 ?side3 ?side4 A25.out).mono ?_); (case side1 => repeat (exact (Kd.R_reads' HO9022.out).2.2)); (case side2 => exact (Kd.R_reads' HO9022.out).2.1); (case side3 => repeat (exact (Kd.R_reads' HO9033.out).2.2)); (case side4 => exact (Kd.R_reads' HO9033.out).2.1); rintro e w' ⟨rfl, ⟨nd, rfl⟩⟩; refine ⟨_, rfl, ?_⟩))
    go_meet
    case rel => exact ⟨_, (!t9029), (by rfl), H', ⟨by omega⟩, ⟨by (with_reducible repeat (apply Kd.R_drewN)); exact Kd.R_mono HO9022.out (fun _ hk => ⟨hk.1.1.1.2, ⟨hk.1.1.2, hk.1.2⟩⟩)⟩, ⟨by (with_reducible repeat (apply Kd.Q_drewN)); exact Kd.Q_mono HO9006.out (fun _ hk => ⟨hk.1.1.2, ⟨hk.1.1.1, hk.1.2⟩⟩)⟩, ⟨by (with_reducible repeat (apply Kd.Q_drewN)); exact Kd.Q_mono HO9012.out (fun _ hk => ⟨hk.1.1.2, ⟨hk.1.1.1, hk.1.2⟩⟩)⟩, ⟨Kd.Q_of_R (by (with_reducible repeat (apply Kd.R_drewN)); exact Kd.R_mono HO9028.out (fun _ hk => ⟨hk.1.2, ⟨hk.1.1.1.2, hk.1.1.2⟩⟩))⟩, ⟨by (with_reducible repeat (refine blk_drewN ?_ _)); exact BK9018.out⟩, ⟨by (with_reducible repeat (refine blk_drewN ?_ _)); exact BK9019.out⟩, ⟨by (with_reducible repeat (refine blk_drewN ?_ _)); exact BK9030.out⟩, ⟨by repeat (with_reducible first | exact HB.out | apply pw_below_drewN)⟩⟩
   ·replace c26 := Bool.eq_false_iff.mpr c26
    subst c26
    have H1 : (laws_FnDirtyTiles.j0 k t9020 true t9001 t9002 t9003 t9004 t9007 t9008 t9009 t9010 t9013 t9014 t9015 t9016 t9017 t9023 t9024 t9025 t9026) = some r := by rw [if_neg (show ¬ (false = true) by decide)] at H; exact H
    clear H
    have H := H1
    clear H1
    have H' := mk H
    clear H
    have hnb35 := NB9018_9019.out
    have hnc35 := NB9019_9018.out
    have hnb36 := NB9018_9030.out
    have hnc36 := NB9030_9018.out
    have hcz37_0 : w19.cell? ⟨gb9018, 0, none⟩ = some (.int .i64 t9001) := (blk_cell BK9018.out 0).trans rfl
    have hcz37_1 : w19.cell? ⟨gb9018, 1, none⟩ = some (.int .i64 t9002) := (blk_cell BK9018.out 1).trans rfl
    have hcz37_2 : w19.cell? ⟨gb9018, 2, none⟩ = some (.int .i64 t9003) := (blk_cell BK9018.out 2).trans rfl
    have hcz37_3 : w19.cell? ⟨gb9018, 3, none⟩ = some (.slice Ao12 t9004.length co12) := (blk_cell BK9018.out 3).trans rfl
    have hfz37_0 := blk_frozen BK9018.out 0
    have hfz37_1 := blk_frozen BK9018.out 1
    have hfz37_2 := blk_frozen BK9018.out 2
    have hfz37_3 := blk_frozen BK9018.out 3
    have hnb38 := NB9019_9030.out
    have hnc38 := NB9030_9019.out
    have hcz39_0 : w19.cell? ⟨gb9019, 0, none⟩ = some (.int .i64 t9007) := (blk_cell BK9019.out 0).trans rfl
    have hcz39_1 : w19.cell? ⟨gb9019, 1, none⟩ = some (.int .i64 t9008) := (blk_cell BK9019.out 1).trans rfl
    have hcz39_2 : w19.cell? ⟨gb9019, 2, none⟩ = some (.int .i64 t9009) := (blk_cell BK9019.out 2).trans rfl
    have hcz39_3 : w19.cell? ⟨gb9019, 3, none⟩ = some (.slice Ao14 t9010.length co14) := (blk_cell BK9019.out 3).trans rfl
    have hcz39_4 : w19.cell? ⟨gb9019, 4, none⟩ = some (.int .i64 t9013) := (blk_cell BK9019.out 4).trans rfl
    have hcz39_5 : w19.cell? ⟨gb9019, 5, none⟩ = some (.int .i64 t9014) := (blk_cell BK9019.out 5).trans rfl
    have hcz39_6 : w19.cell? ⟨gb9019, 6, none⟩ = some (.int .i64 t9015) := (blk_cell BK9019.out 6).trans rfl
    have hcz39_7 : w19.cell? ⟨gb9019, 7, none⟩ = some (.int .i64 t9016) := (blk_cell BK9019.out 7).trans rfl
    have hcz39_8 : w19.cell? ⟨gb9019, 8, none⟩ = some (.bool t9017) := (blk_cell BK9019.out 8).trans rfl
    have hfz39_0 := blk_frozen BK9019.out 0
    have hfz39_1 := blk_frozen BK9019.out 1
    have hfz39_2 := blk_frozen BK9019.out 2
    have hfz39_3 := blk_frozen BK9019.out 3
    have hfz39_4 := blk_frozen BK9019.out 4
    have hfz39_5 := blk_frozen BK9019.out 5
    have hfz39_6 := blk_frozen BK9019.out 6
    have hfz39_7 := blk_frozen BK9019.out 7
    have hfz39_8 := blk_frozen BK9019.out 8
    go_wp2_with (first | ((with_reducible refine gate_callee (f := 40) rfl ?_); refine goesL_ (some 34) rfl rfl Try.func40 (by kernel_rfl) rfl #[.agg #[.int .i64 t9001, .int .i64 t9002, .int .i64 t9003, .slice Ao12 t9004.length co12], .agg #[.int .i64 t9007, .int .i64 t9008, .int .i64 t9009, .slice Ao14 t9010.length co14, .int .i64 t9013, .int .i64 t9014, .int .i64 t9015, .int .i64 t9016, .bool t9017]] rfl (by (try simp only [List.map_toArray, List.map_cons, List.map_nil]); rfl) ?_; (with_reducible refine (spec_DirtyTiles.calls k t9001 t9002 t9003 _ _ t9004 t9007 t9008 t9009 _ _ t9010 t9013 t9014 t9015 t9016 t9017 t9031 _ ?side1 ?side2 ?side3 ?side4 A24.out).mono ?_); (case side1 => refine (Kd.Q_reads' (e := 3) (base := w.heap.size) (ok := fun k_ => ((some k_ ≠ (.slice Ao14 t9010.length co14 : Value).ownBlock ∧ some k_ ≠ (v9021 : Value).ownBlock) ∧ some k_ ≠ (.slice Ao23 t9026.length co23 : Value).ownBlock)) (n := t9004.length) (c := co12) ?_).2.2; exact (by exact (Kd.Q_mono (Kd.Q_far (p := ⟨gb9030, 3, none⟩) (Kd.Q_far (p := ⟨gb9030, 2, none⟩) (Kd.Q_far (p := ⟨gb9030, 1, none⟩) (Kd.Q_far (p := ⟨gb9030, 0, none⟩) (Kd.Q_types HO9006.out BK9030.out (by decide)) (fun _ hk => hk.2) (.int .i64 t9023)) (fun _ hk => hk.2) (.int .i64 t9024)) (fun _ hk => hk.2) (.int .i64 t9025)) (fun _ hk => hk.2) (.slice Ao23 t9026.length co23)) (fun _ h_ => h_.1)))); (case side2 => exact (Kd.Q_reads' HO9006.out).2.1); (case side3 => refine (Kd.Q_reads' (e := 3) (base := w.heap.size) (ok := fun k_ => ((some k_ ≠ (.slice Ao12 t9004.length co12 : Value).ownBlock ∧ some k_ ≠ (v9021 : Value).ownBlock) ∧ some k_ ≠ (.slice Ao23 t9026.length co23 : Value).ownBlock)) (n := t9010.length) (c := co14) ?_).2.2; exact (by exact (Kd.Q_mono (Kd.Q_far (p := ⟨gb9030, 3, none⟩) (Kd.Q_far (p := ⟨gb9030, 2, none⟩) (Kd.Q_far (p := ⟨gb9030, 1, none⟩) (Kd.Q_far (p := ⟨gb9030, 0, none⟩) (Kd.Q_types HO9012.out BK9030.out (by decide)) (fun _ hk => hk.2) (.int .i64 t9023)) (fun _ hk => hk.2) (.int .i64 t9024)) (fun _ hk => hk.2) (.int .i64 t9025)) (fun _ hk => hk.2) (.slice Ao23 t9026.length co23)) (fun _ h_ => h_.1)))); (case side4 => exact (Kd.Q_reads' HO9012.out).2.1); rintro e w40 ⟨v9032, rfl, ho0, hb⟩; refine ⟨_, rfl, ?_⟩; have HO9033 := mk (Kd.R_lower (Kd.R_new' (Kd.R_new' (Kd.R_new' (Kd.R_new' ho0 (Kd.Q_lt (by exact (Kd.Q_mono (Kd.Q_far (p := ⟨gb9030, 3, none⟩) (Kd.Q_far (p := ⟨gb9030, 2, none⟩) (Kd.Q_far (p := ⟨gb9030, 1, none⟩) (Kd.Q_far (p := ⟨gb9030, 0, none⟩) (Kd.Q_types HO9006.out BK9030.out (by decide)) (fun _ hk => hk.2) (.int .i64 t9023)) (fun _ hk => hk.2) (.int .i64 t9024)) (fun _ hk => hk.2) (.int .i64 t9025)) (fun _ hk => hk.2) (.slice Ao23 t9026.length co23)) (fun _ h_ => h_.1))))) (Kd.Q_lt (by exact (Kd.Q_mono (Kd.Q_far (p := ⟨gb9030, 3, none⟩) (Kd.Q_far (p := ⟨gb9030, 2, none⟩) (Kd.Q_far (p := ⟨gb9030, 1, none⟩) (Kd.Q_far (p := ⟨gb9030, 0, none⟩) (Kd.Q_types HO9012.out BK9030.out (by decide)) (fun _ hk => hk.2) (.int .i64 t9023)) (fun _ hk => hk.2) (.int .i64 t9024)) (fun _ hk => hk.2) (.int .i64 t9025)) (fun _ hk => hk.2) (.slice Ao23 t9026.length co23)) (fun _ h_ => h_.1))))) (Kd.R_lt (by exact (Kd.R_mono (Kd.R_far (p := ⟨gb9030, 3, none⟩) (Kd.R_far (p := ⟨gb9030, 2, none⟩) (Kd.R_far (p := ⟨gb9030, 1, none⟩) (Kd.R_far (p := ⟨gb9030, 0, none⟩) (Kd.R_types HO9022.out BK9030.out (by decide)) (fun _ hk => hk.2) (.int .i64 t9023)) (fun _ hk => hk.2) (.int .i64 t9024)) (fun _ hk => hk.2) (.int .i64 t9025)) (fun _ hk => hk.2) (.slice Ao23 t9026.length co23)) (fun _ h_ => h_.1))))) (Kd.R_lt (by exact (Kd.R_mono (Kd.R_far (p := ⟨gb9030, 3, none⟩) (Kd.R_far (p := ⟨gb9030, 2, none⟩) (Kd.R_far (p := ⟨gb9030, 1, none⟩) (Kd.R_far (p := ⟨gb9030, 0, none⟩) (Kd.R_types HO9028.out BK9030.out (by decide)) (fun _ hk => hk.2) (.int .i64 t9023)) (fun _ hk => hk.2) (.int .i64 t9024)) (fun _ hk => hk.2) (.int .i64 t9025)) (fun _ hk => hk.2) (.slice Ao23 t9026.length co23)) (fun _ h_ => h_.1))))) (below_size (by repeat (with_reducible first | exact HB.out | refine below_set ?_ GE9030.out)))); replace HO9006 := mk (Kd.Q_elder' (by exact (Kd.Q_mono (Kd.Q_far (p := ⟨gb9030, 3, none⟩) (Kd.Q_far (p := ⟨gb9030, 2, none⟩) (Kd.Q_far (p := ⟨gb9030, 1, none⟩) (Kd.Q_far (p := ⟨gb9030, 0, none⟩) (Kd.Q_types HO9006.out BK9030.out (by decide)) (fun _ hk => hk.2) (.int .i64 t9023)) (fun _ hk => hk.2) (.int .i64 t9024)) (fun _ hk => hk.2) (.int .i64 t9025)) (fun _ hk => hk.2) (.slice Ao23 t9026.length co23)) (fun _ h_ => h_.1))) (Kd.R_base ho0) hb); replace HO9012 := mk (Kd.Q_elder' (by exact (Kd.Q_mono (Kd.Q_far (p := ⟨gb9030, 3, none⟩) (Kd.Q_far (p := ⟨gb9030, 2, none⟩) (Kd.Q_far (p := ⟨gb9030, 1, none⟩) (Kd.Q_far (p := ⟨gb9030, 0, none⟩) (Kd.Q_types HO9012.out BK9030.out (by decide)) (fun _ hk => hk.2) (.int .i64 t9023)) (fun _ hk => hk.2) (.int .i64 t9024)) (fun _ hk => hk.2) (.int .i64 t9025)) (fun _ hk => hk.2) (.slice Ao23 t9026.length co23)) (fun _ h_ => h_.1))) (Kd.R_base ho0) hb); replace HO9022 := mk (Kd.R_elder' (by exact (Kd.R_mono (Kd.R_far (p := ⟨gb9030, 3, none⟩) (Kd.R_far (p := ⟨gb9030, 2, none⟩) (Kd.R_far (p := ⟨gb9030, 1, none⟩) (Kd.R_far (p := ⟨gb9030, 0, none⟩) (Kd.R_types HO9022.out BK9030.out (by decide)) (fun _ hk => hk.2) (.int .i64 t9023)) (fun _ hk => hk.2) (.int .i64 t9024)) (fun _ hk => hk.2) (.int .i64 t9025)) (fun _ hk => hk.2) (.slice Ao23 t9026.length co23)) (fun _ h_ => h_.1))) (Kd.R_base ho0) hb); replace HO9028 := mk (Kd.R_elder' (by exact (Kd.R_mono (Kd.R_far (p := ⟨gb9030, 3, none⟩) (Kd.R_far (p := ⟨gb9030, 2, none⟩) (Kd.R_far (p := ⟨gb9030, 1, none⟩) (Kd.R_far (p := ⟨gb9030, 0, none⟩) (Kd.R_types HO9028.out BK9030.out (by decide)) (fun _ hk => hk.2) (.int .i64 t9023)) (fun _ hk => hk.2) (.int .i64 t9024)) (fun _ hk => hk.2) (.int .i64 t9025)) (fun _ hk => hk.2) (.slice Ao23 t9026.length co23)) (fun _ h_ => h_.1))) (Kd.R_base ho0) hb); replace BK9018 := mk (blk_below (g := gb9018) (o := .cells #[.int .i64 t9001, .int .i64 t9002, .int .i64 t9003, .slice Ao12 t9004.length co12] 27 (0, 0)) (by refine blk_far ?_ NB9018_9030.out _; refine blk_far ?_ NB9018_9030.out _; refine blk_far ?_ NB9018_9030.out _; refine blk_far ?_ NB9018_9030.out _; (with_reducible repeat (first | refine blk_drewN ?_ _ | refine blk_drew ?_ | refine blk_alloc ?_ _)); exact BK9018.out) hb); replace BK9019 := mk (blk_below (g := gb9019) (o := .cells #[.int .i64 t9007, .int .i64 t9008, .int .i64 t9009, .slice Ao14 t9010.length co14, .int .i64 t9013, .int .i64 t9014, .int .i64 t9015, .int .i64 t9016, .bool t9017] 55 (0, 0)) (by refine blk_far ?_ NB9019_9030.out _; refine blk_far ?_ NB9019_9030.out _; refine blk_far ?_ NB9019_9030.out _; refine blk_far ?_ NB9019_9030.out _; (with_reducible repeat (first | refine blk_drewN ?_ _ | refine blk_drew ?_ | refine blk_alloc ?_ _)); exact BK9019.out) hb); replace BK9030 := mk (blk_below (g := gb9030) (o := .cells #[.int .i64 t9023, .int .i64 t9024, .int .i64 t9025, .slice Ao23 t9026.length co23] 27 (0, 0)) (by refine blk_put (cs := #[.int .i64 t9023, .int .i64 t9024, .int .i64 t9025, .slice none 0 0]) ?_ 3 _ rfl; refine blk_put (cs := #[.int .i64 t9023, .int .i64 t9024, .int .i64 0, .slice none 0 0]) ?_ 2 _ rfl; refine blk_put (cs := #[.int .i64 t9023, .int .i64 0, .int .i64 0, .slice none 0 0]) ?_ 1 _ rfl; refine blk_put (cs := #[.int .i64 0, .int .i64 0, .int .i64 0, .slice none 0 0]) ?_ 0 _ rfl; (with_reducible repeat (first | refine blk_drewN ?_ _ | refine blk_drew ?_ | refine blk_alloc ?_ _)); exact BK9030.out) hb); replace HB := mk (below_step (by repeat (with_reducible first | exact HB.out | refine below_set ?_ GE9030.out)) hb); (try clear hb); (try clear ho0); obtain ⟨Ao41, co41, eo41⟩ := Kd.R_slice HO9022.out; subst eo41; obtain ⟨Ao42, co42, eo42⟩ := Kd.R_slice HO9033.out; subst eo42) | ((with_reducible refine gate_callee (f := 50) rfl ?_); refine goesL_ (some 35) rfl rfl Try.func50 (by kernel_rfl) rfl #[.slice Ao41 t9020.length co41, .slice Ao42 t9031.length co42] rfl (by (try simp only [List.map_toArray, List.map_cons, List.map_nil]); rfl) ?_; (with_reducible refine (laws_equalInts.calls k _ _ t9020 _ _ t9031 false _ ?side1 ?side2 ?side3 ?side4 A25.out).mono ?_); (case side1 => repeat (exact (Kd.R_reads' HO9022.out).2.2)); (case side2 => exact (Kd.R_reads' HO9022.out).2.1); (case side3 => repeat (exact (Kd.R_reads' HO9033.out).2.2)); (case side4 => exact (Kd.R_reads' HO9033.out).2.1); rintro e w' ⟨rfl, ⟨nd, rfl⟩⟩; refine ⟨_, rfl, ?_⟩))
    go_meet
    case rel => exact ⟨_, (true), (by rfl), H', ⟨by omega⟩, ⟨by (with_reducible repeat (apply Kd.R_drewN)); exact Kd.R_mono HO9022.out (fun _ hk => ⟨hk.1.1.1.2, ⟨hk.1.1.2, hk.1.2⟩⟩)⟩, ⟨by (with_reducible repeat (apply Kd.Q_drewN)); exact Kd.Q_mono HO9006.out (fun _ hk => ⟨hk.1.1.2, ⟨hk.1.1.1, hk.1.2⟩⟩)⟩, ⟨by (with_reducible repeat (apply Kd.Q_drewN)); exact Kd.Q_mono HO9012.out (fun _ hk => ⟨hk.1.1.2, ⟨hk.1.1.1, hk.1.2⟩⟩)⟩, ⟨Kd.Q_of_R (by (with_reducible repeat (apply Kd.R_drewN)); exact Kd.R_mono HO9028.out (fun _ hk => ⟨hk.1.2, ⟨hk.1.1.1.2, hk.1.1.2⟩⟩))⟩, ⟨by (with_reducible repeat (refine blk_drewN ?_ _)); exact BK9018.out⟩, ⟨by (with_reducible repeat (refine blk_drewN ?_ _)); exact BK9019.out⟩, ⟨by (with_reducible repeat (refine blk_drewN ?_ _)); exact BK9030.out⟩, ⟨by repeat (with_reducible first | exact HB.out | apply pw_below_drewN)⟩⟩
  case rest =>
   clear HC6
   try clear c1
   try clear c2
   try clear c2b0
   try clear c2b1
   try clear p2
   try clear c3
   try clear c4
   try clear c5
   try clear c8
   try clear c10
   try clear c20
   try clear c21
   try clear c26
   try clear c27
   try clear c28
   try clear c30
   try clear c35
   try clear c36
   try clear c38
   try clear c40
   try clear c42
   try clear hcz11_0
   try clear hcz11_1
   try clear hcz11_2
   try clear hcz11_3
   try clear hcz13_0
   try clear hcz13_1
   try clear hcz13_2
   try clear hcz13_3
   try clear hcz13_4
   try clear hcz13_5
   try clear hcz13_6
   try clear hcz13_7
   try clear hcz13_8
   try clear hcz16_0
   try clear hcz16_1
   try clear hcz16_2
   try clear hcz16_3
   try clear hcz17_0
   try clear hcz17_1
   try clear hcz17_2
   try clear hcz17_3
   try clear hcz17_4
   try clear hcz17_5
   try clear hcz17_6
   try clear hcz17_7
   try clear hcz17_8
   try clear hcz22_0
   try clear hcz22_1
   try clear hcz22_2
   try clear hcz22_3
   try clear hcz29_0
   try clear hcz29_1
   try clear hcz29_2
   try clear hcz29_3
   try clear hcz31_0
   try clear hcz31_1
   try clear hcz31_2
   try clear hcz31_3
   try clear hcz31_4
   try clear hcz31_5
   try clear hcz31_6
   try clear hcz31_7
   try clear hcz31_8
   try clear hcz37_0
   try clear hcz37_1
   try clear hcz37_2
   try clear hcz37_3
   try clear hcz39_0
   try clear hcz39_1
   try clear hcz39_2
   try clear hcz39_3
   try clear hcz39_4
   try clear hcz39_5
   try clear hcz39_6
   try clear hcz39_7
   try clear hcz39_8
   try clear hfz11_0
   try clear hfz11_1
   try clear hfz11_2
   try clear hfz11_3
   try clear hfz13_0
   try clear hfz13_1
   try clear hfz13_2
   try clear hfz13_3
   try clear hfz13_4
   try clear hfz13_5
   try clear hfz13_6
   try clear hfz13_7
   try clear hfz13_8
   try clear hfz16_0
   try clear hfz16_1
   try clear hfz16_2
   try clear hfz16_3
   try clear hfz17_0
   try clear hfz17_1
   try clear hfz17_2
   try clear hfz17_3
   try clear hfz17_4
   try clear hfz17_5
   try clear hfz17_6
   try clear hfz17_7
   try clear hfz17_8
   try clear hfz22_0
   try clear hfz22_1
   try clear hfz22_2
   try clear hfz22_3
   try clear hfz29_0
   try clear hfz29_1
   try clear hfz29_2
   try clear hfz29_3
   try clear hfz31_0
   try clear hfz31_1
   try clear hfz31_2
   try clear hfz31_3
   try clear hfz31_4
   try clear hfz31_5
   try clear hfz31_6
   try clear hfz31_7
   try clear hfz31_8
   try clear hfz37_0
   try clear hfz37_1
   try clear hfz37_2
   try clear hfz37_3
   try clear hfz39_0
   try clear hfz39_1
   try clear hfz39_2
   try clear hfz39_3
   try clear hfz39_4
   try clear hfz39_5
   try clear hfz39_6
   try clear hfz39_7
   try clear hfz39_8
   obtain ⟨kq, x40_5, rfl, HA, HJ5, HO_5, HOz0, HOz2, HOz1, BK9018, BK9019, BK9030, HB⟩ := hcut
   cases kq with
   | zero => exact absurd HA.out (by simp [laws_FnDirtyTiles.j0])
   | succ kj5 =>
    have H := HA.out
    clear HA
    simp only [laws_FnDirtyTiles.j0] at H
    by_cases c43 : x40_5 = true
    ·subst c43
     have H1 : ((spec_DirtyTiles.f kj5 t9001 t9002 t9003 t9004 t9007 t9008 t9009 t9010 t9013 t9014 t9015 t9016 t9017).bind fun t9035 => ((laws_equalInts.f kj5 t9020 t9035).bind fun t9038 => (some t9038))) = some r := by rw [if_pos rfl] at H; exact H
     clear H
     have H := H1
     clear H1
     replace H := Option.bind_eq_some_iff.mp H
     obtain ⟨t9035, A440, H⟩ := H
     replace H : ((laws_equalInts.f kj5 t9020 t9035).bind fun t9038 => (some t9038)) = some r := H
     have A44 := mk A440
     clear A440
     replace H := Option.bind_eq_some_iff.mp H
     obtain ⟨t9038, A450, H⟩ := H
     replace H : (some t9038) = some r := H
     have A45 := mk A450
     clear A450
     obtain rfl := Option.some.inj H
     have hnb46 := NB9018_9019.out
     have hnc46 := NB9019_9018.out
     have hnb47 := NB9018_9030.out
     have hnc47 := NB9030_9018.out
     have hcz48_0 : wc.cell? ⟨gb9018, 0, none⟩ = some (.int .i64 t9001) := (blk_cell BK9018.out 0).trans rfl
     have hcz48_1 : wc.cell? ⟨gb9018, 1, none⟩ = some (.int .i64 t9002) := (blk_cell BK9018.out 1).trans rfl
     have hcz48_2 : wc.cell? ⟨gb9018, 2, none⟩ = some (.int .i64 t9003) := (blk_cell BK9018.out 2).trans rfl
     have hcz48_3 : wc.cell? ⟨gb9018, 3, none⟩ = some (.slice Ao12 t9004.length co12) := (blk_cell BK9018.out 3).trans rfl
     have hfz48_0 := blk_frozen BK9018.out 0
     have hfz48_1 := blk_frozen BK9018.out 1
     have hfz48_2 := blk_frozen BK9018.out 2
     have hfz48_3 := blk_frozen BK9018.out 3
     have hnb49 := NB9019_9030.out
     have hnc49 := NB9030_9019.out
     have hcz50_0 : wc.cell? ⟨gb9019, 0, none⟩ = some (.int .i64 t9007) := (blk_cell BK9019.out 0).trans rfl
     have hcz50_1 : wc.cell? ⟨gb9019, 1, none⟩ = some (.int .i64 t9008) := (blk_cell BK9019.out 1).trans rfl
     have hcz50_2 : wc.cell? ⟨gb9019, 2, none⟩ = some (.int .i64 t9009) := (blk_cell BK9019.out 2).trans rfl
     have hcz50_3 : wc.cell? ⟨gb9019, 3, none⟩ = some (.slice Ao14 t9010.length co14) := (blk_cell BK9019.out 3).trans rfl
     have hcz50_4 : wc.cell? ⟨gb9019, 4, none⟩ = some (.int .i64 t9013) := (blk_cell BK9019.out 4).trans rfl
     have hcz50_5 : wc.cell? ⟨gb9019, 5, none⟩ = some (.int .i64 t9014) := (blk_cell BK9019.out 5).trans rfl
     have hcz50_6 : wc.cell? ⟨gb9019, 6, none⟩ = some (.int .i64 t9015) := (blk_cell BK9019.out 6).trans rfl
     have hcz50_7 : wc.cell? ⟨gb9019, 7, none⟩ = some (.int .i64 t9016) := (blk_cell BK9019.out 7).trans rfl
     have hcz50_8 : wc.cell? ⟨gb9019, 8, none⟩ = some (.bool t9017) := (blk_cell BK9019.out 8).trans rfl
     have hfz50_0 := blk_frozen BK9019.out 0
     have hfz50_1 := blk_frozen BK9019.out 1
     have hfz50_2 := blk_frozen BK9019.out 2
     have hfz50_3 := blk_frozen BK9019.out 3
     have hfz50_4 := blk_frozen BK9019.out 4
     have hfz50_5 := blk_frozen BK9019.out 5
     have hfz50_6 := blk_frozen BK9019.out 6
     have hfz50_7 := blk_frozen BK9019.out 7
     have hfz50_8 := blk_frozen BK9019.out 8
     go_wp2_with (first | ((with_reducible refine gate_callee (f := 40) rfl ?_); refine goesL_ (some 44) rfl rfl Try.func40 (by kernel_rfl) rfl #[.agg #[.int .i64 t9001, .int .i64 t9002, .int .i64 t9003, .slice Ao12 t9004.length co12], .agg #[.int .i64 t9007, .int .i64 t9008, .int .i64 t9009, .slice Ao14 t9010.length co14, .int .i64 t9013, .int .i64 t9014, .int .i64 t9015, .int .i64 t9016, .bool t9017]] rfl (by (try simp only [List.map_toArray, List.map_cons, List.map_nil]); rfl) ?_; (with_reducible refine (spec_DirtyTiles.calls kj5 t9001 t9002 t9003 _ _ t9004 t9007 t9008 t9009 _ _ t9010 t9013 t9014 t9015 t9016 t9017 t9035 _ ?side1 ?side2 ?side3 ?side4 A44.out).mono ?_); (case side1 => repeat (exact (Kd.Q_reads' HOz0.out).2.2)); (case side2 => exact (Kd.Q_reads' HOz0.out).2.1); (case side3 => repeat (exact (Kd.Q_reads' HOz2.out).2.2)); (case side4 => exact (Kd.Q_reads' HOz2.out).2.1); rintro e w51 ⟨v9036, rfl, ho0, hb⟩; refine ⟨_, rfl, ?_⟩; have HO9037 := mk (Kd.R_lower (Kd.R_new' (Kd.R_new' (Kd.R_new' (Kd.R_new' ho0 (Kd.R_lt HO_5.out)) (Kd.Q_lt HOz0.out)) (Kd.Q_lt HOz2.out)) (Kd.Q_lt HOz1.out)) (below_size HB.out)); replace HO_5 := mk (Kd.R_elder' HO_5.out (Kd.R_base ho0) hb); replace HOz0 := mk (Kd.Q_elder' HOz0.out (Kd.R_base ho0) hb); replace HOz2 := mk (Kd.Q_elder' HOz2.out (Kd.R_base ho0) hb); replace HOz1 := mk (Kd.Q_elder' HOz1.out (Kd.R_base ho0) hb); replace BK9018 := mk (blk_below BK9018.out hb); replace BK9019 := mk (blk_below BK9019.out hb); replace BK9030 := mk (blk_below BK9030.out hb); replace HB := mk (below_step HB.out hb); (try clear hb); (try clear ho0); obtain ⟨Ao52, co52, eo52⟩ := Kd.R_slice HO_5.out; subst eo52; obtain ⟨Ao53, co53, eo53⟩ := Kd.R_slice HO9037.out; subst eo53) | ((with_reducible refine gate_callee (f := 50) rfl ?_); refine goesL_ (some 45) rfl rfl Try.func50 (by kernel_rfl) rfl #[.slice Ao52 t9020.length co52, .slice Ao53 t9035.length co53] rfl (by (try simp only [List.map_toArray, List.map_cons, List.map_nil]); rfl) ?_; (with_reducible refine (laws_equalInts.calls kj5 _ _ t9020 _ _ t9035 t9038 _ ?side1 ?side2 ?side3 ?side4 A45.out).mono ?_); (case side1 => repeat (exact (Kd.R_reads' HO_5.out).2.2)); (case side2 => exact (Kd.R_reads' HO_5.out).2.1); (case side3 => repeat (exact (Kd.R_reads' HO9037.out).2.2)); (case side4 => exact (Kd.R_reads' HO9037.out).2.1); rintro e w' ⟨rfl, ⟨nd, rfl⟩⟩; refine ⟨_, rfl, ?_⟩))
     go_ret
     exact ⟨by rfl, by repeat (with_reducible first | exact HB.out | apply pw_below_drewN)⟩
    ·replace c43 := Bool.eq_false_iff.mpr c43
     subst c43
     have H1 : ((impl_TileBoxes.f kj5 t9001 t9002 t9003 t9004).bind fun t9039 => (laws_FnDirtyTiles.l0 kj5 t9020 t9039 0 t9001 t9002 t9003 t9004 t9023 t9024 t9025 t9026)) = some r := by rw [if_neg (show ¬ (false = true) by decide)] at H; exact H
     clear H
     have H := H1
     clear H1
     replace H := Option.bind_eq_some_iff.mp H
     obtain ⟨t9039, A540, H⟩ := H
     replace H : (laws_FnDirtyTiles.l0 kj5 t9020 t9039 0 t9001 t9002 t9003 t9004 t9023 t9024 t9025 t9026) = some r := H
     have A54 := mk A540
     clear A540
     have H' := mk H
     clear H
     have hnb55 := NB9018_9019.out
     have hnc55 := NB9019_9018.out
     have hnb56 := NB9018_9030.out
     have hnc56 := NB9030_9018.out
     have hcz57_0 : wc.cell? ⟨gb9018, 0, none⟩ = some (.int .i64 t9001) := (blk_cell BK9018.out 0).trans rfl
     have hcz57_1 : wc.cell? ⟨gb9018, 1, none⟩ = some (.int .i64 t9002) := (blk_cell BK9018.out 1).trans rfl
     have hcz57_2 : wc.cell? ⟨gb9018, 2, none⟩ = some (.int .i64 t9003) := (blk_cell BK9018.out 2).trans rfl
     have hcz57_3 : wc.cell? ⟨gb9018, 3, none⟩ = some (.slice Ao12 t9004.length co12) := (blk_cell BK9018.out 3).trans rfl
     have hfz57_0 := blk_frozen BK9018.out 0
     have hfz57_1 := blk_frozen BK9018.out 1
     have hfz57_2 := blk_frozen BK9018.out 2
     have hfz57_3 := blk_frozen BK9018.out 3
     go_wp2_with (first | ((with_reducible refine gate_callee (f := 29) rfl ?_); refine goesL_ (some 47) rfl rfl Try.func29 (by kernel_rfl) rfl #[.agg #[.int .i64 t9001, .int .i64 t9002, .int .i64 t9003, .slice Ao12 t9004.length co12]] rfl (by (try simp only [List.map_toArray, List.map_cons, List.map_nil]); rfl) ?_; (with_reducible refine (impl_TileBoxes.calls kj5 t9001 t9002 t9003 _ _ t9004 t9039 _ ?side1 ?side2 A54.out).mono ?_); (case side1 => repeat (exact (Kd.Q_reads' HOz0.out).2.2)); (case side2 => exact (Kd.Q_reads' HOz0.out).2.1); rintro e w58 ⟨v9040, rfl, ho0, hb⟩; refine ⟨_, rfl, ?_⟩; replace HO_5 := mk (Kd.R_below HO_5.out hb); replace HOz0 := mk (Kd.Q_below HOz0.out hb); replace HOz2 := mk (Kd.Q_below HOz2.out hb); replace HOz1 := mk (Kd.Q_below HOz1.out hb); have HO9041 := mk (Kd.R_lower ho0 (below_size HB.out)); replace BK9018 := mk (blk_below BK9018.out hb); replace BK9019 := mk (blk_below BK9019.out hb); replace BK9030 := mk (blk_below BK9030.out hb); replace HB := mk (below_step HB.out hb); (try clear hb); (try clear ho0)))
     go_loopg [9] kj5 (fun kq v9 w' => ∃ (x9_2 : Int), v9 = .int .i64 x9_2 ∧ Aside0 (laws_FnDirtyTiles.l0 kq t9020 t9039 x9_2 t9001 t9002 t9003 t9004 t9023 t9024 t9025 t9026 = some r) ∧ Aside0 (kq ≤ kj5) ∧ Aside0 (Kd.R (Kd.int .i64) 3 w' w.heap.size (fun k_ => some k_ ≠ ((.slice Ao12 t9004.length co12) : Value).ownBlock ∧ some k_ ≠ ((.slice Ao14 t9010.length co14) : Value).ownBlock ∧ some k_ ≠ ((.slice Ao23 t9026.length co23) : Value).ownBlock) v9021 t9020) ∧ Aside0 (Kd.R k47 47 w' w.heap.size (fun _ => True) v9040 t9039) ∧ Aside0 (Kd.Q (Kd.int .i64) 3 w' w.heap.size (fun k_ => some k_ ≠ (v9021 : Value).ownBlock ∧ some k_ ≠ ((.slice Ao14 t9010.length co14) : Value).ownBlock ∧ some k_ ≠ ((.slice Ao23 t9026.length co23) : Value).ownBlock) (.slice Ao12 t9004.length co12) t9004) ∧ Aside0 (Kd.Q (Kd.int .i64) 3 w' w.heap.size (fun k_ => some k_ ≠ (v9021 : Value).ownBlock ∧ some k_ ≠ ((.slice Ao12 t9004.length co12) : Value).ownBlock ∧ some k_ ≠ ((.slice Ao23 t9026.length co23) : Value).ownBlock) (.slice Ao14 t9010.length co14) t9010) ∧ Aside0 (Kd.Q (Kd.int .i64) 3 w' w.heap.size (fun k_ => some k_ ≠ (v9021 : Value).ownBlock ∧ some k_ ≠ ((.slice Ao12 t9004.length co12) : Value).ownBlock ∧ some k_ ≠ ((.slice Ao14 t9010.length co14) : Value).ownBlock) (.slice Ao23 t9026.length co23) t9026) ∧ Aside0 (w'.heap[gb9018]? = some (.cells #[.int .i64 t9001, .int .i64 t9002, .int .i64 t9003, (.slice Ao12 t9004.length co12)] 27 (0, 0))) ∧ Aside0 (w'.heap[gb9019]? = some (.cells #[.int .i64 t9007, .int .i64 t9008, .int .i64 t9009, (.slice Ao14 t9010.length co14), .int .i64 t9013, .int .i64 t9014, .int .i64 t9015, .int .i64 t9016, .bool t9017] 55 (0, 0))) ∧ Aside0 (w'.heap[gb9030]? = some (.cells #[.int .i64 t9023, .int .i64 t9024, .int .i64 t9025, (.slice Ao23 t9026.length co23)] 27 (0, 0))) ∧ Aside0 (Below w.heap.size w w'))
     case atStart => exact ⟨(0), (by rfl), H', ⟨Nat.le_refl _⟩, ⟨by (with_reducible repeat (first | apply Kd.R_alloc | apply Kd.R_drewN | apply Kd.R_drew)); exact HO_5.out⟩, ⟨by (with_reducible repeat (first | apply Kd.R_alloc | apply Kd.R_drewN | apply Kd.R_drew)); exact HO9041.out⟩, ⟨by (with_reducible repeat (first | apply Kd.Q_alloc | apply Kd.Q_drewN | apply Kd.Q_drew)); exact HOz0.out⟩, ⟨by (with_reducible repeat (first | apply Kd.Q_alloc | apply Kd.Q_drewN | apply Kd.Q_drew)); exact HOz2.out⟩, ⟨by (with_reducible repeat (first | apply Kd.Q_alloc | apply Kd.Q_drewN | apply Kd.Q_drew)); exact HOz1.out⟩, ⟨by (with_reducible repeat (first | refine blk_drewN ?_ _ | refine blk_drew ?_ | refine blk_alloc ?_ _)); exact BK9018.out⟩, ⟨by (with_reducible repeat (first | refine blk_drewN ?_ _ | refine blk_drew ?_ | refine blk_alloc ?_ _)); exact BK9019.out⟩, ⟨by (with_reducible repeat (first | refine blk_drewN ?_ _ | refine blk_drew ?_ | refine blk_alloc ?_ _)); exact BK9030.out⟩, ⟨by exact HB.out⟩⟩
     case round =>
      clear H'
      try clear c1
      try clear c2
      try clear c2b0
      try clear c2b1
      try clear p2
      try clear c3
      try clear c4
      try clear c5
      try clear c8
      try clear c10
      try clear c20
      try clear c21
      try clear c26
      try clear c27
      try clear c28
      try clear c29
      try clear c30
      try clear c35
      try clear c36
      try clear c38
      try clear c40
      try clear c42
      try clear c43
      try clear c46
      try clear c47
      try clear c48
      try clear c49
      try clear c50
      try clear c55
      try clear c56
      try clear hcz11_0
      try clear hcz11_1
      try clear hcz11_2
      try clear hcz11_3
      try clear hcz13_0
      try clear hcz13_1
      try clear hcz13_2
      try clear hcz13_3
      try clear hcz13_4
      try clear hcz13_5
      try clear hcz13_6
      try clear hcz13_7
      try clear hcz13_8
      try clear hcz16_0
      try clear hcz16_1
      try clear hcz16_2
      try clear hcz16_3
      try clear hcz17_0
      try clear hcz17_1
      try clear hcz17_2
      try clear hcz17_3
      try clear hcz17_4
      try clear hcz17_5
      try clear hcz17_6
      try clear hcz17_7
      try clear hcz17_8
      try clear hcz22_0
      try clear hcz22_1
      try clear hcz22_2
      try clear hcz22_3
      try clear hcz29_0
      try clear hcz29_1
      try clear hcz29_2
      try clear hcz29_3
      try clear hcz31_0
      try clear hcz31_1
      try clear hcz31_2
      try clear hcz31_3
      try clear hcz31_4
      try clear hcz31_5
      try clear hcz31_6
      try clear hcz31_7
      try clear hcz31_8
      try clear hcz37_0
      try clear hcz37_1
      try clear hcz37_2
      try clear hcz37_3
      try clear hcz39_0
      try clear hcz39_1
      try clear hcz39_2
      try clear hcz39_3
      try clear hcz39_4
      try clear hcz39_5
      try clear hcz39_6
      try clear hcz39_7
      try clear hcz39_8
      try clear hcz48_0
      try clear hcz48_1
      try clear hcz48_2
      try clear hcz48_3
      try clear hcz50_0
      try clear hcz50_1
      try clear hcz50_2
      try clear hcz50_3
      try clear hcz50_4
      try clear hcz50_5
      try clear hcz50_6
      try clear hcz50_7
      try clear hcz50_8
      try clear hcz57_0
      try clear hcz57_1
      try clear hcz57_2
      try clear hcz57_3
      try clear hfz11_0
      try clear hfz11_1
      try clear hfz11_2
      try clear hfz11_3
      try clear hfz13_0
      try clear hfz13_1
      try clear hfz13_2
      try clear hfz13_3
      try clear hfz13_4
      try clear hfz13_5
      try clear hfz13_6
      try clear hfz13_7
      try clear hfz13_8
      try clear hfz16_0
      try clear hfz16_1
      try clear hfz16_2
      try clear hfz16_3
      try clear hfz17_0
      try clear hfz17_1
      try clear hfz17_2
      try clear hfz17_3
      try clear hfz17_4
      try clear hfz17_5
      try clear hfz17_6
      try clear hfz17_7
      try clear hfz17_8
      try clear hfz22_0
      try clear hfz22_1
      try clear hfz22_2
      try clear hfz22_3
      try clear hfz29_0
      try clear hfz29_1
      try clear hfz29_2
      try clear hfz29_3
      try clear hfz31_0
      try clear hfz31_1
      try clear hfz31_2
      try clear hfz31_3
      try clear hfz31_4
      try clear hfz31_5
      try clear hfz31_6
      try clear hfz31_7
      try clear hfz31_8
      try clear hfz37_0
      try clear hfz37_1
      try clear hfz37_2
      try clear hfz37_3
      try clear hfz39_0
      try clear hfz39_1
      try clear hfz39_2
      try clear hfz39_3
      try clear hfz39_4
      try clear hfz39_5
      try clear hfz39_6
      try clear hfz39_7
      try clear hfz39_8
      try clear hfz48_0
      try clear hfz48_1
      try clear hfz48_2
      try clear hfz48_3
      try clear hfz50_0
      try clear hfz50_1
      try clear hfz50_2
      try clear hfz50_3
      try clear hfz50_4
      try clear hfz50_5
      try clear hfz50_6
      try clear hfz50_7
      try clear hfz50_8
      try clear hfz57_0
      try clear hfz57_1
      try clear hfz57_2
      try clear hfz57_3
      try clear p2
      obtain ⟨x9_2, rfl, HA, HK2, HO_5, HO_8, HOz0, HOz2, HOz1, BK9018, BK9019, BK9030, HB⟩ := hrel
      cases gk with
      | zero => exact absurd HA.out (by simp [laws_FnDirtyTiles.l0])
      | succ k2 =>
       have H := HA.out
       clear HA
       simp only [laws_FnDirtyTiles.l0] at H
       by_cases c59 : x9_2 < (t9039.length : Int)
       ·rw [if_pos c59] at H
        have c59b0 : decide (x9_2 < (t9039.length : Int)) = true := decide_eq_true c59
        clear c59
        by_cases c60 : 0 ≤ x9_2
        ·rw [if_pos c60] at H
         have c60b0 : decide (0 ≤ x9_2) = true := decide_eq_true c60
         clear c60
         replace H := Option.bind_eq_some_iff.mp H
         obtain ⟨⟨t9043, t9044, t9045, t9046, t9049⟩, A610, H⟩ := H
         replace H : ((impl_CropImage.f t9023 t9024 t9025 t9026 ((rd_T47 t9039 x9_2).f0) ((rd_T47 t9039 x9_2).f1) ((rd_T47 t9039 x9_2).f2) ((rd_T47 t9039 x9_2).f3)).bind fun bt9052 => (if t9049 = true then (if bt9052.2.2.2.2 = true then ((laws_isIn.f k2 t9020 x9_2).bind fun t9060 => (if t9060 = true then (laws_FnDirtyTiles.l0 k2 t9020 t9039 (wrap64 (x9_2 + 1)) t9001 t9002 t9003 t9004 t9023 t9024 t9025 t9026) else ((laws_equalImage.f k2 t9043 t9044 t9045 t9046 bt9052.1 bt9052.2.1 bt9052.2.2.1 bt9052.2.2.2.1).bind fun t9061 => (if t9061 = true then (laws_FnDirtyTiles.l0 k2 t9020 t9039 (wrap64 (x9_2 + 1)) t9001 t9002 t9003 t9004 t9023 t9024 t9025 t9026) else (some false))))) else (some false)) else (some false))) = some r := H
         have A61 := mk A610
         clear A610
         replace H := Option.bind_eq_some_iff.mp H
         obtain ⟨⟨t9052, t9053, t9054, t9055, t9058⟩, A620, H⟩ := H
         replace H : (if t9049 = true then (if t9058 = true then ((laws_isIn.f k2 t9020 x9_2).bind fun t9060 => (if t9060 = true then (laws_FnDirtyTiles.l0 k2 t9020 t9039 (wrap64 (x9_2 + 1)) t9001 t9002 t9003 t9004 t9023 t9024 t9025 t9026) else ((laws_equalImage.f k2 t9043 t9044 t9045 t9046 t9052 t9053 t9054 t9055).bind fun t9061 => (if t9061 = true then (laws_FnDirtyTiles.l0 k2 t9020 t9039 (wrap64 (x9_2 + 1)) t9001 t9002 t9003 t9004 t9023 t9024 t9025 t9026) else (some false))))) else (some false)) else (some false)) = some r := H
         have A62 := mk A620
         clear A620
         by_cases c63 : t9049 = true
         ·subst c63
          have H1 : (if t9058 = true then ((laws_isIn.f k2 t9020 x9_2).bind fun t9060 => (if t9060 = true then (laws_FnDirtyTiles.l0 k2 t9020 t9039 (wrap64 (x9_2 + 1)) t9001 t9002 t9003 t9004 t9023 t9024 t9025 t9026) else ((laws_equalImage.f k2 t9043 t9044 t9045 t9046 t9052 t9053 t9054 t9055).bind fun t9061 => (if t9061 = true then (laws_FnDirtyTiles.l0 k2 t9020 t9039 (wrap64 (x9_2 + 1)) t9001 t9002 t9003 t9004 t9023 t9024 t9025 t9026) else (some false))))) else (some false)) = some r := by rw [if_pos rfl] at H; exact H
          clear H
          have H := H1
          clear H1
          by_cases c64 : t9058 = true
          ·subst c64
           have H1 : ((laws_isIn.f k2 t9020 x9_2).bind fun t9060 => (if t9060 = true then (laws_FnDirtyTiles.l0 k2 t9020 t9039 (wrap64 (x9_2 + 1)) t9001 t9002 t9003 t9004 t9023 t9024 t9025 t9026) else ((laws_equalImage.f k2 t9043 t9044 t9045 t9046 t9052 t9053 t9054 t9055).bind fun t9061 => (if t9061 = true then (laws_FnDirtyTiles.l0 k2 t9020 t9039 (wrap64 (x9_2 + 1)) t9001 t9002 t9003 t9004 t9023 t9024 t9025 t9026) else (some false))))) = some r := by rw [if_pos rfl] at H; exact H
           clear H
           have H := H1
           clear H1
           replace H := Option.bind_eq_some_iff.mp H
           obtain ⟨t9060, A650, H⟩ := H
           replace H : (if t9060 = true then (laws_FnDirtyTiles.l0 k2 t9020 t9039 (wrap64 (x9_2 + 1)) t9001 t9002 t9003 t9004 t9023 t9024 t9025 t9026) else ((laws_equalImage.f k2 t9043 t9044 t9045 t9046 t9052 t9053 t9054 t9055).bind fun t9061 => (if t9061 = true then (laws_FnDirtyTiles.l0 k2 t9020 t9039 (wrap64 (x9_2 + 1)) t9001 t9002 t9003 t9004 t9023 t9024 t9025 t9026) else (some false)))) = some r := H
           have A65 := mk A650
           clear A650
           by_cases c66 : t9060 = true
           ·subst c66
            have H1 : (laws_FnDirtyTiles.l0 k2 t9020 t9039 (wrap64 (x9_2 + 1)) t9001 t9002 t9003 t9004 t9023 t9024 t9025 t9026) = some r := by rw [if_pos rfl] at H; exact H
            clear H
            have H := H1
            clear H1
            have H' := mk H
            clear H
            obtain ⟨Ao67, co67, eo67⟩ := Kd.R_slice HO_8.out
            subst eo67
            try go_wp2
            have n0_ := mk (Kd.R_drew HO_5.out)
            have n1_ := mk (Kd.R_drew HO_8.out)
            have n2_ := mk (Kd.Q_drew HOz0.out)
            have n3_ := mk (Kd.Q_drew HOz2.out)
            have n4_ := mk (Kd.Q_drew HOz1.out)
            have n5_ := mk (blk_drew BK9018.out)
            have n6_ := mk (blk_drew BK9019.out)
            have n7_ := mk (blk_drew BK9030.out)
            have n8_ := mk (below_drew1 HB.out)
            clear HO_5 HO_8 HOz0 HOz2 HOz1 BK9018 BK9019 BK9030 HB
            revert n0_ n1_ n2_ n3_ n4_ n5_ n6_ n7_ n8_; intro HO_5 HO_8 HOz0 HOz2 HOz1 BK9018 BK9019 BK9030 HB
            have p9042 : 0 ≤ (x9_2 : Int) := of_decide_eq_true (by (with_reducible assumption))
            have q9042 : x9_2 < (t9039.length : Int) := of_decide_eq_true (by (with_reducible assumption))
            obtain ⟨ad9042, e9042, hx9042_0, hx9042_1, hx9042_2, hx9042_3⟩ := at_T47 (Kd.R_reads' HO_8.out).2.2 x9_2 p9042 q9042
            cases e9042
            replace p9042 := eq_true p9042
            replace q9042 := eq_true q9042
            refine start_ (n := 12) (S := fun w' => w'.cell? ⟨gb9018, 0, none⟩ = some (.int .i64 t9001) ∧ w'.cell? ⟨gb9018, 1, none⟩ = some (.int .i64 t9002) ∧ w'.cell? ⟨gb9018, 2, none⟩ = some (.int .i64 t9003) ∧ w'.cell? ⟨gb9018, 3, none⟩ = some (.slice Ao12 t9004.length co12) ∧ w'.cell? (ad9042.add ((x9_2).toNat * 4)) = some (.int .i64 ((rd_T47 t9039 x9_2).f0)) ∧ w'.cell? ⟨(ad9042.add ((x9_2).toNat * 4)).block, (ad9042.add ((x9_2).toNat * 4)).off + 1, none⟩ = some (.int .i64 ((rd_T47 t9039 x9_2).f1)) ∧ w'.cell? ⟨(ad9042.add ((x9_2).toNat * 4)).block, (ad9042.add ((x9_2).toNat * 4)).off + 2, none⟩ = some (.int .i64 ((rd_T47 t9039 x9_2).f2)) ∧ w'.cell? ⟨(ad9042.add ((x9_2).toNat * 4)).block, (ad9042.add ((x9_2).toNat * 4)).off + 3, none⟩ = some (.int .i64 ((rd_T47 t9039 x9_2).f3))) (ds := []) #[false, false, false, false, false, false, false, false, false, false, false, false] (by kernel_rfl) rfl rfl ⟨(blk_cell BK9018.out 0).trans rfl, (blk_cell BK9018.out 1).trans rfl, (blk_cell BK9018.out 2).trans rfl, (blk_cell BK9018.out 3).trans rfl, hx9042_0, hx9042_1, hx9042_2, hx9042_3⟩ (fun hHeld => ?_); refine with_tabW laws_FnDirtyTiles.tab12 laws_FnDirtyTiles.bits12 (fun HT_ HW_ => ?_)
            generalize wr.drew = w68 at HO_5 HO_8 HOz0 HOz2 HOz1 BK9018 BK9019 BK9030 HB hx9042_0 hx9042_1 hx9042_2 hx9042_3 hHeld ⊢
            refine pure_ (i := 1) (N := some 56) (v := ?_) (a' := ?_) #[false, true, false, false, false, false, false, false, false, false, false, false] rfl rfl (any_of HT_.out (by kernel_rfl)) (fun _ _ _ h => h) (Or.inl ⟨by rfl, ?_⟩) ?_ ?_
            rotate_left
            ·intro w'
             go_simp
             with_reducible rfl
            rotate_left
            ·simp only [Act.put, List.setIfInBounds_toArray, List.set_cons_zero, List.set_cons_succ, i64_w, i32_w]
             rfl
            refine pure_ (i := 2) (N := some 57) (v := ?_) (a' := ?_) #[false, true, true, false, false, false, false, false, false, false, false, false] rfl rfl (any_of HT_.out (by kernel_rfl)) (fun _ _ _ h => h) (Or.inl ⟨by rfl, ?_⟩) ?_ ?_
            rotate_left
            ·intro w'
             go_simp
             with_reducible rfl
            rotate_left
            ·simp only [Act.put, List.setIfInBounds_toArray, List.set_cons_zero, List.set_cons_succ, i64_w, i32_w]
             rfl
            refine pure_ (i := 3) (N := some 58) (v := ?_) (a' := ?_) #[false, true, true, true, false, false, false, false, false, false, false, false] rfl rfl (any_of HT_.out (by kernel_rfl)) (fun _ _ _ h => h) (Or.inl ⟨by rfl, ?_⟩) ?_ ?_
            rotate_left
            ·intro w'
             go_simp
             with_reducible rfl
            rotate_left
            ·simp only [Act.put, List.setIfInBounds_toArray, List.set_cons_zero, List.set_cons_succ, i64_w, i32_w]
             rfl
            refine take_ (i := 0) (N := some 55) (v := ?_) (a' := ?_) #[true, true, true, true, false, false, false, false, false, false, false, false] rfl rfl (take_ofW HT_.out HW_.out (by kernel_rfl)) (fun _ _ _ h => h) (Or.inl ⟨by rfl, ?_⟩) hHeld ?_ ?_
            rotate_left
            ·rintro w' ⟨s0, s1, s2, s3, s4, s5, s6, s7⟩
             go_simp
             with_reducible rfl
            rotate_left
            ·simp only [Act.put, List.setIfInBounds_toArray, List.set_cons_zero, List.set_cons_succ, i64_w, i32_w]
             rfl
            refine take_ (i := 4) (N := some 59) (v := ?_) (a' := ?_) #[true, true, true, true, true, false, false, false, false, false, false, false] rfl rfl (take_ofW HT_.out HW_.out (by kernel_rfl)) (fun _ _ _ h => h) (Or.inl ⟨by rfl, ?_⟩) hHeld ?_ ?_
            rotate_left
            ·rintro w' ⟨s0, s1, s2, s3, s4, s5, s6, s7⟩
             go_simp
             with_reducible rfl
            rotate_left
            ·simp only [Act.put, List.setIfInBounds_toArray, List.set_cons_zero, List.set_cons_succ, i64_w, i32_w]
             rfl
            refine join_ (σ := Value × Nat) 2 #[true, true, true, true, true, true, true, true, true, true, false, false] (fun s_ => [(60, .tuple #[.agg #[.int .i64 t9043, .int .i64 t9044, .int .i64 t9045, s_.1], .bool true]), (10, .pointer (some ⟨s_.2, 0, none⟩)), (54, .tuple #[.agg #[.int .i64 t9043, .int .i64 t9044, .int .i64 t9045, s_.1], .bool true]), (61, .agg #[.int .i64 t9043, .int .i64 t9044, .int .i64 t9045, s_.1]), (62, .bool true)]) (fun s_ w' => (w'.cell? ⟨gb9018, 0, none⟩ = some (.int .i64 t9001) ∧ w'.cell? ⟨gb9018, 1, none⟩ = some (.int .i64 t9002) ∧ w'.cell? ⟨gb9018, 2, none⟩ = some (.int .i64 t9003) ∧ w'.cell? ⟨gb9018, 3, none⟩ = some (.slice Ao12 t9004.length co12) ∧ w'.cell? (ad9042.add ((x9_2).toNat * 4)) = some (.int .i64 ((rd_T47 t9039 x9_2).f0)) ∧ w'.cell? ⟨(ad9042.add ((x9_2).toNat * 4)).block, (ad9042.add ((x9_2).toNat * 4)).off + 1, none⟩ = some (.int .i64 ((rd_T47 t9039 x9_2).f1)) ∧ w'.cell? ⟨(ad9042.add ((x9_2).toNat * 4)).block, (ad9042.add ((x9_2).toNat * 4)).off + 2, none⟩ = some (.int .i64 ((rd_T47 t9039 x9_2).f2)) ∧ w'.cell? ⟨(ad9042.add ((x9_2).toNat * 4)).block, (ad9042.add ((x9_2).toNat * 4)).off + 3, none⟩ = some (.int .i64 ((rd_T47 t9039 x9_2).f3))) ∧ (Kd.R (Kd.int .i64) 3 w' w.heap.size (fun k_ => some k_ ≠ (v9021 : Value).ownBlock ∧ some k_ ≠ (.slice Ao12 t9004.length co12 : Value).ownBlock ∧ some k_ ≠ (.slice Ao14 t9010.length co14 : Value).ownBlock ∧ some k_ ≠ (.slice Ao23 t9026.length co23 : Value).ownBlock) s_.1 t9046) ∧ (Kd.R (Kd.int .i64) 3 w' w.heap.size (fun k_ => some k_ ≠ (s_.1 : Value).ownBlock ∧ some k_ ≠ (.slice Ao12 t9004.length co12 : Value).ownBlock ∧ some k_ ≠ (.slice Ao14 t9010.length co14 : Value).ownBlock ∧ some k_ ≠ (.slice Ao23 t9026.length co23 : Value).ownBlock) v9021 t9020) ∧ (Kd.R k47 47 w' w.heap.size (fun _ => True) (.slice (some ad9042) t9039.length co67) t9039) ∧ (Kd.Q (Kd.int .i64) 3 w' w.heap.size (fun k_ => some k_ ≠ (s_.1 : Value).ownBlock ∧ some k_ ≠ (v9021 : Value).ownBlock ∧ some k_ ≠ (.slice Ao14 t9010.length co14 : Value).ownBlock ∧ some k_ ≠ (.slice Ao23 t9026.length co23 : Value).ownBlock) (.slice Ao12 t9004.length co12) t9004) ∧ (Kd.Q (Kd.int .i64) 3 w' w.heap.size (fun k_ => some k_ ≠ (s_.1 : Value).ownBlock ∧ some k_ ≠ (v9021 : Value).ownBlock ∧ some k_ ≠ (.slice Ao12 t9004.length co12 : Value).ownBlock ∧ some k_ ≠ (.slice Ao23 t9026.length co23 : Value).ownBlock) (.slice Ao14 t9010.length co14) t9010) ∧ (Kd.Q (Kd.int .i64) 3 w' w.heap.size (fun k_ => some k_ ≠ (s_.1 : Value).ownBlock ∧ some k_ ≠ (v9021 : Value).ownBlock ∧ some k_ ≠ (.slice Ao12 t9004.length co12 : Value).ownBlock ∧ some k_ ≠ (.slice Ao14 t9010.length co14 : Value).ownBlock) (.slice Ao23 t9026.length co23) t9026) ∧ (w'.heap[gb9018]? = some (.cells #[.int .i64 t9001, .int .i64 t9002, .int .i64 t9003, .slice Ao12 t9004.length co12] 27 (0, 0))) ∧ (w'.heap[gb9019]? = some (.cells #[.int .i64 t9007, .int .i64 t9008, .int .i64 t9009, .slice Ao14 t9010.length co14, .int .i64 t9013, .int .i64 t9014, .int .i64 t9015, .int .i64 t9016, .bool t9017] 55 (0, 0))) ∧ (w'.heap[gb9030]? = some (.cells #[.int .i64 t9023, .int .i64 t9024, .int .i64 t9025, .slice Ao23 t9026.length co23] 27 (0, 0))) ∧ (w'.heap[s_.2]? = some (.cells #[.int .i64 0, .int .i64 0, .int .i64 0, .slice none 0 0] 27 (0, 0))) ∧ (w.heap.size ≤ s_.2) ∧ (w.heap.size ≤ s_.2) ∧ (gb9018 ≠ s_.2) ∧ (s_.2 ≠ gb9018) ∧ (gb9019 ≠ s_.2) ∧ (s_.2 ≠ gb9019) ∧ (gb9030 ≠ s_.2) ∧ (s_.2 ≠ gb9030) ∧ (Below w.heap.size w w')) ?_ ?_
            rotate_left
            ·intro hCont
             refine two_ (i := 5) (j := 9) (Ni := some 60) (Nj := some 10) #[true, true, true, true, true, true, false, false, false, false, false, false] #[true, true, true, true, true, false, false, false, false, true, false, false] rfl rfl rfl rfl (two_of HT_.out (by kernel_rfl)) (by decide) (by decide) (fun K hK => ?_) (fun K hK => ?_)
             ·skip
              refine goes_ Try.func51 (by kernel_rfl) rfl #[.agg #[.int .i64 t9001, .int .i64 t9002, .int .i64 t9003, .slice Ao12 t9004.length co12], .agg #[.int .i64 ((rd_T47 t9039 x9_2).f0), .int .i64 ((rd_T47 t9039 x9_2).f1), .int .i64 ((rd_T47 t9039 x9_2).f2), .int .i64 ((rd_T47 t9039 x9_2).f3)]] (by rfl) rfl rfl (by (try simp only [List.map_toArray, List.map_cons, List.map_nil]); rfl) ?_
              with_reducible refine (impl_CropImage.calls t9001 t9002 t9003 _ _ t9004 ((rd_T47 t9039 x9_2).f0) ((rd_T47 t9039 x9_2).f1) ((rd_T47 t9039 x9_2).f2) ((rd_T47 t9039 x9_2).f3) t9043 t9044 t9045 t9046 true _ ?side1 ?side2 A61.out).mono ?_
              (case side1 => repeat (exact (Kd.Q_reads' HOz0.out).2.2))
              (case side2 => exact (Kd.Q_reads' HOz0.out).2.1)
              rintro e w69 ⟨v9047, rfl, ho0, hb⟩
              have HS4_ := (hb.cell (World.block_lt_of_cell? _ _ hHeld.2.2.2.2.1)).trans (hHeld.2.2.2.2.1)
              have HS5_ := (hb.cell (World.block_lt_of_cell? _ _ hHeld.2.2.2.2.2.1)).trans (hHeld.2.2.2.2.2.1)
              have HS6_ := (hb.cell (World.block_lt_of_cell? _ _ hHeld.2.2.2.2.2.2.1)).trans (hHeld.2.2.2.2.2.2.1)
              have HS7_ := (hb.cell (World.block_lt_of_cell? _ _ hHeld.2.2.2.2.2.2.2)).trans (hHeld.2.2.2.2.2.2.2)
              refine ⟨_, rfl, ?_⟩
              have n0_ := mk (Kd.R_elder' HO_5.out (Kd.R_base ho0) hb)
              have n1_ := mk (Kd.R_below HO_8.out hb)
              have n2_ := mk (Kd.Q_elder' HOz0.out (Kd.R_base ho0) hb)
              have n3_ := mk (Kd.Q_elder' HOz2.out (Kd.R_base ho0) hb)
              have n4_ := mk (Kd.Q_elder' HOz1.out (Kd.R_base ho0) hb)
              have n5_ := mk (Kd.R_lower (Kd.R_new' (Kd.R_new' (Kd.R_new' (Kd.R_new' ho0 (Kd.R_lt HO_5.out)) (Kd.Q_lt HOz0.out)) (Kd.Q_lt HOz2.out)) (Kd.Q_lt HOz1.out)) (below_size HB.out))
              have n6_ := mk (blk_below BK9018.out hb)
              have n7_ := mk (blk_below BK9019.out hb)
              have n8_ := mk (blk_below BK9030.out hb)
              have n9_ := mk (below_step HB.out hb)
              clear HO_5 HO_8 HOz0 HOz2 HOz1 BK9018 BK9019 BK9030 HB
              revert n0_ n1_ n2_ n3_ n4_ n5_ n6_ n7_ n8_ n9_; intro HO_5 HO_8 HOz0 HOz2 HOz1 HO9048 BK9018 BK9019 BK9030 HB
              (try clear hb)
              (try clear ho0)
              refine hK.out _ _ ⟨(blk_cell BK9018.out 0).trans rfl, (blk_cell BK9018.out 1).trans rfl, (blk_cell BK9018.out 2).trans rfl, (blk_cell BK9018.out 3).trans rfl, HS4_, HS5_, HS6_, HS7_⟩ (fun hHeld => ?_)
              clear hK K
              refine norm_ (a' := ?_) ?_ ?_
              rotate_left
              ·show Act.put _ (some 60) _ = _
               simp only [Act.put, List.setIfInBounds_toArray, List.set_cons_zero, List.set_cons_succ, i64_w, i32_w]
               rfl
              refine pure_ (i := 6) (N := some 54) (v := ?_) (a' := ?_) #[true, true, true, true, true, true, true, false, false, false, false, false] rfl rfl (any_of HT_.out (by kernel_rfl)) (fun _ _ _ h => h) (Or.inl ⟨by rfl, ?_⟩) ?_ ?_
              rotate_left
              ·intro w'
               go_simp
               with_reducible rfl
              rotate_left
              ·simp only [Act.put, List.setIfInBounds_toArray, List.set_cons_zero, List.set_cons_succ, i64_w, i32_w]
               rfl
              refine pure_ (i := 7) (N := some 61) (v := ?_) (a' := ?_) #[true, true, true, true, true, true, true, true, false, false, false, false] rfl rfl (any_of HT_.out (by kernel_rfl)) (fun _ _ _ h => h) (Or.inl ⟨by rfl, ?_⟩) ?_ ?_
              rotate_left
              ·intro w'
               go_simp
               with_reducible rfl
              rotate_left
              ·simp only [Act.put, List.setIfInBounds_toArray, List.set_cons_zero, List.set_cons_succ, i64_w, i32_w]
               rfl
              refine pure_ (i := 8) (N := some 62) (v := ?_) (a' := ?_) #[true, true, true, true, true, true, true, true, true, false, false, false] rfl rfl (any_of HT_.out (by kernel_rfl)) (fun _ _ _ h => h) (Or.inl ⟨by rfl, ?_⟩) ?_ ?_
              rotate_left
              ·intro w'
               go_simp
               with_reducible rfl
              rotate_left
              ·simp only [Act.put, List.setIfInBounds_toArray, List.set_cons_zero, List.set_cons_succ, i64_w, i32_w]
               rfl
              refine one_ (i := 9) (N := some 10) #[true, true, true, true, true, true, true, true, true, true, false, false] rfl rfl (one_of HT_.out (by kernel_rfl)) (by decide) (fun K hK => ?_)
              refine box_step ?hg (N := 10) ?hd (cs := #[.int .i64 0, .int .i64 0, .int .i64 0, .slice none 0 0]) (t := 27) ?hr ?_; (case hd => rfl); (case hg => rfl); (case hr => (go_simp; done))
              intro gb9050 hg w70 hbox hb
              have HS4_ := (hb.cell (World.block_lt_of_cell? _ _ hHeld.2.2.2.2.1)).trans (hHeld.2.2.2.2.1)
              have HS5_ := (hb.cell (World.block_lt_of_cell? _ _ hHeld.2.2.2.2.2.1)).trans (hHeld.2.2.2.2.2.1)
              have HS6_ := (hb.cell (World.block_lt_of_cell? _ _ hHeld.2.2.2.2.2.2.1)).trans (hHeld.2.2.2.2.2.2.1)
              have HS7_ := (hb.cell (World.block_lt_of_cell? _ _ hHeld.2.2.2.2.2.2.2)).trans (hHeld.2.2.2.2.2.2.2)
              have n0_ := mk (Kd.R_below HO_5.out hb)
              have n1_ := mk (Kd.R_below HO_8.out hb)
              have n2_ := mk (Kd.Q_below HOz0.out hb)
              have n3_ := mk (Kd.Q_below HOz2.out hb)
              have n4_ := mk (Kd.Q_below HOz1.out hb)
              have n5_ := mk (Kd.R_below HO9048.out hb)
              have n6_ := mk (blk_below BK9018.out hb)
              have n7_ := mk (blk_below BK9019.out hb)
              have n8_ := mk (blk_below BK9030.out hb)
              have n9_ := mk (below_step HB.out hb)
              have n10_ := mk (hbox)
              have n11_ := mk ((by rw [hg]; exact (below_size HB.out) : w.heap.size ≤ gb9050))
              have n12_ := mk ((by rw [hg]; exact (below_size HB.out) : w.heap.size ≤ gb9050))
              have n13_ := mk ((by rw [hg]; exact Nat.ne_of_lt (blk_lt BK9018.out) : gb9018 ≠ gb9050))
              have n14_ := mk n13_.out.symm
              have n15_ := mk ((by rw [hg]; exact Nat.ne_of_lt (blk_lt BK9019.out) : gb9019 ≠ gb9050))
              have n16_ := mk n15_.out.symm
              have n17_ := mk ((by rw [hg]; exact Nat.ne_of_lt (blk_lt BK9030.out) : gb9030 ≠ gb9050))
              have n18_ := mk n17_.out.symm
              clear HO_5 HO_8 HOz0 HOz2 HOz1 HO9048 BK9018 BK9019 BK9030 HB
              revert n0_ n1_ n2_ n3_ n4_ n5_ n6_ n7_ n8_ n9_ n10_ n11_ n12_ n13_ n14_ n15_ n16_ n17_ n18_; intro HO_5 HO_8 HOz0 HOz2 HOz1 HO9048 BK9018 BK9019 BK9030 HB BK9050 GW9050 GE9050 NB9018_9050 NB9050_9018 NB9019_9050 NB9050_9019 NB9030_9050 NB9050_9030
              clear hb hbox hg
              refine hK.out _ _ ⟨(blk_cell BK9018.out 0).trans rfl, (blk_cell BK9018.out 1).trans rfl, (blk_cell BK9018.out 2).trans rfl, (blk_cell BK9018.out 3).trans rfl, HS4_, HS5_, HS6_, HS7_⟩ (fun hHeld => ?_)
              clear hK K
              refine norm_ (a' := ?_) ?_ ?_
              rotate_left
              ·show Act.put _ (some 10) _ = _
               simp only [Act.put, List.setIfInBounds_toArray, List.set_cons_zero, List.set_cons_succ, i64_w, i32_w]
               rfl
              exact norm_ (by simp only [putAll, Act.put, List.setIfInBounds_toArray, List.set_cons_zero, List.set_cons_succ]) (hCont (v9047, gb9050) _ ⟨hHeld, (by exact Kd.R_mono HO9048.out (fun _ hk => ⟨hk.1.1.1.2, ⟨hk.1.1.2, ⟨hk.1.2, hk.2⟩⟩⟩)), (by exact Kd.R_mono HO_5.out (fun _ hk => ⟨hk.2, ⟨hk.1.1, ⟨hk.1.2.1, hk.1.2.2⟩⟩⟩)), HO_8.out, (by exact Kd.Q_mono HOz0.out (fun _ hk => ⟨hk.2, ⟨hk.1.1, ⟨hk.1.2.1, hk.1.2.2⟩⟩⟩)), (by exact Kd.Q_mono HOz2.out (fun _ hk => ⟨hk.2, ⟨hk.1.1, ⟨hk.1.2.1, hk.1.2.2⟩⟩⟩)), (by exact Kd.Q_mono HOz1.out (fun _ hk => ⟨hk.2, ⟨hk.1.1, ⟨hk.1.2.1, hk.1.2.2⟩⟩⟩)), BK9018.out, BK9019.out, BK9030.out, BK9050.out, GW9050.out, GE9050.out, NB9018_9050.out, NB9050_9018.out, NB9019_9050.out, NB9050_9019.out, NB9030_9050.out, NB9050_9030.out, (HB.out)⟩)
             ·skip
              refine box_step ?hg (N := 10) ?hd (cs := #[.int .i64 0, .int .i64 0, .int .i64 0, .slice none 0 0]) (t := 27) ?hr ?_; (case hd => rfl); (case hg => rfl); (case hr => (go_simp; done))
              intro gb9050 hg w69 hbox hb
              have HS4_ := (hb.cell (World.block_lt_of_cell? _ _ hHeld.2.2.2.2.1)).trans (hHeld.2.2.2.2.1)
              have HS5_ := (hb.cell (World.block_lt_of_cell? _ _ hHeld.2.2.2.2.2.1)).trans (hHeld.2.2.2.2.2.1)
              have HS6_ := (hb.cell (World.block_lt_of_cell? _ _ hHeld.2.2.2.2.2.2.1)).trans (hHeld.2.2.2.2.2.2.1)
              have HS7_ := (hb.cell (World.block_lt_of_cell? _ _ hHeld.2.2.2.2.2.2.2)).trans (hHeld.2.2.2.2.2.2.2)
              have n0_ := mk (Kd.R_below HO_5.out hb)
              have n1_ := mk (Kd.R_below HO_8.out hb)
              have n2_ := mk (Kd.Q_below HOz0.out hb)
              have n3_ := mk (Kd.Q_below HOz2.out hb)
              have n4_ := mk (Kd.Q_below HOz1.out hb)
              have n5_ := mk (blk_below BK9018.out hb)
              have n6_ := mk (blk_below BK9019.out hb)
              have n7_ := mk (blk_below BK9030.out hb)
              have n8_ := mk (below_step HB.out hb)
              have n9_ := mk (hbox)
              have n10_ := mk ((by rw [hg]; exact (below_size HB.out) : w.heap.size ≤ gb9050))
              have n11_ := mk ((by rw [hg]; exact (below_size HB.out) : w.heap.size ≤ gb9050))
              have n12_ := mk ((by rw [hg]; exact Nat.ne_of_lt (blk_lt BK9018.out) : gb9018 ≠ gb9050))
              have n13_ := mk n12_.out.symm
              have n14_ := mk ((by rw [hg]; exact Nat.ne_of_lt (blk_lt BK9019.out) : gb9019 ≠ gb9050))
              have n15_ := mk n14_.out.symm
              have n16_ := mk ((by rw [hg]; exact Nat.ne_of_lt (blk_lt BK9030.out) : gb9030 ≠ gb9050))
              have n17_ := mk n16_.out.symm
              clear HO_5 HO_8 HOz0 HOz2 HOz1 BK9018 BK9019 BK9030 HB
              revert n0_ n1_ n2_ n3_ n4_ n5_ n6_ n7_ n8_ n9_ n10_ n11_ n12_ n13_ n14_ n15_ n16_ n17_; intro HO_5 HO_8 HOz0 HOz2 HOz1 BK9018 BK9019 BK9030 HB BK9050 GW9050 GE9050 NB9018_9050 NB9050_9018 NB9019_9050 NB9050_9019 NB9030_9050 NB9050_9030
              clear hb hbox hg
              refine hK.out _ _ ⟨(blk_cell BK9018.out 0).trans rfl, (blk_cell BK9018.out 1).trans rfl, (blk_cell BK9018.out 2).trans rfl, (blk_cell BK9018.out 3).trans rfl, HS4_, HS5_, HS6_, HS7_⟩ (fun hHeld => ?_)
              clear hK K
              refine norm_ (a' := ?_) ?_ ?_
              rotate_left
              ·show Act.put _ (some 10) _ = _
               simp only [Act.put, List.setIfInBounds_toArray, List.set_cons_zero, List.set_cons_succ, i64_w, i32_w]
               rfl
              refine one_ (i := 5) (N := some 60) #[true, true, true, true, true, true, false, false, false, true, false, false] rfl rfl (one_of HT_.out (by kernel_rfl)) (by decide) (fun K hK => ?_)
              refine goes_ Try.func51 (by kernel_rfl) rfl #[.agg #[.int .i64 t9001, .int .i64 t9002, .int .i64 t9003, .slice Ao12 t9004.length co12], .agg #[.int .i64 ((rd_T47 t9039 x9_2).f0), .int .i64 ((rd_T47 t9039 x9_2).f1), .int .i64 ((rd_T47 t9039 x9_2).f2), .int .i64 ((rd_T47 t9039 x9_2).f3)]] (by rfl) rfl rfl (by (try simp only [List.map_toArray, List.map_cons, List.map_nil]); rfl) ?_
              with_reducible refine (impl_CropImage.calls t9001 t9002 t9003 _ _ t9004 ((rd_T47 t9039 x9_2).f0) ((rd_T47 t9039 x9_2).f1) ((rd_T47 t9039 x9_2).f2) ((rd_T47 t9039 x9_2).f3) t9043 t9044 t9045 t9046 true _ ?side1 ?side2 A61.out).mono ?_
              (case side1 => repeat (exact (Kd.Q_reads' HOz0.out).2.2))
              (case side2 => exact (Kd.Q_reads' HOz0.out).2.1)
              rintro e w70 ⟨v9047, rfl, ho0, hb⟩
              have HS4_ := (hb.cell (World.block_lt_of_cell? _ _ hHeld.2.2.2.2.1)).trans (hHeld.2.2.2.2.1)
              have HS5_ := (hb.cell (World.block_lt_of_cell? _ _ hHeld.2.2.2.2.2.1)).trans (hHeld.2.2.2.2.2.1)
              have HS6_ := (hb.cell (World.block_lt_of_cell? _ _ hHeld.2.2.2.2.2.2.1)).trans (hHeld.2.2.2.2.2.2.1)
              have HS7_ := (hb.cell (World.block_lt_of_cell? _ _ hHeld.2.2.2.2.2.2.2)).trans (hHeld.2.2.2.2.2.2.2)
              refine ⟨_, rfl, ?_⟩
              have n0_ := mk (Kd.R_elder' HO_5.out (Kd.R_base ho0) hb)
              have n1_ := mk (Kd.R_below HO_8.out hb)
              have n2_ := mk (Kd.Q_elder' HOz0.out (Kd.R_base ho0) hb)
              have n3_ := mk (Kd.Q_elder' HOz2.out (Kd.R_base ho0) hb)
              have n4_ := mk (Kd.Q_elder' HOz1.out (Kd.R_base ho0) hb)
              have n5_ := mk (Kd.R_lower (Kd.R_new' (Kd.R_new' (Kd.R_new' (Kd.R_new' ho0 (Kd.R_lt HO_5.out)) (Kd.Q_lt HOz0.out)) (Kd.Q_lt HOz2.out)) (Kd.Q_lt HOz1.out)) (below_size HB.out))
              have n6_ := mk (blk_below BK9018.out hb)
              have n7_ := mk (blk_below BK9019.out hb)
              have n8_ := mk (blk_below BK9030.out hb)
              have n9_ := mk (blk_below BK9050.out hb)
              have n10_ := mk (below_step HB.out hb)
              clear HO_5 HO_8 HOz0 HOz2 HOz1 BK9018 BK9019 BK9030 BK9050 HB
              revert n0_ n1_ n2_ n3_ n4_ n5_ n6_ n7_ n8_ n9_ n10_; intro HO_5 HO_8 HOz0 HOz2 HOz1 HO9048 BK9018 BK9019 BK9030 BK9050 HB
              (try clear hb)
              (try clear ho0)
              refine hK.out _ _ ⟨(blk_cell BK9018.out 0).trans rfl, (blk_cell BK9018.out 1).trans rfl, (blk_cell BK9018.out 2).trans rfl, (blk_cell BK9018.out 3).trans rfl, HS4_, HS5_, HS6_, HS7_⟩ (fun hHeld => ?_)
              clear hK K
              refine norm_ (a' := ?_) ?_ ?_
              rotate_left
              ·show Act.put _ (some 60) _ = _
               simp only [Act.put, List.setIfInBounds_toArray, List.set_cons_zero, List.set_cons_succ, i64_w, i32_w]
               rfl
              refine pure_ (i := 6) (N := some 54) (v := ?_) (a' := ?_) #[true, true, true, true, true, true, true, false, false, true, false, false] rfl rfl (any_of HT_.out (by kernel_rfl)) (fun _ _ _ h => h) (Or.inl ⟨by rfl, ?_⟩) ?_ ?_
              rotate_left
              ·intro w'
               go_simp
               with_reducible rfl
              rotate_left
              ·simp only [Act.put, List.setIfInBounds_toArray, List.set_cons_zero, List.set_cons_succ, i64_w, i32_w]
               rfl
              refine pure_ (i := 7) (N := some 61) (v := ?_) (a' := ?_) #[true, true, true, true, true, true, true, true, false, true, false, false] rfl rfl (any_of HT_.out (by kernel_rfl)) (fun _ _ _ h => h) (Or.inl ⟨by rfl, ?_⟩) ?_ ?_
              rotate_left
              ·intro w'
               go_simp
               with_reducible rfl
              rotate_left
              ·simp only [Act.put, List.setIfInBounds_toArray, List.set_cons_zero, List.set_cons_succ, i64_w, i32_w]
               rfl
              refine pure_ (i := 8) (N := some 62) (v := ?_) (a' := ?_) #[true, true, true, true, true, true, true, true, true, true, false, false] rfl rfl (any_of HT_.out (by kernel_rfl)) (fun _ _ _ h => h) (Or.inl ⟨by rfl, ?_⟩) ?_ ?_
              rotate_left
              ·intro w'
               go_simp
               with_reducible rfl
              rotate_left
              ·simp only [Act.put, List.setIfInBounds_toArray, List.set_cons_zero, List.set_cons_succ, i64_w, i32_w]
               rfl
              exact norm_ (by simp only [putAll, Act.put, List.setIfInBounds_toArray, List.set_cons_zero, List.set_cons_succ]) (hCont (v9047, gb9050) _ ⟨hHeld, (by exact Kd.R_mono HO9048.out (fun _ hk => ⟨hk.1.1.1.2, ⟨hk.1.1.2, ⟨hk.1.2, hk.2⟩⟩⟩)), (by exact Kd.R_mono HO_5.out (fun _ hk => ⟨hk.2, ⟨hk.1.1, ⟨hk.1.2.1, hk.1.2.2⟩⟩⟩)), HO_8.out, (by exact Kd.Q_mono HOz0.out (fun _ hk => ⟨hk.2, ⟨hk.1.1, ⟨hk.1.2.1, hk.1.2.2⟩⟩⟩)), (by exact Kd.Q_mono HOz2.out (fun _ hk => ⟨hk.2, ⟨hk.1.1, ⟨hk.1.2.1, hk.1.2.2⟩⟩⟩)), (by exact Kd.Q_mono HOz1.out (fun _ hk => ⟨hk.2, ⟨hk.1.1, ⟨hk.1.2.1, hk.1.2.2⟩⟩⟩)), BK9018.out, BK9019.out, BK9030.out, BK9050.out, GW9050.out, GE9050.out, NB9018_9050.out, NB9050_9018.out, NB9019_9050.out, NB9050_9019.out, NB9030_9050.out, NB9050_9030.out, (HB.out)⟩)
            rintro ⟨v9047, gb9050⟩ w71 ⟨hS_, h0_, h1_, h2_, h3_, h4_, h5_, h6_, h7_, h8_, h9_, h10_, h11_, h12_, h13_, h14_, h15_, h16_, h17_, h18_⟩
            have n0_ : Aside0 (Kd.R (Kd.int .i64) 3 w71 w.heap.size (fun k_ => some k_ ≠ (v9021 : Value).ownBlock ∧ some k_ ≠ (.slice Ao12 t9004.length co12 : Value).ownBlock ∧ some k_ ≠ (.slice Ao14 t9010.length co14 : Value).ownBlock ∧ some k_ ≠ (.slice Ao23 t9026.length co23 : Value).ownBlock) v9047 t9046) := ⟨h0_⟩
            have n1_ : Aside0 (Kd.R (Kd.int .i64) 3 w71 w.heap.size (fun k_ => some k_ ≠ (v9047 : Value).ownBlock ∧ some k_ ≠ (.slice Ao12 t9004.length co12 : Value).ownBlock ∧ some k_ ≠ (.slice Ao14 t9010.length co14 : Value).ownBlock ∧ some k_ ≠ (.slice Ao23 t9026.length co23 : Value).ownBlock) v9021 t9020) := ⟨h1_⟩
            have n2_ : Aside0 (Kd.R k47 47 w71 w.heap.size (fun _ => True) (.slice (some ad9042) t9039.length co67) t9039) := ⟨h2_⟩
            have n3_ : Aside0 (Kd.Q (Kd.int .i64) 3 w71 w.heap.size (fun k_ => some k_ ≠ (v9047 : Value).ownBlock ∧ some k_ ≠ (v9021 : Value).ownBlock ∧ some k_ ≠ (.slice Ao14 t9010.length co14 : Value).ownBlock ∧ some k_ ≠ (.slice Ao23 t9026.length co23 : Value).ownBlock) (.slice Ao12 t9004.length co12) t9004) := ⟨h3_⟩
            have n4_ : Aside0 (Kd.Q (Kd.int .i64) 3 w71 w.heap.size (fun k_ => some k_ ≠ (v9047 : Value).ownBlock ∧ some k_ ≠ (v9021 : Value).ownBlock ∧ some k_ ≠ (.slice Ao12 t9004.length co12 : Value).ownBlock ∧ some k_ ≠ (.slice Ao23 t9026.length co23 : Value).ownBlock) (.slice Ao14 t9010.length co14) t9010) := ⟨h4_⟩
            have n5_ : Aside0 (Kd.Q (Kd.int .i64) 3 w71 w.heap.size (fun k_ => some k_ ≠ (v9047 : Value).ownBlock ∧ some k_ ≠ (v9021 : Value).ownBlock ∧ some k_ ≠ (.slice Ao12 t9004.length co12 : Value).ownBlock ∧ some k_ ≠ (.slice Ao14 t9010.length co14 : Value).ownBlock) (.slice Ao23 t9026.length co23) t9026) := ⟨h5_⟩
            have n6_ : Aside0 (w71.heap[gb9018]? = some (.cells #[.int .i64 t9001, .int .i64 t9002, .int .i64 t9003, .slice Ao12 t9004.length co12] 27 (0, 0))) := ⟨h6_⟩
            have n7_ : Aside0 (w71.heap[gb9019]? = some (.cells #[.int .i64 t9007, .int .i64 t9008, .int .i64 t9009, .slice Ao14 t9010.length co14, .int .i64 t9013, .int .i64 t9014, .int .i64 t9015, .int .i64 t9016, .bool t9017] 55 (0, 0))) := ⟨h7_⟩
            have n8_ : Aside0 (w71.heap[gb9030]? = some (.cells #[.int .i64 t9023, .int .i64 t9024, .int .i64 t9025, .slice Ao23 t9026.length co23] 27 (0, 0))) := ⟨h8_⟩
            have n9_ : Aside0 (w71.heap[gb9050]? = some (.cells #[.int .i64 0, .int .i64 0, .int .i64 0, .slice none 0 0] 27 (0, 0))) := ⟨h9_⟩
            have n10_ : Aside0 (w.heap.size ≤ gb9050) := ⟨h10_⟩
            have n11_ : Aside0 (w.heap.size ≤ gb9050) := ⟨h11_⟩
            have n12_ : Aside0 (gb9018 ≠ gb9050) := ⟨h12_⟩
            have n13_ : Aside0 (gb9050 ≠ gb9018) := ⟨h13_⟩
            have n14_ : Aside0 (gb9019 ≠ gb9050) := ⟨h14_⟩
            have n15_ : Aside0 (gb9050 ≠ gb9019) := ⟨h15_⟩
            have n16_ : Aside0 (gb9030 ≠ gb9050) := ⟨h16_⟩
            have n17_ : Aside0 (gb9050 ≠ gb9030) := ⟨h17_⟩
            have n18_ : Aside0 (Below w.heap.size w w71) := ⟨h18_⟩
            clear HO_5 HO_8 HOz0 HOz2 HOz1 BK9018 BK9019 BK9030 HB h0_ h1_ h2_ h3_ h4_ h5_ h6_ h7_ h8_ h9_ h10_ h11_ h12_ h13_ h14_ h15_ h16_ h17_ h18_
            revert n0_ n1_ n2_ n3_ n4_ n5_ n6_ n7_ n8_ n9_ n10_ n11_ n12_ n13_ n14_ n15_ n16_ n17_ n18_; intro HO9048 HO_5 HO_8 HOz0 HOz2 HOz1 BK9018 BK9019 BK9030 BK9050 GW9050 GE9050 NB9018_9050 NB9050_9018 NB9019_9050 NB9050_9019 NB9030_9050 NB9050_9030 HB
            have hHeld : w71.cell? ⟨gb9018, 0, none⟩ = some (.int .i64 t9001) ∧ w71.cell? ⟨gb9018, 1, none⟩ = some (.int .i64 t9002) ∧ w71.cell? ⟨gb9018, 2, none⟩ = some (.int .i64 t9003) ∧ w71.cell? ⟨gb9018, 3, none⟩ = some (.slice Ao12 t9004.length co12) ∧ w71.cell? (ad9042.add ((x9_2).toNat * 4)) = some (.int .i64 ((rd_T47 t9039 x9_2).f0)) ∧ w71.cell? ⟨(ad9042.add ((x9_2).toNat * 4)).block, (ad9042.add ((x9_2).toNat * 4)).off + 1, none⟩ = some (.int .i64 ((rd_T47 t9039 x9_2).f1)) ∧ w71.cell? ⟨(ad9042.add ((x9_2).toNat * 4)).block, (ad9042.add ((x9_2).toNat * 4)).off + 2, none⟩ = some (.int .i64 ((rd_T47 t9039 x9_2).f2)) ∧ w71.cell? ⟨(ad9042.add ((x9_2).toNat * 4)).block, (ad9042.add ((x9_2).toNat * 4)).off + 3, none⟩ = some (.int .i64 ((rd_T47 t9039 x9_2).f3)) := hS_
            obtain ⟨Ao75, co75, eo75⟩ := Kd.R_slice HO9048.out
            (subst eo75)
            refine norm_ (a' := ?_) ?_ ?_
            rotate_left
            ·simp only [putAll, Act.put, List.setIfInBounds_toArray, List.set_cons_zero, List.set_cons_succ]
             rfl
            refine one_ (i := 10) (N := none) #[true, true, true, true, true, true, true, true, true, true, true, false] rfl rfl (one_of HT_.out (by kernel_rfl)) (by decide) (fun K hK => ?_)
            have hs72 : w71.cell? ⟨gb9050, 0, none⟩ = some (.int .i64 0) := (blk_cell BK9050.out 0).trans rfl
            have hfs72 := blk_frozen BK9050.out 0
            have hns72_0 := NB9018_9050.out
            have hns72_1 := NB9019_9050.out
            have hns72_2 := NB9030_9050.out
            have hms72_0 := NB9050_9018.out
            have hms72_1 := NB9050_9019.out
            have hms72_2 := NB9050_9030.out
            have hs73 : w71.cell? ⟨gb9050, 1, none⟩ = some (.int .i64 0) := (blk_cell BK9050.out 1).trans rfl
            have hfs73 := blk_frozen BK9050.out 1
            have hns73_0 := NB9018_9050.out
            have hns73_1 := NB9019_9050.out
            have hns73_2 := NB9030_9050.out
            have hms73_0 := NB9050_9018.out
            have hms73_1 := NB9050_9019.out
            have hms73_2 := NB9050_9030.out
            have hs74 : w71.cell? ⟨gb9050, 2, none⟩ = some (.int .i64 0) := (blk_cell BK9050.out 2).trans rfl
            have hfs74 := blk_frozen BK9050.out 2
            have hns74_0 := NB9018_9050.out
            have hns74_1 := NB9019_9050.out
            have hns74_2 := NB9030_9050.out
            have hms74_0 := NB9050_9018.out
            have hms74_1 := NB9050_9019.out
            have hms74_2 := NB9050_9030.out
            have hs76 : w71.cell? ⟨gb9050, 3, none⟩ = some (.slice none 0 0) := (blk_cell BK9050.out 3).trans rfl
            have hfs76 := blk_frozen BK9050.out 3
            have hns76_0 := NB9018_9050.out
            have hns76_1 := NB9019_9050.out
            have hns76_2 := NB9030_9050.out
            have hms76_0 := NB9050_9018.out
            have hms76_1 := NB9050_9019.out
            have hms76_2 := NB9050_9030.out
            refine skip_ (w1 := ?_) (by rfl) rfl ?_ ?_
            rotate_left
            ·go_simp
             rfl
            refine hK.out _ _ ⟨((cell_far (p := ⟨gb9050, _, none⟩) NB9018_9050.out _).trans (((cell_far (p := ⟨gb9050, _, none⟩) NB9018_9050.out _).trans (((cell_far (p := ⟨gb9050, _, none⟩) NB9018_9050.out _).trans (((cell_far (p := ⟨gb9050, _, none⟩) NB9018_9050.out _).trans hHeld.1))))))), ((cell_far (p := ⟨gb9050, _, none⟩) NB9018_9050.out _).trans (((cell_far (p := ⟨gb9050, _, none⟩) NB9018_9050.out _).trans (((cell_far (p := ⟨gb9050, _, none⟩) NB9018_9050.out _).trans (((cell_far (p := ⟨gb9050, _, none⟩) NB9018_9050.out _).trans hHeld.2.1))))))), ((cell_far (p := ⟨gb9050, _, none⟩) NB9018_9050.out _).trans (((cell_far (p := ⟨gb9050, _, none⟩) NB9018_9050.out _).trans (((cell_far (p := ⟨gb9050, _, none⟩) NB9018_9050.out _).trans (((cell_far (p := ⟨gb9050, _, none⟩) NB9018_9050.out _).trans hHeld.2.2.1))))))), ((cell_far (p := ⟨gb9050, _, none⟩) NB9018_9050.out _).trans (((cell_far (p := ⟨gb9050, _, none⟩) NB9018_9050.out _).trans (((cell_far (p := ⟨gb9050, _, none⟩) NB9018_9050.out _).trans (((cell_far (p := ⟨gb9050, _, none⟩) NB9018_9050.out _).trans hHeld.2.2.2.1))))))), ((cell_far (p := ⟨gb9050, _, none⟩) (by (rw [add_block]; exact Kd.own_blk (Kd.R_ne HO_8.out BK9050.out (by decide)))) _).trans (((cell_far (p := ⟨gb9050, _, none⟩) (by (rw [add_block]; exact Kd.own_blk (Kd.R_ne HO_8.out BK9050.out (by decide)))) _).trans (((cell_far (p := ⟨gb9050, _, none⟩) (by (rw [add_block]; exact Kd.own_blk (Kd.R_ne HO_8.out BK9050.out (by decide)))) _).trans (((cell_far (p := ⟨gb9050, _, none⟩) (by (rw [add_block]; exact Kd.own_blk (Kd.R_ne HO_8.out BK9050.out (by decide)))) _).trans hHeld.2.2.2.2.1))))))), ((cell_far (p := ⟨gb9050, _, none⟩) (by (rw [add_block]; exact Kd.own_blk (Kd.R_ne HO_8.out BK9050.out (by decide)))) _).trans (((cell_far (p := ⟨gb9050, _, none⟩) (by (rw [add_block]; exact Kd.own_blk (Kd.R_ne HO_8.out BK9050.out (by decide)))) _).trans (((cell_far (p := ⟨gb9050, _, none⟩) (by (rw [add_block]; exact Kd.own_blk (Kd.R_ne HO_8.out BK9050.out (by decide)))) _).trans (((cell_far (p := ⟨gb9050, _, none⟩) (by (rw [add_block]; exact Kd.own_blk (Kd.R_ne HO_8.out BK9050.out (by decide)))) _).trans hHeld.2.2.2.2.2.1))))))), ((cell_far (p := ⟨gb9050, _, none⟩) (by (rw [add_block]; exact Kd.own_blk (Kd.R_ne HO_8.out BK9050.out (by decide)))) _).trans (((cell_far (p := ⟨gb9050, _, none⟩) (by (rw [add_block]; exact Kd.own_blk (Kd.R_ne HO_8.out BK9050.out (by decide)))) _).trans (((cell_far (p := ⟨gb9050, _, none⟩) (by (rw [add_block]; exact Kd.own_blk (Kd.R_ne HO_8.out BK9050.out (by decide)))) _).trans (((cell_far (p := ⟨gb9050, _, none⟩) (by (rw [add_block]; exact Kd.own_blk (Kd.R_ne HO_8.out BK9050.out (by decide)))) _).trans hHeld.2.2.2.2.2.2.1))))))), ((cell_far (p := ⟨gb9050, _, none⟩) (by (rw [add_block]; exact Kd.own_blk (Kd.R_ne HO_8.out BK9050.out (by decide)))) _).trans (((cell_far (p := ⟨gb9050, _, none⟩) (by (rw [add_block]; exact Kd.own_blk (Kd.R_ne HO_8.out BK9050.out (by decide)))) _).trans (((cell_far (p := ⟨gb9050, _, none⟩) (by (rw [add_block]; exact Kd.own_blk (Kd.R_ne HO_8.out BK9050.out (by decide)))) _).trans (((cell_far (p := ⟨gb9050, _, none⟩) (by (rw [add_block]; exact Kd.own_blk (Kd.R_ne HO_8.out BK9050.out (by decide)))) _).trans hHeld.2.2.2.2.2.2.2)))))))⟩ (fun hHeld => ?_)
            clear hK K
            refine pure_ (i := 11) (N := some 11) (v := ?_) (a' := ?_) #[true, true, true, true, true, true, true, true, true, true, true, true] rfl rfl (any_of HT_.out (by kernel_rfl)) (fun _ _ _ h => h) (Or.inl ⟨by rfl, ?_⟩) ?_ ?_
            rotate_left
            ·intro w'
             go_simp
             with_reducible rfl
            rotate_left
            ·simp only [Act.put, List.setIfInBounds_toArray, List.set_cons_zero, List.set_cons_succ, i64_w, i32_w]
             rfl
            refine done_ (done_of HT_.out (by kernel_rfl)) ?_
            try go_wp2
            have n0_ : Aside0 (Kd.R (Kd.int .i64) 3 ((((w71.setCell ⟨gb9050, 0, none⟩ (.int .i64 t9043)).setCell ⟨gb9050, 1, none⟩ (.int .i64 t9044)).setCell ⟨gb9050, 2, none⟩ (.int .i64 t9045)).setCell ⟨gb9050, 3, none⟩ (.slice Ao75 t9046.length co75)) w.heap.size (fun k_ => some k_ ≠ (.slice Ao12 t9004.length co12 : Value).ownBlock ∧ some k_ ≠ (.slice Ao14 t9010.length co14 : Value).ownBlock ∧ some k_ ≠ (.slice Ao23 t9026.length co23 : Value).ownBlock ∧ some k_ ≠ (.slice Ao75 t9046.length co75 : Value).ownBlock) v9021 t9020) := ⟨by (with_reducible repeat (first | apply Kd.R_alloc | apply Kd.R_drewN | apply Kd.R_drew)); exact Kd.R_mono (Kd.R_far (p := ⟨gb9050, 3, none⟩) (Kd.R_far (p := ⟨gb9050, 2, none⟩) (Kd.R_far (p := ⟨gb9050, 1, none⟩) (Kd.R_far (p := ⟨gb9050, 0, none⟩) (Kd.R_types HO_5.out BK9050.out (by decide)) (fun _ hk => hk.2) (.int .i64 t9043)) (fun _ hk => hk.2) (.int .i64 t9044)) (fun _ hk => hk.2) (.int .i64 t9045)) (fun _ hk => hk.2) (.slice Ao75 t9046.length co75)) (fun _ hk => ⟨hk.1.2.1, ⟨hk.1.2.2.1, ⟨hk.1.2.2.2, hk.1.1⟩⟩⟩)⟩
            have n1_ : Aside0 (Kd.R k47 47 ((((w71.setCell ⟨gb9050, 0, none⟩ (.int .i64 t9043)).setCell ⟨gb9050, 1, none⟩ (.int .i64 t9044)).setCell ⟨gb9050, 2, none⟩ (.int .i64 t9045)).setCell ⟨gb9050, 3, none⟩ (.slice Ao75 t9046.length co75)) w.heap.size (fun _ => True) (.slice (some ad9042) t9039.length co67) t9039) := ⟨by (with_reducible repeat (first | apply Kd.R_alloc | apply Kd.R_drewN | apply Kd.R_drew)); exact Kd.R_mono (Kd.R_far (p := ⟨gb9050, 3, none⟩) (Kd.R_far (p := ⟨gb9050, 2, none⟩) (Kd.R_far (p := ⟨gb9050, 1, none⟩) (Kd.R_far (p := ⟨gb9050, 0, none⟩) (Kd.R_types HO_8.out BK9050.out (by decide)) (fun _ hk => hk.2) (.int .i64 t9043)) (fun _ hk => hk.2) (.int .i64 t9044)) (fun _ hk => hk.2) (.int .i64 t9045)) (fun _ hk => hk.2) (.slice Ao75 t9046.length co75)) (fun _ hk => trivial)⟩
            have n2_ : Aside0 (Kd.Q (Kd.int .i64) 3 ((((w71.setCell ⟨gb9050, 0, none⟩ (.int .i64 t9043)).setCell ⟨gb9050, 1, none⟩ (.int .i64 t9044)).setCell ⟨gb9050, 2, none⟩ (.int .i64 t9045)).setCell ⟨gb9050, 3, none⟩ (.slice Ao75 t9046.length co75)) w.heap.size (fun k_ => some k_ ≠ (v9021 : Value).ownBlock ∧ some k_ ≠ (.slice Ao14 t9010.length co14 : Value).ownBlock ∧ some k_ ≠ (.slice Ao23 t9026.length co23 : Value).ownBlock ∧ some k_ ≠ (.slice Ao75 t9046.length co75 : Value).ownBlock) (.slice Ao12 t9004.length co12) t9004) := ⟨by (with_reducible repeat (first | apply Kd.Q_alloc | apply Kd.Q_drewN | apply Kd.Q_drew)); exact Kd.Q_mono (Kd.Q_far (p := ⟨gb9050, 3, none⟩) (Kd.Q_far (p := ⟨gb9050, 2, none⟩) (Kd.Q_far (p := ⟨gb9050, 1, none⟩) (Kd.Q_far (p := ⟨gb9050, 0, none⟩) (Kd.Q_types HOz0.out BK9050.out (by decide)) (fun _ hk => hk.2) (.int .i64 t9043)) (fun _ hk => hk.2) (.int .i64 t9044)) (fun _ hk => hk.2) (.int .i64 t9045)) (fun _ hk => hk.2) (.slice Ao75 t9046.length co75)) (fun _ hk => ⟨hk.1.2.1, ⟨hk.1.2.2.1, ⟨hk.1.2.2.2, hk.1.1⟩⟩⟩)⟩
            have n3_ : Aside0 (Kd.Q (Kd.int .i64) 3 ((((w71.setCell ⟨gb9050, 0, none⟩ (.int .i64 t9043)).setCell ⟨gb9050, 1, none⟩ (.int .i64 t9044)).setCell ⟨gb9050, 2, none⟩ (.int .i64 t9045)).setCell ⟨gb9050, 3, none⟩ (.slice Ao75 t9046.length co75)) w.heap.size (fun k_ => some k_ ≠ (v9021 : Value).ownBlock ∧ some k_ ≠ (.slice Ao12 t9004.length co12 : Value).ownBlock ∧ some k_ ≠ (.slice Ao23 t9026.length co23 : Value).ownBlock ∧ some k_ ≠ (.slice Ao75 t9046.length co75 : Value).ownBlock) (.slice Ao14 t9010.length co14) t9010) := ⟨by (with_reducible repeat (first | apply Kd.Q_alloc | apply Kd.Q_drewN | apply Kd.Q_drew)); exact Kd.Q_mono (Kd.Q_far (p := ⟨gb9050, 3, none⟩) (Kd.Q_far (p := ⟨gb9050, 2, none⟩) (Kd.Q_far (p := ⟨gb9050, 1, none⟩) (Kd.Q_far (p := ⟨gb9050, 0, none⟩) (Kd.Q_types HOz2.out BK9050.out (by decide)) (fun _ hk => hk.2) (.int .i64 t9043)) (fun _ hk => hk.2) (.int .i64 t9044)) (fun _ hk => hk.2) (.int .i64 t9045)) (fun _ hk => hk.2) (.slice Ao75 t9046.length co75)) (fun _ hk => ⟨hk.1.2.1, ⟨hk.1.2.2.1, ⟨hk.1.2.2.2, hk.1.1⟩⟩⟩)⟩
            have n4_ : Aside0 (Kd.Q (Kd.int .i64) 3 ((((w71.setCell ⟨gb9050, 0, none⟩ (.int .i64 t9043)).setCell ⟨gb9050, 1, none⟩ (.int .i64 t9044)).setCell ⟨gb9050, 2, none⟩ (.int .i64 t9045)).setCell ⟨gb9050, 3, none⟩ (.slice Ao75 t9046.length co75)) w.heap.size (fun k_ => some k_ ≠ (v9021 : Value).ownBlock ∧ some k_ ≠ (.slice Ao12 t9004.length co12 : Value).ownBlock ∧ some k_ ≠ (.slice Ao14 t9010.length co14 : Value).ownBlock ∧ some k_ ≠ (.slice Ao75 t9046.length co75 : Value).ownBlock) (.slice Ao23 t9026.length co23) t9026) := ⟨by (with_reducible repeat (first | apply Kd.Q_alloc | apply Kd.Q_drewN | apply Kd.Q_drew)); exact Kd.Q_mono (Kd.Q_far (p := ⟨gb9050, 3, none⟩) (Kd.Q_far (p := ⟨gb9050, 2, none⟩) (Kd.Q_far (p := ⟨gb9050, 1, none⟩) (Kd.Q_far (p := ⟨gb9050, 0, none⟩) (Kd.Q_types HOz1.out BK9050.out (by decide)) (fun _ hk => hk.2) (.int .i64 t9043)) (fun _ hk => hk.2) (.int .i64 t9044)) (fun _ hk => hk.2) (.int .i64 t9045)) (fun _ hk => hk.2) (.slice Ao75 t9046.length co75)) (fun _ hk => ⟨hk.1.2.1, ⟨hk.1.2.2.1, ⟨hk.1.2.2.2, hk.1.1⟩⟩⟩)⟩
            have n5_ : Aside0 (Kd.R (Kd.int .i64) 3 ((((w71.setCell ⟨gb9050, 0, none⟩ (.int .i64 t9043)).setCell ⟨gb9050, 1, none⟩ (.int .i64 t9044)).setCell ⟨gb9050, 2, none⟩ (.int .i64 t9045)).setCell ⟨gb9050, 3, none⟩ (.slice Ao75 t9046.length co75)) w.heap.size (fun k_ => some k_ ≠ (v9021 : Value).ownBlock ∧ some k_ ≠ (.slice Ao12 t9004.length co12 : Value).ownBlock ∧ some k_ ≠ (.slice Ao14 t9010.length co14 : Value).ownBlock ∧ some k_ ≠ (.slice Ao23 t9026.length co23 : Value).ownBlock) (.slice Ao75 t9046.length co75) t9046) := ⟨by (with_reducible repeat (first | apply Kd.R_alloc | apply Kd.R_drewN | apply Kd.R_drew)); exact Kd.R_mono (Kd.R_far (p := ⟨gb9050, 3, none⟩) (Kd.R_far (p := ⟨gb9050, 2, none⟩) (Kd.R_far (p := ⟨gb9050, 1, none⟩) (Kd.R_far (p := ⟨gb9050, 0, none⟩) (Kd.R_types HO9048.out BK9050.out (by decide)) (fun _ hk => hk.2) (.int .i64 t9043)) (fun _ hk => hk.2) (.int .i64 t9044)) (fun _ hk => hk.2) (.int .i64 t9045)) (fun _ hk => hk.2) (.slice Ao75 t9046.length co75)) (fun _ hk => ⟨hk.1.1, ⟨hk.1.2.1, ⟨hk.1.2.2.1, hk.1.2.2.2⟩⟩⟩)⟩
            have n6_ : Aside0 (((((w71.setCell ⟨gb9050, 0, none⟩ (.int .i64 t9043)).setCell ⟨gb9050, 1, none⟩ (.int .i64 t9044)).setCell ⟨gb9050, 2, none⟩ (.int .i64 t9045)).setCell ⟨gb9050, 3, none⟩ (.slice Ao75 t9046.length co75)).heap[gb9018]? = some (.cells #[.int .i64 t9001, .int .i64 t9002, .int .i64 t9003, .slice Ao12 t9004.length co12] 27 (0, 0))) := ⟨by refine blk_far ?_ NB9018_9050.out _; refine blk_far ?_ NB9018_9050.out _; refine blk_far ?_ NB9018_9050.out _; refine blk_far ?_ NB9018_9050.out _; (with_reducible repeat (first | refine blk_drewN ?_ _ | refine blk_drew ?_ | refine blk_alloc ?_ _)); exact BK9018.out⟩
            have n7_ : Aside0 (((((w71.setCell ⟨gb9050, 0, none⟩ (.int .i64 t9043)).setCell ⟨gb9050, 1, none⟩ (.int .i64 t9044)).setCell ⟨gb9050, 2, none⟩ (.int .i64 t9045)).setCell ⟨gb9050, 3, none⟩ (.slice Ao75 t9046.length co75)).heap[gb9019]? = some (.cells #[.int .i64 t9007, .int .i64 t9008, .int .i64 t9009, .slice Ao14 t9010.length co14, .int .i64 t9013, .int .i64 t9014, .int .i64 t9015, .int .i64 t9016, .bool t9017] 55 (0, 0))) := ⟨by refine blk_far ?_ NB9019_9050.out _; refine blk_far ?_ NB9019_9050.out _; refine blk_far ?_ NB9019_9050.out _; refine blk_far ?_ NB9019_9050.out _; (with_reducible repeat (first | refine blk_drewN ?_ _ | refine blk_drew ?_ | refine blk_alloc ?_ _)); exact BK9019.out⟩
            have n8_ : Aside0 (((((w71.setCell ⟨gb9050, 0, none⟩ (.int .i64 t9043)).setCell ⟨gb9050, 1, none⟩ (.int .i64 t9044)).setCell ⟨gb9050, 2, none⟩ (.int .i64 t9045)).setCell ⟨gb9050, 3, none⟩ (.slice Ao75 t9046.length co75)).heap[gb9030]? = some (.cells #[.int .i64 t9023, .int .i64 t9024, .int .i64 t9025, .slice Ao23 t9026.length co23] 27 (0, 0))) := ⟨by refine blk_far ?_ NB9030_9050.out _; refine blk_far ?_ NB9030_9050.out _; refine blk_far ?_ NB9030_9050.out _; refine blk_far ?_ NB9030_9050.out _; (with_reducible repeat (first | refine blk_drewN ?_ _ | refine blk_drew ?_ | refine blk_alloc ?_ _)); exact BK9030.out⟩
            have n9_ : Aside0 (((((w71.setCell ⟨gb9050, 0, none⟩ (.int .i64 t9043)).setCell ⟨gb9050, 1, none⟩ (.int .i64 t9044)).setCell ⟨gb9050, 2, none⟩ (.int .i64 t9045)).setCell ⟨gb9050, 3, none⟩ (.slice Ao75 t9046.length co75)).heap[gb9050]? = some (.cells #[.int .i64 t9043, .int .i64 t9044, .int .i64 t9045, .slice Ao75 t9046.length co75] 27 (0, 0))) := ⟨by refine blk_put (cs := #[.int .i64 t9043, .int .i64 t9044, .int .i64 t9045, .slice none 0 0]) ?_ 3 _ rfl; refine blk_put (cs := #[.int .i64 t9043, .int .i64 t9044, .int .i64 0, .slice none 0 0]) ?_ 2 _ rfl; refine blk_put (cs := #[.int .i64 t9043, .int .i64 0, .int .i64 0, .slice none 0 0]) ?_ 1 _ rfl; refine blk_put (cs := #[.int .i64 0, .int .i64 0, .int .i64 0, .slice none 0 0]) ?_ 0 _ rfl; (with_reducible repeat (first | refine blk_drewN ?_ _ | refine blk_drew ?_ | refine blk_alloc ?_ _)); exact BK9050.out⟩
            have n10_ : Aside0 (Below w.heap.size w ((((w71.setCell ⟨gb9050, 0, none⟩ (.int .i64 t9043)).setCell ⟨gb9050, 1, none⟩ (.int .i64 t9044)).setCell ⟨gb9050, 2, none⟩ (.int .i64 t9045)).setCell ⟨gb9050, 3, none⟩ (.slice Ao75 t9046.length co75))) := ⟨by repeat (with_reducible first | exact HB.out | refine below_set ?_ GE9050.out)⟩
            (try clear HO_5)
            (try clear HO_8)
            (try clear HOz0)
            (try clear HOz2)
            (try clear HOz1)
            (try clear HO9048)
            (try clear BK9018)
            (try clear BK9019)
            (try clear BK9030)
            (try clear BK9050)
            (try clear HB)
            generalize ((((w71.setCell ⟨gb9050, 0, none⟩ (.int .i64 t9043)).setCell ⟨gb9050, 1, none⟩ (.int .i64 t9044)).setCell ⟨gb9050, 2, none⟩ (.int .i64 t9045)).setCell ⟨gb9050, 3, none⟩ (.slice Ao75 t9046.length co75)) = w77 at n0_ n1_ n2_ n3_ n4_ n5_ n6_ n7_ n8_ n9_ n10_ ⊢
            revert n0_ n1_ n2_ n3_ n4_ n5_ n6_ n7_ n8_ n9_ n10_; intro HO_5 HO_8 HOz0 HOz2 HOz1 HO9048 BK9018 BK9019 BK9030 BK9050 HB
            have n0_ := mk (Kd.R_drew HO_5.out)
            have n1_ := mk (Kd.R_drew HO_8.out)
            have n2_ := mk (Kd.Q_drew HOz0.out)
            have n3_ := mk (Kd.Q_drew HOz2.out)
            have n4_ := mk (Kd.Q_drew HOz1.out)
            have n5_ := mk (Kd.R_drew HO9048.out)
            have n6_ := mk (blk_drew BK9018.out)
            have n7_ := mk (blk_drew BK9019.out)
            have n8_ := mk (blk_drew BK9030.out)
            have n9_ := mk (blk_drew BK9050.out)
            have n10_ := mk (below_drew1 HB.out)
            clear HO_5 HO_8 HOz0 HOz2 HOz1 HO9048 BK9018 BK9019 BK9030 BK9050 HB
            revert n0_ n1_ n2_ n3_ n4_ n5_ n6_ n7_ n8_ n9_ n10_; intro HO_5 HO_8 HOz0 HOz2 HOz1 HO9048 BK9018 BK9019 BK9030 BK9050 HB
            have p9051 : 0 ≤ (x9_2 : Int) := of_decide_eq_true (by (with_reducible assumption))
            have q9051 : x9_2 < (t9039.length : Int) := of_decide_eq_true (by (with_reducible assumption))
            obtain ⟨ad9051, e9051, hx9051_0, hx9051_1, hx9051_2, hx9051_3⟩ := at_T47 (Kd.R_reads' HO_8.out).2.2 x9_2 p9051 q9051
            obtain rfl : ad9042 = ad9051 := (by injection e9051)
            replace p9051 := eq_true p9051
            replace q9051 := eq_true q9051
            refine start_ (n := 12) (S := fun w' => w'.cell? ⟨gb9030, 0, none⟩ = some (.int .i64 t9023) ∧ w'.cell? ⟨gb9030, 1, none⟩ = some (.int .i64 t9024) ∧ w'.cell? ⟨gb9030, 2, none⟩ = some (.int .i64 t9025) ∧ w'.cell? ⟨gb9030, 3, none⟩ = some (.slice Ao23 t9026.length co23) ∧ w'.cell? (ad9042.add ((x9_2).toNat * 4)) = some (.int .i64 ((rd_T47 t9039 x9_2).f0)) ∧ w'.cell? ⟨(ad9042.add ((x9_2).toNat * 4)).block, (ad9042.add ((x9_2).toNat * 4)).off + 1, none⟩ = some (.int .i64 ((rd_T47 t9039 x9_2).f1)) ∧ w'.cell? ⟨(ad9042.add ((x9_2).toNat * 4)).block, (ad9042.add ((x9_2).toNat * 4)).off + 2, none⟩ = some (.int .i64 ((rd_T47 t9039 x9_2).f2)) ∧ w'.cell? ⟨(ad9042.add ((x9_2).toNat * 4)).block, (ad9042.add ((x9_2).toNat * 4)).off + 3, none⟩ = some (.int .i64 ((rd_T47 t9039 x9_2).f3))) (ds := []) #[false, false, false, false, false, false, false, false, false, false, false, false] (by kernel_rfl) rfl rfl ⟨(blk_cell BK9030.out 0).trans rfl, (blk_cell BK9030.out 1).trans rfl, (blk_cell BK9030.out 2).trans rfl, (blk_cell BK9030.out 3).trans rfl, hx9051_0, hx9051_1, hx9051_2, hx9051_3⟩ (fun hHeld => ?_); refine with_tabW laws_FnDirtyTiles.tab13 laws_FnDirtyTiles.bits13 (fun HT_ HW_ => ?_)
            generalize w77.drew = w78 at HO_5 HO_8 HOz0 HOz2 HOz1 HO9048 BK9018 BK9019 BK9030 BK9050 HB hx9051_0 hx9051_1 hx9051_2 hx9051_3 hHeld ⊢
            refine pure_ (i := 1) (N := some 65) (v := ?_) (a' := ?_) #[false, true, false, false, false, false, false, false, false, false, false, false] rfl rfl (any_of HT_.out (by kernel_rfl)) (fun _ _ _ h => h) (Or.inl ⟨by rfl, ?_⟩) ?_ ?_
            rotate_left
            ·intro w'
             go_simp
             with_reducible rfl
            rotate_left
            ·simp only [Act.put, List.setIfInBounds_toArray, List.set_cons_zero, List.set_cons_succ, i64_w, i32_w]
             rfl
            refine pure_ (i := 2) (N := some 66) (v := ?_) (a' := ?_) #[false, true, true, false, false, false, false, false, false, false, false, false] rfl rfl (any_of HT_.out (by kernel_rfl)) (fun _ _ _ h => h) (Or.inl ⟨by rfl, ?_⟩) ?_ ?_
            rotate_left
            ·intro w'
             go_simp
             with_reducible rfl
            rotate_left
            ·simp only [Act.put, List.setIfInBounds_toArray, List.set_cons_zero, List.set_cons_succ, i64_w, i32_w]
             rfl
            refine pure_ (i := 3) (N := some 67) (v := ?_) (a' := ?_) #[false, true, true, true, false, false, false, false, false, false, false, false] rfl rfl (any_of HT_.out (by kernel_rfl)) (fun _ _ _ h => h) (Or.inl ⟨by rfl, ?_⟩) ?_ ?_
            rotate_left
            ·intro w'
             go_simp
             with_reducible rfl
            rotate_left
            ·simp only [Act.put, List.setIfInBounds_toArray, List.set_cons_zero, List.set_cons_succ, i64_w, i32_w]
             rfl
            refine take_ (i := 0) (N := some 64) (v := ?_) (a' := ?_) #[true, true, true, true, false, false, false, false, false, false, false, false] rfl rfl (take_ofW HT_.out HW_.out (by kernel_rfl)) (fun _ _ _ h => h) (Or.inl ⟨by rfl, ?_⟩) hHeld ?_ ?_
            rotate_left
            ·rintro w' ⟨s0, s1, s2, s3, s4, s5, s6, s7⟩
             go_simp
             with_reducible rfl
            rotate_left
            ·simp only [Act.put, List.setIfInBounds_toArray, List.set_cons_zero, List.set_cons_succ, i64_w, i32_w]
             rfl
            refine take_ (i := 4) (N := some 68) (v := ?_) (a' := ?_) #[true, true, true, true, true, false, false, false, false, false, false, false] rfl rfl (take_ofW HT_.out HW_.out (by kernel_rfl)) (fun _ _ _ h => h) (Or.inl ⟨by rfl, ?_⟩) hHeld ?_ ?_
            rotate_left
            ·rintro w' ⟨s0, s1, s2, s3, s4, s5, s6, s7⟩
             go_simp
             with_reducible rfl
            rotate_left
            ·simp only [Act.put, List.setIfInBounds_toArray, List.set_cons_zero, List.set_cons_succ, i64_w, i32_w]
             rfl
            refine join_ (σ := Value × Nat) 2 #[true, true, true, true, true, true, true, true, true, true, false, false] (fun s_ => [(69, .tuple #[.agg #[.int .i64 t9052, .int .i64 t9053, .int .i64 t9054, s_.1], .bool true]), (12, .pointer (some ⟨s_.2, 0, none⟩)), (63, .tuple #[.agg #[.int .i64 t9052, .int .i64 t9053, .int .i64 t9054, s_.1], .bool true]), (70, .agg #[.int .i64 t9052, .int .i64 t9053, .int .i64 t9054, s_.1]), (71, .bool true)]) (fun s_ w' => (w'.cell? ⟨gb9030, 0, none⟩ = some (.int .i64 t9023) ∧ w'.cell? ⟨gb9030, 1, none⟩ = some (.int .i64 t9024) ∧ w'.cell? ⟨gb9030, 2, none⟩ = some (.int .i64 t9025) ∧ w'.cell? ⟨gb9030, 3, none⟩ = some (.slice Ao23 t9026.length co23) ∧ w'.cell? (ad9042.add ((x9_2).toNat * 4)) = some (.int .i64 ((rd_T47 t9039 x9_2).f0)) ∧ w'.cell? ⟨(ad9042.add ((x9_2).toNat * 4)).block, (ad9042.add ((x9_2).toNat * 4)).off + 1, none⟩ = some (.int .i64 ((rd_T47 t9039 x9_2).f1)) ∧ w'.cell? ⟨(ad9042.add ((x9_2).toNat * 4)).block, (ad9042.add ((x9_2).toNat * 4)).off + 2, none⟩ = some (.int .i64 ((rd_T47 t9039 x9_2).f2)) ∧ w'.cell? ⟨(ad9042.add ((x9_2).toNat * 4)).block, (ad9042.add ((x9_2).toNat * 4)).off + 3, none⟩ = some (.int .i64 ((rd_T47 t9039 x9_2).f3))) ∧ (Kd.R (Kd.int .i64) 3 w' w.heap.size (fun k_ => some k_ ≠ (s_.1 : Value).ownBlock ∧ some k_ ≠ (v9021 : Value).ownBlock ∧ some k_ ≠ (.slice Ao12 t9004.length co12 : Value).ownBlock ∧ some k_ ≠ (.slice Ao14 t9010.length co14 : Value).ownBlock ∧ some k_ ≠ (.slice Ao23 t9026.length co23 : Value).ownBlock) (.slice Ao75 t9046.length co75) t9046) ∧ (Kd.R (Kd.int .i64) 3 w' w.heap.size (fun k_ => some k_ ≠ (.slice Ao75 t9046.length co75 : Value).ownBlock ∧ some k_ ≠ (v9021 : Value).ownBlock ∧ some k_ ≠ (.slice Ao12 t9004.length co12 : Value).ownBlock ∧ some k_ ≠ (.slice Ao14 t9010.length co14 : Value).ownBlock ∧ some k_ ≠ (.slice Ao23 t9026.length co23 : Value).ownBlock) s_.1 t9055) ∧ (Kd.R (Kd.int .i64) 3 w' w.heap.size (fun k_ => some k_ ≠ (.slice Ao75 t9046.length co75 : Value).ownBlock ∧ some k_ ≠ (s_.1 : Value).ownBlock ∧ some k_ ≠ (.slice Ao12 t9004.length co12 : Value).ownBlock ∧ some k_ ≠ (.slice Ao14 t9010.length co14 : Value).ownBlock ∧ some k_ ≠ (.slice Ao23 t9026.length co23 : Value).ownBlock) v9021 t9020) ∧ (Kd.R k47 47 w' w.heap.size (fun _ => True) (.slice (some ad9042) t9039.length co67) t9039) ∧ (Kd.Q (Kd.int .i64) 3 w' w.heap.size (fun k_ => some k_ ≠ (.slice Ao75 t9046.length co75 : Value).ownBlock ∧ some k_ ≠ (s_.1 : Value).ownBlock ∧ some k_ ≠ (v9021 : Value).ownBlock ∧ some k_ ≠ (.slice Ao14 t9010.length co14 : Value).ownBlock ∧ some k_ ≠ (.slice Ao23 t9026.length co23 : Value).ownBlock) (.slice Ao12 t9004.length co12) t9004) ∧ (Kd.Q (Kd.int .i64) 3 w' w.heap.size (fun k_ => some k_ ≠ (.slice Ao75 t9046.length co75 : Value).ownBlock ∧ some k_ ≠ (s_.1 : Value).ownBlock ∧ some k_ ≠ (v9021 : Value).ownBlock ∧ some k_ ≠ (.slice Ao12 t9004.length co12 : Value).ownBlock ∧ some k_ ≠ (.slice Ao23 t9026.length co23 : Value).ownBlock) (.slice Ao14 t9010.length co14) t9010) ∧ (Kd.Q (Kd.int .i64) 3 w' w.heap.size (fun k_ => some k_ ≠ (.slice Ao75 t9046.length co75 : Value).ownBlock ∧ some k_ ≠ (s_.1 : Value).ownBlock ∧ some k_ ≠ (v9021 : Value).ownBlock ∧ some k_ ≠ (.slice Ao12 t9004.length co12 : Value).ownBlock ∧ some k_ ≠ (.slice Ao14 t9010.length co14 : Value).ownBlock) (.slice Ao23 t9026.length co23) t9026) ∧ (w'.heap[gb9018]? = some (.cells #[.int .i64 t9001, .int .i64 t9002, .int .i64 t9003, .slice Ao12 t9004.length co12] 27 (0, 0))) ∧ (w'.heap[gb9019]? = some (.cells #[.int .i64 t9007, .int .i64 t9008, .int .i64 t9009, .slice Ao14 t9010.length co14, .int .i64 t9013, .int .i64 t9014, .int .i64 t9015, .int .i64 t9016, .bool t9017] 55 (0, 0))) ∧ (w'.heap[gb9030]? = some (.cells #[.int .i64 t9023, .int .i64 t9024, .int .i64 t9025, .slice Ao23 t9026.length co23] 27 (0, 0))) ∧ (w'.heap[gb9050]? = some (.cells #[.int .i64 t9043, .int .i64 t9044, .int .i64 t9045, .slice Ao75 t9046.length co75] 27 (0, 0))) ∧ (w'.heap[s_.2]? = some (.cells #[.int .i64 0, .int .i64 0, .int .i64 0, .slice none 0 0] 27 (0, 0))) ∧ (w.heap.size ≤ s_.2) ∧ (w.heap.size ≤ s_.2) ∧ (gb9018 ≠ s_.2) ∧ (s_.2 ≠ gb9018) ∧ (gb9019 ≠ s_.2) ∧ (s_.2 ≠ gb9019) ∧ (gb9030 ≠ s_.2) ∧ (s_.2 ≠ gb9030) ∧ (gb9050 ≠ s_.2) ∧ (s_.2 ≠ gb9050) ∧ (Below w.heap.size w w')) ?_ ?_
            rotate_left
            ·intro hCont
             refine two_ (i := 5) (j := 9) (Ni := some 69) (Nj := some 12) #[true, true, true, true, true, true, false, false, false, false, false, false] #[true, true, true, true, true, false, false, false, false, true, false, false] rfl rfl rfl rfl (two_of HT_.out (by kernel_rfl)) (by decide) (by decide) (fun K hK => ?_) (fun K hK => ?_)
             ·skip
              refine goes_ Try.func51 (by kernel_rfl) rfl #[.agg #[.int .i64 t9023, .int .i64 t9024, .int .i64 t9025, .slice Ao23 t9026.length co23], .agg #[.int .i64 ((rd_T47 t9039 x9_2).f0), .int .i64 ((rd_T47 t9039 x9_2).f1), .int .i64 ((rd_T47 t9039 x9_2).f2), .int .i64 ((rd_T47 t9039 x9_2).f3)]] (by rfl) rfl rfl (by (try simp only [List.map_toArray, List.map_cons, List.map_nil]); rfl) ?_
              with_reducible refine (impl_CropImage.calls t9023 t9024 t9025 _ _ t9026 ((rd_T47 t9039 x9_2).f0) ((rd_T47 t9039 x9_2).f1) ((rd_T47 t9039 x9_2).f2) ((rd_T47 t9039 x9_2).f3) t9052 t9053 t9054 t9055 true _ ?side1 ?side2 A62.out).mono ?_
              (case side1 => repeat (exact (Kd.Q_reads' HOz1.out).2.2))
              (case side2 => exact (Kd.Q_reads' HOz1.out).2.1)
              rintro e w79 ⟨v9056, rfl, ho0, hb⟩
              have HS4_ := (hb.cell (World.block_lt_of_cell? _ _ hHeld.2.2.2.2.1)).trans (hHeld.2.2.2.2.1)
              have HS5_ := (hb.cell (World.block_lt_of_cell? _ _ hHeld.2.2.2.2.2.1)).trans (hHeld.2.2.2.2.2.1)
              have HS6_ := (hb.cell (World.block_lt_of_cell? _ _ hHeld.2.2.2.2.2.2.1)).trans (hHeld.2.2.2.2.2.2.1)
              have HS7_ := (hb.cell (World.block_lt_of_cell? _ _ hHeld.2.2.2.2.2.2.2)).trans (hHeld.2.2.2.2.2.2.2)
              refine ⟨_, rfl, ?_⟩
              have n0_ := mk (Kd.R_elder' HO_5.out (Kd.R_base ho0) hb)
              have n1_ := mk (Kd.R_below HO_8.out hb)
              have n2_ := mk (Kd.Q_elder' HOz0.out (Kd.R_base ho0) hb)
              have n3_ := mk (Kd.Q_elder' HOz2.out (Kd.R_base ho0) hb)
              have n4_ := mk (Kd.Q_elder' HOz1.out (Kd.R_base ho0) hb)
              have n5_ := mk (Kd.R_elder' HO9048.out (Kd.R_base ho0) hb)
              have n6_ := mk (Kd.R_lower (Kd.R_new' (Kd.R_new' (Kd.R_new' (Kd.R_new' (Kd.R_new' ho0 (Kd.R_lt HO_5.out)) (Kd.Q_lt HOz0.out)) (Kd.Q_lt HOz2.out)) (Kd.Q_lt HOz1.out)) (Kd.R_lt HO9048.out)) (below_size HB.out))
              have n7_ := mk (blk_below BK9018.out hb)
              have n8_ := mk (blk_below BK9019.out hb)
              have n9_ := mk (blk_below BK9030.out hb)
              have n10_ := mk (blk_below BK9050.out hb)
              have n11_ := mk (below_step HB.out hb)
              clear HO_5 HO_8 HOz0 HOz2 HOz1 HO9048 BK9018 BK9019 BK9030 BK9050 HB
              revert n0_ n1_ n2_ n3_ n4_ n5_ n6_ n7_ n8_ n9_ n10_ n11_; intro HO_5 HO_8 HOz0 HOz2 HOz1 HO9048 HO9057 BK9018 BK9019 BK9030 BK9050 HB
              (try clear hb)
              (try clear ho0)
              refine hK.out _ _ ⟨(blk_cell BK9030.out 0).trans rfl, (blk_cell BK9030.out 1).trans rfl, (blk_cell BK9030.out 2).trans rfl, (blk_cell BK9030.out 3).trans rfl, HS4_, HS5_, HS6_, HS7_⟩ (fun hHeld => ?_)
              clear hK K
              refine norm_ (a' := ?_) ?_ ?_
              rotate_left
              ·show Act.put _ (some 69) _ = _
               simp only [Act.put, List.setIfInBounds_toArray, List.set_cons_zero, List.set_cons_succ, i64_w, i32_w]
               rfl
              refine pure_ (i := 6) (N := some 63) (v := ?_) (a' := ?_) #[true, true, true, true, true, true, true, false, false, false, false, false] rfl rfl (any_of HT_.out (by kernel_rfl)) (fun _ _ _ h => h) (Or.inl ⟨by rfl, ?_⟩) ?_ ?_
              rotate_left
              ·intro w'
               go_simp
               with_reducible rfl
              rotate_left
              ·simp only [Act.put, List.setIfInBounds_toArray, List.set_cons_zero, List.set_cons_succ, i64_w, i32_w]
               rfl
              refine pure_ (i := 7) (N := some 70) (v := ?_) (a' := ?_) #[true, true, true, true, true, true, true, true, false, false, false, false] rfl rfl (any_of HT_.out (by kernel_rfl)) (fun _ _ _ h => h) (Or.inl ⟨by rfl, ?_⟩) ?_ ?_
              rotate_left
              ·intro w'
               go_simp
               with_reducible rfl
              rotate_left
              ·simp only [Act.put, List.setIfInBounds_toArray, List.set_cons_zero, List.set_cons_succ, i64_w, i32_w]
               rfl
              refine pure_ (i := 8) (N := some 71) (v := ?_) (a' := ?_) #[true, true, true, true, true, true, true, true, true, false, false, false] rfl rfl (any_of HT_.out (by kernel_rfl)) (fun _ _ _ h => h) (Or.inl ⟨by rfl, ?_⟩) ?_ ?_
              rotate_left
              ·intro w'
               go_simp
               with_reducible rfl
              rotate_left
              ·simp only [Act.put, List.setIfInBounds_toArray, List.set_cons_zero, List.set_cons_succ, i64_w, i32_w]
               rfl
              refine one_ (i := 9) (N := some 12) #[true, true, true, true, true, true, true, true, true, true, false, false] rfl rfl (one_of HT_.out (by kernel_rfl)) (by decide) (fun K hK => ?_)
              refine box_step ?hg (N := 12) ?hd (cs := #[.int .i64 0, .int .i64 0, .int .i64 0, .slice none 0 0]) (t := 27) ?hr ?_; (case hd => rfl); (case hg => rfl); (case hr => (go_simp; done))
              intro gb9059 hg w80 hbox hb
              have HS4_ := (hb.cell (World.block_lt_of_cell? _ _ hHeld.2.2.2.2.1)).trans (hHeld.2.2.2.2.1)
              have HS5_ := (hb.cell (World.block_lt_of_cell? _ _ hHeld.2.2.2.2.2.1)).trans (hHeld.2.2.2.2.2.1)
              have HS6_ := (hb.cell (World.block_lt_of_cell? _ _ hHeld.2.2.2.2.2.2.1)).trans (hHeld.2.2.2.2.2.2.1)
              have HS7_ := (hb.cell (World.block_lt_of_cell? _ _ hHeld.2.2.2.2.2.2.2)).trans (hHeld.2.2.2.2.2.2.2)
              have n0_ := mk (Kd.R_below HO_5.out hb)
              have n1_ := mk (Kd.R_below HO_8.out hb)
              have n2_ := mk (Kd.Q_below HOz0.out hb)
              have n3_ := mk (Kd.Q_below HOz2.out hb)
              have n4_ := mk (Kd.Q_below HOz1.out hb)
              have n5_ := mk (Kd.R_below HO9048.out hb)
              have n6_ := mk (Kd.R_below HO9057.out hb)
              have n7_ := mk (blk_below BK9018.out hb)
              have n8_ := mk (blk_below BK9019.out hb)
              have n9_ := mk (blk_below BK9030.out hb)
              have n10_ := mk (blk_below BK9050.out hb)
              have n11_ := mk (below_step HB.out hb)
              have n12_ := mk (hbox)
              have n13_ := mk ((by rw [hg]; exact (below_size HB.out) : w.heap.size ≤ gb9059))
              have n14_ := mk ((by rw [hg]; exact (below_size HB.out) : w.heap.size ≤ gb9059))
              have n15_ := mk ((by rw [hg]; exact Nat.ne_of_lt (blk_lt BK9018.out) : gb9018 ≠ gb9059))
              have n16_ := mk n15_.out.symm
              have n17_ := mk ((by rw [hg]; exact Nat.ne_of_lt (blk_lt BK9019.out) : gb9019 ≠ gb9059))
              have n18_ := mk n17_.out.symm
              have n19_ := mk ((by rw [hg]; exact Nat.ne_of_lt (blk_lt BK9030.out) : gb9030 ≠ gb9059))
              have n20_ := mk n19_.out.symm
              have n21_ := mk ((by rw [hg]; exact Nat.ne_of_lt (blk_lt BK9050.out) : gb9050 ≠ gb9059))
              have n22_ := mk n21_.out.symm
              clear HO_5 HO_8 HOz0 HOz2 HOz1 HO9048 HO9057 BK9018 BK9019 BK9030 BK9050 HB
              revert n0_ n1_ n2_ n3_ n4_ n5_ n6_ n7_ n8_ n9_ n10_ n11_ n12_ n13_ n14_ n15_ n16_ n17_ n18_ n19_ n20_ n21_ n22_; intro HO_5 HO_8 HOz0 HOz2 HOz1 HO9048 HO9057 BK9018 BK9019 BK9030 BK9050 HB BK9059 GW9059 GE9059 NB9018_9059 NB9059_9018 NB9019_9059 NB9059_9019 NB9030_9059 NB9059_9030 NB9050_9059 NB9059_9050
              clear hb hbox hg
              refine hK.out _ _ ⟨(blk_cell BK9030.out 0).trans rfl, (blk_cell BK9030.out 1).trans rfl, (blk_cell BK9030.out 2).trans rfl, (blk_cell BK9030.out 3).trans rfl, HS4_, HS5_, HS6_, HS7_⟩ (fun hHeld => ?_)
              clear hK K
              refine norm_ (a' := ?_) ?_ ?_
              rotate_left
              ·show Act.put _ (some 12) _ = _
               simp only [Act.put, List.setIfInBounds_toArray, List.set_cons_zero, List.set_cons_succ, i64_w, i32_w]
               rfl
              exact norm_ (by simp only [putAll, Act.put, List.setIfInBounds_toArray, List.set_cons_zero, List.set_cons_succ]) (hCont (v9056, gb9059) _ ⟨hHeld, (by exact Kd.R_mono HO9048.out (fun _ hk => ⟨hk.2, ⟨hk.1.1, ⟨hk.1.2.1, ⟨hk.1.2.2.1, hk.1.2.2.2⟩⟩⟩⟩)), (by exact Kd.R_mono HO9057.out (fun _ hk => ⟨hk.2, ⟨hk.1.1.1.1.2, ⟨hk.1.1.1.2, ⟨hk.1.1.2, hk.1.2⟩⟩⟩⟩)), (by exact Kd.R_mono HO_5.out (fun _ hk => ⟨hk.1.2.2.2, ⟨hk.2, ⟨hk.1.1, ⟨hk.1.2.1, hk.1.2.2.1⟩⟩⟩⟩)), HO_8.out, (by exact Kd.Q_mono HOz0.out (fun _ hk => ⟨hk.1.2.2.2, ⟨hk.2, ⟨hk.1.1, ⟨hk.1.2.1, hk.1.2.2.1⟩⟩⟩⟩)), (by exact Kd.Q_mono HOz2.out (fun _ hk => ⟨hk.1.2.2.2, ⟨hk.2, ⟨hk.1.1, ⟨hk.1.2.1, hk.1.2.2.1⟩⟩⟩⟩)), (by exact Kd.Q_mono HOz1.out (fun _ hk => ⟨hk.1.2.2.2, ⟨hk.2, ⟨hk.1.1, ⟨hk.1.2.1, hk.1.2.2.1⟩⟩⟩⟩)), BK9018.out, BK9019.out, BK9030.out, BK9050.out, BK9059.out, GW9059.out, GE9059.out, NB9018_9059.out, NB9059_9018.out, NB9019_9059.out, NB9059_9019.out, NB9030_9059.out, NB9059_9030.out, NB9050_9059.out, NB9059_9050.out, (HB.out)⟩)
             ·skip
              refine box_step ?hg (N := 12) ?hd (cs := #[.int .i64 0, .int .i64 0, .int .i64 0, .slice none 0 0]) (t := 27) ?hr ?_; (case hd => rfl); (case hg => rfl); (case hr => (go_simp; done))
              intro gb9059 hg w79 hbox hb
              have HS4_ := (hb.cell (World.block_lt_of_cell? _ _ hHeld.2.2.2.2.1)).trans (hHeld.2.2.2.2.1)
              have HS5_ := (hb.cell (World.block_lt_of_cell? _ _ hHeld.2.2.2.2.2.1)).trans (hHeld.2.2.2.2.2.1)
              have HS6_ := (hb.cell (World.block_lt_of_cell? _ _ hHeld.2.2.2.2.2.2.1)).trans (hHeld.2.2.2.2.2.2.1)
              have HS7_ := (hb.cell (World.block_lt_of_cell? _ _ hHeld.2.2.2.2.2.2.2)).trans (hHeld.2.2.2.2.2.2.2)
              have n0_ := mk (Kd.R_below HO_5.out hb)
              have n1_ := mk (Kd.R_below HO_8.out hb)
              have n2_ := mk (Kd.Q_below HOz0.out hb)
              have n3_ := mk (Kd.Q_below HOz2.out hb)
              have n4_ := mk (Kd.Q_below HOz1.out hb)
              have n5_ := mk (Kd.R_below HO9048.out hb)
              have n6_ := mk (blk_below BK9018.out hb)
              have n7_ := mk (blk_below BK9019.out hb)
              have n8_ := mk (blk_below BK9030.out hb)
              have n9_ := mk (blk_below BK9050.out hb)
              have n10_ := mk (below_step HB.out hb)
              have n11_ := mk (hbox)
              have n12_ := mk ((by rw [hg]; exact (below_size HB.out) : w.heap.size ≤ gb9059))
              have n13_ := mk ((by rw [hg]; exact (below_size HB.out) : w.heap.size ≤ gb9059))
              have n14_ := mk ((by rw [hg]; exact Nat.ne_of_lt (blk_lt BK9018.out) : gb9018 ≠ gb9059))
              have n15_ := mk n14_.out.symm
              have n16_ := mk ((by rw [hg]; exact Nat.ne_of_lt (blk_lt BK9019.out) : gb9019 ≠ gb9059))
              have n17_ := mk n16_.out.symm
              have n18_ := mk ((by rw [hg]; exact Nat.ne_of_lt (blk_lt BK9030.out) : gb9030 ≠ gb9059))
              have n19_ := mk n18_.out.symm
              have n20_ := mk ((by rw [hg]; exact Nat.ne_of_lt (blk_lt BK9050.out) : gb9050 ≠ gb9059))
              have n21_ := mk n20_.out.symm
              clear HO_5 HO_8 HOz0 HOz2 HOz1 HO9048 BK9018 BK9019 BK9030 BK9050 HB
              revert n0_ n1_ n2_ n3_ n4_ n5_ n6_ n7_ n8_ n9_ n10_ n11_ n12_ n13_ n14_ n15_ n16_ n17_ n18_ n19_ n20_ n21_; intro HO_5 HO_8 HOz0 HOz2 HOz1 HO9048 BK9018 BK9019 BK9030 BK9050 HB BK9059 GW9059 GE9059 NB9018_9059 NB9059_9018 NB9019_9059 NB9059_9019 NB9030_9059 NB9059_9030 NB9050_9059 NB9059_9050
              clear hb hbox hg
              refine hK.out _ _ ⟨(blk_cell BK9030.out 0).trans rfl, (blk_cell BK9030.out 1).trans rfl, (blk_cell BK9030.out 2).trans rfl, (blk_cell BK9030.out 3).trans rfl, HS4_, HS5_, HS6_, HS7_⟩ (fun hHeld => ?_)
              clear hK K
              refine norm_ (a' := ?_) ?_ ?_
              rotate_left
              ·show Act.put _ (some 12) _ = _
               simp only [Act.put, List.setIfInBounds_toArray, List.set_cons_zero, List.set_cons_succ, i64_w, i32_w]
               rfl
              refine one_ (i := 5) (N := some 69) #[true, true, true, true, true, true, false, false, false, true, false, false] rfl rfl (one_of HT_.out (by kernel_rfl)) (by decide) (fun K hK => ?_)
              refine goes_ Try.func51 (by kernel_rfl) rfl #[.agg #[.int .i64 t9023, .int .i64 t9024, .int .i64 t9025, .slice Ao23 t9026.length co23], .agg #[.int .i64 ((rd_T47 t9039 x9_2).f0), .int .i64 ((rd_T47 t9039 x9_2).f1), .int .i64 ((rd_T47 t9039 x9_2).f2), .int .i64 ((rd_T47 t9039 x9_2).f3)]] (by rfl) rfl rfl (by (try simp only [List.map_toArray, List.map_cons, List.map_nil]); rfl) ?_
              with_reducible refine (impl_CropImage.calls t9023 t9024 t9025 _ _ t9026 ((rd_T47 t9039 x9_2).f0) ((rd_T47 t9039 x9_2).f1) ((rd_T47 t9039 x9_2).f2) ((rd_T47 t9039 x9_2).f3) t9052 t9053 t9054 t9055 true _ ?side1 ?side2 A62.out).mono ?_
              (case side1 => repeat (exact (Kd.Q_reads' HOz1.out).2.2))
              (case side2 => exact (Kd.Q_reads' HOz1.out).2.1)
              rintro e w80 ⟨v9056, rfl, ho0, hb⟩
              have HS4_ := (hb.cell (World.block_lt_of_cell? _ _ hHeld.2.2.2.2.1)).trans (hHeld.2.2.2.2.1)
              have HS5_ := (hb.cell (World.block_lt_of_cell? _ _ hHeld.2.2.2.2.2.1)).trans (hHeld.2.2.2.2.2.1)
              have HS6_ := (hb.cell (World.block_lt_of_cell? _ _ hHeld.2.2.2.2.2.2.1)).trans (hHeld.2.2.2.2.2.2.1)
              have HS7_ := (hb.cell (World.block_lt_of_cell? _ _ hHeld.2.2.2.2.2.2.2)).trans (hHeld.2.2.2.2.2.2.2)
              refine ⟨_, rfl, ?_⟩
              have n0_ := mk (Kd.R_elder' HO_5.out (Kd.R_base ho0) hb)
              have n1_ := mk (Kd.R_below HO_8.out hb)
              have n2_ := mk (Kd.Q_elder' HOz0.out (Kd.R_base ho0) hb)
              have n3_ := mk (Kd.Q_elder' HOz2.out (Kd.R_base ho0) hb)
              have n4_ := mk (Kd.Q_elder' HOz1.out (Kd.R_base ho0) hb)
              have n5_ := mk (Kd.R_elder' HO9048.out (Kd.R_base ho0) hb)
              have n6_ := mk (Kd.R_lower (Kd.R_new' (Kd.R_new' (Kd.R_new' (Kd.R_new' (Kd.R_new' ho0 (Kd.R_lt HO_5.out)) (Kd.Q_lt HOz0.out)) (Kd.Q_lt HOz2.out)) (Kd.Q_lt HOz1.out)) (Kd.R_lt HO9048.out)) (below_size HB.out))
              have n7_ := mk (blk_below BK9018.out hb)
              have n8_ := mk (blk_below BK9019.out hb)
              have n9_ := mk (blk_below BK9030.out hb)
              have n10_ := mk (blk_below BK9050.out hb)
              have n11_ := mk (blk_below BK9059.out hb)
              have n12_ := mk (below_step HB.out hb)
              clear HO_5 HO_8 HOz0 HOz2 HOz1 HO9048 BK9018 BK9019 BK9030 BK9050 BK9059 HB
              revert n0_ n1_ n2_ n3_ n4_ n5_ n6_ n7_ n8_ n9_ n10_ n11_ n12_; intro HO_5 HO_8 HOz0 HOz2 HOz1 HO9048 HO9057 BK9018 BK9019 BK9030 BK9050 BK9059 HB
              (try clear hb)
              (try clear ho0)
              refine hK.out _ _ ⟨(blk_cell BK9030.out 0).trans rfl, (blk_cell BK9030.out 1).trans rfl, (blk_cell BK9030.out 2).trans rfl, (blk_cell BK9030.out 3).trans rfl, HS4_, HS5_, HS6_, HS7_⟩ (fun hHeld => ?_)
              clear hK K
              refine norm_ (a' := ?_) ?_ ?_
              rotate_left
              ·show Act.put _ (some 69) _ = _
               simp only [Act.put, List.setIfInBounds_toArray, List.set_cons_zero, List.set_cons_succ, i64_w, i32_w]
               rfl
              refine pure_ (i := 6) (N := some 63) (v := ?_) (a' := ?_) #[true, true, true, true, true, true, true, false, false, true, false, false] rfl rfl (any_of HT_.out (by kernel_rfl)) (fun _ _ _ h => h) (Or.inl ⟨by rfl, ?_⟩) ?_ ?_
              rotate_left
              ·intro w'
               go_simp
               with_reducible rfl
              rotate_left
              ·simp only [Act.put, List.setIfInBounds_toArray, List.set_cons_zero, List.set_cons_succ, i64_w, i32_w]
               rfl
              refine pure_ (i := 7) (N := some 70) (v := ?_) (a' := ?_) #[true, true, true, true, true, true, true, true, false, true, false, false] rfl rfl (any_of HT_.out (by kernel_rfl)) (fun _ _ _ h => h) (Or.inl ⟨by rfl, ?_⟩) ?_ ?_
              rotate_left
              ·intro w'
               go_simp
               with_reducible rfl
              rotate_left
              ·simp only [Act.put, List.setIfInBounds_toArray, List.set_cons_zero, List.set_cons_succ, i64_w, i32_w]
               rfl
              refine pure_ (i := 8) (N := some 71) (v := ?_) (a' := ?_) #[true, true, true, true, true, true, true, true, true, true, false, false] rfl rfl (any_of HT_.out (by kernel_rfl)) (fun _ _ _ h => h) (Or.inl ⟨by rfl, ?_⟩) ?_ ?_
              rotate_left
              ·intro w'
               go_simp
               with_reducible rfl
              rotate_left
              ·simp only [Act.put, List.setIfInBounds_toArray, List.set_cons_zero, List.set_cons_succ, i64_w, i32_w]
               rfl
              exact norm_ (by simp only [putAll, Act.put, List.setIfInBounds_toArray, List.set_cons_zero, List.set_cons_succ]) (hCont (v9056, gb9059) _ ⟨hHeld, (by exact Kd.R_mono HO9048.out (fun _ hk => ⟨hk.2, ⟨hk.1.1, ⟨hk.1.2.1, ⟨hk.1.2.2.1, hk.1.2.2.2⟩⟩⟩⟩)), (by exact Kd.R_mono HO9057.out (fun _ hk => ⟨hk.2, ⟨hk.1.1.1.1.2, ⟨hk.1.1.1.2, ⟨hk.1.1.2, hk.1.2⟩⟩⟩⟩)), (by exact Kd.R_mono HO_5.out (fun _ hk => ⟨hk.1.2.2.2, ⟨hk.2, ⟨hk.1.1, ⟨hk.1.2.1, hk.1.2.2.1⟩⟩⟩⟩)), HO_8.out, (by exact Kd.Q_mono HOz0.out (fun _ hk => ⟨hk.1.2.2.2, ⟨hk.2, ⟨hk.1.1, ⟨hk.1.2.1, hk.1.2.2.1⟩⟩⟩⟩)), (by exact Kd.Q_mono HOz2.out (fun _ hk => ⟨hk.1.2.2.2, ⟨hk.2, ⟨hk.1.1, ⟨hk.1.2.1, hk.1.2.2.1⟩⟩⟩⟩)), (by exact Kd.Q_mono HOz1.out (fun _ hk => ⟨hk.1.2.2.2, ⟨hk.2, ⟨hk.1.1, ⟨hk.1.2.1, hk.1.2.2.1⟩⟩⟩⟩)), BK9018.out, BK9019.out, BK9030.out, BK9050.out, BK9059.out, GW9059.out, GE9059.out, NB9018_9059.out, NB9059_9018.out, NB9019_9059.out, NB9059_9019.out, NB9030_9059.out, NB9059_9030.out, NB9050_9059.out, NB9059_9050.out, (HB.out)⟩)
            rintro ⟨v9056, gb9059⟩ w81 ⟨hS_, h0_, h1_, h2_, h3_, h4_, h5_, h6_, h7_, h8_, h9_, h10_, h11_, h12_, h13_, h14_, h15_, h16_, h17_, h18_, h19_, h20_, h21_, h22_⟩
            have n0_ : Aside0 (Kd.R (Kd.int .i64) 3 w81 w.heap.size (fun k_ => some k_ ≠ (v9056 : Value).ownBlock ∧ some k_ ≠ (v9021 : Value).ownBlock ∧ some k_ ≠ (.slice Ao12 t9004.length co12 : Value).ownBlock ∧ some k_ ≠ (.slice Ao14 t9010.length co14 : Value).ownBlock ∧ some k_ ≠ (.slice Ao23 t9026.length co23 : Value).ownBlock) (.slice Ao75 t9046.length co75) t9046) := ⟨h0_⟩
            have n1_ : Aside0 (Kd.R (Kd.int .i64) 3 w81 w.heap.size (fun k_ => some k_ ≠ (.slice Ao75 t9046.length co75 : Value).ownBlock ∧ some k_ ≠ (v9021 : Value).ownBlock ∧ some k_ ≠ (.slice Ao12 t9004.length co12 : Value).ownBlock ∧ some k_ ≠ (.slice Ao14 t9010.length co14 : Value).ownBlock ∧ some k_ ≠ (.slice Ao23 t9026.length co23 : Value).ownBlock) v9056 t9055) := ⟨h1_⟩
            have n2_ : Aside0 (Kd.R (Kd.int .i64) 3 w81 w.heap.size (fun k_ => some k_ ≠ (.slice Ao75 t9046.length co75 : Value).ownBlock ∧ some k_ ≠ (v9056 : Value).ownBlock ∧ some k_ ≠ (.slice Ao12 t9004.length co12 : Value).ownBlock ∧ some k_ ≠ (.slice Ao14 t9010.length co14 : Value).ownBlock ∧ some k_ ≠ (.slice Ao23 t9026.length co23 : Value).ownBlock) v9021 t9020) := ⟨h2_⟩
            have n3_ : Aside0 (Kd.R k47 47 w81 w.heap.size (fun _ => True) (.slice (some ad9042) t9039.length co67) t9039) := ⟨h3_⟩
            have n4_ : Aside0 (Kd.Q (Kd.int .i64) 3 w81 w.heap.size (fun k_ => some k_ ≠ (.slice Ao75 t9046.length co75 : Value).ownBlock ∧ some k_ ≠ (v9056 : Value).ownBlock ∧ some k_ ≠ (v9021 : Value).ownBlock ∧ some k_ ≠ (.slice Ao14 t9010.length co14 : Value).ownBlock ∧ some k_ ≠ (.slice Ao23 t9026.length co23 : Value).ownBlock) (.slice Ao12 t9004.length co12) t9004) := ⟨h4_⟩
            have n5_ : Aside0 (Kd.Q (Kd.int .i64) 3 w81 w.heap.size (fun k_ => some k_ ≠ (.slice Ao75 t9046.length co75 : Value).ownBlock ∧ some k_ ≠ (v9056 : Value).ownBlock ∧ some k_ ≠ (v9021 : Value).ownBlock ∧ some k_ ≠ (.slice Ao12 t9004.length co12 : Value).ownBlock ∧ some k_ ≠ (.slice Ao23 t9026.length co23 : Value).ownBlock) (.slice Ao14 t9010.length co14) t9010) := ⟨h5_⟩
            have n6_ : Aside0 (Kd.Q (Kd.int .i64) 3 w81 w.heap.size (fun k_ => some k_ ≠ (.slice Ao75 t9046.length co75 : Value).ownBlock ∧ some k_ ≠ (v9056 : Value).ownBlock ∧ some k_ ≠ (v9021 : Value).ownBlock ∧ some k_ ≠ (.slice Ao12 t9004.length co12 : Value).ownBlock ∧ some k_ ≠ (.slice Ao14 t9010.length co14 : Value).ownBlock) (.slice Ao23 t9026.length co23) t9026) := ⟨h6_⟩
            have n7_ : Aside0 (w81.heap[gb9018]? = some (.cells #[.int .i64 t9001, .int .i64 t9002, .int .i64 t9003, .slice Ao12 t9004.length co12] 27 (0, 0))) := ⟨h7_⟩
            have n8_ : Aside0 (w81.heap[gb9019]? = some (.cells #[.int .i64 t9007, .int .i64 t9008, .int .i64 t9009, .slice Ao14 t9010.length co14, .int .i64 t9013, .int .i64 t9014, .int .i64 t9015, .int .i64 t9016, .bool t9017] 55 (0, 0))) := ⟨h8_⟩
            have n9_ : Aside0 (w81.heap[gb9030]? = some (.cells #[.int .i64 t9023, .int .i64 t9024, .int .i64 t9025, .slice Ao23 t9026.length co23] 27 (0, 0))) := ⟨h9_⟩
            have n10_ : Aside0 (w81.heap[gb9050]? = some (.cells #[.int .i64 t9043, .int .i64 t9044, .int .i64 t9045, .slice Ao75 t9046.length co75] 27 (0, 0))) := ⟨h10_⟩
            have n11_ : Aside0 (w81.heap[gb9059]? = some (.cells #[.int .i64 0, .int .i64 0, .int .i64 0, .slice none 0 0] 27 (0, 0))) := ⟨h11_⟩
            have n12_ : Aside0 (w.heap.size ≤ gb9059) := ⟨h12_⟩
            have n13_ : Aside0 (w.heap.size ≤ gb9059) := ⟨h13_⟩
            have n14_ : Aside0 (gb9018 ≠ gb9059) := ⟨h14_⟩
            have n15_ : Aside0 (gb9059 ≠ gb9018) := ⟨h15_⟩
            have n16_ : Aside0 (gb9019 ≠ gb9059) := ⟨h16_⟩
            have n17_ : Aside0 (gb9059 ≠ gb9019) := ⟨h17_⟩
            have n18_ : Aside0 (gb9030 ≠ gb9059) := ⟨h18_⟩
            have n19_ : Aside0 (gb9059 ≠ gb9030) := ⟨h19_⟩
            have n20_ : Aside0 (gb9050 ≠ gb9059) := ⟨h20_⟩
            have n21_ : Aside0 (gb9059 ≠ gb9050) := ⟨h21_⟩
            have n22_ : Aside0 (Below w.heap.size w w81) := ⟨h22_⟩
            clear HO_5 HO_8 HOz0 HOz2 HOz1 HO9048 BK9018 BK9019 BK9030 BK9050 HB h0_ h1_ h2_ h3_ h4_ h5_ h6_ h7_ h8_ h9_ h10_ h11_ h12_ h13_ h14_ h15_ h16_ h17_ h18_ h19_ h20_ h21_ h22_
            revert n0_ n1_ n2_ n3_ n4_ n5_ n6_ n7_ n8_ n9_ n10_ n11_ n12_ n13_ n14_ n15_ n16_ n17_ n18_ n19_ n20_ n21_ n22_; intro HO9048 HO9057 HO_5 HO_8 HOz0 HOz2 HOz1 BK9018 BK9019 BK9030 BK9050 BK9059 GW9059 GE9059 NB9018_9059 NB9059_9018 NB9019_9059 NB9059_9019 NB9030_9059 NB9059_9030 NB9050_9059 NB9059_9050 HB
            have hHeld : w81.cell? ⟨gb9030, 0, none⟩ = some (.int .i64 t9023) ∧ w81.cell? ⟨gb9030, 1, none⟩ = some (.int .i64 t9024) ∧ w81.cell? ⟨gb9030, 2, none⟩ = some (.int .i64 t9025) ∧ w81.cell? ⟨gb9030, 3, none⟩ = some (.slice Ao23 t9026.length co23) ∧ w81.cell? (ad9042.add ((x9_2).toNat * 4)) = some (.int .i64 ((rd_T47 t9039 x9_2).f0)) ∧ w81.cell? ⟨(ad9042.add ((x9_2).toNat * 4)).block, (ad9042.add ((x9_2).toNat * 4)).off + 1, none⟩ = some (.int .i64 ((rd_T47 t9039 x9_2).f1)) ∧ w81.cell? ⟨(ad9042.add ((x9_2).toNat * 4)).block, (ad9042.add ((x9_2).toNat * 4)).off + 2, none⟩ = some (.int .i64 ((rd_T47 t9039 x9_2).f2)) ∧ w81.cell? ⟨(ad9042.add ((x9_2).toNat * 4)).block, (ad9042.add ((x9_2).toNat * 4)).off + 3, none⟩ = some (.int .i64 ((rd_T47 t9039 x9_2).f3)) := hS_
            obtain ⟨Ao85, co85, eo85⟩ := Kd.R_slice HO9057.out
            (subst eo85)
            refine norm_ (a' := ?_) ?_ ?_
            rotate_left
            ·simp only [putAll, Act.put, List.setIfInBounds_toArray, List.set_cons_zero, List.set_cons_succ]
             rfl
            refine one_ (i := 10) (N := none) #[true, true, true, true, true, true, true, true, true, true, true, false] rfl rfl (one_of HT_.out (by kernel_rfl)) (by decide) (fun K hK => ?_)
            have hs82 : w81.cell? ⟨gb9059, 0, none⟩ = some (.int .i64 0) := (blk_cell BK9059.out 0).trans rfl
            have hfs82 := blk_frozen BK9059.out 0
            have hns82_0 := NB9018_9059.out
            have hns82_1 := NB9019_9059.out
            have hns82_2 := NB9030_9059.out
            have hns82_3 := NB9050_9059.out
            have hms82_0 := NB9059_9018.out
            have hms82_1 := NB9059_9019.out
            have hms82_2 := NB9059_9030.out
            have hms82_3 := NB9059_9050.out
            have hs83 : w81.cell? ⟨gb9059, 1, none⟩ = some (.int .i64 0) := (blk_cell BK9059.out 1).trans rfl
            have hfs83 := blk_frozen BK9059.out 1
            have hns83_0 := NB9018_9059.out
            have hns83_1 := NB9019_9059.out
            have hns83_2 := NB9030_9059.out
            have hns83_3 := NB9050_9059.out
            have hms83_0 := NB9059_9018.out
            have hms83_1 := NB9059_9019.out
            have hms83_2 := NB9059_9030.out
            have hms83_3 := NB9059_9050.out
            have hs84 : w81.cell? ⟨gb9059, 2, none⟩ = some (.int .i64 0) := (blk_cell BK9059.out 2).trans rfl
            have hfs84 := blk_frozen BK9059.out 2
            have hns84_0 := NB9018_9059.out
            have hns84_1 := NB9019_9059.out
            have hns84_2 := NB9030_9059.out
            have hns84_3 := NB9050_9059.out
            have hms84_0 := NB9059_9018.out
            have hms84_1 := NB9059_9019.out
            have hms84_2 := NB9059_9030.out
            have hms84_3 := NB9059_9050.out
            have hs86 : w81.cell? ⟨gb9059, 3, none⟩ = some (.slice none 0 0) := (blk_cell BK9059.out 3).trans rfl
            have hfs86 := blk_frozen BK9059.out 3
            have hns86_0 := NB9018_9059.out
            have hns86_1 := NB9019_9059.out
            have hns86_2 := NB9030_9059.out
            have hns86_3 := NB9050_9059.out
            have hms86_0 := NB9059_9018.out
            have hms86_1 := NB9059_9019.out
            have hms86_2 := NB9059_9030.out
            have hms86_3 := NB9059_9050.out
            refine skip_ (w1 := ?_) (by rfl) rfl ?_ ?_
            rotate_left
            ·go_simp
             rfl
            refine hK.out _ _ ⟨((cell_far (p := ⟨gb9059, _, none⟩) NB9030_9059.out _).trans (((cell_far (p := ⟨gb9059, _, none⟩) NB9030_9059.out _).trans (((cell_far (p := ⟨gb9059, _, none⟩) NB9030_9059.out _).trans (((cell_far (p := ⟨gb9059, _, none⟩) NB9030_9059.out _).trans hHeld.1))))))), ((cell_far (p := ⟨gb9059, _, none⟩) NB9030_9059.out _).trans (((cell_far (p := ⟨gb9059, _, none⟩) NB9030_9059.out _).trans (((cell_far (p := ⟨gb9059, _, none⟩) NB9030_9059.out _).trans (((cell_far (p := ⟨gb9059, _, none⟩) NB9030_9059.out _).trans hHeld.2.1))))))), ((cell_far (p := ⟨gb9059, _, none⟩) NB9030_9059.out _).trans (((cell_far (p := ⟨gb9059, _, none⟩) NB9030_9059.out _).trans (((cell_far (p := ⟨gb9059, _, none⟩) NB9030_9059.out _).trans (((cell_far (p := ⟨gb9059, _, none⟩) NB9030_9059.out _).trans hHeld.2.2.1))))))), ((cell_far (p := ⟨gb9059, _, none⟩) NB9030_9059.out _).trans (((cell_far (p := ⟨gb9059, _, none⟩) NB9030_9059.out _).trans (((cell_far (p := ⟨gb9059, _, none⟩) NB9030_9059.out _).trans (((cell_far (p := ⟨gb9059, _, none⟩) NB9030_9059.out _).trans hHeld.2.2.2.1))))))), ((cell_far (p := ⟨gb9059, _, none⟩) (by (rw [add_block]; exact Kd.own_blk (Kd.R_ne HO_8.out BK9059.out (by decide)))) _).trans (((cell_far (p := ⟨gb9059, _, none⟩) (by (rw [add_block]; exact Kd.own_blk (Kd.R_ne HO_8.out BK9059.out (by decide)))) _).trans (((cell_far (p := ⟨gb9059, _, none⟩) (by (rw [add_block]; exact Kd.own_blk (Kd.R_ne HO_8.out BK9059.out (by decide)))) _).trans (((cell_far (p := ⟨gb9059, _, none⟩) (by (rw [add_block]; exact Kd.own_blk (Kd.R_ne HO_8.out BK9059.out (by decide)))) _).trans hHeld.2.2.2.2.1))))))), ((cell_far (p := ⟨gb9059, _, none⟩) (by (rw [add_block]; exact Kd.own_blk (Kd.R_ne HO_8.out BK9059.out (by decide)))) _).trans (((cell_far (p := ⟨gb9059, _, none⟩) (by (rw [add_block]; exact Kd.own_blk (Kd.R_ne HO_8.out BK9059.out (by decide)))) _).trans (((cell_far (p := ⟨gb9059, _, none⟩) (by (rw [add_block]; exact Kd.own_blk (Kd.R_ne HO_8.out BK9059.out (by decide)))) _).trans (((cell_far (p := ⟨gb9059, _, none⟩) (by (rw [add_block]; exact Kd.own_blk (Kd.R_ne HO_8.out BK9059.out (by decide)))) _).trans hHeld.2.2.2.2.2.1))))))), ((cell_far (p := ⟨gb9059, _, none⟩) (by (rw [add_block]; exact Kd.own_blk (Kd.R_ne HO_8.out BK9059.out (by decide)))) _).trans (((cell_far (p := ⟨gb9059, _, none⟩) (by (rw [add_block]; exact Kd.own_blk (Kd.R_ne HO_8.out BK9059.out (by decide)))) _).trans (((cell_far (p := ⟨gb9059, _, none⟩) (by (rw [add_block]; exact Kd.own_blk (Kd.R_ne HO_8.out BK9059.out (by decide)))) _).trans (((cell_far (p := ⟨gb9059, _, none⟩) (by (rw [add_block]; exact Kd.own_blk (Kd.R_ne HO_8.out BK9059.out (by decide)))) _).trans hHeld.2.2.2.2.2.2.1))))))), ((cell_far (p := ⟨gb9059, _, none⟩) (by (rw [add_block]; exact Kd.own_blk (Kd.R_ne HO_8.out BK9059.out (by decide)))) _).trans (((cell_far (p := ⟨gb9059, _, none⟩) (by (rw [add_block]; exact Kd.own_blk (Kd.R_ne HO_8.out BK9059.out (by decide)))) _).trans (((cell_far (p := ⟨gb9059, _, none⟩) (by (rw [add_block]; exact Kd.own_blk (Kd.R_ne HO_8.out BK9059.out (by decide)))) _).trans (((cell_far (p := ⟨gb9059, _, none⟩) (by (rw [add_block]; exact Kd.own_blk (Kd.R_ne HO_8.out BK9059.out (by decide)))) _).trans hHeld.2.2.2.2.2.2.2)))))))⟩ (fun hHeld => ?_)
            clear hK K
            refine pure_ (i := 11) (N := some 13) (v := ?_) (a' := ?_) #[true, true, true, true, true, true, true, true, true, true, true, true] rfl rfl (any_of HT_.out (by kernel_rfl)) (fun _ _ _ h => h) (Or.inl ⟨by rfl, ?_⟩) ?_ ?_
            rotate_left
            ·intro w'
             go_simp
             with_reducible rfl
            rotate_left
            ·simp only [Act.put, List.setIfInBounds_toArray, List.set_cons_zero, List.set_cons_succ, i64_w, i32_w]
             rfl
            refine done_ (done_of HT_.out (by kernel_rfl)) ?_
            obtain ⟨Ao87, co87, eo87⟩ := Kd.R_slice HO_5.out
            subst eo87
            try go_wp2_with (first | (go_at_call 52; (with_reducible refine (laws_isIn.calls k2 _ _ t9020 x9_2 true _ ?side1 ?side2 A65.out).mono ?_); (case side1 => refine (Kd.R_reads' (e := 3) (base := w.heap.size) (ok := fun k_ => (some k_ ≠ (.slice Ao75 t9046.length co75 : Value).ownBlock ∧ (some k_ ≠ (.slice Ao85 t9055.length co85 : Value).ownBlock ∧ (some k_ ≠ (.slice Ao12 t9004.length co12 : Value).ownBlock ∧ (some k_ ≠ (.slice Ao14 t9010.length co14 : Value).ownBlock ∧ some k_ ≠ (.slice Ao23 t9026.length co23 : Value).ownBlock))))) (n := t9020.length) (c := co87) ?_).2.2; exact (by exact (Kd.R_mono (Kd.R_far (p := ⟨gb9059, 3, none⟩) (Kd.R_far (p := ⟨gb9059, 2, none⟩) (Kd.R_far (p := ⟨gb9059, 1, none⟩) (Kd.R_far (p := ⟨gb9059, 0, none⟩) (Kd.R_types HO_5.out BK9059.out (by decide)) (fun _ hk => hk.2) (.int .i64 t9052)) (fun _ hk => hk.2) (.int .i64 t9053)) (fun _ hk => hk.2) (.int .i64 t9054)) (fun _ hk => hk.2) (.slice Ao85 t9055.length co85)) (fun _ h_ => h_.1)))); (case side2 => exact (Kd.R_reads' HO_5.out).2.1); rintro e w' ⟨rfl, ⟨nd, rfl⟩⟩))
            go_roundg k2
            case measure => have := HJ5.out; have := HK2.out; omega
            case rel => exact ⟨(wrap64 (x9_2 + 1)), (by rfl), H', ⟨by have := HJ5.out; have := HK2.out; omega⟩, ⟨by (with_reducible repeat (apply Kd.R_drewN)); exact Kd.R_mono (Kd.R_far (p := ⟨gb9059, 3, none⟩) (Kd.R_far (p := ⟨gb9059, 2, none⟩) (Kd.R_far (p := ⟨gb9059, 1, none⟩) (Kd.R_far (p := ⟨gb9059, 0, none⟩) (Kd.R_types HO_5.out BK9059.out (by decide)) (fun _ hk => hk.2) (.int .i64 t9052)) (fun _ hk => hk.2) (.int .i64 t9053)) (fun _ hk => hk.2) (.int .i64 t9054)) (fun _ hk => hk.2) (.slice Ao85 t9055.length co85)) (fun _ hk => ⟨hk.1.2.2.1, ⟨hk.1.2.2.2.1, hk.1.2.2.2.2⟩⟩)⟩, ⟨by (with_reducible repeat (apply Kd.R_drewN)); exact Kd.R_mono (Kd.R_far (p := ⟨gb9059, 3, none⟩) (Kd.R_far (p := ⟨gb9059, 2, none⟩) (Kd.R_far (p := ⟨gb9059, 1, none⟩) (Kd.R_far (p := ⟨gb9059, 0, none⟩) (Kd.R_types HO_8.out BK9059.out (by decide)) (fun _ hk => hk.2) (.int .i64 t9052)) (fun _ hk => hk.2) (.int .i64 t9053)) (fun _ hk => hk.2) (.int .i64 t9054)) (fun _ hk => hk.2) (.slice Ao85 t9055.length co85)) (fun _ hk => trivial)⟩, ⟨by (with_reducible repeat (apply Kd.Q_drewN)); exact Kd.Q_mono (Kd.Q_far (p := ⟨gb9059, 3, none⟩) (Kd.Q_far (p := ⟨gb9059, 2, none⟩) (Kd.Q_far (p := ⟨gb9059, 1, none⟩) (Kd.Q_far (p := ⟨gb9059, 0, none⟩) (Kd.Q_types HOz0.out BK9059.out (by decide)) (fun _ hk => hk.2) (.int .i64 t9052)) (fun _ hk => hk.2) (.int .i64 t9053)) (fun _ hk => hk.2) (.int .i64 t9054)) (fun _ hk => hk.2) (.slice Ao85 t9055.length co85)) (fun _ hk => ⟨hk.1.2.2.1, ⟨hk.1.2.2.2.1, hk.1.2.2.2.2⟩⟩)⟩, ⟨by (with_reducible repeat (apply Kd.Q_drewN)); exact Kd.Q_mono (Kd.Q_far (p := ⟨gb9059, 3, none⟩) (Kd.Q_far (p := ⟨gb9059, 2, none⟩) (Kd.Q_far (p := ⟨gb9059, 1, none⟩) (Kd.Q_far (p := ⟨gb9059, 0, none⟩) (Kd.Q_types HOz2.out BK9059.out (by decide)) (fun _ hk => hk.2) (.int .i64 t9052)) (fun _ hk => hk.2) (.int .i64 t9053)) (fun _ hk => hk.2) (.int .i64 t9054)) (fun _ hk => hk.2) (.slice Ao85 t9055.length co85)) (fun _ hk => ⟨hk.1.2.2.1, ⟨hk.1.2.2.2.1, hk.1.2.2.2.2⟩⟩)⟩, ⟨by (with_reducible repeat (apply Kd.Q_drewN)); exact Kd.Q_mono (Kd.Q_far (p := ⟨gb9059, 3, none⟩) (Kd.Q_far (p := ⟨gb9059, 2, none⟩) (Kd.Q_far (p := ⟨gb9059, 1, none⟩) (Kd.Q_far (p := ⟨gb9059, 0, none⟩) (Kd.Q_types HOz1.out BK9059.out (by decide)) (fun _ hk => hk.2) (.int .i64 t9052)) (fun _ hk => hk.2) (.int .i64 t9053)) (fun _ hk => hk.2) (.int .i64 t9054)) (fun _ hk => hk.2) (.slice Ao85 t9055.length co85)) (fun _ hk => ⟨hk.1.2.2.1, ⟨hk.1.2.2.2.1, hk.1.2.2.2.2⟩⟩)⟩, ⟨by (with_reducible repeat (refine blk_drewN ?_ _)); refine blk_far ?_ NB9018_9059.out _; refine blk_far ?_ NB9018_9059.out _; refine blk_far ?_ NB9018_9059.out _; refine blk_far ?_ NB9018_9059.out _; (with_reducible repeat (first | refine blk_drewN ?_ _ | refine blk_drew ?_ | refine blk_alloc ?_ _)); exact BK9018.out⟩, ⟨by (with_reducible repeat (refine blk_drewN ?_ _)); refine blk_far ?_ NB9019_9059.out _; refine blk_far ?_ NB9019_9059.out _; refine blk_far ?_ NB9019_9059.out _; refine blk_far ?_ NB9019_9059.out _; (with_reducible repeat (first | refine blk_drewN ?_ _ | refine blk_drew ?_ | refine blk_alloc ?_ _)); exact BK9019.out⟩, ⟨by (with_reducible repeat (refine blk_drewN ?_ _)); refine blk_far ?_ NB9030_9059.out _; refine blk_far ?_ NB9030_9059.out _; refine blk_far ?_ NB9030_9059.out _; refine blk_far ?_ NB9030_9059.out _; (with_reducible repeat (first | refine blk_drewN ?_ _ | refine blk_drew ?_ | refine blk_alloc ?_ _)); exact BK9030.out⟩, ⟨by repeat (with_reducible first | exact HB.out | apply pw_below_drewN | refine below_set ?_ GE9059.out)⟩⟩
           ·replace c66 := Bool.eq_false_iff.mpr c66
            subst c66
            have H1 : ((laws_equalImage.f k2 t9043 t9044 t9045 t9046 t9052 t9053 t9054 t9055).bind fun t9061 => (if t9061 = true then (laws_FnDirtyTiles.l0 k2 t9020 t9039 (wrap64 (x9_2 + 1)) t9001 t9002 t9003 t9004 t9023 t9024 t9025 t9026) else (some false))) = some r := by rw [if_neg (show ¬ (false = true) by decide)] at H; exact H
            clear H
            have H := H1
            clear H1
            replace H := Option.bind_eq_some_iff.mp H
            obtain ⟨t9061, A880, H⟩ := H
            replace H : (if t9061 = true then (laws_FnDirtyTiles.l0 k2 t9020 t9039 (wrap64 (x9_2 + 1)) t9001 t9002 t9003 t9004 t9023 t9024 t9025 t9026) else (some false)) = some r := H
            have A88 := mk A880
            clear A880
            by_cases c89 : t9061 = true
            ·subst c89
             have H1 : (laws_FnDirtyTiles.l0 k2 t9020 t9039 (wrap64 (x9_2 + 1)) t9001 t9002 t9003 t9004 t9023 t9024 t9025 t9026) = some r := by rw [if_pos rfl] at H; exact H
             clear H
             have H := H1
             clear H1
             have H' := mk H
             clear H
             obtain ⟨Ao90, co90, eo90⟩ := Kd.R_slice HO_8.out
             subst eo90
             try go_wp2
             have n0_ := mk (Kd.R_drew HO_5.out)
             have n1_ := mk (Kd.R_drew HO_8.out)
             have n2_ := mk (Kd.Q_drew HOz0.out)
             have n3_ := mk (Kd.Q_drew HOz2.out)
             have n4_ := mk (Kd.Q_drew HOz1.out)
             have n5_ := mk (blk_drew BK9018.out)
             have n6_ := mk (blk_drew BK9019.out)
             have n7_ := mk (blk_drew BK9030.out)
             have n8_ := mk (below_drew1 HB.out)
             clear HO_5 HO_8 HOz0 HOz2 HOz1 BK9018 BK9019 BK9030 HB
             revert n0_ n1_ n2_ n3_ n4_ n5_ n6_ n7_ n8_; intro HO_5 HO_8 HOz0 HOz2 HOz1 BK9018 BK9019 BK9030 HB
             have p9042 : 0 ≤ (x9_2 : Int) := of_decide_eq_true (by (with_reducible assumption))
             have q9042 : x9_2 < (t9039.length : Int) := of_decide_eq_true (by (with_reducible assumption))
             obtain ⟨ad9042, e9042, hx9042_0, hx9042_1, hx9042_2, hx9042_3⟩ := at_T47 (Kd.R_reads' HO_8.out).2.2 x9_2 p9042 q9042
             cases e9042
             replace p9042 := eq_true p9042
             replace q9042 := eq_true q9042
             refine start_ (n := 12) (S := fun w' => w'.cell? ⟨gb9018, 0, none⟩ = some (.int .i64 t9001) ∧ w'.cell? ⟨gb9018, 1, none⟩ = some (.int .i64 t9002) ∧ w'.cell? ⟨gb9018, 2, none⟩ = some (.int .i64 t9003) ∧ w'.cell? ⟨gb9018, 3, none⟩ = some (.slice Ao12 t9004.length co12) ∧ w'.cell? (ad9042.add ((x9_2).toNat * 4)) = some (.int .i64 ((rd_T47 t9039 x9_2).f0)) ∧ w'.cell? ⟨(ad9042.add ((x9_2).toNat * 4)).block, (ad9042.add ((x9_2).toNat * 4)).off + 1, none⟩ = some (.int .i64 ((rd_T47 t9039 x9_2).f1)) ∧ w'.cell? ⟨(ad9042.add ((x9_2).toNat * 4)).block, (ad9042.add ((x9_2).toNat * 4)).off + 2, none⟩ = some (.int .i64 ((rd_T47 t9039 x9_2).f2)) ∧ w'.cell? ⟨(ad9042.add ((x9_2).toNat * 4)).block, (ad9042.add ((x9_2).toNat * 4)).off + 3, none⟩ = some (.int .i64 ((rd_T47 t9039 x9_2).f3))) (ds := []) #[false, false, false, false, false, false, false, false, false, false, false, false] (by kernel_rfl) rfl rfl ⟨(blk_cell BK9018.out 0).trans rfl, (blk_cell BK9018.out 1).trans rfl, (blk_cell BK9018.out 2).trans rfl, (blk_cell BK9018.out 3).trans rfl, hx9042_0, hx9042_1, hx9042_2, hx9042_3⟩ (fun hHeld => ?_); refine with_tabW laws_FnDirtyTiles.tab12 laws_FnDirtyTiles.bits12 (fun HT_ HW_ => ?_)
             generalize wr.drew = w91 at HO_5 HO_8 HOz0 HOz2 HOz1 BK9018 BK9019 BK9030 HB hx9042_0 hx9042_1 hx9042_2 hx9042_3 hHeld ⊢
             refine pure_ (i := 1) (N := some 56) (v := ?_) (a' := ?_) #[false, true, false, false, false, false, false, false, false, false, false, false] rfl rfl (any_of HT_.out (by kernel_rfl)) (fun _ _ _ h => h) (Or.inl ⟨by rfl, ?_⟩) ?_ ?_
             rotate_left
             ·intro w'
              go_simp
              with_reducible rfl
             rotate_left
             ·simp only [Act.put, List.setIfInBounds_toArray, List.set_cons_zero, List.set_cons_succ, i64_w, i32_w]
              rfl
             refine pure_ (i := 2) (N := some 57) (v := ?_) (a' := ?_) #[false, true, true, false, false, false, false, false, false, false, false, false] rfl rfl (any_of HT_.out (by kernel_rfl)) (fun _ _ _ h => h) (Or.inl ⟨by rfl, ?_⟩) ?_ ?_
             rotate_left
             ·intro w'
              go_simp
              with_reducible rfl
             rotate_left
             ·simp only [Act.put, List.setIfInBounds_toArray, List.set_cons_zero, List.set_cons_succ, i64_w, i32_w]
              rfl
             refine pure_ (i := 3) (N := some 58) (v := ?_) (a' := ?_) #[false, true, true, true, false, false, false, false, false, false, false, false] rfl rfl (any_of HT_.out (by kernel_rfl)) (fun _ _ _ h => h) (Or.inl ⟨by rfl, ?_⟩) ?_ ?_
             rotate_left
             ·intro w'
              go_simp
              with_reducible rfl
             rotate_left
             ·simp only [Act.put, List.setIfInBounds_toArray, List.set_cons_zero, List.set_cons_succ, i64_w, i32_w]
              rfl
             refine take_ (i := 0) (N := some 55) (v := ?_) (a' := ?_) #[true, true, true, true, false, false, false, false, false, false, false, false] rfl rfl (take_ofW HT_.out HW_.out (by kernel_rfl)) (fun _ _ _ h => h) (Or.inl ⟨by rfl, ?_⟩) hHeld ?_ ?_
             rotate_left
             ·rintro w' ⟨s0, s1, s2, s3, s4, s5, s6, s7⟩
              go_simp
              with_reducible rfl
             rotate_left
             ·simp only [Act.put, List.setIfInBounds_toArray, List.set_cons_zero, List.set_cons_succ, i64_w, i32_w]
              rfl
             refine take_ (i := 4) (N := some 59) (v := ?_) (a' := ?_) #[true, true, true, true, true, false, false, false, false, false, false, false] rfl rfl (take_ofW HT_.out HW_.out (by kernel_rfl)) (fun _ _ _ h => h) (Or.inl ⟨by rfl, ?_⟩) hHeld ?_ ?_
             rotate_left
             ·rintro w' ⟨s0, s1, s2, s3, s4, s5, s6, s7⟩
              go_simp
              with_reducible rfl
             rotate_left
             ·simp only [Act.put, List.setIfInBounds_toArray, List.set_cons_zero, List.set_cons_succ, i64_w, i32_w]
              rfl
             refine join_ (σ := Value × Nat) 2 #[true, true, true, true, true, true, true, true, true, true, false, false] (fun s_ => [(60, .tuple #[.agg #[.int .i64 t9043, .int .i64 t9044, .int .i64 t9045, s_.1], .bool true]), (10, .pointer (some ⟨s_.2, 0, none⟩)), (54, .tuple #[.agg #[.int .i64 t9043, .int .i64 t9044, .int .i64 t9045, s_.1], .bool true]), (61, .agg #[.int .i64 t9043, .int .i64 t9044, .int .i64 t9045, s_.1]), (62, .bool true)]) (fun s_ w' => (w'.cell? ⟨gb9018, 0, none⟩ = some (.int .i64 t9001) ∧ w'.cell? ⟨gb9018, 1, none⟩ = some (.int .i64 t9002) ∧ w'.cell? ⟨gb9018, 2, none⟩ = some (.int .i64 t9003) ∧ w'.cell? ⟨gb9018, 3, none⟩ = some (.slice Ao12 t9004.length co12) ∧ w'.cell? (ad9042.add ((x9_2).toNat * 4)) = some (.int .i64 ((rd_T47 t9039 x9_2).f0)) ∧ w'.cell? ⟨(ad9042.add ((x9_2).toNat * 4)).block, (ad9042.add ((x9_2).toNat * 4)).off + 1, none⟩ = some (.int .i64 ((rd_T47 t9039 x9_2).f1)) ∧ w'.cell? ⟨(ad9042.add ((x9_2).toNat * 4)).block, (ad9042.add ((x9_2).toNat * 4)).off + 2, none⟩ = some (.int .i64 ((rd_T47 t9039 x9_2).f2)) ∧ w'.cell? ⟨(ad9042.add ((x9_2).toNat * 4)).block, (ad9042.add ((x9_2).toNat * 4)).off + 3, none⟩ = some (.int .i64 ((rd_T47 t9039 x9_2).f3))) ∧ (Kd.R (Kd.int .i64) 3 w' w.heap.size (fun k_ => some k_ ≠ (v9021 : Value).ownBlock ∧ some k_ ≠ (.slice Ao12 t9004.length co12 : Value).ownBlock ∧ some k_ ≠ (.slice Ao14 t9010.length co14 : Value).ownBlock ∧ some k_ ≠ (.slice Ao23 t9026.length co23 : Value).ownBlock) s_.1 t9046) ∧ (Kd.R (Kd.int .i64) 3 w' w.heap.size (fun k_ => some k_ ≠ (s_.1 : Value).ownBlock ∧ some k_ ≠ (.slice Ao12 t9004.length co12 : Value).ownBlock ∧ some k_ ≠ (.slice Ao14 t9010.length co14 : Value).ownBlock ∧ some k_ ≠ (.slice Ao23 t9026.length co23 : Value).ownBlock) v9021 t9020) ∧ (Kd.R k47 47 w' w.heap.size (fun _ => True) (.slice (some ad9042) t9039.length co90) t9039) ∧ (Kd.Q (Kd.int .i64) 3 w' w.heap.size (fun k_ => some k_ ≠ (s_.1 : Value).ownBlock ∧ some k_ ≠ (v9021 : Value).ownBlock ∧ some k_ ≠ (.slice Ao14 t9010.length co14 : Value).ownBlock ∧ some k_ ≠ (.slice Ao23 t9026.length co23 : Value).ownBlock) (.slice Ao12 t9004.length co12) t9004) ∧ (Kd.Q (Kd.int .i64) 3 w' w.heap.size (fun k_ => some k_ ≠ (s_.1 : Value).ownBlock ∧ some k_ ≠ (v9021 : Value).ownBlock ∧ some k_ ≠ (.slice Ao12 t9004.length co12 : Value).ownBlock ∧ some k_ ≠ (.slice Ao23 t9026.length co23 : Value).ownBlock) (.slice Ao14 t9010.length co14) t9010) ∧ (Kd.Q (Kd.int .i64) 3 w' w.heap.size (fun k_ => some k_ ≠ (s_.1 : Value).ownBlock ∧ some k_ ≠ (v9021 : Value).ownBlock ∧ some k_ ≠ (.slice Ao12 t9004.length co12 : Value).ownBlock ∧ some k_ ≠ (.slice Ao14 t9010.length co14 : Value).ownBlock) (.slice Ao23 t9026.length co23) t9026) ∧ (w'.heap[gb9018]? = some (.cells #[.int .i64 t9001, .int .i64 t9002, .int .i64 t9003, .slice Ao12 t9004.length co12] 27 (0, 0))) ∧ (w'.heap[gb9019]? = some (.cells #[.int .i64 t9007, .int .i64 t9008, .int .i64 t9009, .slice Ao14 t9010.length co14, .int .i64 t9013, .int .i64 t9014, .int .i64 t9015, .int .i64 t9016, .bool t9017] 55 (0, 0))) ∧ (w'.heap[gb9030]? = some (.cells #[.int .i64 t9023, .int .i64 t9024, .int .i64 t9025, .slice Ao23 t9026.length co23] 27 (0, 0))) ∧ (w'.heap[s_.2]? = some (.cells #[.int .i64 0, .int .i64 0, .int .i64 0, .slice none 0 0] 27 (0, 0))) ∧ (w.heap.size ≤ s_.2) ∧ (w.heap.size ≤ s_.2) ∧ (gb9018 ≠ s_.2) ∧ (s_.2 ≠ gb9018) ∧ (gb9019 ≠ s_.2) ∧ (s_.2 ≠ gb9019) ∧ (gb9030 ≠ s_.2) ∧ (s_.2 ≠ gb9030) ∧ (Below w.heap.size w w')) ?_ ?_
             rotate_left
             ·intro hCont
              refine two_ (i := 5) (j := 9) (Ni := some 60) (Nj := some 10) #[true, true, true, true, true, true, false, false, false, false, false, false] #[true, true, true, true, true, false, false, false, false, true, false, false] rfl rfl rfl rfl (two_of HT_.out (by kernel_rfl)) (by decide) (by decide) (fun K hK => ?_) (fun K hK => ?_)
              ·skip
               refine goes_ Try.func51 (by kernel_rfl) rfl #[.agg #[.int .i64 t9001, .int .i64 t9002, .int .i64 t9003, .slice Ao12 t9004.length co12], .agg #[.int .i64 ((rd_T47 t9039 x9_2).f0), .int .i64 ((rd_T47 t9039 x9_2).f1), .int .i64 ((rd_T47 t9039 x9_2).f2), .int .i64 ((rd_T47 t9039 x9_2).f3)]] (by rfl) rfl rfl (by (try simp only [List.map_toArray, List.map_cons, List.map_nil]); rfl) ?_
               with_reducible refine (impl_CropImage.calls t9001 t9002 t9003 _ _ t9004 ((rd_T47 t9039 x9_2).f0) ((rd_T47 t9039 x9_2).f1) ((rd_T47 t9039 x9_2).f2) ((rd_T47 t9039 x9_2).f3) t9043 t9044 t9045 t9046 true _ ?side1 ?side2 A61.out).mono ?_
               (case side1 => repeat (exact (Kd.Q_reads' HOz0.out).2.2))
               (case side2 => exact (Kd.Q_reads' HOz0.out).2.1)
               rintro e w92 ⟨v9047, rfl, ho0, hb⟩
               have HS4_ := (hb.cell (World.block_lt_of_cell? _ _ hHeld.2.2.2.2.1)).trans (hHeld.2.2.2.2.1)
               have HS5_ := (hb.cell (World.block_lt_of_cell? _ _ hHeld.2.2.2.2.2.1)).trans (hHeld.2.2.2.2.2.1)
               have HS6_ := (hb.cell (World.block_lt_of_cell? _ _ hHeld.2.2.2.2.2.2.1)).trans (hHeld.2.2.2.2.2.2.1)
               have HS7_ := (hb.cell (World.block_lt_of_cell? _ _ hHeld.2.2.2.2.2.2.2)).trans (hHeld.2.2.2.2.2.2.2)
               refine ⟨_, rfl, ?_⟩
               have n0_ := mk (Kd.R_elder' HO_5.out (Kd.R_base ho0) hb)
               have n1_ := mk (Kd.R_below HO_8.out hb)
               have n2_ := mk (Kd.Q_elder' HOz0.out (Kd.R_base ho0) hb)
               have n3_ := mk (Kd.Q_elder' HOz2.out (Kd.R_base ho0) hb)
               have n4_ := mk (Kd.Q_elder' HOz1.out (Kd.R_base ho0) hb)
               have n5_ := mk (Kd.R_lower (Kd.R_new' (Kd.R_new' (Kd.R_new' (Kd.R_new' ho0 (Kd.R_lt HO_5.out)) (Kd.Q_lt HOz0.out)) (Kd.Q_lt HOz2.out)) (Kd.Q_lt HOz1.out)) (below_size HB.out))
               have n6_ := mk (blk_below BK9018.out hb)
               have n7_ := mk (blk_below BK9019.out hb)
               have n8_ := mk (blk_below BK9030.out hb)
               have n9_ := mk (below_step HB.out hb)
               clear HO_5 HO_8 HOz0 HOz2 HOz1 BK9018 BK9019 BK9030 HB
               revert n0_ n1_ n2_ n3_ n4_ n5_ n6_ n7_ n8_ n9_; intro HO_5 HO_8 HOz0 HOz2 HOz1 HO9048 BK9018 BK9019 BK9030 HB
               (try clear hb)
               (try clear ho0)
               refine hK.out _ _ ⟨(blk_cell BK9018.out 0).trans rfl, (blk_cell BK9018.out 1).trans rfl, (blk_cell BK9018.out 2).trans rfl, (blk_cell BK9018.out 3).trans rfl, HS4_, HS5_, HS6_, HS7_⟩ (fun hHeld => ?_)
               clear hK K
               refine norm_ (a' := ?_) ?_ ?_
               rotate_left
               ·show Act.put _ (some 60) _ = _
                simp only [Act.put, List.setIfInBounds_toArray, List.set_cons_zero, List.set_cons_succ, i64_w, i32_w]
                rfl
               refine pure_ (i := 6) (N := some 54) (v := ?_) (a' := ?_) #[true, true, true, true, true, true, true, false, false, false, false, false] rfl rfl (any_of HT_.out (by kernel_rfl)) (fun _ _ _ h => h) (Or.inl ⟨by rfl, ?_⟩) ?_ ?_
               rotate_left
               ·intro w'
                go_simp
                with_reducible rfl
               rotate_left
               ·simp only [Act.put, List.setIfInBounds_toArray, List.set_cons_zero, List.set_cons_succ, i64_w, i32_w]
                rfl
               refine pure_ (i := 7) (N := some 61) (v := ?_) (a' := ?_) #[true, true, true, true, true, true, true, true, false, false, false, false] rfl rfl (any_of HT_.out (by kernel_rfl)) (fun _ _ _ h => h) (Or.inl ⟨by rfl, ?_⟩) ?_ ?_
               rotate_left
               ·intro w'
                go_simp
                with_reducible rfl
               rotate_left
               ·simp only [Act.put, List.setIfInBounds_toArray, List.set_cons_zero, List.set_cons_succ, i64_w, i32_w]
                rfl
               refine pure_ (i := 8) (N := some 62) (v := ?_) (a' := ?_) #[true, true, true, true, true, true, true, true, true, false, false, false] rfl rfl (any_of HT_.out (by kernel_rfl)) (fun _ _ _ h => h) (Or.inl ⟨by rfl, ?_⟩) ?_ ?_
               rotate_left
               ·intro w'
                go_simp
                with_reducible rfl
               rotate_left
               ·simp only [Act.put, List.setIfInBounds_toArray, List.set_cons_zero, List.set_cons_succ, i64_w, i32_w]
                rfl
               refine one_ (i := 9) (N := some 10) #[true, true, true, true, true, true, true, true, true, true, false, false] rfl rfl (one_of HT_.out (by kernel_rfl)) (by decide) (fun K hK => ?_)
               refine box_step ?hg (N := 10) ?hd (cs := #[.int .i64 0, .int .i64 0, .int .i64 0, .slice none 0 0]) (t := 27) ?hr ?_; (case hd => rfl); (case hg => rfl); (case hr => (go_simp; done))
               intro gb9050 hg w93 hbox hb
               have HS4_ := (hb.cell (World.block_lt_of_cell? _ _ hHeld.2.2.2.2.1)).trans (hHeld.2.2.2.2.1)
               have HS5_ := (hb.cell (World.block_lt_of_cell? _ _ hHeld.2.2.2.2.2.1)).trans (hHeld.2.2.2.2.2.1)
               have HS6_ := (hb.cell (World.block_lt_of_cell? _ _ hHeld.2.2.2.2.2.2.1)).trans (hHeld.2.2.2.2.2.2.1)
               have HS7_ := (hb.cell (World.block_lt_of_cell? _ _ hHeld.2.2.2.2.2.2.2)).trans (hHeld.2.2.2.2.2.2.2)
               have n0_ := mk (Kd.R_below HO_5.out hb)
               have n1_ := mk (Kd.R_below HO_8.out hb)
               have n2_ := mk (Kd.Q_below HOz0.out hb)
               have n3_ := mk (Kd.Q_below HOz2.out hb)
               have n4_ := mk (Kd.Q_below HOz1.out hb)
               have n5_ := mk (Kd.R_below HO9048.out hb)
               have n6_ := mk (blk_below BK9018.out hb)
               have n7_ := mk (blk_below BK9019.out hb)
               have n8_ := mk (blk_below BK9030.out hb)
               have n9_ := mk (below_step HB.out hb)
               have n10_ := mk (hbox)
               have n11_ := mk ((by rw [hg]; exact (below_size HB.out) : w.heap.size ≤ gb9050))
               have n12_ := mk ((by rw [hg]; exact (below_size HB.out) : w.heap.size ≤ gb9050))
               have n13_ := mk ((by rw [hg]; exact Nat.ne_of_lt (blk_lt BK9018.out) : gb9018 ≠ gb9050))
               have n14_ := mk n13_.out.symm
               have n15_ := mk ((by rw [hg]; exact Nat.ne_of_lt (blk_lt BK9019.out) : gb9019 ≠ gb9050))
               have n16_ := mk n15_.out.symm
               have n17_ := mk ((by rw [hg]; exact Nat.ne_of_lt (blk_lt BK9030.out) : gb9030 ≠ gb9050))
               have n18_ := mk n17_.out.symm
               clear HO_5 HO_8 HOz0 HOz2 HOz1 HO9048 BK9018 BK9019 BK9030 HB
               revert n0_ n1_ n2_ n3_ n4_ n5_ n6_ n7_ n8_ n9_ n10_ n11_ n12_ n13_ n14_ n15_ n16_ n17_ n18_; intro HO_5 HO_8 HOz0 HOz2 HOz1 HO9048 BK9018 BK9019 BK9030 HB BK9050 GW9050 GE9050 NB9018_9050 NB9050_9018 NB9019_9050 NB9050_9019 NB9030_9050 NB9050_9030
               clear hb hbox hg
               refine hK.out _ _ ⟨(blk_cell BK9018.out 0).trans rfl, (blk_cell BK9018.out 1).trans rfl, (blk_cell BK9018.out 2).trans rfl, (blk_cell BK9018.out 3).trans rfl, HS4_, HS5_, HS6_, HS7_⟩ (fun hHeld => ?_)
               clear hK K
               refine norm_ (a' := ?_) ?_ ?_
               rotate_left
               ·show Act.put _ (some 10) _ = _
                simp only [Act.put, List.setIfInBounds_toArray, List.set_cons_zero, List.set_cons_succ, i64_w, i32_w]
                rfl
               exact norm_ (by simp only [putAll, Act.put, List.setIfInBounds_toArray, List.set_cons_zero, List.set_cons_succ]) (hCont (v9047, gb9050) _ ⟨hHeld, (by exact Kd.R_mono HO9048.out (fun _ hk => ⟨hk.1.1.1.2, ⟨hk.1.1.2, ⟨hk.1.2, hk.2⟩⟩⟩)), (by exact Kd.R_mono HO_5.out (fun _ hk => ⟨hk.2, ⟨hk.1.1, ⟨hk.1.2.1, hk.1.2.2⟩⟩⟩)), HO_8.out, (by exact Kd.Q_mono HOz0.out (fun _ hk => ⟨hk.2, ⟨hk.1.1, ⟨hk.1.2.1, hk.1.2.2⟩⟩⟩)), (by exact Kd.Q_mono HOz2.out (fun _ hk => ⟨hk.2, ⟨hk.1.1, ⟨hk.1.2.1, hk.1.2.2⟩⟩⟩)), (by exact Kd.Q_mono HOz1.out (fun _ hk => ⟨hk.2, ⟨hk.1.1, ⟨hk.1.2.1, hk.1.2.2⟩⟩⟩)), BK9018.out, BK9019.out, BK9030.out, BK9050.out, GW9050.out, GE9050.out, NB9018_9050.out, NB9050_9018.out, NB9019_9050.out, NB9050_9019.out, NB9030_9050.out, NB9050_9030.out, (HB.out)⟩)
              ·skip
               refine box_step ?hg (N := 10) ?hd (cs := #[.int .i64 0, .int .i64 0, .int .i64 0, .slice none 0 0]) (t := 27) ?hr ?_; (case hd => rfl); (case hg => rfl); (case hr => (go_simp; done))
               intro gb9050 hg w92 hbox hb
               have HS4_ := (hb.cell (World.block_lt_of_cell? _ _ hHeld.2.2.2.2.1)).trans (hHeld.2.2.2.2.1)
               have HS5_ := (hb.cell (World.block_lt_of_cell? _ _ hHeld.2.2.2.2.2.1)).trans (hHeld.2.2.2.2.2.1)
               have HS6_ := (hb.cell (World.block_lt_of_cell? _ _ hHeld.2.2.2.2.2.2.1)).trans (hHeld.2.2.2.2.2.2.1)
               have HS7_ := (hb.cell (World.block_lt_of_cell? _ _ hHeld.2.2.2.2.2.2.2)).trans (hHeld.2.2.2.2.2.2.2)
               have n0_ := mk (Kd.R_below HO_5.out hb)
               have n1_ := mk (Kd.R_below HO_8.out hb)
               have n2_ := mk (Kd.Q_below HOz0.out hb)
               have n3_ := mk (Kd.Q_below HOz2.out hb)
               have n4_ := mk (Kd.Q_below HOz1.out hb)
               have n5_ := mk (blk_below BK9018.out hb)
               have n6_ := mk (blk_below BK9019.out hb)
               have n7_ := mk (blk_below BK9030.out hb)
               have n8_ := mk (below_step HB.out hb)
               have n9_ := mk (hbox)
               have n10_ := mk ((by rw [hg]; exact (below_size HB.out) : w.heap.size ≤ gb9050))
               have n11_ := mk ((by rw [hg]; exact (below_size HB.out) : w.heap.size ≤ gb9050))
               have n12_ := mk ((by rw [hg]; exact Nat.ne_of_lt (blk_lt BK9018.out) : gb9018 ≠ gb9050))
               have n13_ := mk n12_.out.symm
               have n14_ := mk ((by rw [hg]; exact Nat.ne_of_lt (blk_lt BK9019.out) : gb9019 ≠ gb9050))
               have n15_ := mk n14_.out.symm
               have n16_ := mk ((by rw [hg]; exact Nat.ne_of_lt (blk_lt BK9030.out) : gb9030 ≠ gb9050))
               have n17_ := mk n16_.out.symm
               clear HO_5 HO_8 HOz0 HOz2 HOz1 BK9018 BK9019 BK9030 HB
               revert n0_ n1_ n2_ n3_ n4_ n5_ n6_ n7_ n8_ n9_ n10_ n11_ n12_ n13_ n14_ n15_ n16_ n17_; intro HO_5 HO_8 HOz0 HOz2 HOz1 BK9018 BK9019 BK9030 HB BK9050 GW9050 GE9050 NB9018_9050 NB9050_9018 NB9019_9050 NB9050_9019 NB9030_9050 NB9050_9030
               clear hb hbox hg
               refine hK.out _ _ ⟨(blk_cell BK9018.out 0).trans rfl, (blk_cell BK9018.out 1).trans rfl, (blk_cell BK9018.out 2).trans rfl, (blk_cell BK9018.out 3).trans rfl, HS4_, HS5_, HS6_, HS7_⟩ (fun hHeld => ?_)
               clear hK K
               refine norm_ (a' := ?_) ?_ ?_
               rotate_left
               ·show Act.put _ (some 10) _ = _
                simp only [Act.put, List.setIfInBounds_toArray, List.set_cons_zero, List.set_cons_succ, i64_w, i32_w]
                rfl
               refine one_ (i := 5) (N := some 60) #[true, true, true, true, true, true, false, false, false, true, false, false] rfl rfl (one_of HT_.out (by kernel_rfl)) (by decide) (fun K hK => ?_)
               refine goes_ Try.func51 (by kernel_rfl) rfl #[.agg #[.int .i64 t9001, .int .i64 t9002, .int .i64 t9003, .slice Ao12 t9004.length co12], .agg #[.int .i64 ((rd_T47 t9039 x9_2).f0), .int .i64 ((rd_T47 t9039 x9_2).f1), .int .i64 ((rd_T47 t9039 x9_2).f2), .int .i64 ((rd_T47 t9039 x9_2).f3)]] (by rfl) rfl rfl (by (try simp only [List.map_toArray, List.map_cons, List.map_nil]); rfl) ?_
               with_reducible refine (impl_CropImage.calls t9001 t9002 t9003 _ _ t9004 ((rd_T47 t9039 x9_2).f0) ((rd_T47 t9039 x9_2).f1) ((rd_T47 t9039 x9_2).f2) ((rd_T47 t9039 x9_2).f3) t9043 t9044 t9045 t9046 true _ ?side1 ?side2 A61.out).mono ?_
               (case side1 => repeat (exact (Kd.Q_reads' HOz0.out).2.2))
               (case side2 => exact (Kd.Q_reads' HOz0.out).2.1)
               rintro e w93 ⟨v9047, rfl, ho0, hb⟩
               have HS4_ := (hb.cell (World.block_lt_of_cell? _ _ hHeld.2.2.2.2.1)).trans (hHeld.2.2.2.2.1)
               have HS5_ := (hb.cell (World.block_lt_of_cell? _ _ hHeld.2.2.2.2.2.1)).trans (hHeld.2.2.2.2.2.1)
               have HS6_ := (hb.cell (World.block_lt_of_cell? _ _ hHeld.2.2.2.2.2.2.1)).trans (hHeld.2.2.2.2.2.2.1)
               have HS7_ := (hb.cell (World.block_lt_of_cell? _ _ hHeld.2.2.2.2.2.2.2)).trans (hHeld.2.2.2.2.2.2.2)
               refine ⟨_, rfl, ?_⟩
               have n0_ := mk (Kd.R_elder' HO_5.out (Kd.R_base ho0) hb)
               have n1_ := mk (Kd.R_below HO_8.out hb)
               have n2_ := mk (Kd.Q_elder' HOz0.out (Kd.R_base ho0) hb)
               have n3_ := mk (Kd.Q_elder' HOz2.out (Kd.R_base ho0) hb)
               have n4_ := mk (Kd.Q_elder' HOz1.out (Kd.R_base ho0) hb)
               have n5_ := mk (Kd.R_lower (Kd.R_new' (Kd.R_new' (Kd.R_new' (Kd.R_new' ho0 (Kd.R_lt HO_5.out)) (Kd.Q_lt HOz0.out)) (Kd.Q_lt HOz2.out)) (Kd.Q_lt HOz1.out)) (below_size HB.out))
               have n6_ := mk (blk_below BK9018.out hb)
               have n7_ := mk (blk_below BK9019.out hb)
               have n8_ := mk (blk_below BK9030.out hb)
               have n9_ := mk (blk_below BK9050.out hb)
               have n10_ := mk (below_step HB.out hb)
               clear HO_5 HO_8 HOz0 HOz2 HOz1 BK9018 BK9019 BK9030 BK9050 HB
               revert n0_ n1_ n2_ n3_ n4_ n5_ n6_ n7_ n8_ n9_ n10_; intro HO_5 HO_8 HOz0 HOz2 HOz1 HO9048 BK9018 BK9019 BK9030 BK9050 HB
               (try clear hb)
               (try clear ho0)
               refine hK.out _ _ ⟨(blk_cell BK9018.out 0).trans rfl, (blk_cell BK9018.out 1).trans rfl, (blk_cell BK9018.out 2).trans rfl, (blk_cell BK9018.out 3).trans rfl, HS4_, HS5_, HS6_, HS7_⟩ (fun hHeld => ?_)
               clear hK K
               refine norm_ (a' := ?_) ?_ ?_
               rotate_left
               ·show Act.put _ (some 60) _ = _
                simp only [Act.put, List.setIfInBounds_toArray, List.set_cons_zero, List.set_cons_succ, i64_w, i32_w]
                rfl
               refine pure_ (i := 6) (N := some 54) (v := ?_) (a' := ?_) #[true, true, true, true, true, true, true, false, false, true, false, false] rfl rfl (any_of HT_.out (by kernel_rfl)) (fun _ _ _ h => h) (Or.inl ⟨by rfl, ?_⟩) ?_ ?_
               rotate_left
               ·intro w'
                go_simp
                with_reducible rfl
               rotate_left
               ·simp only [Act.put, List.setIfInBounds_toArray, List.set_cons_zero, List.set_cons_succ, i64_w, i32_w]
                rfl
               refine pure_ (i := 7) (N := some 61) (v := ?_) (a' := ?_) #[true, true, true, true, true, true, true, true, false, true, false, false] rfl rfl (any_of HT_.out (by kernel_rfl)) (fun _ _ _ h => h) (Or.inl ⟨by rfl, ?_⟩) ?_ ?_
               rotate_left
               ·intro w'
                go_simp
                with_reducible rfl
               rotate_left
               ·simp only [Act.put, List.setIfInBounds_toArray, List.set_cons_zero, List.set_cons_succ, i64_w, i32_w]
                rfl
               refine pure_ (i := 8) (N := some 62) (v := ?_) (a' := ?_) #[true, true, true, true, true, true, true, true, true, true, false, false] rfl rfl (any_of HT_.out (by kernel_rfl)) (fun _ _ _ h => h) (Or.inl ⟨by rfl, ?_⟩) ?_ ?_
               rotate_left
               ·intro w'
                go_simp
                with_reducible rfl
               rotate_left
               ·simp only [Act.put, List.setIfInBounds_toArray, List.set_cons_zero, List.set_cons_succ, i64_w, i32_w]
                rfl
               exact norm_ (by simp only [putAll, Act.put, List.setIfInBounds_toArray, List.set_cons_zero, List.set_cons_succ]) (hCont (v9047, gb9050) _ ⟨hHeld, (by exact Kd.R_mono HO9048.out (fun _ hk => ⟨hk.1.1.1.2, ⟨hk.1.1.2, ⟨hk.1.2, hk.2⟩⟩⟩)), (by exact Kd.R_mono HO_5.out (fun _ hk => ⟨hk.2, ⟨hk.1.1, ⟨hk.1.2.1, hk.1.2.2⟩⟩⟩)), HO_8.out, (by exact Kd.Q_mono HOz0.out (fun _ hk => ⟨hk.2, ⟨hk.1.1, ⟨hk.1.2.1, hk.1.2.2⟩⟩⟩)), (by exact Kd.Q_mono HOz2.out (fun _ hk => ⟨hk.2, ⟨hk.1.1, ⟨hk.1.2.1, hk.1.2.2⟩⟩⟩)), (by exact Kd.Q_mono HOz1.out (fun _ hk => ⟨hk.2, ⟨hk.1.1, ⟨hk.1.2.1, hk.1.2.2⟩⟩⟩)), BK9018.out, BK9019.out, BK9030.out, BK9050.out, GW9050.out, GE9050.out, NB9018_9050.out, NB9050_9018.out, NB9019_9050.out, NB9050_9019.out, NB9030_9050.out, NB9050_9030.out, (HB.out)⟩)
             rintro ⟨v9047, gb9050⟩ w94 ⟨hS_, h0_, h1_, h2_, h3_, h4_, h5_, h6_, h7_, h8_, h9_, h10_, h11_, h12_, h13_, h14_, h15_, h16_, h17_, h18_⟩
             have n0_ : Aside0 (Kd.R (Kd.int .i64) 3 w94 w.heap.size (fun k_ => some k_ ≠ (v9021 : Value).ownBlock ∧ some k_ ≠ (.slice Ao12 t9004.length co12 : Value).ownBlock ∧ some k_ ≠ (.slice Ao14 t9010.length co14 : Value).ownBlock ∧ some k_ ≠ (.slice Ao23 t9026.length co23 : Value).ownBlock) v9047 t9046) := ⟨h0_⟩
             have n1_ : Aside0 (Kd.R (Kd.int .i64) 3 w94 w.heap.size (fun k_ => some k_ ≠ (v9047 : Value).ownBlock ∧ some k_ ≠ (.slice Ao12 t9004.length co12 : Value).ownBlock ∧ some k_ ≠ (.slice Ao14 t9010.length co14 : Value).ownBlock ∧ some k_ ≠ (.slice Ao23 t9026.length co23 : Value).ownBlock) v9021 t9020) := ⟨h1_⟩
             have n2_ : Aside0 (Kd.R k47 47 w94 w.heap.size (fun _ => True) (.slice (some ad9042) t9039.length co90) t9039) := ⟨h2_⟩
             have n3_ : Aside0 (Kd.Q (Kd.int .i64) 3 w94 w.heap.size (fun k_ => some k_ ≠ (v9047 : Value).ownBlock ∧ some k_ ≠ (v9021 : Value).ownBlock ∧ some k_ ≠ (.slice Ao14 t9010.length co14 : Value).ownBlock ∧ some k_ ≠ (.slice Ao23 t9026.length co23 : Value).ownBlock) (.slice Ao12 t9004.length co12) t9004) := ⟨h3_⟩
             have n4_ : Aside0 (Kd.Q (Kd.int .i64) 3 w94 w.heap.size (fun k_ => some k_ ≠ (v9047 : Value).ownBlock ∧ some k_ ≠ (v9021 : Value).ownBlock ∧ some k_ ≠ (.slice Ao12 t9004.length co12 : Value).ownBlock ∧ some k_ ≠ (.slice Ao23 t9026.length co23 : Value).ownBlock) (.slice Ao14 t9010.length co14) t9010) := ⟨h4_⟩
             have n5_ : Aside0 (Kd.Q (Kd.int .i64) 3 w94 w.heap.size (fun k_ => some k_ ≠ (v9047 : Value).ownBlock ∧ some k_ ≠ (v9021 : Value).ownBlock ∧ some k_ ≠ (.slice Ao12 t9004.length co12 : Value).ownBlock ∧ some k_ ≠ (.slice Ao14 t9010.length co14 : Value).ownBlock) (.slice Ao23 t9026.length co23) t9026) := ⟨h5_⟩
             have n6_ : Aside0 (w94.heap[gb9018]? = some (.cells #[.int .i64 t9001, .int .i64 t9002, .int .i64 t9003, .slice Ao12 t9004.length co12] 27 (0, 0))) := ⟨h6_⟩
             have n7_ : Aside0 (w94.heap[gb9019]? = some (.cells #[.int .i64 t9007, .int .i64 t9008, .int .i64 t9009, .slice Ao14 t9010.length co14, .int .i64 t9013, .int .i64 t9014, .int .i64 t9015, .int .i64 t9016, .bool t9017] 55 (0, 0))) := ⟨h7_⟩
             have n8_ : Aside0 (w94.heap[gb9030]? = some (.cells #[.int .i64 t9023, .int .i64 t9024, .int .i64 t9025, .slice Ao23 t9026.length co23] 27 (0, 0))) := ⟨h8_⟩
             have n9_ : Aside0 (w94.heap[gb9050]? = some (.cells #[.int .i64 0, .int .i64 0, .int .i64 0, .slice none 0 0] 27 (0, 0))) := ⟨h9_⟩
             have n10_ : Aside0 (w.heap.size ≤ gb9050) := ⟨h10_⟩
             have n11_ : Aside0 (w.heap.size ≤ gb9050) := ⟨h11_⟩
             have n12_ : Aside0 (gb9018 ≠ gb9050) := ⟨h12_⟩
             have n13_ : Aside0 (gb9050 ≠ gb9018) := ⟨h13_⟩
             have n14_ : Aside0 (gb9019 ≠ gb9050) := ⟨h14_⟩
             have n15_ : Aside0 (gb9050 ≠ gb9019) := ⟨h15_⟩
             have n16_ : Aside0 (gb9030 ≠ gb9050) := ⟨h16_⟩
             have n17_ : Aside0 (gb9050 ≠ gb9030) := ⟨h17_⟩
             have n18_ : Aside0 (Below w.heap.size w w94) := ⟨h18_⟩
             clear HO_5 HO_8 HOz0 HOz2 HOz1 BK9018 BK9019 BK9030 HB h0_ h1_ h2_ h3_ h4_ h5_ h6_ h7_ h8_ h9_ h10_ h11_ h12_ h13_ h14_ h15_ h16_ h17_ h18_
             revert n0_ n1_ n2_ n3_ n4_ n5_ n6_ n7_ n8_ n9_ n10_ n11_ n12_ n13_ n14_ n15_ n16_ n17_ n18_; intro HO9048 HO_5 HO_8 HOz0 HOz2 HOz1 BK9018 BK9019 BK9030 BK9050 GW9050 GE9050 NB9018_9050 NB9050_9018 NB9019_9050 NB9050_9019 NB9030_9050 NB9050_9030 HB
             have hHeld : w94.cell? ⟨gb9018, 0, none⟩ = some (.int .i64 t9001) ∧ w94.cell? ⟨gb9018, 1, none⟩ = some (.int .i64 t9002) ∧ w94.cell? ⟨gb9018, 2, none⟩ = some (.int .i64 t9003) ∧ w94.cell? ⟨gb9018, 3, none⟩ = some (.slice Ao12 t9004.length co12) ∧ w94.cell? (ad9042.add ((x9_2).toNat * 4)) = some (.int .i64 ((rd_T47 t9039 x9_2).f0)) ∧ w94.cell? ⟨(ad9042.add ((x9_2).toNat * 4)).block, (ad9042.add ((x9_2).toNat * 4)).off + 1, none⟩ = some (.int .i64 ((rd_T47 t9039 x9_2).f1)) ∧ w94.cell? ⟨(ad9042.add ((x9_2).toNat * 4)).block, (ad9042.add ((x9_2).toNat * 4)).off + 2, none⟩ = some (.int .i64 ((rd_T47 t9039 x9_2).f2)) ∧ w94.cell? ⟨(ad9042.add ((x9_2).toNat * 4)).block, (ad9042.add ((x9_2).toNat * 4)).off + 3, none⟩ = some (.int .i64 ((rd_T47 t9039 x9_2).f3)) := hS_
             obtain ⟨Ao98, co98, eo98⟩ := Kd.R_slice HO9048.out
             (subst eo98)
             refine norm_ (a' := ?_) ?_ ?_
             rotate_left
             ·simp only [putAll, Act.put, List.setIfInBounds_toArray, List.set_cons_zero, List.set_cons_succ]
              rfl
             refine one_ (i := 10) (N := none) #[true, true, true, true, true, true, true, true, true, true, true, false] rfl rfl (one_of HT_.out (by kernel_rfl)) (by decide) (fun K hK => ?_)
             have hs95 : w94.cell? ⟨gb9050, 0, none⟩ = some (.int .i64 0) := (blk_cell BK9050.out 0).trans rfl
             have hfs95 := blk_frozen BK9050.out 0
             have hns95_0 := NB9018_9050.out
             have hns95_1 := NB9019_9050.out
             have hns95_2 := NB9030_9050.out
             have hms95_0 := NB9050_9018.out
             have hms95_1 := NB9050_9019.out
             have hms95_2 := NB9050_9030.out
             have hs96 : w94.cell? ⟨gb9050, 1, none⟩ = some (.int .i64 0) := (blk_cell BK9050.out 1).trans rfl
             have hfs96 := blk_frozen BK9050.out 1
             have hns96_0 := NB9018_9050.out
             have hns96_1 := NB9019_9050.out
             have hns96_2 := NB9030_9050.out
             have hms96_0 := NB9050_9018.out
             have hms96_1 := NB9050_9019.out
             have hms96_2 := NB9050_9030.out
             have hs97 : w94.cell? ⟨gb9050, 2, none⟩ = some (.int .i64 0) := (blk_cell BK9050.out 2).trans rfl
             have hfs97 := blk_frozen BK9050.out 2
             have hns97_0 := NB9018_9050.out
             have hns97_1 := NB9019_9050.out
             have hns97_2 := NB9030_9050.out
             have hms97_0 := NB9050_9018.out
             have hms97_1 := NB9050_9019.out
             have hms97_2 := NB9050_9030.out
             have hs99 : w94.cell? ⟨gb9050, 3, none⟩ = some (.slice none 0 0) := (blk_cell BK9050.out 3).trans rfl
             have hfs99 := blk_frozen BK9050.out 3
             have hns99_0 := NB9018_9050.out
             have hns99_1 := NB9019_9050.out
             have hns99_2 := NB9030_9050.out
             have hms99_0 := NB9050_9018.out
             have hms99_1 := NB9050_9019.out
             have hms99_2 := NB9050_9030.out
             refine skip_ (w1 := ?_) (by rfl) rfl ?_ ?_
             rotate_left
             ·go_simp
              rfl
             refine hK.out _ _ ⟨((cell_far (p := ⟨gb9050, _, none⟩) NB9018_9050.out _).trans (((cell_far (p := ⟨gb9050, _, none⟩) NB9018_9050.out _).trans (((cell_far (p := ⟨gb9050, _, none⟩) NB9018_9050.out _).trans (((cell_far (p := ⟨gb9050, _, none⟩) NB9018_9050.out _).trans hHeld.1))))))), ((cell_far (p := ⟨gb9050, _, none⟩) NB9018_9050.out _).trans (((cell_far (p := ⟨gb9050, _, none⟩) NB9018_9050.out _).trans (((cell_far (p := ⟨gb9050, _, none⟩) NB9018_9050.out _).trans (((cell_far (p := ⟨gb9050, _, none⟩) NB9018_9050.out _).trans hHeld.2.1))))))), ((cell_far (p := ⟨gb9050, _, none⟩) NB9018_9050.out _).trans (((cell_far (p := ⟨gb9050, _, none⟩) NB9018_9050.out _).trans (((cell_far (p := ⟨gb9050, _, none⟩) NB9018_9050.out _).trans (((cell_far (p := ⟨gb9050, _, none⟩) NB9018_9050.out _).trans hHeld.2.2.1))))))), ((cell_far (p := ⟨gb9050, _, none⟩) NB9018_9050.out _).trans (((cell_far (p := ⟨gb9050, _, none⟩) NB9018_9050.out _).trans (((cell_far (p := ⟨gb9050, _, none⟩) NB9018_9050.out _).trans (((cell_far (p := ⟨gb9050, _, none⟩) NB9018_9050.out _).trans hHeld.2.2.2.1))))))), ((cell_far (p := ⟨gb9050, _, none⟩) (by (rw [add_block]; exact Kd.own_blk (Kd.R_ne HO_8.out BK9050.out (by decide)))) _).trans (((cell_far (p := ⟨gb9050, _, none⟩) (by (rw [add_block]; exact Kd.own_blk (Kd.R_ne HO_8.out BK9050.out (by decide)))) _).trans (((cell_far (p := ⟨gb9050, _, none⟩) (by (rw [add_block]; exact Kd.own_blk (Kd.R_ne HO_8.out BK9050.out (by decide)))) _).trans (((cell_far (p := ⟨gb9050, _, none⟩) (by (rw [add_block]; exact Kd.own_blk (Kd.R_ne HO_8.out BK9050.out (by decide)))) _).trans hHeld.2.2.2.2.1))))))), ((cell_far (p := ⟨gb9050, _, none⟩) (by (rw [add_block]; exact Kd.own_blk (Kd.R_ne HO_8.out BK9050.out (by decide)))) _).trans (((cell_far (p := ⟨gb9050, _, none⟩) (by (rw [add_block]; exact Kd.own_blk (Kd.R_ne HO_8.out BK9050.out (by decide)))) _).trans (((cell_far (p := ⟨gb9050, _, none⟩) (by (rw [add_block]; exact Kd.own_blk (Kd.R_ne HO_8.out BK9050.out (by decide)))) _).trans (((cell_far (p := ⟨gb9050, _, none⟩) (by (rw [add_block]; exact Kd.own_blk (Kd.R_ne HO_8.out BK9050.out (by decide)))) _).trans hHeld.2.2.2.2.2.1))))))), ((cell_far (p := ⟨gb9050, _, none⟩) (by (rw [add_block]; exact Kd.own_blk (Kd.R_ne HO_8.out BK9050.out (by decide)))) _).trans (((cell_far (p := ⟨gb9050, _, none⟩) (by (rw [add_block]; exact Kd.own_blk (Kd.R_ne HO_8.out BK9050.out (by decide)))) _).trans (((cell_far (p := ⟨gb9050, _, none⟩) (by (rw [add_block]; exact Kd.own_blk (Kd.R_ne HO_8.out BK9050.out (by decide)))) _).trans (((cell_far (p := ⟨gb9050, _, none⟩) (by (rw [add_block]; exact Kd.own_blk (Kd.R_ne HO_8.out BK9050.out (by decide)))) _).trans hHeld.2.2.2.2.2.2.1))))))), ((cell_far (p := ⟨gb9050, _, none⟩) (by (rw [add_block]; exact Kd.own_blk (Kd.R_ne HO_8.out BK9050.out (by decide)))) _).trans (((cell_far (p := ⟨gb9050, _, none⟩) (by (rw [add_block]; exact Kd.own_blk (Kd.R_ne HO_8.out BK9050.out (by decide)))) _).trans (((cell_far (p := ⟨gb9050, _, none⟩) (by (rw [add_block]; exact Kd.own_blk (Kd.R_ne HO_8.out BK9050.out (by decide)))) _).trans (((cell_far (p := ⟨gb9050, _, none⟩) (by (rw [add_block]; exact Kd.own_blk (Kd.R_ne HO_8.out BK9050.out (by decide)))) _).trans hHeld.2.2.2.2.2.2.2)))))))⟩ (fun hHeld => ?_)
             clear hK K
             refine pure_ (i := 11) (N := some 11) (v := ?_) (a' := ?_) #[true, true, true, true, true, true, true, true, true, true, true, true] rfl rfl (any_of HT_.out (by kernel_rfl)) (fun _ _ _ h => h) (Or.inl ⟨by rfl, ?_⟩) ?_ ?_
             rotate_left
             ·intro w'
              go_simp
              with_reducible rfl
             rotate_left
             ·simp only [Act.put, List.setIfInBounds_toArray, List.set_cons_zero, List.set_cons_succ, i64_w, i32_w]
              rfl
             refine done_ (done_of HT_.out (by kernel_rfl)) ?_
             try go_wp2
             have n0_ : Aside0 (Kd.R (Kd.int .i64) 3 ((((w94.setCell ⟨gb9050, 0, none⟩ (.int .i64 t9043)).setCell ⟨gb9050, 1, none⟩ (.int .i64 t9044)).setCell ⟨gb9050, 2, none⟩ (.int .i64 t9045)).setCell ⟨gb9050, 3, none⟩ (.slice Ao98 t9046.length co98)) w.heap.size (fun k_ => some k_ ≠ (.slice Ao12 t9004.length co12 : Value).ownBlock ∧ some k_ ≠ (.slice Ao14 t9010.length co14 : Value).ownBlock ∧ some k_ ≠ (.slice Ao23 t9026.length co23 : Value).ownBlock ∧ some k_ ≠ (.slice Ao98 t9046.length co98 : Value).ownBlock) v9021 t9020) := ⟨by (with_reducible repeat (first | apply Kd.R_alloc | apply Kd.R_drewN | apply Kd.R_drew)); exact Kd.R_mono (Kd.R_far (p := ⟨gb9050, 3, none⟩) (Kd.R_far (p := ⟨gb9050, 2, none⟩) (Kd.R_far (p := ⟨gb9050, 1, none⟩) (Kd.R_far (p := ⟨gb9050, 0, none⟩) (Kd.R_types HO_5.out BK9050.out (by decide)) (fun _ hk => hk.2) (.int .i64 t9043)) (fun _ hk => hk.2) (.int .i64 t9044)) (fun _ hk => hk.2) (.int .i64 t9045)) (fun _ hk => hk.2) (.slice Ao98 t9046.length co98)) (fun _ hk => ⟨hk.1.2.1, ⟨hk.1.2.2.1, ⟨hk.1.2.2.2, hk.1.1⟩⟩⟩)⟩
             have n1_ : Aside0 (Kd.R k47 47 ((((w94.setCell ⟨gb9050, 0, none⟩ (.int .i64 t9043)).setCell ⟨gb9050, 1, none⟩ (.int .i64 t9044)).setCell ⟨gb9050, 2, none⟩ (.int .i64 t9045)).setCell ⟨gb9050, 3, none⟩ (.slice Ao98 t9046.length co98)) w.heap.size (fun _ => True) (.slice (some ad9042) t9039.length co90) t9039) := ⟨by (with_reducible repeat (first | apply Kd.R_alloc | apply Kd.R_drewN | apply Kd.R_drew)); exact Kd.R_mono (Kd.R_far (p := ⟨gb9050, 3, none⟩) (Kd.R_far (p := ⟨gb9050, 2, none⟩) (Kd.R_far (p := ⟨gb9050, 1, none⟩) (Kd.R_far (p := ⟨gb9050, 0, none⟩) (Kd.R_types HO_8.out BK9050.out (by decide)) (fun _ hk => hk.2) (.int .i64 t9043)) (fun _ hk => hk.2) (.int .i64 t9044)) (fun _ hk => hk.2) (.int .i64 t9045)) (fun _ hk => hk.2) (.slice Ao98 t9046.length co98)) (fun _ hk => trivial)⟩
             have n2_ : Aside0 (Kd.Q (Kd.int .i64) 3 ((((w94.setCell ⟨gb9050, 0, none⟩ (.int .i64 t9043)).setCell ⟨gb9050, 1, none⟩ (.int .i64 t9044)).setCell ⟨gb9050, 2, none⟩ (.int .i64 t9045)).setCell ⟨gb9050, 3, none⟩ (.slice Ao98 t9046.length co98)) w.heap.size (fun k_ => some k_ ≠ (v9021 : Value).ownBlock ∧ some k_ ≠ (.slice Ao14 t9010.length co14 : Value).ownBlock ∧ some k_ ≠ (.slice Ao23 t9026.length co23 : Value).ownBlock ∧ some k_ ≠ (.slice Ao98 t9046.length co98 : Value).ownBlock) (.slice Ao12 t9004.length co12) t9004) := ⟨by (with_reducible repeat (first | apply Kd.Q_alloc | apply Kd.Q_drewN | apply Kd.Q_drew)); exact Kd.Q_mono (Kd.Q_far (p := ⟨gb9050, 3, none⟩) (Kd.Q_far (p := ⟨gb9050, 2, none⟩) (Kd.Q_far (p := ⟨gb9050, 1, none⟩) (Kd.Q_far (p := ⟨gb9050, 0, none⟩) (Kd.Q_types HOz0.out BK9050.out (by decide)) (fun _ hk => hk.2) (.int .i64 t9043)) (fun _ hk => hk.2) (.int .i64 t9044)) (fun _ hk => hk.2) (.int .i64 t9045)) (fun _ hk => hk.2) (.slice Ao98 t9046.length co98)) (fun _ hk => ⟨hk.1.2.1, ⟨hk.1.2.2.1, ⟨hk.1.2.2.2, hk.1.1⟩⟩⟩)⟩
             have n3_ : Aside0 (Kd.Q (Kd.int .i64) 3 ((((w94.setCell ⟨gb9050, 0, none⟩ (.int .i64 t9043)).setCell ⟨gb9050, 1, none⟩ (.int .i64 t9044)).setCell ⟨gb9050, 2, none⟩ (.int .i64 t9045)).setCell ⟨gb9050, 3, none⟩ (.slice Ao98 t9046.length co98)) w.heap.size (fun k_ => some k_ ≠ (v9021 : Value).ownBlock ∧ some k_ ≠ (.slice Ao12 t9004.length co12 : Value).ownBlock ∧ some k_ ≠ (.slice Ao23 t9026.length co23 : Value).ownBlock ∧ some k_ ≠ (.slice Ao98 t9046.length co98 : Value).ownBlock) (.slice Ao14 t9010.length co14) t9010) := ⟨by (with_reducible repeat (first | apply Kd.Q_alloc | apply Kd.Q_drewN | apply Kd.Q_drew)); exact Kd.Q_mono (Kd.Q_far (p := ⟨gb9050, 3, none⟩) (Kd.Q_far (p := ⟨gb9050, 2, none⟩) (Kd.Q_far (p := ⟨gb9050, 1, none⟩) (Kd.Q_far (p := ⟨gb9050, 0, none⟩) (Kd.Q_types HOz2.out BK9050.out (by decide)) (fun _ hk => hk.2) (.int .i64 t9043)) (fun _ hk => hk.2) (.int .i64 t9044)) (fun _ hk => hk.2) (.int .i64 t9045)) (fun _ hk => hk.2) (.slice Ao98 t9046.length co98)) (fun _ hk => ⟨hk.1.2.1, ⟨hk.1.2.2.1, ⟨hk.1.2.2.2, hk.1.1⟩⟩⟩)⟩
             have n4_ : Aside0 (Kd.Q (Kd.int .i64) 3 ((((w94.setCell ⟨gb9050, 0, none⟩ (.int .i64 t9043)).setCell ⟨gb9050, 1, none⟩ (.int .i64 t9044)).setCell ⟨gb9050, 2, none⟩ (.int .i64 t9045)).setCell ⟨gb9050, 3, none⟩ (.slice Ao98 t9046.length co98)) w.heap.size (fun k_ => some k_ ≠ (v9021 : Value).ownBlock ∧ some k_ ≠ (.slice Ao12 t9004.length co12 : Value).ownBlock ∧ some k_ ≠ (.slice Ao14 t9010.length co14 : Value).ownBlock ∧ some k_ ≠ (.slice Ao98 t9046.length co98 : Value).ownBlock) (.slice Ao23 t9026.length co23) t9026) := ⟨by (with_reducible repeat (first | apply Kd.Q_alloc | apply Kd.Q_drewN | apply Kd.Q_drew)); exact Kd.Q_mono (Kd.Q_far (p := ⟨gb9050, 3, none⟩) (Kd.Q_far (p := ⟨gb9050, 2, none⟩) (Kd.Q_far (p := ⟨gb9050, 1, none⟩) (Kd.Q_far (p := ⟨gb9050, 0, none⟩) (Kd.Q_types HOz1.out BK9050.out (by decide)) (fun _ hk => hk.2) (.int .i64 t9043)) (fun _ hk => hk.2) (.int .i64 t9044)) (fun _ hk => hk.2) (.int .i64 t9045)) (fun _ hk => hk.2) (.slice Ao98 t9046.length co98)) (fun _ hk => ⟨hk.1.2.1, ⟨hk.1.2.2.1, ⟨hk.1.2.2.2, hk.1.1⟩⟩⟩)⟩
             have n5_ : Aside0 (Kd.R (Kd.int .i64) 3 ((((w94.setCell ⟨gb9050, 0, none⟩ (.int .i64 t9043)).setCell ⟨gb9050, 1, none⟩ (.int .i64 t9044)).setCell ⟨gb9050, 2, none⟩ (.int .i64 t9045)).setCell ⟨gb9050, 3, none⟩ (.slice Ao98 t9046.length co98)) w.heap.size (fun k_ => some k_ ≠ (v9021 : Value).ownBlock ∧ some k_ ≠ (.slice Ao12 t9004.length co12 : Value).ownBlock ∧ some k_ ≠ (.slice Ao14 t9010.length co14 : Value).ownBlock ∧ some k_ ≠ (.slice Ao23 t9026.length co23 : Value).ownBlock) (.slice Ao98 t9046.length co98) t9046) := ⟨by (with_reducible repeat (first | apply Kd.R_alloc | apply Kd.R_drewN | apply Kd.R_drew)); exact Kd.R_mono (Kd.R_far (p := ⟨gb9050, 3, none⟩) (Kd.R_far (p := ⟨gb9050, 2, none⟩) (Kd.R_far (p := ⟨gb9050, 1, none⟩) (Kd.R_far (p := ⟨gb9050, 0, none⟩) (Kd.R_types HO9048.out BK9050.out (by decide)) (fun _ hk => hk.2) (.int .i64 t9043)) (fun _ hk => hk.2) (.int .i64 t9044)) (fun _ hk => hk.2) (.int .i64 t9045)) (fun _ hk => hk.2) (.slice Ao98 t9046.length co98)) (fun _ hk => ⟨hk.1.1, ⟨hk.1.2.1, ⟨hk.1.2.2.1, hk.1.2.2.2⟩⟩⟩)⟩
             have n6_ : Aside0 (((((w94.setCell ⟨gb9050, 0, none⟩ (.int .i64 t9043)).setCell ⟨gb9050, 1, none⟩ (.int .i64 t9044)).setCell ⟨gb9050, 2, none⟩ (.int .i64 t9045)).setCell ⟨gb9050, 3, none⟩ (.slice Ao98 t9046.length co98)).heap[gb9018]? = some (.cells #[.int .i64 t9001, .int .i64 t9002, .int .i64 t9003, .slice Ao12 t9004.length co12] 27 (0, 0))) := ⟨by refine blk_far ?_ NB9018_9050.out _; refine blk_far ?_ NB9018_9050.out _; refine blk_far ?_ NB9018_9050.out _; refine blk_far ?_ NB9018_9050.out _; (with_reducible repeat (first | refine blk_drewN ?_ _ | refine blk_drew ?_ | refine blk_alloc ?_ _)); exact BK9018.out⟩
             have n7_ : Aside0 (((((w94.setCell ⟨gb9050, 0, none⟩ (.int .i64 t9043)).setCell ⟨gb9050, 1, none⟩ (.int .i64 t9044)).setCell ⟨gb9050, 2, none⟩ (.int .i64 t9045)).setCell ⟨gb9050, 3, none⟩ (.slice Ao98 t9046.length co98)).heap[gb9019]? = some (.cells #[.int .i64 t9007, .int .i64 t9008, .int .i64 t9009, .slice Ao14 t9010.length co14, .int .i64 t9013, .int .i64 t9014, .int .i64 t9015, .int .i64 t9016, .bool t9017] 55 (0, 0))) := ⟨by refine blk_far ?_ NB9019_9050.out _; refine blk_far ?_ NB9019_9050.out _; refine blk_far ?_ NB9019_9050.out _; refine blk_far ?_ NB9019_9050.out _; (with_reducible repeat (first | refine blk_drewN ?_ _ | refine blk_drew ?_ | refine blk_alloc ?_ _)); exact BK9019.out⟩
             have n8_ : Aside0 (((((w94.setCell ⟨gb9050, 0, none⟩ (.int .i64 t9043)).setCell ⟨gb9050, 1, none⟩ (.int .i64 t9044)).setCell ⟨gb9050, 2, none⟩ (.int .i64 t9045)).setCell ⟨gb9050, 3, none⟩ (.slice Ao98 t9046.length co98)).heap[gb9030]? = some (.cells #[.int .i64 t9023, .int .i64 t9024, .int .i64 t9025, .slice Ao23 t9026.length co23] 27 (0, 0))) := ⟨by refine blk_far ?_ NB9030_9050.out _; refine blk_far ?_ NB9030_9050.out _; refine blk_far ?_ NB9030_9050.out _; refine blk_far ?_ NB9030_9050.out _; (with_reducible repeat (first | refine blk_drewN ?_ _ | refine blk_drew ?_ | refine blk_alloc ?_ _)); exact BK9030.out⟩
             have n9_ : Aside0 (((((w94.setCell ⟨gb9050, 0, none⟩ (.int .i64 t9043)).setCell ⟨gb9050, 1, none⟩ (.int .i64 t9044)).setCell ⟨gb9050, 2, none⟩ (.int .i64 t9045)).setCell ⟨gb9050, 3, none⟩ (.slice Ao98 t9046.length co98)).heap[gb9050]? = some (.cells #[.int .i64 t9043, .int .i64 t9044, .int .i64 t9045, .slice Ao98 t9046.length co98] 27 (0, 0))) := ⟨by refine blk_put (cs := #[.int .i64 t9043, .int .i64 t9044, .int .i64 t9045, .slice none 0 0]) ?_ 3 _ rfl; refine blk_put (cs := #[.int .i64 t9043, .int .i64 t9044, .int .i64 0, .slice none 0 0]) ?_ 2 _ rfl; refine blk_put (cs := #[.int .i64 t9043, .int .i64 0, .int .i64 0, .slice none 0 0]) ?_ 1 _ rfl; refine blk_put (cs := #[.int .i64 0, .int .i64 0, .int .i64 0, .slice none 0 0]) ?_ 0 _ rfl; (with_reducible repeat (first | refine blk_drewN ?_ _ | refine blk_drew ?_ | refine blk_alloc ?_ _)); exact BK9050.out⟩
             have n10_ : Aside0 (Below w.heap.size w ((((w94.setCell ⟨gb9050, 0, none⟩ (.int .i64 t9043)).setCell ⟨gb9050, 1, none⟩ (.int .i64 t9044)).setCell ⟨gb9050, 2, none⟩ (.int .i64 t9045)).setCell ⟨gb9050, 3, none⟩ (.slice Ao98 t9046.length co98))) := ⟨by repeat (with_reducible first | exact HB.out | refine below_set ?_ GE9050.out)⟩
             (try clear HO_5)
             (try clear HO_8)
             (try clear HOz0)
             (try clear HOz2)
             (try clear HOz1)
             (try clear HO9048)
             (try clear BK9018)
             (try clear BK9019)
             (try clear BK9030)
             (try clear BK9050)
             (try clear HB)
             generalize ((((w94.setCell ⟨gb9050, 0, none⟩ (.int .i64 t9043)).setCell ⟨gb9050, 1, none⟩ (.int .i64 t9044)).setCell ⟨gb9050, 2, none⟩ (.int .i64 t9045)).setCell ⟨gb9050, 3, none⟩ (.slice Ao98 t9046.length co98)) = w100 at n0_ n1_ n2_ n3_ n4_ n5_ n6_ n7_ n8_ n9_ n10_ ⊢
             revert n0_ n1_ n2_ n3_ n4_ n5_ n6_ n7_ n8_ n9_ n10_; intro HO_5 HO_8 HOz0 HOz2 HOz1 HO9048 BK9018 BK9019 BK9030 BK9050 HB
             have n0_ := mk (Kd.R_drew HO_5.out)
             have n1_ := mk (Kd.R_drew HO_8.out)
             have n2_ := mk (Kd.Q_drew HOz0.out)
             have n3_ := mk (Kd.Q_drew HOz2.out)
             have n4_ := mk (Kd.Q_drew HOz1.out)
             have n5_ := mk (Kd.R_drew HO9048.out)
             have n6_ := mk (blk_drew BK9018.out)
             have n7_ := mk (blk_drew BK9019.out)
             have n8_ := mk (blk_drew BK9030.out)
             have n9_ := mk (blk_drew BK9050.out)
             have n10_ := mk (below_drew1 HB.out)
             clear HO_5 HO_8 HOz0 HOz2 HOz1 HO9048 BK9018 BK9019 BK9030 BK9050 HB
             revert n0_ n1_ n2_ n3_ n4_ n5_ n6_ n7_ n8_ n9_ n10_; intro HO_5 HO_8 HOz0 HOz2 HOz1 HO9048 BK9018 BK9019 BK9030 BK9050 HB
             have p9051 : 0 ≤ (x9_2 : Int) := of_decide_eq_true (by (with_reducible assumption))
             have q9051 : x9_2 < (t9039.length : Int) := of_decide_eq_true (by (with_reducible assumption))
             obtain ⟨ad9051, e9051, hx9051_0, hx9051_1, hx9051_2, hx9051_3⟩ := at_T47 (Kd.R_reads' HO_8.out).2.2 x9_2 p9051 q9051
             obtain rfl : ad9042 = ad9051 := (by injection e9051)
             replace p9051 := eq_true p9051
             replace q9051 := eq_true q9051
             refine start_ (n := 12) (S := fun w' => w'.cell? ⟨gb9030, 0, none⟩ = some (.int .i64 t9023) ∧ w'.cell? ⟨gb9030, 1, none⟩ = some (.int .i64 t9024) ∧ w'.cell? ⟨gb9030, 2, none⟩ = some (.int .i64 t9025) ∧ w'.cell? ⟨gb9030, 3, none⟩ = some (.slice Ao23 t9026.length co23) ∧ w'.cell? (ad9042.add ((x9_2).toNat * 4)) = some (.int .i64 ((rd_T47 t9039 x9_2).f0)) ∧ w'.cell? ⟨(ad9042.add ((x9_2).toNat * 4)).block, (ad9042.add ((x9_2).toNat * 4)).off + 1, none⟩ = some (.int .i64 ((rd_T47 t9039 x9_2).f1)) ∧ w'.cell? ⟨(ad9042.add ((x9_2).toNat * 4)).block, (ad9042.add ((x9_2).toNat * 4)).off + 2, none⟩ = some (.int .i64 ((rd_T47 t9039 x9_2).f2)) ∧ w'.cell? ⟨(ad9042.add ((x9_2).toNat * 4)).block, (ad9042.add ((x9_2).toNat * 4)).off + 3, none⟩ = some (.int .i64 ((rd_T47 t9039 x9_2).f3))) (ds := []) #[false, false, false, false, false, false, false, false, false, false, false, false] (by kernel_rfl) rfl rfl ⟨(blk_cell BK9030.out 0).trans rfl, (blk_cell BK9030.out 1).trans rfl, (blk_cell BK9030.out 2).trans rfl, (blk_cell BK9030.out 3).trans rfl, hx9051_0, hx9051_1, hx9051_2, hx9051_3⟩ (fun hHeld => ?_); refine with_tabW laws_FnDirtyTiles.tab13 laws_FnDirtyTiles.bits13 (fun HT_ HW_ => ?_)
             generalize w100.drew = w101 at HO_5 HO_8 HOz0 HOz2 HOz1 HO9048 BK9018 BK9019 BK9030 BK9050 HB hx9051_0 hx9051_1 hx9051_2 hx9051_3 hHeld ⊢
             refine pure_ (i := 1) (N := some 65) (v := ?_) (a' := ?_) #[false, true, false, false, false, false, false, false, false, false, false, false] rfl rfl (any_of HT_.out (by kernel_rfl)) (fun _ _ _ h => h) (Or.inl ⟨by rfl, ?_⟩) ?_ ?_
             rotate_left
             ·intro w'
              go_simp
              with_reducible rfl
             rotate_left
             ·simp only [Act.put, List.setIfInBounds_toArray, List.set_cons_zero, List.set_cons_succ, i64_w, i32_w]
              rfl
             refine pure_ (i := 2) (N := some 66) (v := ?_) (a' := ?_) #[false, true, true, false, false, false, false, false, false, false, false, false] rfl rfl (any_of HT_.out (by kernel_rfl)) (fun _ _ _ h => h) (Or.inl ⟨by rfl, ?_⟩) ?_ ?_
             rotate_left
             ·intro w'
              go_simp
              with_reducible rfl
             rotate_left
             ·simp only [Act.put, List.setIfInBounds_toArray, List.set_cons_zero, List.set_cons_succ, i64_w, i32_w]
              rfl
             refine pure_ (i := 3) (N := some 67) (v := ?_) (a' := ?_) #[false, true, true, true, false, false, false, false, false, false, false, false] rfl rfl (any_of HT_.out (by kernel_rfl)) (fun _ _ _ h => h) (Or.inl ⟨by rfl, ?_⟩) ?_ ?_
             rotate_left
             ·intro w'
              go_simp
              with_reducible rfl
             rotate_left
             ·simp only [Act.put, List.setIfInBounds_toArray, List.set_cons_zero, List.set_cons_succ, i64_w, i32_w]
              rfl
             refine take_ (i := 0) (N := some 64) (v := ?_) (a' := ?_) #[true, true, true, true, false, false, false, false, false, false, false, false] rfl rfl (take_ofW HT_.out HW_.out (by kernel_rfl)) (fun _ _ _ h => h) (Or.inl ⟨by rfl, ?_⟩) hHeld ?_ ?_
             rotate_left
             ·rintro w' ⟨s0, s1, s2, s3, s4, s5, s6, s7⟩
              go_simp
              with_reducible rfl
             rotate_left
             ·simp only [Act.put, List.setIfInBounds_toArray, List.set_cons_zero, List.set_cons_succ, i64_w, i32_w]
              rfl
             refine take_ (i := 4) (N := some 68) (v := ?_) (a' := ?_) #[true, true, true, true, true, false, false, false, false, false, false, false] rfl rfl (take_ofW HT_.out HW_.out (by kernel_rfl)) (fun _ _ _ h => h) (Or.inl ⟨by rfl, ?_⟩) hHeld ?_ ?_
             rotate_left
             ·rintro w' ⟨s0, s1, s2, s3, s4, s5, s6, s7⟩
              go_simp
              with_reducible rfl
             rotate_left
             ·simp only [Act.put, List.setIfInBounds_toArray, List.set_cons_zero, List.set_cons_succ, i64_w, i32_w]
              rfl
             refine join_ (σ := Value × Nat) 2 #[true, true, true, true, true, true, true, true, true, true, false, false] (fun s_ => [(69, .tuple #[.agg #[.int .i64 t9052, .int .i64 t9053, .int .i64 t9054, s_.1], .bool true]), (12, .pointer (some ⟨s_.2, 0, none⟩)), (63, .tuple #[.agg #[.int .i64 t9052, .int .i64 t9053, .int .i64 t9054, s_.1], .bool true]), (70, .agg #[.int .i64 t9052, .int .i64 t9053, .int .i64 t9054, s_.1]), (71, .bool true)]) (fun s_ w' => (w'.cell? ⟨gb9030, 0, none⟩ = some (.int .i64 t9023) ∧ w'.cell? ⟨gb9030, 1, none⟩ = some (.int .i64 t9024) ∧ w'.cell? ⟨gb9030, 2, none⟩ = some (.int .i64 t9025) ∧ w'.cell? ⟨gb9030, 3, none⟩ = some (.slice Ao23 t9026.length co23) ∧ w'.cell? (ad9042.add ((x9_2).toNat * 4)) = some (.int .i64 ((rd_T47 t9039 x9_2).f0)) ∧ w'.cell? ⟨(ad9042.add ((x9_2).toNat * 4)).block, (ad9042.add ((x9_2).toNat * 4)).off + 1, none⟩ = some (.int .i64 ((rd_T47 t9039 x9_2).f1)) ∧ w'.cell? ⟨(ad9042.add ((x9_2).toNat * 4)).block, (ad9042.add ((x9_2).toNat * 4)).off + 2, none⟩ = some (.int .i64 ((rd_T47 t9039 x9_2).f2)) ∧ w'.cell? ⟨(ad9042.add ((x9_2).toNat * 4)).block, (ad9042.add ((x9_2).toNat * 4)).off + 3, none⟩ = some (.int .i64 ((rd_T47 t9039 x9_2).f3))) ∧ (Kd.R (Kd.int .i64) 3 w' w.heap.size (fun k_ => some k_ ≠ (s_.1 : Value).ownBlock ∧ some k_ ≠ (v9021 : Value).ownBlock ∧ some k_ ≠ (.slice Ao12 t9004.length co12 : Value).ownBlock ∧ some k_ ≠ (.slice Ao14 t9010.length co14 : Value).ownBlock ∧ some k_ ≠ (.slice Ao23 t9026.length co23 : Value).ownBlock) (.slice Ao98 t9046.length co98) t9046) ∧ (Kd.R (Kd.int .i64) 3 w' w.heap.size (fun k_ => some k_ ≠ (.slice Ao98 t9046.length co98 : Value).ownBlock ∧ some k_ ≠ (v9021 : Value).ownBlock ∧ some k_ ≠ (.slice Ao12 t9004.length co12 : Value).ownBlock ∧ some k_ ≠ (.slice Ao14 t9010.length co14 : Value).ownBlock ∧ some k_ ≠ (.slice Ao23 t9026.length co23 : Value).ownBlock) s_.1 t9055) ∧ (Kd.R (Kd.int .i64) 3 w' w.heap.size (fun k_ => some k_ ≠ (.slice Ao98 t9046.length co98 : Value).ownBlock ∧ some k_ ≠ (s_.1 : Value).ownBlock ∧ some k_ ≠ (.slice Ao12 t9004.length co12 : Value).ownBlock ∧ some k_ ≠ (.slice Ao14 t9010.length co14 : Value).ownBlock ∧ some k_ ≠ (.slice Ao23 t9026.length co23 : Value).ownBlock) v9021 t9020) ∧ (Kd.R k47 47 w' w.heap.size (fun _ => True) (.slice (some ad9042) t9039.length co90) t9039) ∧ (Kd.Q (Kd.int .i64) 3 w' w.heap.size (fun k_ => some k_ ≠ (.slice Ao98 t9046.length co98 : Value).ownBlock ∧ some k_ ≠ (s_.1 : Value).ownBlock ∧ some k_ ≠ (v9021 : Value).ownBlock ∧ some k_ ≠ (.slice Ao14 t9010.length co14 : Value).ownBlock ∧ some k_ ≠ (.slice Ao23 t9026.length co23 : Value).ownBlock) (.slice Ao12 t9004.length co12) t9004) ∧ (Kd.Q (Kd.int .i64) 3 w' w.heap.size (fun k_ => some k_ ≠ (.slice Ao98 t9046.length co98 : Value).ownBlock ∧ some k_ ≠ (s_.1 : Value).ownBlock ∧ some k_ ≠ (v9021 : Value).ownBlock ∧ some k_ ≠ (.slice Ao12 t9004.length co12 : Value).ownBlock ∧ some k_ ≠ (.slice Ao23 t9026.length co23 : Value).ownBlock) (.slice Ao14 t9010.length co14) t9010) ∧ (Kd.Q (Kd.int .i64) 3 w' w.heap.size (fun k_ => some k_ ≠ (.slice Ao98 t9046.length co98 : Value).ownBlock ∧ some k_ ≠ (s_.1 : Value).ownBlock ∧ some k_ ≠ (v9021 : Value).ownBlock ∧ some k_ ≠ (.slice Ao12 t9004.length co12 : Value).ownBlock ∧ some k_ ≠ (.slice Ao14 t9010.length co14 : Value).ownBlock) (.slice Ao23 t9026.length co23) t9026) ∧ (w'.heap[gb9018]? = some (.cells #[.int .i64 t9001, .int .i64 t9002, .int .i64 t9003, .slice Ao12 t9004.length co12] 27 (0, 0))) ∧ (w'.heap[gb9019]? = some (.cells #[.int .i64 t9007, .int .i64 t9008, .int .i64 t9009, .slice Ao14 t9010.length co14, .int .i64 t9013, .int .i64 t9014, .int .i64 t9015, .int .i64 t9016, .bool t9017] 55 (0, 0))) ∧ (w'.heap[gb9030]? = some (.cells #[.int .i64 t9023, .int .i64 t9024, .int .i64 t9025, .slice Ao23 t9026.length co23] 27 (0, 0))) ∧ (w'.heap[gb9050]? = some (.cells #[.int .i64 t9043, .int .i64 t9044, .int .i64 t9045, .slice Ao98 t9046.length co98] 27 (0, 0))) ∧ (w'.heap[s_.2]? = some (.cells #[.int .i64 0, .int .i64 0, .int .i64 0, .slice none 0 0] 27 (0, 0))) ∧ (w.heap.size ≤ s_.2) ∧ (w.heap.size ≤ s_.2) ∧ (gb9018 ≠ s_.2) ∧ (s_.2 ≠ gb9018) ∧ (gb9019 ≠ s_.2) ∧ (s_.2 ≠ gb9019) ∧ (gb9030 ≠ s_.2) ∧ (s_.2 ≠ gb9030) ∧ (gb9050 ≠ s_.2) ∧ (s_.2 ≠ gb9050) ∧ (Below w.heap.size w w')) ?_ ?_
             rotate_left
             ·intro hCont
              refine two_ (i := 5) (j := 9) (Ni := some 69) (Nj := some 12) #[true, true, true, true, true, true, false, false, false, false, false, false] #[true, true, true, true, true, false, false, false, false, true, false, false] rfl rfl rfl rfl (two_of HT_.out (by kernel_rfl)) (by decide) (by decide) (fun K hK => ?_) (fun K hK => ?_)
              ·skip
               refine goes_ Try.func51 (by kernel_rfl) rfl #[.agg #[.int .i64 t9023, .int .i64 t9024, .int .i64 t9025, .slice Ao23 t9026.length co23], .agg #[.int .i64 ((rd_T47 t9039 x9_2).f0), .int .i64 ((rd_T47 t9039 x9_2).f1), .int .i64 ((rd_T47 t9039 x9_2).f2), .int .i64 ((rd_T47 t9039 x9_2).f3)]] (by rfl) rfl rfl (by (try simp only [List.map_toArray, List.map_cons, List.map_nil]); rfl) ?_
               with_reducible refine (impl_CropImage.calls t9023 t9024 t9025 _ _ t9026 ((rd_T47 t9039 x9_2).f0) ((rd_T47 t9039 x9_2).f1) ((rd_T47 t9039 x9_2).f2) ((rd_T47 t9039 x9_2).f3) t9052 t9053 t9054 t9055 true _ ?side1 ?side2 A62.out).mono ?_
               (case side1 => repeat (exact (Kd.Q_reads' HOz1.out).2.2))
               (case side2 => exact (Kd.Q_reads' HOz1.out).2.1)
               rintro e w102 ⟨v9056, rfl, ho0, hb⟩
               have HS4_ := (hb.cell (World.block_lt_of_cell? _ _ hHeld.2.2.2.2.1)).trans (hHeld.2.2.2.2.1)
               have HS5_ := (hb.cell (World.block_lt_of_cell? _ _ hHeld.2.2.2.2.2.1)).trans (hHeld.2.2.2.2.2.1)
               have HS6_ := (hb.cell (World.block_lt_of_cell? _ _ hHeld.2.2.2.2.2.2.1)).trans (hHeld.2.2.2.2.2.2.1)
               have HS7_ := (hb.cell (World.block_lt_of_cell? _ _ hHeld.2.2.2.2.2.2.2)).trans (hHeld.2.2.2.2.2.2.2)
               refine ⟨_, rfl, ?_⟩
               have n0_ := mk (Kd.R_elder' HO_5.out (Kd.R_base ho0) hb)
               have n1_ := mk (Kd.R_below HO_8.out hb)
               have n2_ := mk (Kd.Q_elder' HOz0.out (Kd.R_base ho0) hb)
               have n3_ := mk (Kd.Q_elder' HOz2.out (Kd.R_base ho0) hb)
               have n4_ := mk (Kd.Q_elder' HOz1.out (Kd.R_base ho0) hb)
               have n5_ := mk (Kd.R_elder' HO9048.out (Kd.R_base ho0) hb)
               have n6_ := mk (Kd.R_lower (Kd.R_new' (Kd.R_new' (Kd.R_new' (Kd.R_new' (Kd.R_new' ho0 (Kd.R_lt HO_5.out)) (Kd.Q_lt HOz0.out)) (Kd.Q_lt HOz2.out)) (Kd.Q_lt HOz1.out)) (Kd.R_lt HO9048.out)) (below_size HB.out))
               have n7_ := mk (blk_below BK9018.out hb)
               have n8_ := mk (blk_below BK9019.out hb)
               have n9_ := mk (blk_below BK9030.out hb)
               have n10_ := mk (blk_below BK9050.out hb)
               have n11_ := mk (below_step HB.out hb)
               clear HO_5 HO_8 HOz0 HOz2 HOz1 HO9048 BK9018 BK9019 BK9030 BK9050 HB
               revert n0_ n1_ n2_ n3_ n4_ n5_ n6_ n7_ n8_ n9_ n10_ n11_; intro HO_5 HO_8 HOz0 HOz2 HOz1 HO9048 HO9057 BK9018 BK9019 BK9030 BK9050 HB
               (try clear hb)
               (try clear ho0)
               refine hK.out _ _ ⟨(blk_cell BK9030.out 0).trans rfl, (blk_cell BK9030.out 1).trans rfl, (blk_cell BK9030.out 2).trans rfl, (blk_cell BK9030.out 3).trans rfl, HS4_, HS5_, HS6_, HS7_⟩ (fun hHeld => ?_)
               clear hK K
               refine norm_ (a' := ?_) ?_ ?_
               rotate_left
               ·show Act.put _ (some 69) _ = _
                simp only [Act.put, List.setIfInBounds_toArray, List.set_cons_zero, List.set_cons_succ, i64_w, i32_w]
                rfl
               refine pure_ (i := 6) (N := some 63) (v := ?_) (a' := ?_) #[true, true, true, true, true, true, true, false, false, false, false, false] rfl rfl (any_of HT_.out (by kernel_rfl)) (fun _ _ _ h => h) (Or.inl ⟨by rfl, ?_⟩) ?_ ?_
               rotate_left
               ·intro w'
                go_simp
                with_reducible rfl
               rotate_left
               ·simp only [Act.put, List.setIfInBounds_toArray, List.set_cons_zero, List.set_cons_succ, i64_w, i32_w]
                rfl
               refine pure_ (i := 7) (N := some 70) (v := ?_) (a' := ?_) #[true, true, true, true, true, true, true, true, false, false, false, false] rfl rfl (any_of HT_.out (by kernel_rfl)) (fun _ _ _ h => h) (Or.inl ⟨by rfl, ?_⟩) ?_ ?_
               rotate_left
               ·intro w'
                go_simp
                with_reducible rfl
               rotate_left
               ·simp only [Act.put, List.setIfInBounds_toArray, List.set_cons_zero, List.set_cons_succ, i64_w, i32_w]
                rfl
               refine pure_ (i := 8) (N := some 71) (v := ?_) (a' := ?_) #[true, true, true, true, true, true, true, true, true, false, false, false] rfl rfl (any_of HT_.out (by kernel_rfl)) (fun _ _ _ h => h) (Or.inl ⟨by rfl, ?_⟩) ?_ ?_
               rotate_left
               ·intro w'
                go_simp
                with_reducible rfl
               rotate_left
               ·simp only [Act.put, List.setIfInBounds_toArray, List.set_cons_zero, List.set_cons_succ, i64_w, i32_w]
                rfl
               refine one_ (i := 9) (N := some 12) #[true, true, true, true, true, true, true, true, true, true, false, false] rfl rfl (one_of HT_.out (by kernel_rfl)) (by decide) (fun K hK => ?_)
               refine box_step ?hg (N := 12) ?hd (cs := #[.int .i64 0, .int .i64 0, .int .i64 0, .slice none 0 0]) (t := 27) ?hr ?_; (case hd => rfl); (case hg => rfl); (case hr => (go_simp; done))
               intro gb9059 hg w103 hbox hb
               have HS4_ := (hb.cell (World.block_lt_of_cell? _ _ hHeld.2.2.2.2.1)).trans (hHeld.2.2.2.2.1)
               have HS5_ := (hb.cell (World.block_lt_of_cell? _ _ hHeld.2.2.2.2.2.1)).trans (hHeld.2.2.2.2.2.1)
               have HS6_ := (hb.cell (World.block_lt_of_cell? _ _ hHeld.2.2.2.2.2.2.1)).trans (hHeld.2.2.2.2.2.2.1)
               have HS7_ := (hb.cell (World.block_lt_of_cell? _ _ hHeld.2.2.2.2.2.2.2)).trans (hHeld.2.2.2.2.2.2.2)
               have n0_ := mk (Kd.R_below HO_5.out hb)
               have n1_ := mk (Kd.R_below HO_8.out hb)
               have n2_ := mk (Kd.Q_below HOz0.out hb)
               have n3_ := mk (Kd.Q_below HOz2.out hb)
               have n4_ := mk (Kd.Q_below HOz1.out hb)
               have n5_ := mk (Kd.R_below HO9048.out hb)
               have n6_ := mk (Kd.R_below HO9057.out hb)
               have n7_ := mk (blk_below BK9018.out hb)
               have n8_ := mk (blk_below BK9019.out hb)
               have n9_ := mk (blk_below BK9030.out hb)
               have n10_ := mk (blk_below BK9050.out hb)
               have n11_ := mk (below_step HB.out hb)
               have n12_ := mk (hbox)
               have n13_ := mk ((by rw [hg]; exact (below_size HB.out) : w.heap.size ≤ gb9059))
               have n14_ := mk ((by rw [hg]; exact (below_size HB.out) : w.heap.size ≤ gb9059))
               have n15_ := mk ((by rw [hg]; exact Nat.ne_of_lt (blk_lt BK9018.out) : gb9018 ≠ gb9059))
               have n16_ := mk n15_.out.symm
               have n17_ := mk ((by rw [hg]; exact Nat.ne_of_lt (blk_lt BK9019.out) : gb9019 ≠ gb9059))
               have n18_ := mk n17_.out.symm
               have n19_ := mk ((by rw [hg]; exact Nat.ne_of_lt (blk_lt BK9030.out) : gb9030 ≠ gb9059))
               have n20_ := mk n19_.out.symm
               have n21_ := mk ((by rw [hg]; exact Nat.ne_of_lt (blk_lt BK9050.out) : gb9050 ≠ gb9059))
               have n22_ := mk n21_.out.symm
               clear HO_5 HO_8 HOz0 HOz2 HOz1 HO9048 HO9057 BK9018 BK9019 BK9030 BK9050 HB
               revert n0_ n1_ n2_ n3_ n4_ n5_ n6_ n7_ n8_ n9_ n10_ n11_ n12_ n13_ n14_ n15_ n16_ n17_ n18_ n19_ n20_ n21_ n22_; intro HO_5 HO_8 HOz0 HOz2 HOz1 HO9048 HO9057 BK9018 BK9019 BK9030 BK9050 HB BK9059 GW9059 GE9059 NB9018_9059 NB9059_9018 NB9019_9059 NB9059_9019 NB9030_9059 NB9059_9030 NB9050_9059 NB9059_9050
               clear hb hbox hg
               refine hK.out _ _ ⟨(blk_cell BK9030.out 0).trans rfl, (blk_cell BK9030.out 1).trans rfl, (blk_cell BK9030.out 2).trans rfl, (blk_cell BK9030.out 3).trans rfl, HS4_, HS5_, HS6_, HS7_⟩ (fun hHeld => ?_)
               clear hK K
               refine norm_ (a' := ?_) ?_ ?_
               rotate_left
               ·show Act.put _ (some 12) _ = _
                simp only [Act.put, List.setIfInBounds_toArray, List.set_cons_zero, List.set_cons_succ, i64_w, i32_w]
                rfl
               exact norm_ (by simp only [putAll, Act.put, List.setIfInBounds_toArray, List.set_cons_zero, List.set_cons_succ]) (hCont (v9056, gb9059) _ ⟨hHeld, (by exact Kd.R_mono HO9048.out (fun _ hk => ⟨hk.2, ⟨hk.1.1, ⟨hk.1.2.1, ⟨hk.1.2.2.1, hk.1.2.2.2⟩⟩⟩⟩)), (by exact Kd.R_mono HO9057.out (fun _ hk => ⟨hk.2, ⟨hk.1.1.1.1.2, ⟨hk.1.1.1.2, ⟨hk.1.1.2, hk.1.2⟩⟩⟩⟩)), (by exact Kd.R_mono HO_5.out (fun _ hk => ⟨hk.1.2.2.2, ⟨hk.2, ⟨hk.1.1, ⟨hk.1.2.1, hk.1.2.2.1⟩⟩⟩⟩)), HO_8.out, (by exact Kd.Q_mono HOz0.out (fun _ hk => ⟨hk.1.2.2.2, ⟨hk.2, ⟨hk.1.1, ⟨hk.1.2.1, hk.1.2.2.1⟩⟩⟩⟩)), (by exact Kd.Q_mono HOz2.out (fun _ hk => ⟨hk.1.2.2.2, ⟨hk.2, ⟨hk.1.1, ⟨hk.1.2.1, hk.1.2.2.1⟩⟩⟩⟩)), (by exact Kd.Q_mono HOz1.out (fun _ hk => ⟨hk.1.2.2.2, ⟨hk.2, ⟨hk.1.1, ⟨hk.1.2.1, hk.1.2.2.1⟩⟩⟩⟩)), BK9018.out, BK9019.out, BK9030.out, BK9050.out, BK9059.out, GW9059.out, GE9059.out, NB9018_9059.out, NB9059_9018.out, NB9019_9059.out, NB9059_9019.out, NB9030_9059.out, NB9059_9030.out, NB9050_9059.out, NB9059_9050.out, (HB.out)⟩)
              ·skip
               refine box_step ?hg (N := 12) ?hd (cs := #[.int .i64 0, .int .i64 0, .int .i64 0, .slice none 0 0]) (t := 27) ?hr ?_; (case hd => rfl); (case hg => rfl); (case hr => (go_simp; done))
               intro gb9059 hg w102 hbox hb
               have HS4_ := (hb.cell (World.block_lt_of_cell? _ _ hHeld.2.2.2.2.1)).trans (hHeld.2.2.2.2.1)
               have HS5_ := (hb.cell (World.block_lt_of_cell? _ _ hHeld.2.2.2.2.2.1)).trans (hHeld.2.2.2.2.2.1)
               have HS6_ := (hb.cell (World.block_lt_of_cell? _ _ hHeld.2.2.2.2.2.2.1)).trans (hHeld.2.2.2.2.2.2.1)
               have HS7_ := (hb.cell (World.block_lt_of_cell? _ _ hHeld.2.2.2.2.2.2.2)).trans (hHeld.2.2.2.2.2.2.2)
               have n0_ := mk (Kd.R_below HO_5.out hb)
               have n1_ := mk (Kd.R_below HO_8.out hb)
               have n2_ := mk (Kd.Q_below HOz0.out hb)
               have n3_ := mk (Kd.Q_below HOz2.out hb)
               have n4_ := mk (Kd.Q_below HOz1.out hb)
               have n5_ := mk (Kd.R_below HO9048.out hb)
               have n6_ := mk (blk_below BK9018.out hb)
               have n7_ := mk (blk_below BK9019.out hb)
               have n8_ := mk (blk_below BK9030.out hb)
               have n9_ := mk (blk_below BK9050.out hb)
               have n10_ := mk (below_step HB.out hb)
               have n11_ := mk (hbox)
               have n12_ := mk ((by rw [hg]; exact (below_size HB.out) : w.heap.size ≤ gb9059))
               have n13_ := mk ((by rw [hg]; exact (below_size HB.out) : w.heap.size ≤ gb9059))
               have n14_ := mk ((by rw [hg]; exact Nat.ne_of_lt (blk_lt BK9018.out) : gb9018 ≠ gb9059))
               have n15_ := mk n14_.out.symm
               have n16_ := mk ((by rw [hg]; exact Nat.ne_of_lt (blk_lt BK9019.out) : gb9019 ≠ gb9059))
               have n17_ := mk n16_.out.symm
               have n18_ := mk ((by rw [hg]; exact Nat.ne_of_lt (blk_lt BK9030.out) : gb9030 ≠ gb9059))
               have n19_ := mk n18_.out.symm
               have n20_ := mk ((by rw [hg]; exact Nat.ne_of_lt (blk_lt BK9050.out) : gb9050 ≠ gb9059))
               have n21_ := mk n20_.out.symm
               clear HO_5 HO_8 HOz0 HOz2 HOz1 HO9048 BK9018 BK9019 BK9030 BK9050 HB
               revert n0_ n1_ n2_ n3_ n4_ n5_ n6_ n7_ n8_ n9_ n10_ n11_ n12_ n13_ n14_ n15_ n16_ n17_ n18_ n19_ n20_ n21_; intro HO_5 HO_8 HOz0 HOz2 HOz1 HO9048 BK9018 BK9019 BK9030 BK9050 HB BK9059 GW9059 GE9059 NB9018_9059 NB9059_9018 NB9019_9059 NB9059_9019 NB9030_9059 NB9059_9030 NB9050_9059 NB9059_9050
               clear hb hbox hg
               refine hK.out _ _ ⟨(blk_cell BK9030.out 0).trans rfl, (blk_cell BK9030.out 1).trans rfl, (blk_cell BK9030.out 2).trans rfl, (blk_cell BK9030.out 3).trans rfl, HS4_, HS5_, HS6_, HS7_⟩ (fun hHeld => ?_)
               clear hK K
               refine norm_ (a' := ?_) ?_ ?_
               rotate_left
               ·show Act.put _ (some 12) _ = _
                simp only [Act.put, List.setIfInBounds_toArray, List.set_cons_zero, List.set_cons_succ, i64_w, i32_w]
                rfl
               refine one_ (i := 5) (N := some 69) #[true, true, true, true, true, true, false, false, false, true, false, false] rfl rfl (one_of HT_.out (by kernel_rfl)) (by decide) (fun K hK => ?_)
               refine goes_ Try.func51 (by kernel_rfl) rfl #[.agg #[.int .i64 t9023, .int .i64 t9024, .int .i64 t9025, .slice Ao23 t9026.length co23], .agg #[.int .i64 ((rd_T47 t9039 x9_2).f0), .int .i64 ((rd_T47 t9039 x9_2).f1), .int .i64 ((rd_T47 t9039 x9_2).f2), .int .i64 ((rd_T47 t9039 x9_2).f3)]] (by rfl) rfl rfl (by (try simp only [List.map_toArray, List.map_cons, List.map_nil]); rfl) ?_
               with_reducible refine (impl_CropImage.calls t9023 t9024 t9025 _ _ t9026 ((rd_T47 t9039 x9_2).f0) ((rd_T47 t9039 x9_2).f1) ((rd_T47 t9039 x9_2).f2) ((rd_T47 t9039 x9_2).f3) t9052 t9053 t9054 t9055 true _ ?side1 ?side2 A62.out).mono ?_
               (case side1 => repeat (exact (Kd.Q_reads' HOz1.out).2.2))
               (case side2 => exact (Kd.Q_reads' HOz1.out).2.1)
               rintro e w103 ⟨v9056, rfl, ho0, hb⟩
               have HS4_ := (hb.cell (World.block_lt_of_cell? _ _ hHeld.2.2.2.2.1)).trans (hHeld.2.2.2.2.1)
               have HS5_ := (hb.cell (World.block_lt_of_cell? _ _ hHeld.2.2.2.2.2.1)).trans (hHeld.2.2.2.2.2.1)
               have HS6_ := (hb.cell (World.block_lt_of_cell? _ _ hHeld.2.2.2.2.2.2.1)).trans (hHeld.2.2.2.2.2.2.1)
               have HS7_ := (hb.cell (World.block_lt_of_cell? _ _ hHeld.2.2.2.2.2.2.2)).trans (hHeld.2.2.2.2.2.2.2)
               refine ⟨_, rfl, ?_⟩
               have n0_ := mk (Kd.R_elder' HO_5.out (Kd.R_base ho0) hb)
               have n1_ := mk (Kd.R_below HO_8.out hb)
               have n2_ := mk (Kd.Q_elder' HOz0.out (Kd.R_base ho0) hb)
               have n3_ := mk (Kd.Q_elder' HOz2.out (Kd.R_base ho0) hb)
               have n4_ := mk (Kd.Q_elder' HOz1.out (Kd.R_base ho0) hb)
               have n5_ := mk (Kd.R_elder' HO9048.out (Kd.R_base ho0) hb)
               have n6_ := mk (Kd.R_lower (Kd.R_new' (Kd.R_new' (Kd.R_new' (Kd.R_new' (Kd.R_new' ho0 (Kd.R_lt HO_5.out)) (Kd.Q_lt HOz0.out)) (Kd.Q_lt HOz2.out)) (Kd.Q_lt HOz1.out)) (Kd.R_lt HO9048.out)) (below_size HB.out))
               have n7_ := mk (blk_below BK9018.out hb)
               have n8_ := mk (blk_below BK9019.out hb)
               have n9_ := mk (blk_below BK9030.out hb)
               have n10_ := mk (blk_below BK9050.out hb)
               have n11_ := mk (blk_below BK9059.out hb)
               have n12_ := mk (below_step HB.out hb)
               clear HO_5 HO_8 HOz0 HOz2 HOz1 HO9048 BK9018 BK9019 BK9030 BK9050 BK9059 HB
               revert n0_ n1_ n2_ n3_ n4_ n5_ n6_ n7_ n8_ n9_ n10_ n11_ n12_; intro HO_5 HO_8 HOz0 HOz2 HOz1 HO9048 HO9057 BK9018 BK9019 BK9030 BK9050 BK9059 HB
               (try clear hb)
               (try clear ho0)
               refine hK.out _ _ ⟨(blk_cell BK9030.out 0).trans rfl, (blk_cell BK9030.out 1).trans rfl, (blk_cell BK9030.out 2).trans rfl, (blk_cell BK9030.out 3).trans rfl, HS4_, HS5_, HS6_, HS7_⟩ (fun hHeld => ?_)
               clear hK K
               refine norm_ (a' := ?_) ?_ ?_
               rotate_left
               ·show Act.put _ (some 69) _ = _
                simp only [Act.put, List.setIfInBounds_toArray, List.set_cons_zero, List.set_cons_succ, i64_w, i32_w]
                rfl
               refine pure_ (i := 6) (N := some 63) (v := ?_) (a' := ?_) #[true, true, true, true, true, true, true, false, false, true, false, false] rfl rfl (any_of HT_.out (by kernel_rfl)) (fun _ _ _ h => h) (Or.inl ⟨by rfl, ?_⟩) ?_ ?_
               rotate_left
               ·intro w'
                go_simp
                with_reducible rfl
               rotate_left
               ·simp only [Act.put, List.setIfInBounds_toArray, List.set_cons_zero, List.set_cons_succ, i64_w, i32_w]
                rfl
               refine pure_ (i := 7) (N := some 70) (v := ?_) (a' := ?_) #[true, true, true, true, true, true, true, true, false, true, false, false] rfl rfl (any_of HT_.out (by kernel_rfl)) (fun _ _ _ h => h) (Or.inl ⟨by rfl, ?_⟩) ?_ ?_
               rotate_left
               ·intro w'
                go_simp
                with_reducible rfl
               rotate_left
               ·simp only [Act.put, List.setIfInBounds_toArray, List.set_cons_zero, List.set_cons_succ, i64_w, i32_w]
                rfl
               refine pure_ (i := 8) (N := some 71) (v := ?_) (a' := ?_) #[true, true, true, true, true, true, true, true, true, true, false, false] rfl rfl (any_of HT_.out (by kernel_rfl)) (fun _ _ _ h => h) (Or.inl ⟨by rfl, ?_⟩) ?_ ?_
               rotate_left
               ·intro w'
                go_simp
                with_reducible rfl
               rotate_left
               ·simp only [Act.put, List.setIfInBounds_toArray, List.set_cons_zero, List.set_cons_succ, i64_w, i32_w]
                rfl
               exact norm_ (by simp only [putAll, Act.put, List.setIfInBounds_toArray, List.set_cons_zero, List.set_cons_succ]) (hCont (v9056, gb9059) _ ⟨hHeld, (by exact Kd.R_mono HO9048.out (fun _ hk => ⟨hk.2, ⟨hk.1.1, ⟨hk.1.2.1, ⟨hk.1.2.2.1, hk.1.2.2.2⟩⟩⟩⟩)), (by exact Kd.R_mono HO9057.out (fun _ hk => ⟨hk.2, ⟨hk.1.1.1.1.2, ⟨hk.1.1.1.2, ⟨hk.1.1.2, hk.1.2⟩⟩⟩⟩)), (by exact Kd.R_mono HO_5.out (fun _ hk => ⟨hk.1.2.2.2, ⟨hk.2, ⟨hk.1.1, ⟨hk.1.2.1, hk.1.2.2.1⟩⟩⟩⟩)), HO_8.out, (by exact Kd.Q_mono HOz0.out (fun _ hk => ⟨hk.1.2.2.2, ⟨hk.2, ⟨hk.1.1, ⟨hk.1.2.1, hk.1.2.2.1⟩⟩⟩⟩)), (by exact Kd.Q_mono HOz2.out (fun _ hk => ⟨hk.1.2.2.2, ⟨hk.2, ⟨hk.1.1, ⟨hk.1.2.1, hk.1.2.2.1⟩⟩⟩⟩)), (by exact Kd.Q_mono HOz1.out (fun _ hk => ⟨hk.1.2.2.2, ⟨hk.2, ⟨hk.1.1, ⟨hk.1.2.1, hk.1.2.2.1⟩⟩⟩⟩)), BK9018.out, BK9019.out, BK9030.out, BK9050.out, BK9059.out, GW9059.out, GE9059.out, NB9018_9059.out, NB9059_9018.out, NB9019_9059.out, NB9059_9019.out, NB9030_9059.out, NB9059_9030.out, NB9050_9059.out, NB9059_9050.out, (HB.out)⟩)
             rintro ⟨v9056, gb9059⟩ w104 ⟨hS_, h0_, h1_, h2_, h3_, h4_, h5_, h6_, h7_, h8_, h9_, h10_, h11_, h12_, h13_, h14_, h15_, h16_, h17_, h18_, h19_, h20_, h21_, h22_⟩
             have n0_ : Aside0 (Kd.R (Kd.int .i64) 3 w104 w.heap.size (fun k_ => some k_ ≠ (v9056 : Value).ownBlock ∧ some k_ ≠ (v9021 : Value).ownBlock ∧ some k_ ≠ (.slice Ao12 t9004.length co12 : Value).ownBlock ∧ some k_ ≠ (.slice Ao14 t9010.length co14 : Value).ownBlock ∧ some k_ ≠ (.slice Ao23 t9026.length co23 : Value).ownBlock) (.slice Ao98 t9046.length co98) t9046) := ⟨h0_⟩
             have n1_ : Aside0 (Kd.R (Kd.int .i64) 3 w104 w.heap.size (fun k_ => some k_ ≠ (.slice Ao98 t9046.length co98 : Value).ownBlock ∧ some k_ ≠ (v9021 : Value).ownBlock ∧ some k_ ≠ (.slice Ao12 t9004.length co12 : Value).ownBlock ∧ some k_ ≠ (.slice Ao14 t9010.length co14 : Value).ownBlock ∧ some k_ ≠ (.slice Ao23 t9026.length co23 : Value).ownBlock) v9056 t9055) := ⟨h1_⟩
             have n2_ : Aside0 (Kd.R (Kd.int .i64) 3 w104 w.heap.size (fun k_ => some k_ ≠ (.slice Ao98 t9046.length co98 : Value).ownBlock ∧ some k_ ≠ (v9056 : Value).ownBlock ∧ some k_ ≠ (.slice Ao12 t9004.length co12 : Value).ownBlock ∧ some k_ ≠ (.slice Ao14 t9010.length co14 : Value).ownBlock ∧ some k_ ≠ (.slice Ao23 t9026.length co23 : Value).ownBlock) v9021 t9020) := ⟨h2_⟩
             have n3_ : Aside0 (Kd.R k47 47 w104 w.heap.size (fun _ => True) (.slice (some ad9042) t9039.length co90) t9039) := ⟨h3_⟩
             have n4_ : Aside0 (Kd.Q (Kd.int .i64) 3 w104 w.heap.size (fun k_ => some k_ ≠ (.slice Ao98 t9046.length co98 : Value).ownBlock ∧ some k_ ≠ (v9056 : Value).ownBlock ∧ some k_ ≠ (v9021 : Value).ownBlock ∧ some k_ ≠ (.slice Ao14 t9010.length co14 : Value).ownBlock ∧ some k_ ≠ (.slice Ao23 t9026.length co23 : Value).ownBlock) (.slice Ao12 t9004.length co12) t9004) := ⟨h4_⟩
             have n5_ : Aside0 (Kd.Q (Kd.int .i64) 3 w104 w.heap.size (fun k_ => some k_ ≠ (.slice Ao98 t9046.length co98 : Value).ownBlock ∧ some k_ ≠ (v9056 : Value).ownBlock ∧ some k_ ≠ (v9021 : Value).ownBlock ∧ some k_ ≠ (.slice Ao12 t9004.length co12 : Value).ownBlock ∧ some k_ ≠ (.slice Ao23 t9026.length co23 : Value).ownBlock) (.slice Ao14 t9010.length co14) t9010) := ⟨h5_⟩
             have n6_ : Aside0 (Kd.Q (Kd.int .i64) 3 w104 w.heap.size (fun k_ => some k_ ≠ (.slice Ao98 t9046.length co98 : Value).ownBlock ∧ some k_ ≠ (v9056 : Value).ownBlock ∧ some k_ ≠ (v9021 : Value).ownBlock ∧ some k_ ≠ (.slice Ao12 t9004.length co12 : Value).ownBlock ∧ some k_ ≠ (.slice Ao14 t9010.length co14 : Value).ownBlock) (.slice Ao23 t9026.length co23) t9026) := ⟨h6_⟩
             have n7_ : Aside0 (w104.heap[gb9018]? = some (.cells #[.int .i64 t9001, .int .i64 t9002, .int .i64 t9003, .slice Ao12 t9004.length co12] 27 (0, 0))) := ⟨h7_⟩
             have n8_ : Aside0 (w104.heap[gb9019]? = some (.cells #[.int .i64 t9007, .int .i64 t9008, .int .i64 t9009, .slice Ao14 t9010.length co14, .int .i64 t9013, .int .i64 t9014, .int .i64 t9015, .int .i64 t9016, .bool t9017] 55 (0, 0))) := ⟨h8_⟩
             have n9_ : Aside0 (w104.heap[gb9030]? = some (.cells #[.int .i64 t9023, .int .i64 t9024, .int .i64 t9025, .slice Ao23 t9026.length co23] 27 (0, 0))) := ⟨h9_⟩
             have n10_ : Aside0 (w104.heap[gb9050]? = some (.cells #[.int .i64 t9043, .int .i64 t9044, .int .i64 t9045, .slice Ao98 t9046.length co98] 27 (0, 0))) := ⟨h10_⟩
             have n11_ : Aside0 (w104.heap[gb9059]? = some (.cells #[.int .i64 0, .int .i64 0, .int .i64 0, .slice none 0 0] 27 (0, 0))) := ⟨h11_⟩
             have n12_ : Aside0 (w.heap.size ≤ gb9059) := ⟨h12_⟩
             have n13_ : Aside0 (w.heap.size ≤ gb9059) := ⟨h13_⟩
             have n14_ : Aside0 (gb9018 ≠ gb9059) := ⟨h14_⟩
             have n15_ : Aside0 (gb9059 ≠ gb9018) := ⟨h15_⟩
             have n16_ : Aside0 (gb9019 ≠ gb9059) := ⟨h16_⟩
             have n17_ : Aside0 (gb9059 ≠ gb9019) := ⟨h17_⟩
             have n18_ : Aside0 (gb9030 ≠ gb9059) := ⟨h18_⟩
             have n19_ : Aside0 (gb9059 ≠ gb9030) := ⟨h19_⟩
             have n20_ : Aside0 (gb9050 ≠ gb9059) := ⟨h20_⟩
             have n21_ : Aside0 (gb9059 ≠ gb9050) := ⟨h21_⟩
             have n22_ : Aside0 (Below w.heap.size w w104) := ⟨h22_⟩
             clear HO_5 HO_8 HOz0 HOz2 HOz1 HO9048 BK9018 BK9019 BK9030 BK9050 HB h0_ h1_ h2_ h3_ h4_ h5_ h6_ h7_ h8_ h9_ h10_ h11_ h12_ h13_ h14_ h15_ h16_ h17_ h18_ h19_ h20_ h21_ h22_
             revert n0_ n1_ n2_ n3_ n4_ n5_ n6_ n7_ n8_ n9_ n10_ n11_ n12_ n13_ n14_ n15_ n16_ n17_ n18_ n19_ n20_ n21_ n22_; intro HO9048 HO9057 HO_5 HO_8 HOz0 HOz2 HOz1 BK9018 BK9019 BK9030 BK9050 BK9059 GW9059 GE9059 NB9018_9059 NB9059_9018 NB9019_9059 NB9059_9019 NB9030_9059 NB9059_9030 NB9050_9059 NB9059_9050 HB
             have hHeld : w104.cell? ⟨gb9030, 0, none⟩ = some (.int .i64 t9023) ∧ w104.cell? ⟨gb9030, 1, none⟩ = some (.int .i64 t9024) ∧ w104.cell? ⟨gb9030, 2, none⟩ = some (.int .i64 t9025) ∧ w104.cell? ⟨gb9030, 3, none⟩ = some (.slice Ao23 t9026.length co23) ∧ w104.cell? (ad9042.add ((x9_2).toNat * 4)) = some (.int .i64 ((rd_T47 t9039 x9_2).f0)) ∧ w104.cell? ⟨(ad9042.add ((x9_2).toNat * 4)).block, (ad9042.add ((x9_2).toNat * 4)).off + 1, none⟩ = some (.int .i64 ((rd_T47 t9039 x9_2).f1)) ∧ w104.cell? ⟨(ad9042.add ((x9_2).toNat * 4)).block, (ad9042.add ((x9_2).toNat * 4)).off + 2, none⟩ = some (.int .i64 ((rd_T47 t9039 x9_2).f2)) ∧ w104.cell? ⟨(ad9042.add ((x9_2).toNat * 4)).block, (ad9042.add ((x9_2).toNat * 4)).off + 3, none⟩ = some (.int .i64 ((rd_T47 t9039 x9_2).f3)) := hS_
             obtain ⟨Ao108, co108, eo108⟩ := Kd.R_slice HO9057.out
             (subst eo108)
             refine norm_ (a' := ?_) ?_ ?_
             rotate_left
             ·simp only [putAll, Act.put, List.setIfInBounds_toArray, List.set_cons_zero, List.set_cons_succ]
              rfl
             refine one_ (i := 10) (N := none) #[true, true, true, true, true, true, true, true, true, true, true, false] rfl rfl (one_of HT_.out (by kernel_rfl)) (by decide) (fun K hK => ?_)
             have hs105 : w104.cell? ⟨gb9059, 0, none⟩ = some (.int .i64 0) := (blk_cell BK9059.out 0).trans rfl
             have hfs105 := blk_frozen BK9059.out 0
             have hns105_0 := NB9018_9059.out
             have hns105_1 := NB9019_9059.out
             have hns105_2 := NB9030_9059.out
             have hns105_3 := NB9050_9059.out
             have hms105_0 := NB9059_9018.out
             have hms105_1 := NB9059_9019.out
             have hms105_2 := NB9059_9030.out
             have hms105_3 := NB9059_9050.out
             have hs106 : w104.cell? ⟨gb9059, 1, none⟩ = some (.int .i64 0) := (blk_cell BK9059.out 1).trans rfl
             have hfs106 := blk_frozen BK9059.out 1
             have hns106_0 := NB9018_9059.out
             have hns106_1 := NB9019_9059.out
             have hns106_2 := NB9030_9059.out
             have hns106_3 := NB9050_9059.out
             have hms106_0 := NB9059_9018.out
             have hms106_1 := NB9059_9019.out
             have hms106_2 := NB9059_9030.out
             have hms106_3 := NB9059_9050.out
             have hs107 : w104.cell? ⟨gb9059, 2, none⟩ = some (.int .i64 0) := (blk_cell BK9059.out 2).trans rfl
             have hfs107 := blk_frozen BK9059.out 2
             have hns107_0 := NB9018_9059.out
             have hns107_1 := NB9019_9059.out
             have hns107_2 := NB9030_9059.out
             have hns107_3 := NB9050_9059.out
             have hms107_0 := NB9059_9018.out
             have hms107_1 := NB9059_9019.out
             have hms107_2 := NB9059_9030.out
             have hms107_3 := NB9059_9050.out
             have hs109 : w104.cell? ⟨gb9059, 3, none⟩ = some (.slice none 0 0) := (blk_cell BK9059.out 3).trans rfl
             have hfs109 := blk_frozen BK9059.out 3
             have hns109_0 := NB9018_9059.out
             have hns109_1 := NB9019_9059.out
             have hns109_2 := NB9030_9059.out
             have hns109_3 := NB9050_9059.out
             have hms109_0 := NB9059_9018.out
             have hms109_1 := NB9059_9019.out
             have hms109_2 := NB9059_9030.out
             have hms109_3 := NB9059_9050.out
             refine skip_ (w1 := ?_) (by rfl) rfl ?_ ?_
             rotate_left
             ·go_simp
              rfl
             refine hK.out _ _ ⟨((cell_far (p := ⟨gb9059, _, none⟩) NB9030_9059.out _).trans (((cell_far (p := ⟨gb9059, _, none⟩) NB9030_9059.out _).trans (((cell_far (p := ⟨gb9059, _, none⟩) NB9030_9059.out _).trans (((cell_far (p := ⟨gb9059, _, none⟩) NB9030_9059.out _).trans hHeld.1))))))), ((cell_far (p := ⟨gb9059, _, none⟩) NB9030_9059.out _).trans (((cell_far (p := ⟨gb9059, _, none⟩) NB9030_9059.out _).trans (((cell_far (p := ⟨gb9059, _, none⟩) NB9030_9059.out _).trans (((cell_far (p := ⟨gb9059, _, none⟩) NB9030_9059.out _).trans hHeld.2.1))))))), ((cell_far (p := ⟨gb9059, _, none⟩) NB9030_9059.out _).trans (((cell_far (p := ⟨gb9059, _, none⟩) NB9030_9059.out _).trans (((cell_far (p := ⟨gb9059, _, none⟩) NB9030_9059.out _).trans (((cell_far (p := ⟨gb9059, _, none⟩) NB9030_9059.out _).trans hHeld.2.2.1))))))), ((cell_far (p := ⟨gb9059, _, none⟩) NB9030_9059.out _).trans (((cell_far (p := ⟨gb9059, _, none⟩) NB9030_9059.out _).trans (((cell_far (p := ⟨gb9059, _, none⟩) NB9030_9059.out _).trans (((cell_far (p := ⟨gb9059, _, none⟩) NB9030_9059.out _).trans hHeld.2.2.2.1))))))), ((cell_far (p := ⟨gb9059, _, none⟩) (by (rw [add_block]; exact Kd.own_blk (Kd.R_ne HO_8.out BK9059.out (by decide)))) _).trans (((cell_far (p := ⟨gb9059, _, none⟩) (by (rw [add_block]; exact Kd.own_blk (Kd.R_ne HO_8.out BK9059.out (by decide)))) _).trans (((cell_far (p := ⟨gb9059, _, none⟩) (by (rw [add_block]; exact Kd.own_blk (Kd.R_ne HO_8.out BK9059.out (by decide)))) _).trans (((cell_far (p := ⟨gb9059, _, none⟩) (by (rw [add_block]; exact Kd.own_blk (Kd.R_ne HO_8.out BK9059.out (by decide)))) _).trans hHeld.2.2.2.2.1))))))), ((cell_far (p := ⟨gb9059, _, none⟩) (by (rw [add_block]; exact Kd.own_blk (Kd.R_ne HO_8.out BK9059.out (by decide)))) _).trans (((cell_far (p := ⟨gb9059, _, none⟩) (by (rw [add_block]; exact Kd.own_blk (Kd.R_ne HO_8.out BK9059.out (by decide)))) _).trans (((cell_far (p := ⟨gb9059, _, none⟩) (by (rw [add_block]; exact Kd.own_blk (Kd.R_ne HO_8.out BK9059.out (by decide)))) _).trans (((cell_far (p := ⟨gb9059, _, none⟩) (by (rw [add_block]; exact Kd.own_blk (Kd.R_ne HO_8.out BK9059.out (by decide)))) _).trans hHeld.2.2.2.2.2.1))))))), ((cell_far (p := ⟨gb9059, _, none⟩) (by (rw [add_block]; exact Kd.own_blk (Kd.R_ne HO_8.out BK9059.out (by decide)))) _).trans (((cell_far (p := ⟨gb9059, _, none⟩) (by (rw [add_block]; exact Kd.own_blk (Kd.R_ne HO_8.out BK9059.out (by decide)))) _).trans (((cell_far (p := ⟨gb9059, _, none⟩) (by (rw [add_block]; exact Kd.own_blk (Kd.R_ne HO_8.out BK9059.out (by decide)))) _).trans (((cell_far (p := ⟨gb9059, _, none⟩) (by (rw [add_block]; exact Kd.own_blk (Kd.R_ne HO_8.out BK9059.out (by decide)))) _).trans hHeld.2.2.2.2.2.2.1))))))), ((cell_far (p := ⟨gb9059, _, none⟩) (by (rw [add_block]; exact Kd.own_blk (Kd.R_ne HO_8.out BK9059.out (by decide)))) _).trans (((cell_far (p := ⟨gb9059, _, none⟩) (by (rw [add_block]; exact Kd.own_blk (Kd.R_ne HO_8.out BK9059.out (by decide)))) _).trans (((cell_far (p := ⟨gb9059, _, none⟩) (by (rw [add_block]; exact Kd.own_blk (Kd.R_ne HO_8.out BK9059.out (by decide)))) _).trans (((cell_far (p := ⟨gb9059, _, none⟩) (by (rw [add_block]; exact Kd.own_blk (Kd.R_ne HO_8.out BK9059.out (by decide)))) _).trans hHeld.2.2.2.2.2.2.2)))))))⟩ (fun hHeld => ?_)
             clear hK K
             refine pure_ (i := 11) (N := some 13) (v := ?_) (a' := ?_) #[true, true, true, true, true, true, true, true, true, true, true, true] rfl rfl (any_of HT_.out (by kernel_rfl)) (fun _ _ _ h => h) (Or.inl ⟨by rfl, ?_⟩) ?_ ?_
             rotate_left
             ·intro w'
              go_simp
              with_reducible rfl
             rotate_left
             ·simp only [Act.put, List.setIfInBounds_toArray, List.set_cons_zero, List.set_cons_succ, i64_w, i32_w]
              rfl
             refine done_ (done_of HT_.out (by kernel_rfl)) ?_
             obtain ⟨Ao110, co110, eo110⟩ := Kd.R_slice HO_5.out
             subst eo110
             try go_wp2_with (first | (go_at_call 52; (with_reducible refine (laws_isIn.calls k2 _ _ t9020 x9_2 false _ ?side1 ?side2 A65.out).mono ?_); (case side1 => refine (Kd.R_reads' (e := 3) (base := w.heap.size) (ok := fun k_ => (some k_ ≠ (.slice Ao98 t9046.length co98 : Value).ownBlock ∧ (some k_ ≠ (.slice Ao108 t9055.length co108 : Value).ownBlock ∧ (some k_ ≠ (.slice Ao12 t9004.length co12 : Value).ownBlock ∧ (some k_ ≠ (.slice Ao14 t9010.length co14 : Value).ownBlock ∧ some k_ ≠ (.slice Ao23 t9026.length co23 : Value).ownBlock))))) (n := t9020.length) (c := co110) ?_).2.2; exact (by exact (Kd.R_mono (Kd.R_far (p := ⟨gb9059, 3, none⟩) (Kd.R_far (p := ⟨gb9059, 2, none⟩) (Kd.R_far (p := ⟨gb9059, 1, none⟩) (Kd.R_far (p := ⟨gb9059, 0, none⟩) (Kd.R_types HO_5.out BK9059.out (by decide)) (fun _ hk => hk.2) (.int .i64 t9052)) (fun _ hk => hk.2) (.int .i64 t9053)) (fun _ hk => hk.2) (.int .i64 t9054)) (fun _ hk => hk.2) (.slice Ao108 t9055.length co108)) (fun _ h_ => h_.1)))); (case side2 => exact (Kd.R_reads' HO_5.out).2.1); rintro e w' ⟨rfl, ⟨nd, rfl⟩⟩; have hnb111 := NB9050_9018.out; have hnc111 := NB9018_9050.out; have hnb112 := NB9050_9019.out; have hnc112 := NB9019_9050.out; have hnb113 := NB9050_9030.out; have hnc113 := NB9030_9050.out; have hnb114 := NB9050_9059.out; have hnc114 := NB9059_9050.out; have hcz115_0 : w104.cell? ⟨gb9050, 0, none⟩ = some (.int .i64 t9043) := (blk_cell BK9050.out 0).trans rfl; have hcz115_1 : w104.cell? ⟨gb9050, 1, none⟩ = some (.int .i64 t9044) := (blk_cell BK9050.out 1).trans rfl; have hcz115_2 : w104.cell? ⟨gb9050, 2, none⟩ = some (.int .i64 t9045) := (blk_cell BK9050.out 2).trans rfl; have hcz115_3 : w104.cell? ⟨gb9050, 3, none⟩ = some (.slice Ao98 t9046.length co98) := (blk_cell BK9050.out 3).trans rfl; have hfz115_0 := blk_frozen BK9050.out 0; have hfz115_1 := blk_frozen BK9050.out 1; have hfz115_2 := blk_frozen BK9050.out 2; have hfz115_3 := blk_frozen BK9050.out 3; have hnb116 := NB9059_9018.out; have hnc116 := NB9018_9059.out; have hnb117 := NB9059_9019.out; have hnc117 := NB9019_9059.out; have hnb118 := NB9059_9030.out; have hnc118 := NB9030_9059.out; have hcz119_0 : w104.cell? ⟨gb9059, 0, none⟩ = some (.int .i64 0) := (blk_cell BK9059.out 0).trans rfl; have hcz119_1 : w104.cell? ⟨gb9059, 1, none⟩ = some (.int .i64 0) := (blk_cell BK9059.out 1).trans rfl; have hcz119_2 : w104.cell? ⟨gb9059, 2, none⟩ = some (.int .i64 0) := (blk_cell BK9059.out 2).trans rfl; have hcz119_3 : w104.cell? ⟨gb9059, 3, none⟩ = some (.slice none 0 0) := (blk_cell BK9059.out 3).trans rfl; have hfz119_0 := blk_frozen BK9059.out 0; have hfz119_1 := blk_frozen BK9059.out 1; have hfz119_2 := blk_frozen BK9059.out 2; have hfz119_3 := blk_frozen BK9059.out 3) | (go_at_call 26; (with_reducible refine (laws_equalImage.calls k2 t9043 t9044 t9045 _ _ t9046 t9052 t9053 t9054 _ _ t9055 true _ ?side1 ?side2 ?side3 ?side4 A88.out).mono ?_); (case side1 => refine (Kd.R_reads' (e := 3) (base := w.heap.size) (ok := fun k_ => (some k_ ≠ (.slice Ao108 t9055.length co108 : Value).ownBlock ∧ (some k_ ≠ (.slice Ao110 t9020.length co110 : Value).ownBlock ∧ (some k_ ≠ (.slice Ao12 t9004.length co12 : Value).ownBlock ∧ (some k_ ≠ (.slice Ao14 t9010.length co14 : Value).ownBlock ∧ some k_ ≠ (.slice Ao23 t9026.length co23 : Value).ownBlock))))) (n := t9046.length) (c := co98) ?_).2.2; exact (by (with_reducible repeat (apply Kd.R_drewN)); exact (Kd.R_mono (Kd.R_far (p := ⟨gb9059, 3, none⟩) (Kd.R_far (p := ⟨gb9059, 2, none⟩) (Kd.R_far (p := ⟨gb9059, 1, none⟩) (Kd.R_far (p := ⟨gb9059, 0, none⟩) (Kd.R_types HO9048.out BK9059.out (by decide)) (fun _ hk => hk.2) (.int .i64 t9052)) (fun _ hk => hk.2) (.int .i64 t9053)) (fun _ hk => hk.2) (.int .i64 t9054)) (fun _ hk => hk.2) (.slice Ao108 t9055.length co108)) (fun _ h_ => h_.1)))); (case side2 => exact (Kd.R_reads' HO9048.out).2.1); (case side3 => refine (Kd.R_reads' (e := 3) (base := w.heap.size) (ok := fun k_ => (some k_ ≠ (.slice Ao98 t9046.length co98 : Value).ownBlock ∧ (some k_ ≠ (.slice Ao110 t9020.length co110 : Value).ownBlock ∧ (some k_ ≠ (.slice Ao12 t9004.length co12 : Value).ownBlock ∧ (some k_ ≠ (.slice Ao14 t9010.length co14 : Value).ownBlock ∧ some k_ ≠ (.slice Ao23 t9026.length co23 : Value).ownBlock))))) (n := t9055.length) (c := co108) ?_).2.2; exact (by (with_reducible repeat (apply Kd.R_drewN)); exact (Kd.R_mono (Kd.R_far (p := ⟨gb9059, 3, none⟩) (Kd.R_far (p := ⟨gb9059, 2, none⟩) (Kd.R_far (p := ⟨gb9059, 1, none⟩) (Kd.R_far (p := ⟨gb9059, 0, none⟩) (Kd.R_types HO9057.out BK9059.out (by decide)) (fun _ hk => hk.2) (.int .i64 t9052)) (fun _ hk => hk.2) (.int .i64 t9053)) (fun _ hk => hk.2) (.int .i64 t9054)) (fun _ hk => hk.2) (.slice Ao108 t9055.length co108)) (fun _ h_ => h_.1)))); (case side4 => exact (Kd.R_reads' HO9057.out).2.1); rintro e w120 ⟨rfl, hb⟩; replace HO_5 := mk (Kd.R_below (by (with_reducible repeat (apply Kd.R_drewN)); exact (Kd.R_mono (Kd.R_far (p := ⟨gb9059, 3, none⟩) (Kd.R_far (p := ⟨gb9059, 2, none⟩) (Kd.R_far (p := ⟨gb9059, 1, none⟩) (Kd.R_far (p := ⟨gb9059, 0, none⟩) (Kd.R_types HO_5.out BK9059.out (by decide)) (fun _ hk => hk.2) (.int .i64 t9052)) (fun _ hk => hk.2) (.int .i64 t9053)) (fun _ hk => hk.2) (.int .i64 t9054)) (fun _ hk => hk.2) (.slice Ao108 t9055.length co108)) (fun _ h_ => h_.1))) hb); replace HO_8 := mk (Kd.R_below (by (with_reducible repeat (apply Kd.R_drewN)); exact (Kd.R_mono (Kd.R_far (p := ⟨gb9059, 3, none⟩) (Kd.R_far (p := ⟨gb9059, 2, none⟩) (Kd.R_far (p := ⟨gb9059, 1, none⟩) (Kd.R_far (p := ⟨gb9059, 0, none⟩) (Kd.R_types HO_8.out BK9059.out (by decide)) (fun _ hk => hk.2) (.int .i64 t9052)) (fun _ hk => hk.2) (.int .i64 t9053)) (fun _ hk => hk.2) (.int .i64 t9054)) (fun _ hk => hk.2) (.slice Ao108 t9055.length co108)) (fun _ h_ => h_.1))) hb); replace HOz0 := mk (Kd.Q_below (by (with_reducible repeat (apply Kd.Q_drewN)); exact (Kd.Q_mono (Kd.Q_far (p := ⟨gb9059, 3, none⟩) (Kd.Q_far (p := ⟨gb9059, 2, none⟩) (Kd.Q_far (p := ⟨gb9059, 1, none⟩) (Kd.Q_far (p := ⟨gb9059, 0, none⟩) (Kd.Q_types HOz0.out BK9059.out (by decide)) (fun _ hk => hk.2) (.int .i64 t9052)) (fun _ hk => hk.2) (.int .i64 t9053)) (fun _ hk => hk.2) (.int .i64 t9054)) (fun _ hk => hk.2) (.slice Ao108 t9055.length co108)) (fun _ h_ => h_.1))) hb); replace HOz2 := mk (Kd.Q_below (by (with_reducible repeat (apply Kd.Q_drewN)); exact (Kd.Q_mono (Kd.Q_far (p := ⟨gb9059, 3, none⟩) (Kd.Q_far (p := ⟨gb9059, 2, none⟩) (Kd.Q_far (p := ⟨gb9059, 1, none⟩) (Kd.Q_far (p := ⟨gb9059, 0, none⟩) (Kd.Q_types HOz2.out BK9059.out (by decide)) (fun _ hk => hk.2) (.int .i64 t9052)) (fun _ hk => hk.2) (.int .i64 t9053)) (fun _ hk => hk.2) (.int .i64 t9054)) (fun _ hk => hk.2) (.slice Ao108 t9055.length co108)) (fun _ h_ => h_.1))) hb); replace HOz1 := mk (Kd.Q_below (by (with_reducible repeat (apply Kd.Q_drewN)); exact (Kd.Q_mono (Kd.Q_far (p := ⟨gb9059, 3, none⟩) (Kd.Q_far (p := ⟨gb9059, 2, none⟩) (Kd.Q_far (p := ⟨gb9059, 1, none⟩) (Kd.Q_far (p := ⟨gb9059, 0, none⟩) (Kd.Q_types HOz1.out BK9059.out (by decide)) (fun _ hk => hk.2) (.int .i64 t9052)) (fun _ hk => hk.2) (.int .i64 t9053)) (fun _ hk => hk.2) (.int .i64 t9054)) (fun _ hk => hk.2) (.slice Ao108 t9055.length co108)) (fun _ h_ => h_.1))) hb); replace HO9048 := mk (Kd.R_below (by (with_reducible repeat (apply Kd.R_drewN)); exact (Kd.R_mono (Kd.R_far (p := ⟨gb9059, 3, none⟩) (Kd.R_far (p := ⟨gb9059, 2, none⟩) (Kd.R_far (p := ⟨gb9059, 1, none⟩) (Kd.R_far (p := ⟨gb9059, 0, none⟩) (Kd.R_types HO9048.out BK9059.out (by decide)) (fun _ hk => hk.2) (.int .i64 t9052)) (fun _ hk => hk.2) (.int .i64 t9053)) (fun _ hk => hk.2) (.int .i64 t9054)) (fun _ hk => hk.2) (.slice Ao108 t9055.length co108)) (fun _ h_ => h_.1))) hb); replace HO9057 := mk (Kd.R_below (by (with_reducible repeat (apply Kd.R_drewN)); exact (Kd.R_mono (Kd.R_far (p := ⟨gb9059, 3, none⟩) (Kd.R_far (p := ⟨gb9059, 2, none⟩) (Kd.R_far (p := ⟨gb9059, 1, none⟩) (Kd.R_far (p := ⟨gb9059, 0, none⟩) (Kd.R_types HO9057.out BK9059.out (by decide)) (fun _ hk => hk.2) (.int .i64 t9052)) (fun _ hk => hk.2) (.int .i64 t9053)) (fun _ hk => hk.2) (.int .i64 t9054)) (fun _ hk => hk.2) (.slice Ao108 t9055.length co108)) (fun _ h_ => h_.1))) hb); replace BK9018 := mk (blk_below (g := gb9018) (o := .cells #[.int .i64 t9001, .int .i64 t9002, .int .i64 t9003, .slice Ao12 t9004.length co12] 27 (0, 0)) (by (with_reducible repeat (refine blk_drewN ?_ _)); refine blk_far ?_ NB9018_9059.out _; refine blk_far ?_ NB9018_9059.out _; refine blk_far ?_ NB9018_9059.out _; refine blk_far ?_ NB9018_9059.out _; (with_reducible repeat (first | refine blk_drewN ?_ _ | refine blk_drew ?_ | refine blk_alloc ?_ _)); exact BK9018.out) hb); replace BK9019 := mk (blk_below (g := gb9019) (o := .cells #[.int .i64 t9007, .int .i64 t9008, .int .i64 t9009, .slice Ao14 t9010.length co14, .int .i64 t9013, .int .i64 t9014, .int .i64 t9015, .int .i64 t9016, .bool t9017] 55 (0, 0)) (by (with_reducible repeat (refine blk_drewN ?_ _)); refine blk_far ?_ NB9019_9059.out _; refine blk_far ?_ NB9019_9059.out _; refine blk_far ?_ NB9019_9059.out _; refine blk_far ?_ NB9019_9059.out _; (with_reducible repeat (first | refine blk_drewN ?_ _ | refine blk_drew ?_ | refine blk_alloc ?_ _)); exact BK9019.out) hb); replace BK9030 := mk (blk_below (g := gb9030) (o := .cells #[.int .i64 t9023, .int .i64 t9024, .int .i64 t9025, .slice Ao23 t9026.length co23] 27 (0, 0)) (by (with_reducible repeat (refine blk_drewN ?_ _)); refine blk_far ?_ NB9030_9059.out _; refine blk_far ?_ NB9030_9059.out _; refine blk_far ?_ NB9030_9059.out _; refine blk_far ?_ NB9030_9059.out _; (with_reducible repeat (first | refine blk_drewN ?_ _ | refine blk_drew ?_ | refine blk_alloc ?_ _)); exact BK9030.out) hb); replace BK9050 := mk (blk_below (g := gb9050) (o := .cells #[.int .i64 t9043, .int .i64 t9044, .int .i64 t9045, .slice Ao98 t9046.length co98] 27 (0, 0)) (by (with_reducible repeat (refine blk_drewN ?_ _)); refine blk_far ?_ NB9050_9059.out _; refine blk_far ?_ NB9050_9059.out _; refine blk_far ?_ NB9050_9059.out _; refine blk_far ?_ NB9050_9059.out _; (with_reducible repeat (first | refine blk_drewN ?_ _ | refine blk_drew ?_ | refine blk_alloc ?_ _)); exact BK9050.out) hb); replace BK9059 := mk (blk_below (g := gb9059) (o := .cells #[.int .i64 t9052, .int .i64 t9053, .int .i64 t9054, .slice Ao108 t9055.length co108] 27 (0, 0)) (by (with_reducible repeat (refine blk_drewN ?_ _)); refine blk_put (cs := #[.int .i64 t9052, .int .i64 t9053, .int .i64 t9054, .slice none 0 0]) ?_ 3 _ rfl; refine blk_put (cs := #[.int .i64 t9052, .int .i64 t9053, .int .i64 0, .slice none 0 0]) ?_ 2 _ rfl; refine blk_put (cs := #[.int .i64 t9052, .int .i64 0, .int .i64 0, .slice none 0 0]) ?_ 1 _ rfl; refine blk_put (cs := #[.int .i64 0, .int .i64 0, .int .i64 0, .slice none 0 0]) ?_ 0 _ rfl; (with_reducible repeat (first | refine blk_drewN ?_ _ | refine blk_drew ?_ | refine blk_alloc ?_ _)); exact BK9059.out) hb); replace HB := mk (below_step (by repeat (with_reducible first | exact HB.out | apply pw_below_drewN | refine below_set ?_ GE9059.out)) hb); (try clear hb)))
             go_roundg k2
             case measure => have := HJ5.out; have := HK2.out; omega
             case rel => exact ⟨(wrap64 (x9_2 + 1)), (by rfl), H', ⟨by have := HJ5.out; have := HK2.out; omega⟩, ⟨by (with_reducible repeat (first | apply Kd.R_alloc | apply Kd.R_drewN | apply Kd.R_drew)); exact Kd.R_mono HO_5.out (fun _ hk => ⟨hk.2.2.1, ⟨hk.2.2.2.1, hk.2.2.2.2⟩⟩)⟩, ⟨by (with_reducible repeat (first | apply Kd.R_alloc | apply Kd.R_drewN | apply Kd.R_drew)); exact HO_8.out⟩, ⟨by (with_reducible repeat (first | apply Kd.Q_alloc | apply Kd.Q_drewN | apply Kd.Q_drew)); exact Kd.Q_mono HOz0.out (fun _ hk => ⟨hk.2.2.1, ⟨hk.2.2.2.1, hk.2.2.2.2⟩⟩)⟩, ⟨by (with_reducible repeat (first | apply Kd.Q_alloc | apply Kd.Q_drewN | apply Kd.Q_drew)); exact Kd.Q_mono HOz2.out (fun _ hk => ⟨hk.2.2.1, ⟨hk.2.2.2.1, hk.2.2.2.2⟩⟩)⟩, ⟨by (with_reducible repeat (first | apply Kd.Q_alloc | apply Kd.Q_drewN | apply Kd.Q_drew)); exact Kd.Q_mono HOz1.out (fun _ hk => ⟨hk.2.2.1, ⟨hk.2.2.2.1, hk.2.2.2.2⟩⟩)⟩, ⟨by (with_reducible repeat (first | refine blk_drewN ?_ _ | refine blk_drew ?_ | refine blk_alloc ?_ _)); exact BK9018.out⟩, ⟨by (with_reducible repeat (first | refine blk_drewN ?_ _ | refine blk_drew ?_ | refine blk_alloc ?_ _)); exact BK9019.out⟩, ⟨by (with_reducible repeat (first | refine blk_drewN ?_ _ | refine blk_drew ?_ | refine blk_alloc ?_ _)); exact BK9030.out⟩, ⟨by exact HB.out⟩⟩
            ·replace c89 := Bool.eq_false_iff.mpr c89
             subst c89
             have H1 : (some false) = some r := by rw [if_neg (show ¬ (false = true) by decide)] at H; exact H
             clear H
             have H := H1
             clear H1
             exact absurd ((Option.some.inj H).trans HRT.out) (by decide)
          ·replace c64 := Bool.eq_false_iff.mpr c64
           subst c64
           have H1 : (some false) = some r := by rw [if_neg (show ¬ (false = true) by decide)] at H; exact H
           clear H
           have H := H1
           clear H1
           exact absurd ((Option.some.inj H).trans HRT.out) (by decide)
         ·replace c63 := Bool.eq_false_iff.mpr c63
          subst c63
          have H1 : (some false) = some r := by rw [if_neg (show ¬ (false = true) by decide)] at H; exact H
          clear H
          have H := H1
          clear H1
          exact absurd ((Option.some.inj H).trans HRT.out) (by decide)
        ·rw [if_neg c60] at H
         exact absurd H (by simp)
       ·rw [if_neg c59] at H
        have c59b0 : decide (x9_2 < (t9039.length : Int)) = false := decide_eq_false c59
        clear c59
        obtain rfl := Option.some.inj H
        obtain ⟨Ao192, co192, eo192⟩ := Kd.R_slice HO_8.out
        subst eo192
        go_wp2
        go_ret
        exact ⟨by rfl, by exact HB.out⟩

def laws_FnDirtyTiles.Pure : Prop := ∀ (l0 : List Int), l0.length ≤ maxLen → l0.length * 1 ≤ 140737488351232 → (∀ x ∈ l0, (Lit.int .u8 x).wf = true) → ∃ k, laws_FnDirtyTiles.f k l0 = some true
theorem laws_FnDirtyTiles.walk (P : laws_FnDirtyTiles.Pure) (a0 : Option Addr) (len0 cap0 : Nat) (z0 : List Int) (w : World) (w0 : (a0 = none ∧ len0 = 0 ∧ cap0 = 0 ∧ z0 = []) ∨ ∃ x, a0 = some x ∧ len0 ≤ cap0 ∧ cap0 ≤ maxLen ∧ z0.length = cap0 ∧ (∀ i, i < z0.length → w.cell? (x.add i) = some (.int .u8 (z0.getD i 0))) ∧ ∀ n ∈ z0, (Lit.int .u8 n).wf = true) (y0 : len0 * 1 ≤ 140737488351232) :
  Calls Try.prog 8 #[.slice a0 len0 cap0] w fun e w' => e = .returned (.bool true) ∧ Below w.heap.size w w' := by
 obtain ⟨l0, rfl, hr0, hm0, hw0, hc0⟩ := ReadsInt.ofRowC w0
 obtain ⟨k, h⟩ := P l0 hm0 y0 hw0
 refine (laws_FnDirtyTiles.calls k _ _ l0 true w (Kd.C_of_reads (d := (0 : Int)) (h1 := fun _ => rfl) hr0) hc0 h rfl).mono ?_
 rintro e w' ⟨rfl, hd⟩
 exact ⟨rfl, hd⟩

end Go.Proofs.Ytnofkbbcbpjhfaa.Q
