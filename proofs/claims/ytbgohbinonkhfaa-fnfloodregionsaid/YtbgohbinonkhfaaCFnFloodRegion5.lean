/- A part of the proof that the statement FnFloodRegionSaid holds, under no condition of its own: Floods reach similar pixels: the law FnFloodRegion over lists of numbers alone. -/
import Derived.Test.YtbgohbinonkhfaaCFnFloodRegion1
import Derived.Test.YtbgohbinonkhfaaCFnFloodRegion2
import Derived.Test.YtbgohbinonkhfaaCFnFloodRegion3
import Derived.Test.YtbgohbinonkhfaaCFnFloodRegion4
import Derived.Test.YtbgohbinonkhfaaRows
import Derived.JoinedOf
import Derived.KernelRfl
import Derived.WalkKit
import Derived.ProofKit
import Derived.OpenShut
import Derived.ShutString
import Derived.ChangeOld
import Derived.Below
import Derived.SizedLaws
import Derived.Test.YtbgohbinonkhfaaCFnFloodRegionW1
namespace Go.Proofs.Ytbgohbinonkhfaa.Q
open Go.RowKit Go.Proofs.YtbgohbinonkhfaaW.PrintWords Go.Proofs.YtbgohbinonkhfaaW.PrintLast Go.Proofs.YtbgohbinonkhfaaW.PrintMore
attribute [local go_sem] max2_int min2_int max_two min_two max_three min_three max_four min_four
set_option linter.unusedVariables false
set_option linter.unusedSimpArgs false
/-! ### laws_FnFloodRegion: function 7 -/
mutual
noncomputable def laws_FnFloodRegion.j0 : Nat → Int → Int → Int → List (S47) → Bool → Int → Int → Int → List Int → Option (Bool)
  | 0, _, _, _, _, _, _, _, _, _ => none
  | k + 1, x4, x5, x6, x7, x40, x8011000, x8011001, x8011002, x8011003 => if x40 = true then ((spec_FloodRegion.f k x8011000 x8011001 x8011002 x8011003 x4 x5 x6).bind fun t8018 => ((laws_equalRuns.f k x7 t8018).bind fun t8021 => (some t8021))) else ((impl_PixelAt.f x8011000 x8011001 x8011002 x8011003 x4 x5).bind fun t8022 => (laws_FnFloodRegion.l0 k x4 x5 x6 x7 t8022 0 x8011000 x8011001 x8011002 x8011003))
noncomputable def laws_FnFloodRegion.l0 : Nat → Int → Int → Int → List (S47) → List Int → Int → Int → Int → Int → List Int → Option (Bool)
  | 0, _, _, _, _, _, _, _, _, _, _ => none
  | k + 1, x4, x5, x6, x7, x8, x9, x8011000, x8011001, x8011002, x8011003 => if x9 < (x7.length : Int) then (if 0 ≤ x9 then (laws_FnFloodRegion.l1 k x4 x5 x6 x7 x8 x9 ((rd_T47 x7 x9).f1) x8011000 x8011001 x8011002 x8011003) else (none)) else ((impl_RegionHas.f x7 x4 x5).bind fun t8025 => (if t8025 = true then ((impl_PartsOf.f x7).bind fun t8026 => (some ((t8026.length : Int) == 1))) else (some false)))
noncomputable def laws_FnFloodRegion.l1 : Nat → Int → Int → Int → List (S47) → List Int → Int → Int → Int → Int → Int → List Int → Option (Bool)
  | 0, _, _, _, _, _, _, _, _, _, _, _ => none
  | k + 1, x4, x5, x6, x7, x8, x9, x10, x8011000, x8011001, x8011002, x8011003 => if 0 ≤ x9 then (if x9 < (x7.length : Int) then (if x10 < ((rd_T47 x7 x9).f2) then ((impl_PixelAt.f x8011000 x8011001 x8011002 x8011003 x10 ((rd_T47 x7 x9).f0)).bind fun t8032 => (laws_FnFloodRegion.l2 k x4 x5 x6 x7 x8 x9 x10 t8032 0 x8011000 x8011001 x8011002 x8011003)) else (laws_FnFloodRegion.l0 k x4 x5 x6 x7 x8 (wrap64 (x9 + 1)) x8011000 x8011001 x8011002 x8011003)) else (none)) else (none)
noncomputable def laws_FnFloodRegion.l2 : Nat → Int → Int → Int → List (S47) → List Int → Int → Int → List Int → Int → Int → Int → Int → List Int → Option (Bool)
  | 0, _, _, _, _, _, _, _, _, _, _, _, _, _ => none
  | k + 1, x4, x5, x6, x7, x8, x9, x10, x11, x12, x8011000, x8011001, x8011002, x8011003 => if x12 < (x8.length : Int) then (if (x11.length : Int) = (x8.length : Int) then (if 0 ≤ x12 then (if x12 < (x11.length : Int) then ((laws_absolute.f (wrap64 ((rd x11 x12) - (rd x8 x12)))).bind fun t8037 => (if t8037 > x6 then (some false) else (laws_FnFloodRegion.l2 k x4 x5 x6 x7 x8 x9 x10 x11 (wrap64 (x12 + 1)) x8011000 x8011001 x8011002 x8011003))) else (none)) else (none)) else (some false)) else (laws_FnFloodRegion.l1 k x4 x5 x6 x7 x8 x9 (wrap64 (x10 + 1)) x8011000 x8011001 x8011002 x8011003)
end
noncomputable def laws_FnFloodRegion.f (k : Nat) (l0 : List Int) : Option (Bool) := if (l0.length : Int) > 1048576 then (some true) else ((spec_DrawFloodRegion.f k l0).bind fun bt8001 => ((impl_FloodRegion.f bt8001.1 bt8001.2.1 bt8001.2.2.1 bt8001.2.2.2.1 bt8001.2.2.2.2.1 bt8001.2.2.2.2.2.1 bt8001.2.2.2.2.2.2).bind fun t8011 => ((spec_FloodRegion.f k bt8001.1 bt8001.2.1 bt8001.2.2.1 bt8001.2.2.2.1 bt8001.2.2.2.2.1 bt8001.2.2.2.2.2.1 bt8001.2.2.2.2.2.2).bind fun t8014 => ((laws_equalRuns.f k t8011 t8014).bind fun t8017 => (if t8017 = true then (laws_FnFloodRegion.j0 k bt8001.2.2.2.2.1 bt8001.2.2.2.2.2.1 bt8001.2.2.2.2.2.2 t8011 ((t8011.length : Int) == 0) bt8001.1 bt8001.2.1 bt8001.2.2.1 bt8001.2.2.2.1) else (laws_FnFloodRegion.j0 k bt8001.2.2.2.2.1 bt8001.2.2.2.2.2.1 bt8001.2.2.2.2.2.2 t8011 true bt8001.1 bt8001.2.1 bt8001.2.2.1 bt8001.2.2.2.1))))))
theorem laws_FnFloodRegion.mono_l : ∀ k, (∀ y0 y1 y2 y3 y4 y5 y6 y7 y8, LeO (laws_FnFloodRegion.j0 k y0 y1 y2 y3 y4 y5 y6 y7 y8) (laws_FnFloodRegion.j0 (k + 1) y0 y1 y2 y3 y4 y5 y6 y7 y8)) ∧ (∀ y0 y1 y2 y3 y4 y5 y6 y7 y8 y9, LeO (laws_FnFloodRegion.l0 k y0 y1 y2 y3 y4 y5 y6 y7 y8 y9) (laws_FnFloodRegion.l0 (k + 1) y0 y1 y2 y3 y4 y5 y6 y7 y8 y9)) ∧ (∀ y0 y1 y2 y3 y4 y5 y6 y7 y8 y9 y10, LeO (laws_FnFloodRegion.l1 k y0 y1 y2 y3 y4 y5 y6 y7 y8 y9 y10) (laws_FnFloodRegion.l1 (k + 1) y0 y1 y2 y3 y4 y5 y6 y7 y8 y9 y10)) ∧ (∀ y0 y1 y2 y3 y4 y5 y6 y7 y8 y9 y10 y11 y12, LeO (laws_FnFloodRegion.l2 k y0 y1 y2 y3 y4 y5 y6 y7 y8 y9 y10 y11 y12) (laws_FnFloodRegion.l2 (k + 1) y0 y1 y2 y3 y4 y5 y6 y7 y8 y9 y10 y11 y12))
  | 0 => ⟨fun _ _ _ _ _ _ _ _ _ r h => by simp [laws_FnFloodRegion.j0] at h, fun _ _ _ _ _ _ _ _ _ _ r h => by simp [laws_FnFloodRegion.l0] at h, fun _ _ _ _ _ _ _ _ _ _ _ r h => by simp [laws_FnFloodRegion.l1] at h, fun _ _ _ _ _ _ _ _ _ _ _ _ _ r h => by simp [laws_FnFloodRegion.l2] at h⟩
  | k + 1 => by
    obtain ⟨ih0, ih1, ih2, ih3⟩ := laws_FnFloodRegion.mono_l k
    refine ⟨?_, ?_, ?_, ?_⟩
    · intro y0 y1 y2 y3 y4 y5 y6 y7 y8
      unfold laws_FnFloodRegion.j0
      repeat' first
      | (with_reducible exact ih0 _ _ _ _ _ _ _ _ _)
      | (with_reducible exact ih1 _ _ _ _ _ _ _ _ _ _)
      | (with_reducible exact ih2 _ _ _ _ _ _ _ _ _ _ _)
      | (with_reducible exact ih3 _ _ _ _ _ _ _ _ _ _ _ _ _)
      | (with_reducible exact laws_equalRuns.mono _ _ _)
      | (with_reducible exact spec_DrawFloodRegion.mono _ _)
      | (with_reducible exact spec_FloodRegion.mono _ _ _ _ _ _ _ _)
      | (with_reducible exact LeO.refl _)
      | (with_reducible exact LeO.none _)
      | (with_reducible refine LeO.ite ?_ ?_)
      | (with_reducible refine LeO.bind ?_ (fun _ => ?_))
      | exact ih0 _ _ _ _ _ _ _ _ _
      | exact ih1 _ _ _ _ _ _ _ _ _ _
      | exact ih2 _ _ _ _ _ _ _ _ _ _ _
      | exact ih3 _ _ _ _ _ _ _ _ _ _ _ _ _
      | exact laws_equalRuns.mono _ _ _
      | exact spec_DrawFloodRegion.mono _ _
      | exact spec_FloodRegion.mono _ _ _ _ _ _ _ _
      | exact LeO.none _
      | refine LeO.ite ?_ ?_
      | refine LeO.bind ?_ (fun _ => ?_)
    · intro y0 y1 y2 y3 y4 y5 y6 y7 y8 y9
      unfold laws_FnFloodRegion.l0
      repeat' first
      | (with_reducible exact ih0 _ _ _ _ _ _ _ _ _)
      | (with_reducible exact ih1 _ _ _ _ _ _ _ _ _ _)
      | (with_reducible exact ih2 _ _ _ _ _ _ _ _ _ _ _)
      | (with_reducible exact ih3 _ _ _ _ _ _ _ _ _ _ _ _ _)
      | (with_reducible exact laws_equalRuns.mono _ _ _)
      | (with_reducible exact spec_DrawFloodRegion.mono _ _)
      | (with_reducible exact spec_FloodRegion.mono _ _ _ _ _ _ _ _)
      | (with_reducible exact LeO.refl _)
      | (with_reducible exact LeO.none _)
      | (with_reducible refine LeO.ite ?_ ?_)
      | (with_reducible refine LeO.bind ?_ (fun _ => ?_))
      | exact ih0 _ _ _ _ _ _ _ _ _
      | exact ih1 _ _ _ _ _ _ _ _ _ _
      | exact ih2 _ _ _ _ _ _ _ _ _ _ _
      | exact ih3 _ _ _ _ _ _ _ _ _ _ _ _ _
      | exact laws_equalRuns.mono _ _ _
      | exact spec_DrawFloodRegion.mono _ _
      | exact spec_FloodRegion.mono _ _ _ _ _ _ _ _
      | exact LeO.none _
      | refine LeO.ite ?_ ?_
      | refine LeO.bind ?_ (fun _ => ?_)
    · intro y0 y1 y2 y3 y4 y5 y6 y7 y8 y9 y10
      unfold laws_FnFloodRegion.l1
      repeat' first
      | (with_reducible exact ih0 _ _ _ _ _ _ _ _ _)
      | (with_reducible exact ih1 _ _ _ _ _ _ _ _ _ _)
      | (with_reducible exact ih2 _ _ _ _ _ _ _ _ _ _ _)
      | (with_reducible exact ih3 _ _ _ _ _ _ _ _ _ _ _ _ _)
      | (with_reducible exact laws_equalRuns.mono _ _ _)
      | (with_reducible exact spec_DrawFloodRegion.mono _ _)
      | (with_reducible exact spec_FloodRegion.mono _ _ _ _ _ _ _ _)
      | (with_reducible exact LeO.refl _)
      | (with_reducible exact LeO.none _)
      | (with_reducible refine LeO.ite ?_ ?_)
      | (with_reducible refine LeO.bind ?_ (fun _ => ?_))
      | exact ih0 _ _ _ _ _ _ _ _ _
      | exact ih1 _ _ _ _ _ _ _ _ _ _
      | exact ih2 _ _ _ _ _ _ _ _ _ _ _
      | exact ih3 _ _ _ _ _ _ _ _ _ _ _ _ _
      | exact laws_equalRuns.mono _ _ _
      | exact spec_DrawFloodRegion.mono _ _
      | exact spec_FloodRegion.mono _ _ _ _ _ _ _ _
      | exact LeO.none _
      | refine LeO.ite ?_ ?_
      | refine LeO.bind ?_ (fun _ => ?_)
    · intro y0 y1 y2 y3 y4 y5 y6 y7 y8 y9 y10 y11 y12
      unfold laws_FnFloodRegion.l2
      repeat' first
      | (with_reducible exact ih0 _ _ _ _ _ _ _ _ _)
      | (with_reducible exact ih1 _ _ _ _ _ _ _ _ _ _)
      | (with_reducible exact ih2 _ _ _ _ _ _ _ _ _ _ _)
      | (with_reducible exact ih3 _ _ _ _ _ _ _ _ _ _ _ _ _)
      | (with_reducible exact laws_equalRuns.mono _ _ _)
      | (with_reducible exact spec_DrawFloodRegion.mono _ _)
      | (with_reducible exact spec_FloodRegion.mono _ _ _ _ _ _ _ _)
      | (with_reducible exact LeO.refl _)
      | (with_reducible exact LeO.none _)
      | (with_reducible refine LeO.ite ?_ ?_)
      | (with_reducible refine LeO.bind ?_ (fun _ => ?_))
      | exact ih0 _ _ _ _ _ _ _ _ _
      | exact ih1 _ _ _ _ _ _ _ _ _ _
      | exact ih2 _ _ _ _ _ _ _ _ _ _ _
      | exact ih3 _ _ _ _ _ _ _ _ _ _ _ _ _
      | exact laws_equalRuns.mono _ _ _
      | exact spec_DrawFloodRegion.mono _ _
      | exact spec_FloodRegion.mono _ _ _ _ _ _ _ _
      | exact LeO.none _
      | refine LeO.ite ?_ ?_
      | refine LeO.bind ?_ (fun _ => ?_)
theorem laws_FnFloodRegion.mono : ∀ a0 k, LeO (laws_FnFloodRegion.f k a0) (laws_FnFloodRegion.f (k + 1) a0) := by
  intro a0 k
  obtain ⟨ih0, ih1, ih2, ih3⟩ := laws_FnFloodRegion.mono_l k
  unfold laws_FnFloodRegion.f
  repeat' first
      | (with_reducible exact ih0 _ _ _ _ _ _ _ _ _)
      | (with_reducible exact ih1 _ _ _ _ _ _ _ _ _ _)
      | (with_reducible exact ih2 _ _ _ _ _ _ _ _ _ _ _)
      | (with_reducible exact ih3 _ _ _ _ _ _ _ _ _ _ _ _ _)
      | (with_reducible exact laws_equalRuns.mono _ _ _)
      | (with_reducible exact spec_DrawFloodRegion.mono _ _)
      | (with_reducible exact spec_FloodRegion.mono _ _ _ _ _ _ _ _)
      | (with_reducible exact LeO.refl _)
      | (with_reducible exact LeO.none _)
      | (with_reducible refine LeO.ite ?_ ?_)
      | (with_reducible refine LeO.bind ?_ (fun _ => ?_))
      | exact ih0 _ _ _ _ _ _ _ _ _
      | exact ih1 _ _ _ _ _ _ _ _ _ _
      | exact ih2 _ _ _ _ _ _ _ _ _ _ _
      | exact ih3 _ _ _ _ _ _ _ _ _ _ _ _ _
      | exact laws_equalRuns.mono _ _ _
      | exact spec_DrawFloodRegion.mono _ _
      | exact spec_FloodRegion.mono _ _ _ _ _ _ _ _
      | exact LeO.none _
      | refine LeO.ite ?_ ?_
      | refine LeO.bind ?_ (fun _ => ?_)
noncomputable def laws_FnFloodRegion.T14 : Bool × List (List Nat × List Nat) := (true, [([], []), ([], []), ([], []), ([], []), ([2, 3], [2, 3]), ([4], [4]), ([5], [5]), ([0, 1, 6], [0, 1, 6]), ([7, 7, 0, 1, 2, 3, 4, 5, 6, 7], [7])])
noncomputable def laws_FnFloodRegion.B14 : List Nat := [0, 0, 0, 0, 12, 28, 60, 127, 255]
theorem laws_FnFloodRegion.tab14 : rtab .any (opsOf Try.f7 14) = laws_FnFloodRegion.T14 := by kernel_rfl
theorem laws_FnFloodRegion.bits14 : waitsOk laws_FnFloodRegion.T14.2 laws_FnFloodRegion.B14 = true := by kernel_rfl
noncomputable def laws_FnFloodRegion.T18 : Bool × List (List Nat × List Nat) := (true, [([], []), ([0], [0]), ([], []), ([2], [2]), ([1, 3], [1, 3]), ([4], [4]), ([5], [5]), ([5], [5]), ([6, 7, 5], [5, 6, 7]), ([8, 5], [5, 8]), ([5], [5]), ([5], [5]), ([10, 11, 5], [5, 10, 11]), ([12, 5], [5, 12]), ([9, 13, 5], [5, 9, 13]), ([14, 5, 5], [5, 14]), ([5], [5]), ([15, 16, 5], [5, 15, 16]), ([5, 17], [5, 17])])
noncomputable def laws_FnFloodRegion.B18 : List Nat := [0, 1, 0, 4, 15, 31, 63, 63, 255, 511, 63, 63, 3135, 7231, 16383, 32767, 63, 131071, 262143]
theorem laws_FnFloodRegion.tab18 : rtab .any (opsOf Try.f7 18) = laws_FnFloodRegion.T18 := by kernel_rfl
theorem laws_FnFloodRegion.bits18 : waitsOk laws_FnFloodRegion.T18.2 laws_FnFloodRegion.B18 = true := by kernel_rfl
set_option maxHeartbeats 8000000 in
set_option maxRecDepth 100000 in
theorem laws_FnFloodRegion.calls (k : Nat) (A0 : Option Addr) (c0 : Nat) (l0 : List Int) (r : Bool) (w : World) (hr0 : Kd.C (Kd.int .u8) w A0 l0.length l0) (hc0 : l0.length ≤ c0) (h : laws_FnFloodRegion.f k l0 = some r) (hrt : r = true) :
    Calls Try.prog 7 #[.slice A0 l0.length c0] w fun e w' => e = .returned (.bool r) ∧ Below w.heap.size w w' := by
  have HRT := Aside0.mk hrt
  clear hrt
  have hu28 := Try.underlying28
  have HR0 := Aside0.mk hr0
  have HC0 := Aside0.mk hc0
  clear hr0 hc0
  have HB := Aside0.mk (Below.refl w.heap.size w)
  have H : (if (l0.length : Int) > 1048576 then (some true) else ((spec_DrawFloodRegion.f k l0).bind fun bt8001 => ((impl_FloodRegion.f bt8001.1 bt8001.2.1 bt8001.2.2.1 bt8001.2.2.2.1 bt8001.2.2.2.2.1 bt8001.2.2.2.2.2.1 bt8001.2.2.2.2.2.2).bind fun t8011 => ((spec_FloodRegion.f k bt8001.1 bt8001.2.1 bt8001.2.2.1 bt8001.2.2.2.1 bt8001.2.2.2.2.1 bt8001.2.2.2.2.2.1 bt8001.2.2.2.2.2.2).bind fun t8014 => ((laws_equalRuns.f k t8011 t8014).bind fun t8017 => (if t8017 = true then (laws_FnFloodRegion.j0 k bt8001.2.2.2.2.1 bt8001.2.2.2.2.2.1 bt8001.2.2.2.2.2.2 t8011 ((t8011.length : Int) == 0) bt8001.1 bt8001.2.1 bt8001.2.2.1 bt8001.2.2.2.1) else (laws_FnFloodRegion.j0 k bt8001.2.2.2.2.1 bt8001.2.2.2.2.2.1 bt8001.2.2.2.2.2.2 t8011 true bt8001.1 bt8001.2.1 bt8001.2.2.1 bt8001.2.2.2.1))))))) = some r := h
  clear h
  by_cases c2 : (l0.length : Int) > 1048576
  · rw [if_pos c2] at H
    have c2b0 : decide (1048576 < (l0.length : Int)) = true := decide_eq_true c2
    have c2b1 : decide (1048576 < l0.length) = true := decide_eq_true (by omega)
    clear c2
    obtain rfl := Option.some.inj H
    go_enter Try.func7, Try.ntmps7
    go_wp2
    go_ret
    exact ⟨by first | rfl | (simp [errW_none, errW_some] <;> rfl) | (simp [*, errW_none, errW_some] <;> rfl), by repeat (first | (with_reducible first | exact HB.out | apply below_alloc | apply pw_below_drewN | apply below_drew1) | exact HB.out)⟩
  · rw [if_neg c2] at H
    have c2b0 : decide (1048576 < (l0.length : Int)) = false := decide_eq_false c2
    have c2b1 : decide (1048576 < l0.length) = false := decide_eq_false (by omega)
    clear c2
    replace H := Option.bind_eq_some_iff.mp H
    obtain ⟨⟨t8001, t8002, t8003, t8004, t8007, t8008, t8009⟩, A30, H⟩ := H
    replace H : ((impl_FloodRegion.f t8001 t8002 t8003 t8004 t8007 t8008 t8009).bind fun t8011 => ((spec_FloodRegion.f k t8001 t8002 t8003 t8004 t8007 t8008 t8009).bind fun t8014 => ((laws_equalRuns.f k t8011 t8014).bind fun t8017 => (if t8017 = true then (laws_FnFloodRegion.j0 k t8007 t8008 t8009 t8011 ((t8011.length : Int) == 0) t8001 t8002 t8003 t8004) else (laws_FnFloodRegion.j0 k t8007 t8008 t8009 t8011 true t8001 t8002 t8003 t8004))))) = some r := H
    have A3 := Aside0.mk A30
    clear A30
    replace H := Option.bind_eq_some_iff.mp H
    obtain ⟨t8011, A40, H⟩ := H
    replace H : ((spec_FloodRegion.f k t8001 t8002 t8003 t8004 t8007 t8008 t8009).bind fun t8014 => ((laws_equalRuns.f k t8011 t8014).bind fun t8017 => (if t8017 = true then (laws_FnFloodRegion.j0 k t8007 t8008 t8009 t8011 ((t8011.length : Int) == 0) t8001 t8002 t8003 t8004) else (laws_FnFloodRegion.j0 k t8007 t8008 t8009 t8011 true t8001 t8002 t8003 t8004)))) = some r := H
    have A4 := Aside0.mk A40
    clear A40
    have HC5 := Aside0.mk H
    clear H
    go_enter Try.func7, Try.ntmps7
    go_upto_region 5 with (first | ((with_reducible refine gate_callee (f := 27) rfl ?_); refine goesL_ (some 18) rfl rfl Try.func27 (by kernel_rfl) rfl #[.slice A0 l0.length c0] rfl (by (try simp only [List.map_toArray, List.map_cons, List.map_nil]); first | done | rfl | (simp only [List.length_drop, List.length_take]; rfl)) ?_; (with_reducible refine (spec_DrawFloodRegion.calls k _ _ l0 t8001 t8002 t8003 t8004 t8007 t8008 t8009 _ ?side1 ?side2 A3.out).mono ?_); (case side1 => repeat (first | exact HR0.out | (with_reducible refine Kd.C_alloc ?_ _) | (with_reducible refine Kd.C_drewN ?_ _) | (with_reducible refine Kd.C_drew ?_))); (case side2 => exact HC0.out); rintro e w6 ⟨v8005, rfl, ho0, hb⟩; refine ⟨_, rfl, ?_⟩; have n0_ := Aside0.mk (Kd.Q_lower ho0 (below_size (by repeat (first | (with_reducible first | exact HB.out | apply below_alloc | apply pw_below_drewN | apply below_drew1) | exact HB.out)))); have n1_ := Aside0.mk (below_step (by repeat (first | (with_reducible first | exact HB.out | apply below_alloc | apply pw_below_drewN | apply below_drew1) | exact HB.out)) hb); clear HB; have HO8006 := n0_; have HB := n1_; clear n0_ n1_; (try clear hb); (try clear hb2); (try clear hk); (try clear hi); (try clear ho0)) | ((with_reducible refine gate_dst (N := 3) rfl ?_); (try (refine gate_guard (by rfl) ?_; dsimp only)); refine box_event ?hg (N := 3) ?hd (cs := #[.int .i64 0, .int .i64 0, .int .i64 0, .slice none 0 0]) (t := 28) ?hr ?_; (case hd => rfl); (case hg => rfl); (case hr => first | (go_simp; done) | (go_simp; rfl)); intro gb8010 hg w7 hbox hb; have n0_ := Aside0.mk (Kd.Q_below (by (with_reducible repeat (first | apply Kd.Q_alloc | apply Kd.Q_drewN | apply Kd.Q_drew)); exact HO8006.out) hb); have n1_ := Aside0.mk (below_step (by repeat (first | (with_reducible first | exact HB.out | apply below_alloc | apply pw_below_drewN | apply below_drew1) | exact HB.out)) hb); have n2_ := Aside0.mk (hbox); have n3_ := Aside0.mk ((by rw [hg]; exact (below_size (by repeat (first | (with_reducible first | exact HB.out | apply below_alloc | apply pw_below_drewN | apply below_drew1) | exact HB.out))) : w.heap.size ≤ gb8010)); have n4_ := Aside0.mk ((by rw [hg]; exact (below_size (by repeat (first | (with_reducible first | exact HB.out | apply below_alloc | apply pw_below_drewN | apply below_drew1) | exact HB.out))) : w.heap.size ≤ gb8010)); clear HO8006; clear HB; have HO8006 := n0_; have HB := n1_; have BK8010 := n2_; have GW8010 := n3_; have GE8010 := n4_; clear n0_ n1_ n2_ n3_ n4_; clear hb hbox hg; have hcz8_0 : w7.cell? ⟨gb8010, 0, none⟩ = some (.int .i64 0) := (blk_cell BK8010.out 0).trans rfl; have hcz8_1 : w7.cell? ⟨gb8010, 1, none⟩ = some (.int .i64 0) := (blk_cell BK8010.out 1).trans rfl; have hcz8_2 : w7.cell? ⟨gb8010, 2, none⟩ = some (.int .i64 0) := (blk_cell BK8010.out 2).trans rfl; have hcz8_3 : w7.cell? ⟨gb8010, 3, none⟩ = some (.slice none 0 0) := (blk_cell BK8010.out 3).trans rfl; have hfz8_0 := blk_frozen BK8010.out 0; have hfz8_1 := blk_frozen BK8010.out 1; have hfz8_2 := blk_frozen BK8010.out 2; have hfz8_3 := blk_frozen BK8010.out 3; obtain ⟨Ao9, co9, eo9, _⟩ := Kd.Q_slice HO8006.out; subst eo9) | ((with_reducible refine gate_callee (f := 26) rfl ?_); refine goesL_ (some 27) rfl rfl Try.func26 (by kernel_rfl) rfl #[.agg #[.int .i64 t8001, .int .i64 t8002, .int .i64 t8003, .slice Ao9 t8004.length co9], .int .i64 t8007, .int .i64 t8008, .int .i64 t8009] rfl (by (try simp only [List.map_toArray, List.map_cons, List.map_nil]); first | done | rfl | (simp only [List.length_drop, List.length_take]; rfl)) ?_; (with_reducible refine (impl_FloodRegion.calls t8001 t8002 t8003 _ _ t8004 t8007 t8008 t8009 t8011 _ ?side1 ?side2 A4.out).mono ?_); (case side1 => refine (Kd.Q_reads' (e := 3) (base := w.heap.size) (ok := fun k_ => True) (n := t8004.length) (c := co9) ?_).2.2; exact (by (with_reducible repeat (first | apply Kd.Q_alloc | apply Kd.Q_drewN | apply Kd.Q_drew)); exact (Kd.Q_mono (Kd.Q_far (p := ⟨gb8010, 3, none⟩) (Kd.Q_far (p := ⟨gb8010, 2, none⟩) (Kd.Q_far (p := ⟨gb8010, 1, none⟩) (Kd.Q_far (p := ⟨gb8010, 0, none⟩) (Kd.Q_types HO8006.out BK8010.out (by decide)) (fun _ hk => hk.2) (.int .i64 t8001)) (fun _ hk => hk.2) (.int .i64 t8002)) (fun _ hk => hk.2) (.int .i64 t8003)) (fun _ hk => hk.2) (.slice Ao9 t8004.length co9)) (fun _ h_ => h_.1)))); (case side2 => exact (Kd.Q_reads' HO8006.out).2.1); rintro e w10 ⟨v8012, rfl, ho0, hb⟩; refine ⟨_, rfl, ?_⟩; have n0_ := Aside0.mk (Kd.Q_below (by (with_reducible repeat (first | apply Kd.Q_alloc | apply Kd.Q_drewN | apply Kd.Q_drew)); exact (Kd.Q_mono (Kd.Q_far (p := ⟨gb8010, 3, none⟩) (Kd.Q_far (p := ⟨gb8010, 2, none⟩) (Kd.Q_far (p := ⟨gb8010, 1, none⟩) (Kd.Q_far (p := ⟨gb8010, 0, none⟩) (Kd.Q_types HO8006.out BK8010.out (by decide)) (fun _ hk => hk.2) (.int .i64 t8001)) (fun _ hk => hk.2) (.int .i64 t8002)) (fun _ hk => hk.2) (.int .i64 t8003)) (fun _ hk => hk.2) (.slice Ao9 t8004.length co9)) (fun _ h_ => h_.1))) hb); have n1_ := Aside0.mk (Kd.R_lower ho0 (below_size (by repeat (first | (with_reducible first | exact HB.out | apply below_alloc | apply pw_below_drewN | apply below_drew1 | refine below_set ?_ GE8010.out) | exact HB.out)))); have n2_ := Aside0.mk (blk_below (g := gb8010) (o := .cells #[.int .i64 t8001, .int .i64 t8002, .int .i64 t8003, .slice Ao9 t8004.length co9] 28 (0, 0)) (by (with_reducible repeat (first | refine blk_drewN ?_ _ | refine blk_drew ?_ | refine blk_alloc ?_ _)); refine blk_put (cs := #[.int .i64 t8001, .int .i64 t8002, .int .i64 t8003, .slice none 0 0]) ?_ 3 _ rfl; (with_reducible repeat (first | refine blk_drewN ?_ _ | refine blk_drew ?_ | refine blk_alloc ?_ _)); refine blk_put (cs := #[.int .i64 t8001, .int .i64 t8002, .int .i64 0, .slice none 0 0]) ?_ 2 _ rfl; (with_reducible repeat (first | refine blk_drewN ?_ _ | refine blk_drew ?_ | refine blk_alloc ?_ _)); refine blk_put (cs := #[.int .i64 t8001, .int .i64 0, .int .i64 0, .slice none 0 0]) ?_ 1 _ rfl; (with_reducible repeat (first | refine blk_drewN ?_ _ | refine blk_drew ?_ | refine blk_alloc ?_ _)); refine blk_put (cs := #[.int .i64 0, .int .i64 0, .int .i64 0, .slice none 0 0]) ?_ 0 _ rfl; (with_reducible repeat (first | refine blk_drewN ?_ _ | refine blk_drew ?_ | refine blk_alloc ?_ _)); exact BK8010.out) hb); have n3_ := Aside0.mk (below_step (by repeat (first | (with_reducible first | exact HB.out | apply below_alloc | apply pw_below_drewN | apply below_drew1 | refine below_set ?_ GE8010.out) | exact HB.out)) hb); clear HO8006; clear BK8010; clear HB; have HO8006 := n0_; have HO8013 := n1_; have BK8010 := n2_; have HB := n3_; clear n0_ n1_ n2_ n3_; (try clear hb); (try clear hb2); (try clear hk); (try clear hi); (try clear ho0)))
    (try simp only [Act.put, List.setIfInBounds_toArray, List.set_cons_zero, List.set_cons_succ])
    go_cut [40] (fun v40 wc => ∃ (kq : Nat) (x40_4 : Bool), v40 = .bool x40_4 ∧ Aside0 (laws_FnFloodRegion.j0 kq t8007 t8008 t8009 t8011 x40_4 t8001 t8002 t8003 t8004 = some r) ∧ Aside0 (kq ≤ k) ∧ Aside0 (Kd.R k47 47 wc w.heap.size (fun _ => True) v8012 t8011) ∧ Aside0 (Kd.Q (Kd.int .i64) 3 wc w.heap.size (fun _ => True) (.slice Ao9 t8004.length co9) t8004) ∧ Aside0 (wc.heap[gb8010]? = some (.cells #[.int .i64 t8001, .int .i64 t8002, .int .i64 t8003, (.slice Ao9 t8004.length co9)] 28 (0, 0))) ∧ Aside0 (Below w.heap.size w wc))
    case first =>
      have H := HC5.out
      clear HC5
      replace H := Option.bind_eq_some_iff.mp H
      obtain ⟨t8014, A110, H⟩ := H
      replace H : ((laws_equalRuns.f k t8011 t8014).bind fun t8017 => (if t8017 = true then (laws_FnFloodRegion.j0 k t8007 t8008 t8009 t8011 ((t8011.length : Int) == 0) t8001 t8002 t8003 t8004) else (laws_FnFloodRegion.j0 k t8007 t8008 t8009 t8011 true t8001 t8002 t8003 t8004))) = some r := H
      have A11 := Aside0.mk A110
      clear A110
      replace H := Option.bind_eq_some_iff.mp H
      obtain ⟨t8017, A120, H⟩ := H
      replace H : (if t8017 = true then (laws_FnFloodRegion.j0 k t8007 t8008 t8009 t8011 ((t8011.length : Int) == 0) t8001 t8002 t8003 t8004) else (laws_FnFloodRegion.j0 k t8007 t8008 t8009 t8011 true t8001 t8002 t8003 t8004)) = some r := H
      have A12 := Aside0.mk A120
      clear A120
      by_cases c13 : t8017 = true
      · subst c13
        have H1 : (laws_FnFloodRegion.j0 k t8007 t8008 t8009 t8011 ((t8011.length : Int) == 0) t8001 t8002 t8003 t8004) = some r := by rw [if_pos rfl] at H; exact H
        clear H
        have H := H1
        clear H1
        have H' := Aside0.mk H
        clear H
        have hcz14_0 : w10.cell? ⟨gb8010, 0, none⟩ = some (.int .i64 t8001) := (blk_cell BK8010.out 0).trans rfl
        have hcz14_1 : w10.cell? ⟨gb8010, 1, none⟩ = some (.int .i64 t8002) := (blk_cell BK8010.out 1).trans rfl
        have hcz14_2 : w10.cell? ⟨gb8010, 2, none⟩ = some (.int .i64 t8003) := (blk_cell BK8010.out 2).trans rfl
        have hcz14_3 : w10.cell? ⟨gb8010, 3, none⟩ = some (.slice Ao9 t8004.length co9) := (blk_cell BK8010.out 3).trans rfl
        have hfz14_0 := blk_frozen BK8010.out 0
        have hfz14_1 := blk_frozen BK8010.out 1
        have hfz14_2 := blk_frozen BK8010.out 2
        have hfz14_3 := blk_frozen BK8010.out 3
        go_wp2_with (first | ((with_reducible refine gate_callee (f := 25) rfl ?_); refine goesL_ (some 33) rfl rfl Try.func25 (by kernel_rfl) rfl #[.agg #[.int .i64 t8001, .int .i64 t8002, .int .i64 t8003, .slice Ao9 t8004.length co9], .int .i64 t8007, .int .i64 t8008, .int .i64 t8009] rfl (by (try simp only [List.map_toArray, List.map_cons, List.map_nil]); first | done | rfl | (simp only [List.length_drop, List.length_take]; rfl)) ?_; (with_reducible refine (spec_FloodRegion.calls k t8001 t8002 t8003 _ _ t8004 t8007 t8008 t8009 t8014 _ ?side1 ?side2 A11.out).mono ?_); (case side1 => repeat (first | exact (Kd.Q_reads' HO8006.out).2.2 | (with_reducible refine Kd.C_alloc ?_ _) | (with_reducible refine Kd.C_drewN ?_ _) | (with_reducible refine Kd.C_drew ?_))); (case side2 => exact (Kd.Q_reads' HO8006.out).2.1); rintro e w15 ⟨v8015, rfl, ho0, hb⟩; refine ⟨_, rfl, ?_⟩; have n0_ := Aside0.mk (Kd.Q_below (by (with_reducible repeat (first | apply Kd.Q_alloc | apply Kd.Q_drewN | apply Kd.Q_drew)); exact HO8006.out) hb); have n1_ := Aside0.mk (Kd.R_elder' (by (with_reducible repeat (first | apply Kd.R_alloc | apply Kd.R_drewN | apply Kd.R_drew)); exact HO8013.out) (Kd.R_base ho0) hb); have n2_ := Aside0.mk (Kd.R_lower (Kd.R_new' ho0 (Kd.R_lt (by (with_reducible repeat (first | apply Kd.R_alloc | apply Kd.R_drewN | apply Kd.R_drew)); exact HO8013.out))) (below_size (by repeat (first | (with_reducible first | exact HB.out | apply below_alloc | apply pw_below_drewN | apply below_drew1 | refine below_set ?_ GE8010.out) | exact HB.out)))); have n3_ := Aside0.mk (blk_below (g := gb8010) (o := .cells #[.int .i64 t8001, .int .i64 t8002, .int .i64 t8003, .slice Ao9 t8004.length co9] 28 (0, 0)) (by (with_reducible repeat (first | refine blk_drewN ?_ _ | refine blk_drew ?_ | refine blk_alloc ?_ _)); exact BK8010.out) hb); have n4_ := Aside0.mk (below_step (by repeat (first | (with_reducible first | exact HB.out | apply below_alloc | apply pw_below_drewN | apply below_drew1 | refine below_set ?_ GE8010.out) | exact HB.out)) hb); clear HO8006; clear HO8013; clear BK8010; clear HB; have HO8006 := n0_; have HO8013 := n1_; have HO8016 := n2_; have BK8010 := n3_; have HB := n4_; clear n0_ n1_ n2_ n3_ n4_; (try clear hb); (try clear hb2); (try clear hk); (try clear hi); (try clear ho0); obtain ⟨Ao16, co16, eo16⟩ := Kd.R_slice HO8013.out; subst eo16; obtain ⟨Ao17, co17, eo17⟩ := Kd.R_slice HO8016.out; subst eo17) | ((with_reducible refine gate_callee (f := 21) rfl ?_); refine goesL_ (some 34) rfl rfl Try.func21 (by kernel_rfl) rfl #[.slice Ao16 t8011.length co16, .slice Ao17 t8014.length co17] rfl (by (try simp only [List.map_toArray, List.map_cons, List.map_nil]); first | done | rfl | (simp only [List.length_drop, List.length_take]; rfl)) ?_; (with_reducible refine (laws_equalRuns.calls k _ _ t8011 _ _ t8014 true _ ?side1 ?side2 ?side3 ?side4 A12.out).mono ?_); (case side1 => repeat (first | exact (Kd.R_reads' HO8013.out).2.2 | (with_reducible refine Kd.C_alloc ?_ _) | (with_reducible refine Kd.C_drewN ?_ _) | (with_reducible refine Kd.C_drew ?_))); (case side2 => exact (Kd.R_reads' HO8013.out).2.1); (case side3 => repeat (first | exact (Kd.R_reads' HO8016.out).2.2 | (with_reducible refine Kd.C_alloc ?_ _) | (with_reducible refine Kd.C_drewN ?_ _) | (with_reducible refine Kd.C_drew ?_))); (case side4 => exact (Kd.R_reads' HO8016.out).2.1); rintro e w' ⟨rfl, ⟨nd, rfl⟩⟩; refine ⟨_, rfl, ?_⟩))
        go_meet
        case rel => exact ⟨_, (((t8011.length : Int) == 0)), (by first | rfl | (simp; done) | (simp [*]; done)), H', ⟨by first | omega | exact Nat.le_refl _⟩, ⟨by (with_reducible repeat (first | apply Kd.R_alloc | apply Kd.R_drewN | apply Kd.R_drew)); exact Kd.R_mono HO8013.out (fun _ hk => trivial)⟩, ⟨by (with_reducible repeat (first | apply Kd.Q_alloc | apply Kd.Q_drewN | apply Kd.Q_drew)); exact HO8006.out⟩, ⟨by (with_reducible repeat (first | refine blk_drewN ?_ _ | refine blk_drew ?_ | refine blk_alloc ?_ _)); exact BK8010.out⟩, ⟨by repeat (first | (with_reducible first | exact HB.out | apply below_alloc | apply pw_below_drewN | apply below_drew1 | refine below_set ?_ GE8010.out) | exact HB.out)⟩⟩
      · replace c13 := Bool.eq_false_iff.mpr c13
        subst c13
        have H1 : (laws_FnFloodRegion.j0 k t8007 t8008 t8009 t8011 true t8001 t8002 t8003 t8004) = some r := by rw [if_neg (show ¬ (false = true) by decide)] at H; exact H
        clear H
        have H := H1
        clear H1
        have H' := Aside0.mk H
        clear H
        have hcz18_0 : w10.cell? ⟨gb8010, 0, none⟩ = some (.int .i64 t8001) := (blk_cell BK8010.out 0).trans rfl
        have hcz18_1 : w10.cell? ⟨gb8010, 1, none⟩ = some (.int .i64 t8002) := (blk_cell BK8010.out 1).trans rfl
        have hcz18_2 : w10.cell? ⟨gb8010, 2, none⟩ = some (.int .i64 t8003) := (blk_cell BK8010.out 2).trans rfl
        have hcz18_3 : w10.cell? ⟨gb8010, 3, none⟩ = some (.slice Ao9 t8004.length co9) := (blk_cell BK8010.out 3).trans rfl
        have hfz18_0 := blk_frozen BK8010.out 0
        have hfz18_1 := blk_frozen BK8010.out 1
        have hfz18_2 := blk_frozen BK8010.out 2
        have hfz18_3 := blk_frozen BK8010.out 3
        go_wp2_with (first | ((with_reducible refine gate_callee (f := 25) rfl ?_); refine goesL_ (some 33) rfl rfl Try.func25 (by kernel_rfl) rfl #[.agg #[.int .i64 t8001, .int .i64 t8002, .int .i64 t8003, .slice Ao9 t8004.length co9], .int .i64 t8007, .int .i64 t8008, .int .i64 t8009] rfl (by (try simp only [List.map_toArray, List.map_cons, List.map_nil]); first | done | rfl | (simp only [List.length_drop, List.length_take]; rfl)) ?_; (with_reducible refine (spec_FloodRegion.calls k t8001 t8002 t8003 _ _ t8004 t8007 t8008 t8009 t8014 _ ?side1 ?side2 A11.out).mono ?_); (case side1 => repeat (first | exact (Kd.Q_reads' HO8006.out).2.2 | (with_reducible refine Kd.C_alloc ?_ _) | (with_reducible refine Kd.C_drewN ?_ _) | (with_reducible refine Kd.C_drew ?_))); (case side2 => exact (Kd.Q_reads' HO8006.out).2.1); rintro e w19 ⟨v8015, rfl, ho0, hb⟩; refine ⟨_, rfl, ?_⟩; have n0_ := Aside0.mk (Kd.Q_below (by (with_reducible repeat (first | apply Kd.Q_alloc | apply Kd.Q_drewN | apply Kd.Q_drew)); exact HO8006.out) hb); have n1_ := Aside0.mk (Kd.R_elder' (by (with_reducible repeat (first | apply Kd.R_alloc | apply Kd.R_drewN | apply Kd.R_drew)); exact HO8013.out) (Kd.R_base ho0) hb); have n2_ := Aside0.mk (Kd.R_lower (Kd.R_new' ho0 (Kd.R_lt (by (with_reducible repeat (first | apply Kd.R_alloc | apply Kd.R_drewN | apply Kd.R_drew)); exact HO8013.out))) (below_size (by repeat (first | (with_reducible first | exact HB.out | apply below_alloc | apply pw_below_drewN | apply below_drew1 | refine below_set ?_ GE8010.out) | exact HB.out)))); have n3_ := Aside0.mk (blk_below (g := gb8010) (o := .cells #[.int .i64 t8001, .int .i64 t8002, .int .i64 t8003, .slice Ao9 t8004.length co9] 28 (0, 0)) (by (with_reducible repeat (first | refine blk_drewN ?_ _ | refine blk_drew ?_ | refine blk_alloc ?_ _)); exact BK8010.out) hb); have n4_ := Aside0.mk (below_step (by repeat (first | (with_reducible first | exact HB.out | apply below_alloc | apply pw_below_drewN | apply below_drew1 | refine below_set ?_ GE8010.out) | exact HB.out)) hb); clear HO8006; clear HO8013; clear BK8010; clear HB; have HO8006 := n0_; have HO8013 := n1_; have HO8016 := n2_; have BK8010 := n3_; have HB := n4_; clear n0_ n1_ n2_ n3_ n4_; (try clear hb); (try clear hb2); (try clear hk); (try clear hi); (try clear ho0); obtain ⟨Ao20, co20, eo20⟩ := Kd.R_slice HO8013.out; subst eo20; obtain ⟨Ao21, co21, eo21⟩ := Kd.R_slice HO8016.out; subst eo21) | ((with_reducible refine gate_callee (f := 21) rfl ?_); refine goesL_ (some 34) rfl rfl Try.func21 (by kernel_rfl) rfl #[.slice Ao20 t8011.length co20, .slice Ao21 t8014.length co21] rfl (by (try simp only [List.map_toArray, List.map_cons, List.map_nil]); first | done | rfl | (simp only [List.length_drop, List.length_take]; rfl)) ?_; (with_reducible refine (laws_equalRuns.calls k _ _ t8011 _ _ t8014 false _ ?side1 ?side2 ?side3 ?side4 A12.out).mono ?_); (case side1 => repeat (first | exact (Kd.R_reads' HO8013.out).2.2 | (with_reducible refine Kd.C_alloc ?_ _) | (with_reducible refine Kd.C_drewN ?_ _) | (with_reducible refine Kd.C_drew ?_))); (case side2 => exact (Kd.R_reads' HO8013.out).2.1); (case side3 => repeat (first | exact (Kd.R_reads' HO8016.out).2.2 | (with_reducible refine Kd.C_alloc ?_ _) | (with_reducible refine Kd.C_drewN ?_ _) | (with_reducible refine Kd.C_drew ?_))); (case side4 => exact (Kd.R_reads' HO8016.out).2.1); rintro e w' ⟨rfl, ⟨nd, rfl⟩⟩; refine ⟨_, rfl, ?_⟩))
        go_meet
        case rel => exact ⟨_, (true), (by first | rfl | (simp; done) | (simp [*]; done)), H', ⟨by first | omega | exact Nat.le_refl _⟩, ⟨by (with_reducible repeat (first | apply Kd.R_alloc | apply Kd.R_drewN | apply Kd.R_drew)); exact Kd.R_mono HO8013.out (fun _ hk => trivial)⟩, ⟨by (with_reducible repeat (first | apply Kd.Q_alloc | apply Kd.Q_drewN | apply Kd.Q_drew)); exact HO8006.out⟩, ⟨by (with_reducible repeat (first | refine blk_drewN ?_ _ | refine blk_drew ?_ | refine blk_alloc ?_ _)); exact BK8010.out⟩, ⟨by repeat (first | (with_reducible first | exact HB.out | apply below_alloc | apply pw_below_drewN | apply below_drew1 | refine below_set ?_ GE8010.out) | exact HB.out)⟩⟩
    case rest =>
      clear HC5
      try clear c1
      try clear c2
      try clear c2b0
      try clear c2b1
      try clear p2
      try clear c7
      try clear c13
      try clear c21
      try clear hcz14_0
      try clear hcz14_1
      try clear hcz14_2
      try clear hcz14_3
      try clear hcz18_0
      try clear hcz18_1
      try clear hcz18_2
      try clear hcz18_3
      try clear hcz8_0
      try clear hcz8_1
      try clear hcz8_2
      try clear hcz8_3
      try clear hfz14_0
      try clear hfz14_1
      try clear hfz14_2
      try clear hfz14_3
      try clear hfz18_0
      try clear hfz18_1
      try clear hfz18_2
      try clear hfz18_3
      try clear hfz8_0
      try clear hfz8_1
      try clear hfz8_2
      try clear hfz8_3
      obtain ⟨kq, x40_4, rfl, HA, HJ4, HO_7, HO_8011003, BK8010, HB⟩ := hcut
      cases kq with
      | zero => exact absurd HA.out (by simp [laws_FnFloodRegion.j0])
      | succ kj4 =>
        have H := HA.out
        clear HA
        simp only [laws_FnFloodRegion.j0] at H
        by_cases c22 : x40_4 = true
        · subst c22
          have H1 : ((spec_FloodRegion.f kj4 t8001 t8002 t8003 t8004 t8007 t8008 t8009).bind fun t8018 => ((laws_equalRuns.f kj4 t8011 t8018).bind fun t8021 => (some t8021))) = some r := by rw [if_pos rfl] at H; exact H
          clear H
          have H := H1
          clear H1
          replace H := Option.bind_eq_some_iff.mp H
          obtain ⟨t8018, A230, H⟩ := H
          replace H : ((laws_equalRuns.f kj4 t8011 t8018).bind fun t8021 => (some t8021)) = some r := H
          have A23 := Aside0.mk A230
          clear A230
          replace H := Option.bind_eq_some_iff.mp H
          obtain ⟨t8021, A240, H⟩ := H
          replace H : (some t8021) = some r := H
          have A24 := Aside0.mk A240
          clear A240
          obtain rfl := Option.some.inj H
          have hcz25_0 : wc.cell? ⟨gb8010, 0, none⟩ = some (.int .i64 t8001) := (blk_cell BK8010.out 0).trans rfl
          have hcz25_1 : wc.cell? ⟨gb8010, 1, none⟩ = some (.int .i64 t8002) := (blk_cell BK8010.out 1).trans rfl
          have hcz25_2 : wc.cell? ⟨gb8010, 2, none⟩ = some (.int .i64 t8003) := (blk_cell BK8010.out 2).trans rfl
          have hcz25_3 : wc.cell? ⟨gb8010, 3, none⟩ = some (.slice Ao9 t8004.length co9) := (blk_cell BK8010.out 3).trans rfl
          have hfz25_0 := blk_frozen BK8010.out 0
          have hfz25_1 := blk_frozen BK8010.out 1
          have hfz25_2 := blk_frozen BK8010.out 2
          have hfz25_3 := blk_frozen BK8010.out 3
          go_wp2_with (first | ((with_reducible refine gate_callee (f := 25) rfl ?_); refine goesL_ (some 46) rfl rfl Try.func25 (by kernel_rfl) rfl #[.agg #[.int .i64 t8001, .int .i64 t8002, .int .i64 t8003, .slice Ao9 t8004.length co9], .int .i64 t8007, .int .i64 t8008, .int .i64 t8009] rfl (by (try simp only [List.map_toArray, List.map_cons, List.map_nil]); first | done | rfl | (simp only [List.length_drop, List.length_take]; rfl)) ?_; (with_reducible refine (spec_FloodRegion.calls kj4 t8001 t8002 t8003 _ _ t8004 t8007 t8008 t8009 t8018 _ ?side1 ?side2 A23.out).mono ?_); (case side1 => repeat (first | exact (Kd.Q_reads' HO_8011003.out).2.2 | (with_reducible refine Kd.C_alloc ?_ _) | (with_reducible refine Kd.C_drewN ?_ _) | (with_reducible refine Kd.C_drew ?_))); (case side2 => exact (Kd.Q_reads' HO_8011003.out).2.1); rintro e w26 ⟨v8019, rfl, ho0, hb⟩; refine ⟨_, rfl, ?_⟩; have n0_ := Aside0.mk (Kd.R_elder' (by (with_reducible repeat (first | apply Kd.R_alloc | apply Kd.R_drewN | apply Kd.R_drew)); exact HO_7.out) (Kd.R_base ho0) hb); have n1_ := Aside0.mk (Kd.Q_below (by (with_reducible repeat (first | apply Kd.Q_alloc | apply Kd.Q_drewN | apply Kd.Q_drew)); exact HO_8011003.out) hb); have n2_ := Aside0.mk (Kd.R_lower (Kd.R_new' ho0 (Kd.R_lt (by (with_reducible repeat (first | apply Kd.R_alloc | apply Kd.R_drewN | apply Kd.R_drew)); exact HO_7.out))) (below_size (by repeat (first | (with_reducible first | exact HB.out | apply below_alloc | apply pw_below_drewN | apply below_drew1 | refine below_set ?_ GE8010.out) | exact HB.out)))); have n3_ := Aside0.mk (blk_below (g := gb8010) (o := .cells #[.int .i64 t8001, .int .i64 t8002, .int .i64 t8003, .slice Ao9 t8004.length co9] 28 (0, 0)) (by (with_reducible repeat (first | refine blk_drewN ?_ _ | refine blk_drew ?_ | refine blk_alloc ?_ _)); exact BK8010.out) hb); have n4_ := Aside0.mk (below_step (by repeat (first | (with_reducible first | exact HB.out | apply below_alloc | apply pw_below_drewN | apply below_drew1 | refine below_set ?_ GE8010.out) | exact HB.out)) hb); clear HO_7; clear HO_8011003; clear BK8010; clear HB; have HO_7 := n0_; have HO_8011003 := n1_; have HO8020 := n2_; have BK8010 := n3_; have HB := n4_; clear n0_ n1_ n2_ n3_ n4_; (try clear hb); (try clear hb2); (try clear hk); (try clear hi); (try clear ho0); obtain ⟨Ao27, co27, eo27⟩ := Kd.R_slice HO_7.out; subst eo27; obtain ⟨Ao28, co28, eo28⟩ := Kd.R_slice HO8020.out; subst eo28) | ((with_reducible refine gate_callee (f := 21) rfl ?_); refine goesL_ (some 47) rfl rfl Try.func21 (by kernel_rfl) rfl #[.slice Ao27 t8011.length co27, .slice Ao28 t8018.length co28] rfl (by (try simp only [List.map_toArray, List.map_cons, List.map_nil]); first | done | rfl | (simp only [List.length_drop, List.length_take]; rfl)) ?_; (with_reducible refine (laws_equalRuns.calls kj4 _ _ t8011 _ _ t8018 t8021 _ ?side1 ?side2 ?side3 ?side4 A24.out).mono ?_); (case side1 => repeat (first | exact (Kd.R_reads' HO_7.out).2.2 | (with_reducible refine Kd.C_alloc ?_ _) | (with_reducible refine Kd.C_drewN ?_ _) | (with_reducible refine Kd.C_drew ?_))); (case side2 => exact (Kd.R_reads' HO_7.out).2.1); (case side3 => repeat (first | exact (Kd.R_reads' HO8020.out).2.2 | (with_reducible refine Kd.C_alloc ?_ _) | (with_reducible refine Kd.C_drewN ?_ _) | (with_reducible refine Kd.C_drew ?_))); (case side4 => exact (Kd.R_reads' HO8020.out).2.1); rintro e w' ⟨rfl, ⟨nd, rfl⟩⟩; refine ⟨_, rfl, ?_⟩))
          go_ret
          exact ⟨by first | rfl | (simp [errW_none, errW_some] <;> rfl) | (simp [*, errW_none, errW_some] <;> rfl), by repeat (first | (with_reducible first | exact HB.out | apply below_alloc | apply pw_below_drewN | apply below_drew1 | refine below_set ?_ GE8010.out) | exact HB.out)⟩
        · replace c22 := Bool.eq_false_iff.mpr c22
          subst c22
          have H1 : ((impl_PixelAt.f t8001 t8002 t8003 t8004 t8007 t8008).bind fun t8022 => (laws_FnFloodRegion.l0 kj4 t8007 t8008 t8009 t8011 t8022 0 t8001 t8002 t8003 t8004)) = some r := by rw [if_neg (show ¬ (false = true) by decide)] at H; exact H
          clear H
          have H := H1
          clear H1
          replace H := Option.bind_eq_some_iff.mp H
          obtain ⟨t8022, A290, H⟩ := H
          replace H : (laws_FnFloodRegion.l0 kj4 t8007 t8008 t8009 t8011 t8022 0 t8001 t8002 t8003 t8004) = some r := H
          have A29 := Aside0.mk A290
          clear A290
          have H' := Aside0.mk H
          clear H
          have hcz30_0 : wc.cell? ⟨gb8010, 0, none⟩ = some (.int .i64 t8001) := (blk_cell BK8010.out 0).trans rfl
          have hcz30_1 : wc.cell? ⟨gb8010, 1, none⟩ = some (.int .i64 t8002) := (blk_cell BK8010.out 1).trans rfl
          have hcz30_2 : wc.cell? ⟨gb8010, 2, none⟩ = some (.int .i64 t8003) := (blk_cell BK8010.out 2).trans rfl
          have hcz30_3 : wc.cell? ⟨gb8010, 3, none⟩ = some (.slice Ao9 t8004.length co9) := (blk_cell BK8010.out 3).trans rfl
          have hfz30_0 := blk_frozen BK8010.out 0
          have hfz30_1 := blk_frozen BK8010.out 1
          have hfz30_2 := blk_frozen BK8010.out 2
          have hfz30_3 := blk_frozen BK8010.out 3
          go_wp2_with (first | ((with_reducible refine gate_callee (f := 24) rfl ?_); refine goesL_ (some 51) rfl rfl Try.func24 (by kernel_rfl) rfl #[.agg #[.int .i64 t8001, .int .i64 t8002, .int .i64 t8003, .slice Ao9 t8004.length co9], .int .i64 t8007, .int .i64 t8008] rfl (by (try simp only [List.map_toArray, List.map_cons, List.map_nil]); first | done | rfl | (simp only [List.length_drop, List.length_take]; rfl)) ?_; (with_reducible refine (impl_PixelAt.calls t8001 t8002 t8003 _ _ t8004 t8007 t8008 t8022 _ ?side1 ?side2 A29.out).mono ?_); (case side1 => repeat (first | exact (Kd.Q_reads' HO_8011003.out).2.2 | (with_reducible refine Kd.C_alloc ?_ _) | (with_reducible refine Kd.C_drewN ?_ _) | (with_reducible refine Kd.C_drew ?_))); (case side2 => exact (Kd.Q_reads' HO_8011003.out).2.1); rintro e w31 ⟨v8023, rfl, ho0, hb⟩; refine ⟨_, rfl, ?_⟩; have n0_ := Aside0.mk (Kd.R_below (by (with_reducible repeat (first | apply Kd.R_alloc | apply Kd.R_drewN | apply Kd.R_drew)); exact HO_7.out) hb); have n1_ := Aside0.mk (Kd.Q_elder' (by (with_reducible repeat (first | apply Kd.Q_alloc | apply Kd.Q_drewN | apply Kd.Q_drew)); exact HO_8011003.out) (Kd.R_base ho0) hb); have n2_ := Aside0.mk (Kd.R_lower (Kd.R_new' ho0 (Kd.Q_lt (by (with_reducible repeat (first | apply Kd.Q_alloc | apply Kd.Q_drewN | apply Kd.Q_drew)); exact HO_8011003.out))) (below_size (by repeat (first | (with_reducible first | exact HB.out | apply below_alloc | apply pw_below_drewN | apply below_drew1 | refine below_set ?_ GE8010.out) | exact HB.out)))); have n3_ := Aside0.mk (blk_below (g := gb8010) (o := .cells #[.int .i64 t8001, .int .i64 t8002, .int .i64 t8003, .slice Ao9 t8004.length co9] 28 (0, 0)) (by (with_reducible repeat (first | refine blk_drewN ?_ _ | refine blk_drew ?_ | refine blk_alloc ?_ _)); exact BK8010.out) hb); have n4_ := Aside0.mk (below_step (by repeat (first | (with_reducible first | exact HB.out | apply below_alloc | apply pw_below_drewN | apply below_drew1 | refine below_set ?_ GE8010.out) | exact HB.out)) hb); clear HO_7; clear HO_8011003; clear BK8010; clear HB; have HO_7 := n0_; have HO_8011003 := n1_; have HO8024 := n2_; have BK8010 := n3_; have HB := n4_; clear n0_ n1_ n2_ n3_ n4_; (try clear hb); (try clear hb2); (try clear hk); (try clear hi); (try clear ho0)))
          go_loopg [9] kj4 (fun kq v9 w' => ∃ (x9_2 : Int), v9 = .int .i64 x9_2 ∧ Aside0 (laws_FnFloodRegion.l0 kq t8007 t8008 t8009 t8011 t8022 x9_2 t8001 t8002 t8003 t8004 = some r) ∧ Aside0 (kq ≤ kj4) ∧ Aside0 (Kd.R k47 47 w' w.heap.size (fun _ => True) v8012 t8011) ∧ Aside0 (Kd.R (Kd.int .i64) 3 w' w.heap.size (fun k_ => some k_ ≠ ((.slice Ao9 t8004.length co9) : Value).ownBlock) v8023 t8022) ∧ Aside0 (Kd.Q (Kd.int .i64) 3 w' w.heap.size (fun k_ => some k_ ≠ (v8023 : Value).ownBlock) (.slice Ao9 t8004.length co9) t8004) ∧ Aside0 (w'.heap[gb8010]? = some (.cells #[.int .i64 t8001, .int .i64 t8002, .int .i64 t8003, (.slice Ao9 t8004.length co9)] 28 (0, 0))) ∧ Aside0 (Below w.heap.size w w'))
          case atStart => exact ⟨(0), (by first | rfl | (simp; done) | (simp [*]; done)), H', ⟨Nat.le_refl _⟩, ⟨by (with_reducible repeat (first | apply Kd.R_alloc | apply Kd.R_drewN | apply Kd.R_drew)); exact HO_7.out⟩, ⟨by (with_reducible repeat (first | apply Kd.R_alloc | apply Kd.R_drewN | apply Kd.R_drew)); exact Kd.R_mono HO8024.out (fun _ hk => hk.2)⟩, ⟨by (with_reducible repeat (first | apply Kd.Q_alloc | apply Kd.Q_drewN | apply Kd.Q_drew)); exact Kd.Q_mono HO_8011003.out (fun _ hk => hk.2)⟩, ⟨by (with_reducible repeat (first | refine blk_drewN ?_ _ | refine blk_drew ?_ | refine blk_alloc ?_ _)); exact BK8010.out⟩, ⟨by repeat (first | (with_reducible first | exact HB.out | apply below_alloc | apply pw_below_drewN | apply below_drew1 | refine below_set ?_ GE8010.out) | exact HB.out)⟩⟩
          case round =>
            clear H'
            try clear c1
            try clear c2
            try clear c2b0
            try clear c2b1
            try clear p2
            try clear c7
            try clear c13
            try clear c21
            try clear c22
            try clear c24
            try clear c25
            try clear c26
            try clear c27
            try clear hcz14_0
            try clear hcz14_1
            try clear hcz14_2
            try clear hcz14_3
            try clear hcz18_0
            try clear hcz18_1
            try clear hcz18_2
            try clear hcz18_3
            try clear hcz25_0
            try clear hcz25_1
            try clear hcz25_2
            try clear hcz25_3
            try clear hcz30_0
            try clear hcz30_1
            try clear hcz30_2
            try clear hcz30_3
            try clear hcz8_0
            try clear hcz8_1
            try clear hcz8_2
            try clear hcz8_3
            try clear hfz14_0
            try clear hfz14_1
            try clear hfz14_2
            try clear hfz14_3
            try clear hfz18_0
            try clear hfz18_1
            try clear hfz18_2
            try clear hfz18_3
            try clear hfz25_0
            try clear hfz25_1
            try clear hfz25_2
            try clear hfz25_3
            try clear hfz30_0
            try clear hfz30_1
            try clear hfz30_2
            try clear hfz30_3
            try clear hfz8_0
            try clear hfz8_1
            try clear hfz8_2
            try clear hfz8_3
            try clear p2
            obtain ⟨x9_2, rfl, HA, HK2, HO_7, HO_8, HO_8011003, BK8010, HB⟩ := hrel
            cases gk with
            | zero => exact absurd HA.out (by simp [laws_FnFloodRegion.l0])
            | succ k2 =>
              have H := HA.out
              clear HA
              simp only [laws_FnFloodRegion.l0] at H
              by_cases c32 : x9_2 < (t8011.length : Int)
              · rw [if_pos c32] at H
                have c32b0 : decide (x9_2 < (t8011.length : Int)) = true := decide_eq_true c32
                clear c32
                by_cases c33 : 0 ≤ x9_2
                · rw [if_pos c33] at H
                  have c33b0 : decide (0 ≤ x9_2) = true := decide_eq_true c33
                  clear c33
                  have H' := Aside0.mk H
                  clear H
                  obtain ⟨Ao34, co34, eo34⟩ := Kd.R_slice HO_7.out
                  subst eo34
                  have p8029 : 0 ≤ (x9_2 : Int) := of_decide_eq_true (by first | (with_reducible assumption) | assumption)
                  have q8029 : x9_2 < (t8011.length : Int) := of_decide_eq_true (by first | (with_reducible assumption) | assumption)
                  obtain ⟨ad8029, e8029, hx8029_0, hx8029_1, hx8029_2⟩ := at_T47 (Kd.R_reads' HO_7.out).2.2 x9_2 p8029 q8029
                  cases e8029
                  replace p8029 := eq_true p8029
                  replace q8029 := eq_true q8029
                  go_wp2
                  go_loopg [10] k2 (fun kq v10 w' => ∃ (x10_3 : Int), v10 = .int .i64 x10_3 ∧ Aside0 (laws_FnFloodRegion.l1 kq t8007 t8008 t8009 t8011 t8022 x9_2 x10_3 t8001 t8002 t8003 t8004 = some r) ∧ Aside0 (kq ≤ k2) ∧ Aside0 (Kd.R k47 47 w' w.heap.size (fun _ => True) (.slice (some ad8029) t8011.length co34) t8011) ∧ Aside0 (Kd.R (Kd.int .i64) 3 w' w.heap.size (fun k_ => some k_ ≠ ((.slice Ao9 t8004.length co9) : Value).ownBlock) v8023 t8022) ∧ Aside0 (Kd.Q (Kd.int .i64) 3 w' w.heap.size (fun k_ => some k_ ≠ (v8023 : Value).ownBlock) (.slice Ao9 t8004.length co9) t8004) ∧ Aside0 (w'.heap[gb8010]? = some (.cells #[.int .i64 t8001, .int .i64 t8002, .int .i64 t8003, (.slice Ao9 t8004.length co9)] 28 (0, 0))) ∧ Aside0 (Below w.heap.size w w'))
                  case atStart => exact ⟨((rd_T47 t8011 x9_2).f1), (by first | rfl | (simp; done) | (simp [*]; done)), H', ⟨Nat.le_refl _⟩, ⟨by (with_reducible repeat (first | apply Kd.R_alloc | apply Kd.R_drewN | apply Kd.R_drew)); exact HO_7.out⟩, ⟨by (with_reducible repeat (first | apply Kd.R_alloc | apply Kd.R_drewN | apply Kd.R_drew)); exact HO_8.out⟩, ⟨by (with_reducible repeat (first | apply Kd.Q_alloc | apply Kd.Q_drewN | apply Kd.Q_drew)); exact HO_8011003.out⟩, ⟨by (with_reducible repeat (first | refine blk_drewN ?_ _ | refine blk_drew ?_ | refine blk_alloc ?_ _)); exact BK8010.out⟩, ⟨by repeat (first | (with_reducible first | exact HB.out | apply below_alloc | apply pw_below_drewN | apply below_drew1 | refine below_set ?_ GE8010.out) | exact HB.out)⟩⟩
                  case round =>
                    clear H'
                    try clear c1
                    try clear c2
                    try clear c2b0
                    try clear c2b1
                    try clear p2
                    try clear c3
                    try clear c7
                    try clear p8
                    try clear q8
                    try clear hx8
                    try clear c13
                    try clear c21
                    try clear c22
                    try clear c24
                    try clear c25
                    try clear c26
                    try clear c27
                    try clear c32
                    try clear c32b0
                    try clear c33
                    try clear c33b0
                    try clear hcz14_0
                    try clear hcz14_1
                    try clear hcz14_2
                    try clear hcz14_3
                    try clear hcz18_0
                    try clear hcz18_1
                    try clear hcz18_2
                    try clear hcz18_3
                    try clear hcz25_0
                    try clear hcz25_1
                    try clear hcz25_2
                    try clear hcz25_3
                    try clear hcz30_0
                    try clear hcz30_1
                    try clear hcz30_2
                    try clear hcz30_3
                    try clear hcz8_0
                    try clear hcz8_1
                    try clear hcz8_2
                    try clear hcz8_3
                    try clear hfz14_0
                    try clear hfz14_1
                    try clear hfz14_2
                    try clear hfz14_3
                    try clear hfz18_0
                    try clear hfz18_1
                    try clear hfz18_2
                    try clear hfz18_3
                    try clear hfz25_0
                    try clear hfz25_1
                    try clear hfz25_2
                    try clear hfz25_3
                    try clear hfz30_0
                    try clear hfz30_1
                    try clear hfz30_2
                    try clear hfz30_3
                    try clear hfz8_0
                    try clear hfz8_1
                    try clear hfz8_2
                    try clear hfz8_3
                    try clear hx8029_0
                    try clear hx8029_1
                    try clear hx8029_2
                    try clear p2
                    try clear p8029
                    try clear q8029
                    obtain ⟨x10_3, rfl, HA, HK3, HO_7, HO_8, HO_8011003, BK8010, HB⟩ := hrel
                    cases gk with
                    | zero => exact absurd HA.out (by simp [laws_FnFloodRegion.l1])
                    | succ k3 =>
                      have H := HA.out
                      clear HA
                      simp only [laws_FnFloodRegion.l1] at H
                      by_cases c35 : 0 ≤ x9_2
                      · rw [if_pos c35] at H
                        have c35b0 : decide (0 ≤ x9_2) = true := decide_eq_true c35
                        clear c35
                        by_cases c36 : x9_2 < (t8011.length : Int)
                        · rw [if_pos c36] at H
                          have c36b0 : decide (x9_2 < (t8011.length : Int)) = true := decide_eq_true c36
                          clear c36
                          by_cases c37 : x10_3 < ((rd_T47 t8011 x9_2).f2)
                          · rw [if_pos c37] at H
                            have c37b0 : decide (x10_3 < ((rd_T47 t8011 x9_2).f2)) = true := decide_eq_true c37
                            clear c37
                            replace H := Option.bind_eq_some_iff.mp H
                            obtain ⟨t8032, A380, H⟩ := H
                            replace H : (laws_FnFloodRegion.l2 k3 t8007 t8008 t8009 t8011 t8022 x9_2 x10_3 t8032 0 t8001 t8002 t8003 t8004) = some r := H
                            have A38 := Aside0.mk A380
                            clear A380
                            have H' := Aside0.mk H
                            clear H
                            have p8030 : 0 ≤ (x9_2 : Int) := of_decide_eq_true (by first | (with_reducible assumption) | assumption)
                            have q8030 : x9_2 < (t8011.length : Int) := of_decide_eq_true (by first | (with_reducible assumption) | assumption)
                            obtain ⟨ad8030, e8030, hx8030_0, hx8030_1, hx8030_2⟩ := at_T47 (Kd.R_reads' HO_7.out).2.2 x9_2 p8030 q8030
                            obtain rfl : ad8029 = ad8030 := (by injection e8030)
                            replace p8030 := eq_true p8030
                            replace q8030 := eq_true q8030
                            try go_wp2
                            have n0_ := Aside0.mk (Kd.R_drew HO_7.out)
                            have n1_ := Aside0.mk (Kd.R_drew HO_8.out)
                            have n2_ := Aside0.mk (Kd.Q_drew HO_8011003.out)
                            have n3_ := Aside0.mk (blk_drew BK8010.out)
                            have n4_ := Aside0.mk (below_drew1 HB.out)
                            clear HO_7
                            clear HO_8
                            clear HO_8011003
                            clear BK8010
                            clear HB
                            have HO_7 := n0_
                            have HO_8 := n1_
                            have HO_8011003 := n2_
                            have BK8010 := n3_
                            have HB := n4_
                            clear n0_ n1_ n2_ n3_ n4_
                            have p8031 : 0 ≤ (x9_2 : Int) := of_decide_eq_true (by first | (with_reducible assumption) | assumption)
                            have q8031 : x9_2 < (t8011.length : Int) := of_decide_eq_true (by first | (with_reducible assumption) | assumption)
                            obtain ⟨ad8031, e8031, hx8031_0, hx8031_1, hx8031_2⟩ := at_T47 (Kd.R_reads' HO_7.out).2.2 x9_2 p8031 q8031
                            obtain rfl : ad8029 = ad8031 := (by injection e8031)
                            replace p8031 := eq_true p8031
                            replace q8031 := eq_true q8031
                            refine start_ (n := 9) (S := fun w' => w'.cell? ⟨gb8010, 0, none⟩ = some (.int .i64 t8001) ∧ w'.cell? ⟨gb8010, 1, none⟩ = some (.int .i64 t8002) ∧ w'.cell? ⟨gb8010, 2, none⟩ = some (.int .i64 t8003) ∧ w'.cell? ⟨gb8010, 3, none⟩ = some (.slice Ao9 t8004.length co9) ∧ w'.cell? (ad8029.add ((x9_2).toNat * 3)) = some (.int .i64 ((rd_T47 t8011 x9_2).f0)) ∧ w'.cell? ⟨(ad8029.add ((x9_2).toNat * 3)).block, (ad8029.add ((x9_2).toNat * 3)).off + 1, none⟩ = some (.int .i64 ((rd_T47 t8011 x9_2).f1)) ∧ w'.cell? ⟨(ad8029.add ((x9_2).toNat * 3)).block, (ad8029.add ((x9_2).toNat * 3)).off + 2, none⟩ = some (.int .i64 ((rd_T47 t8011 x9_2).f2))) (ds := []) #[false, false, false, false, false, false, false, false, false] (by kernel_rfl) rfl rfl ⟨(blk_cell BK8010.out 0).trans rfl, (blk_cell BK8010.out 1).trans rfl, (blk_cell BK8010.out 2).trans rfl, (blk_cell BK8010.out 3).trans rfl, hx8031_0, hx8031_1, hx8031_2⟩ (fun hHeld => ?_); refine with_tabW laws_FnFloodRegion.tab14 laws_FnFloodRegion.bits14 (fun HT_ HW_ => ?_)
                            generalize wr.drew = w39 at HO_7 HO_8 HO_8011003 BK8010 HB hx8031_0 hx8031_1 hx8031_2 hHeld ⊢
                            refine pure_ (i := 1) (N := some 73) (v := ?_) (a' := ?_) #[false, true, false, false, false, false, false, false, false] rfl rfl (any_of HT_.out (by kernel_rfl)) (fun _ _ _ h => h) (Or.inl ⟨by rfl, ?_⟩) ?_ ?_
                            rotate_left
                            · intro w'
                              go_simp
                              with_reducible rfl
                            rotate_left
                            · simp only [Act.put, List.setIfInBounds_toArray, List.set_cons_zero, List.set_cons_succ, i64_w, i32_w]
                              rfl
                            refine pure_ (i := 2) (N := some 74) (v := ?_) (a' := ?_) #[false, true, true, false, false, false, false, false, false] rfl rfl (any_of HT_.out (by kernel_rfl)) (fun _ _ _ h => h) (Or.inl ⟨by rfl, ?_⟩) ?_ ?_
                            rotate_left
                            · intro w'
                              go_simp
                              with_reducible rfl
                            rotate_left
                            · simp only [Act.put, List.setIfInBounds_toArray, List.set_cons_zero, List.set_cons_succ, i64_w, i32_w]
                              rfl
                            refine pure_ (i := 3) (N := some 75) (v := ?_) (a' := ?_) #[false, true, true, true, false, false, false, false, false] rfl rfl (any_of HT_.out (by kernel_rfl)) (fun _ _ _ h => h) (Or.inl ⟨by rfl, ?_⟩) ?_ ?_
                            rotate_left
                            · intro w'
                              go_simp
                              with_reducible rfl
                            rotate_left
                            · simp only [Act.put, List.setIfInBounds_toArray, List.set_cons_zero, List.set_cons_succ, i64_w, i32_w]
                              rfl
                            refine pure_ (i := 4) (N := some 76) (v := ?_) (a' := ?_) #[false, true, true, true, true, false, false, false, false] rfl rfl (any_of HT_.out (by kernel_rfl)) (fun _ _ _ h => h) (Or.inl ⟨by rfl, ?_⟩) ?_ ?_
                            rotate_left
                            · intro w'
                              go_simp
                              with_reducible rfl
                            rotate_left
                            · simp only [Act.put, List.setIfInBounds_toArray, List.set_cons_zero, List.set_cons_succ, i64_w, i32_w]
                              rfl
                            refine pure_ (i := 5) (N := some 77) (v := ?_) (a' := ?_) #[false, true, true, true, true, true, false, false, false] rfl rfl (any_of HT_.out (by kernel_rfl)) (fun _ _ _ h => h) (Or.inl ⟨by rfl, ?_⟩) ?_ ?_
                            rotate_left
                            · intro w'
                              go_simp
                              with_reducible rfl
                            rotate_left
                            · simp only [Act.put, List.setIfInBounds_toArray, List.set_cons_zero, List.set_cons_succ, i64_w, i32_w]
                              rfl
                            refine take_ (i := 0) (N := some 72) (v := ?_) (a' := ?_) #[true, true, true, true, true, true, false, false, false] rfl rfl (take_ofW HT_.out HW_.out (by kernel_rfl)) (fun _ _ _ h => h) (Or.inl ⟨by rfl, ?_⟩) hHeld ?_ ?_
                            rotate_left
                            · rintro w' ⟨s0, s1, s2, s3, s4, s5, s6⟩
                              go_simp
                              with_reducible rfl
                            rotate_left
                            · simp only [Act.put, List.setIfInBounds_toArray, List.set_cons_zero, List.set_cons_succ, i64_w, i32_w]
                              rfl
                            refine take_ (i := 6) (N := some 78) (v := ?_) (a' := ?_) #[true, true, true, true, true, true, true, false, false] rfl rfl (take_ofW HT_.out HW_.out (by kernel_rfl)) (fun _ _ _ h => h) (Or.inl ⟨by rfl, ?_⟩) hHeld ?_ ?_
                            rotate_left
                            · rintro w' ⟨s0, s1, s2, s3, s4, s5, s6⟩
                              go_simp
                              with_reducible rfl
                            rotate_left
                            · simp only [Act.put, List.setIfInBounds_toArray, List.set_cons_zero, List.set_cons_succ, i64_w, i32_w]
                              rfl
                            refine one_ (i := 7) (N := some 79) #[true, true, true, true, true, true, true, true, false] rfl rfl (one_of HT_.out (by kernel_rfl)) (by decide) (fun K hK => ?_)
                            refine goes_ Try.func24 (by kernel_rfl) rfl #[.agg #[.int .i64 t8001, .int .i64 t8002, .int .i64 t8003, .slice Ao9 t8004.length co9], .int .i64 x10_3, .int .i64 ((rd_T47 t8011 x9_2).f0)] (by rfl) rfl rfl (by (try simp only [List.map_toArray, List.map_cons, List.map_nil]); first | done | rfl | (simp only [List.length_drop, List.length_take]; rfl)) ?_
                            with_reducible refine (impl_PixelAt.calls t8001 t8002 t8003 _ _ t8004 x10_3 ((rd_T47 t8011 x9_2).f0) t8032 _ ?side1 ?side2 A38.out).mono ?_
                            (case side1 => repeat (first | exact (Kd.Q_reads' HO_8011003.out).2.2 | (with_reducible refine Kd.C_alloc ?_ _) | (with_reducible refine Kd.C_drewN ?_ _) | (with_reducible refine Kd.C_drew ?_)))
                            (case side2 => exact (Kd.Q_reads' HO_8011003.out).2.1)
                            rintro e w40 ⟨v8033, rfl, ho0, hb⟩
                            have HS4_ := (hb.cell (World.block_lt_of_cell? _ _ (hHeld.2.2.2.2.1))).trans (hHeld.2.2.2.2.1)
                            have HS5_ := (hb.cell (World.block_lt_of_cell? _ _ (hHeld.2.2.2.2.2.1))).trans (hHeld.2.2.2.2.2.1)
                            have HS6_ := (hb.cell (World.block_lt_of_cell? _ _ (hHeld.2.2.2.2.2.2))).trans (hHeld.2.2.2.2.2.2)
                            refine ⟨_, rfl, ?_⟩
                            have n0_ := Aside0.mk (Kd.R_below (by (with_reducible repeat (first | apply Kd.R_alloc | apply Kd.R_drewN | apply Kd.R_drew)); exact HO_7.out) hb)
                            have n1_ := Aside0.mk (Kd.R_elder' (by (with_reducible repeat (first | apply Kd.R_alloc | apply Kd.R_drewN | apply Kd.R_drew)); exact HO_8.out) (Kd.R_base ho0) hb)
                            have n2_ := Aside0.mk (Kd.Q_elder' (by (with_reducible repeat (first | apply Kd.Q_alloc | apply Kd.Q_drewN | apply Kd.Q_drew)); exact HO_8011003.out) (Kd.R_base ho0) hb)
                            have n3_ := Aside0.mk (Kd.R_lower (Kd.R_new' (Kd.R_new' ho0 (Kd.R_lt (by (with_reducible repeat (first | apply Kd.R_alloc | apply Kd.R_drewN | apply Kd.R_drew)); exact HO_8.out))) (Kd.Q_lt (by (with_reducible repeat (first | apply Kd.Q_alloc | apply Kd.Q_drewN | apply Kd.Q_drew)); exact HO_8011003.out))) (below_size (by repeat (first | (with_reducible first | exact HB.out | apply below_alloc | apply pw_below_drewN | apply below_drew1 | refine below_set ?_ GE8010.out) | exact HB.out))))
                            have n4_ := Aside0.mk (blk_below (g := gb8010) (o := .cells #[.int .i64 t8001, .int .i64 t8002, .int .i64 t8003, .slice Ao9 t8004.length co9] 28 (0, 0)) (by (with_reducible repeat (first | refine blk_drewN ?_ _ | refine blk_drew ?_ | refine blk_alloc ?_ _)); exact BK8010.out) hb)
                            have n5_ := Aside0.mk (below_step (by repeat (first | (with_reducible first | exact HB.out | apply below_alloc | apply pw_below_drewN | apply below_drew1 | refine below_set ?_ GE8010.out) | exact HB.out)) hb)
                            clear HO_7
                            clear HO_8
                            clear HO_8011003
                            clear BK8010
                            clear HB
                            have HO_7 := n0_
                            have HO_8 := n1_
                            have HO_8011003 := n2_
                            have HO8034 := n3_
                            have BK8010 := n4_
                            have HB := n5_
                            clear n0_ n1_ n2_ n3_ n4_ n5_
                            (try clear hb)
                            (try clear hb2)
                            (try clear hk)
                            (try clear hi)
                            (try clear ho0)
                            refine hK.out _ _ ⟨(blk_cell BK8010.out 0).trans rfl, (blk_cell BK8010.out 1).trans rfl, (blk_cell BK8010.out 2).trans rfl, (blk_cell BK8010.out 3).trans rfl, HS4_, HS5_, HS6_⟩ (fun hHeld => ?_)
                            clear hK K
                            refine norm_ (a' := ?_) ?_ ?_
                            rotate_left
                            · show Act.put _ (some 79) _ = _
                              simp only [Act.put, List.setIfInBounds_toArray, List.set_cons_zero, List.set_cons_succ, i64_w, i32_w]
                              rfl
                            refine pure_ (i := 8) (N := some 11) (v := ?_) (a' := ?_) #[true, true, true, true, true, true, true, true, true] rfl rfl (any_of HT_.out (by kernel_rfl)) (fun _ _ _ h => h) (Or.inl ⟨by rfl, ?_⟩) ?_ ?_
                            rotate_left
                            · intro w'
                              go_simp
                              with_reducible rfl
                            rotate_left
                            · simp only [Act.put, List.setIfInBounds_toArray, List.set_cons_zero, List.set_cons_succ, i64_w, i32_w]
                              rfl
                            refine done_ (done_of HT_.out (by kernel_rfl)) ?_
                            try go_wp2
                            go_loopg [12] k3 (fun kq v12 w' => ∃ (x12_4 : Int), v12 = .int .i64 x12_4 ∧ Aside0 (laws_FnFloodRegion.l2 kq t8007 t8008 t8009 t8011 t8022 x9_2 x10_3 t8032 x12_4 t8001 t8002 t8003 t8004 = some r) ∧ Aside0 (kq ≤ k3) ∧ Aside0 (Kd.R k47 47 w' w.heap.size (fun _ => True) (.slice (some ad8029) t8011.length co34) t8011) ∧ Aside0 (Kd.R (Kd.int .i64) 3 w' w.heap.size (fun k_ => some k_ ≠ (v8033 : Value).ownBlock ∧ some k_ ≠ ((.slice Ao9 t8004.length co9) : Value).ownBlock) v8023 t8022) ∧ Aside0 (Kd.R (Kd.int .i64) 3 w' w.heap.size (fun k_ => some k_ ≠ (v8023 : Value).ownBlock ∧ some k_ ≠ ((.slice Ao9 t8004.length co9) : Value).ownBlock) v8033 t8032) ∧ Aside0 (Kd.Q (Kd.int .i64) 3 w' w.heap.size (fun k_ => some k_ ≠ (v8023 : Value).ownBlock ∧ some k_ ≠ (v8033 : Value).ownBlock) (.slice Ao9 t8004.length co9) t8004) ∧ Aside0 (w'.heap[gb8010]? = some (.cells #[.int .i64 t8001, .int .i64 t8002, .int .i64 t8003, (.slice Ao9 t8004.length co9)] 28 (0, 0))) ∧ Aside0 (Below w.heap.size w w'))
                            case atStart => exact ⟨(0), (by first | rfl | (simp; done) | (simp [*]; done)), H', ⟨Nat.le_refl _⟩, ⟨by (with_reducible repeat (first | apply Kd.R_alloc | apply Kd.R_drewN | apply Kd.R_drew)); exact HO_7.out⟩, ⟨by (with_reducible repeat (first | apply Kd.R_alloc | apply Kd.R_drewN | apply Kd.R_drew)); exact Kd.R_mono HO_8.out (fun _ hk => ⟨hk.2, hk.1⟩)⟩, ⟨by (with_reducible repeat (first | apply Kd.R_alloc | apply Kd.R_drewN | apply Kd.R_drew)); exact Kd.R_mono HO8034.out (fun _ hk => ⟨hk.1.2, hk.2⟩)⟩, ⟨by (with_reducible repeat (first | apply Kd.Q_alloc | apply Kd.Q_drewN | apply Kd.Q_drew)); exact HO_8011003.out⟩, ⟨by (with_reducible repeat (first | refine blk_drewN ?_ _ | refine blk_drew ?_ | refine blk_alloc ?_ _)); exact BK8010.out⟩, ⟨by repeat (first | (with_reducible first | exact HB.out | apply below_alloc | apply pw_below_drewN | apply below_drew1 | refine below_set ?_ GE8010.out) | exact HB.out)⟩⟩
                            case round =>
                              clear H'
                              try clear c1
                              try clear c2
                              try clear c2b0
                              try clear c2b1
                              try clear p2
                              try clear c3
                              try clear c7
                              try clear p8
                              try clear q8
                              try clear hx8
                              try clear c13
                              try clear c21
                              try clear c22
                              try clear c24
                              try clear c25
                              try clear c26
                              try clear c27
                              try clear c32
                              try clear c32b0
                              try clear c33
                              try clear c33b0
                              try clear c35
                              try clear c35b0
                              try clear c36
                              try clear c36b0
                              try clear c37
                              try clear c37b0
                              try clear hcz14_0
                              try clear hcz14_1
                              try clear hcz14_2
                              try clear hcz14_3
                              try clear hcz18_0
                              try clear hcz18_1
                              try clear hcz18_2
                              try clear hcz18_3
                              try clear hcz25_0
                              try clear hcz25_1
                              try clear hcz25_2
                              try clear hcz25_3
                              try clear hcz30_0
                              try clear hcz30_1
                              try clear hcz30_2
                              try clear hcz30_3
                              try clear hcz8_0
                              try clear hcz8_1
                              try clear hcz8_2
                              try clear hcz8_3
                              try clear hfz14_0
                              try clear hfz14_1
                              try clear hfz14_2
                              try clear hfz14_3
                              try clear hfz18_0
                              try clear hfz18_1
                              try clear hfz18_2
                              try clear hfz18_3
                              try clear hfz25_0
                              try clear hfz25_1
                              try clear hfz25_2
                              try clear hfz25_3
                              try clear hfz30_0
                              try clear hfz30_1
                              try clear hfz30_2
                              try clear hfz30_3
                              try clear hfz8_0
                              try clear hfz8_1
                              try clear hfz8_2
                              try clear hfz8_3
                              try clear hx8029_0
                              try clear hx8029_1
                              try clear hx8029_2
                              try clear hx8030_0
                              try clear hx8030_1
                              try clear hx8030_2
                              try clear hx8031_0
                              try clear hx8031_1
                              try clear hx8031_2
                              try clear p2
                              try clear p8
                              try clear p8029
                              try clear p8030
                              try clear p8031
                              try clear q8
                              try clear q8029
                              try clear q8030
                              try clear q8031
                              obtain ⟨x12_4, rfl, HA, HK4, HO_7, HO_8, HO_11, HO_8011003, BK8010, HB⟩ := hrel
                              cases gk with
                              | zero => exact absurd HA.out (by simp [laws_FnFloodRegion.l2])
                              | succ k4 =>
                                have H := HA.out
                                clear HA
                                simp only [laws_FnFloodRegion.l2] at H
                                by_cases c41 : x12_4 < (t8022.length : Int)
                                · rw [if_pos c41] at H
                                  have c41b0 : decide (x12_4 < (t8022.length : Int)) = true := decide_eq_true c41
                                  clear c41
                                  by_cases c42 : (t8032.length : Int) = (t8022.length : Int)
                                  · rw [if_pos c42] at H
                                    have c42b0 : ((t8032.length : Int) == (t8022.length : Int)) = true := beq_iff_eq.mpr c42
                                    have c42b1 : ((t8032.length : Int) != (t8022.length : Int)) = false := bne_eq_false_iff_eq.mpr c42
                                    have c42b2 : (t8032.length == t8022.length) = true := by first | simpa using c42 | (simp at c42 ⊢; omega)
                                    clear c42
                                    by_cases c43 : 0 ≤ x12_4
                                    · rw [if_pos c43] at H
                                      have c43b0 : decide (0 ≤ x12_4) = true := decide_eq_true c43
                                      clear c43
                                      by_cases c44 : x12_4 < (t8032.length : Int)
                                      · rw [if_pos c44] at H
                                        have c44b0 : decide (x12_4 < (t8032.length : Int)) = true := decide_eq_true c44
                                        clear c44
                                        replace H := Option.bind_eq_some_iff.mp H
                                        obtain ⟨t8037, A450, H⟩ := H
                                        replace H : (if t8037 > t8009 then (some false) else (laws_FnFloodRegion.l2 k4 t8007 t8008 t8009 t8011 t8022 x9_2 x10_3 t8032 (wrap64 (x12_4 + 1)) t8001 t8002 t8003 t8004)) = some r := H
                                        have A45 := Aside0.mk A450
                                        clear A450
                                        by_cases c46 : t8037 > t8009
                                        · rw [if_pos c46] at H
                                          have c46b0 : decide (t8009 < t8037) = true := decide_eq_true c46
                                          clear c46
                                          exact absurd ((Option.some.inj H).trans HRT.out) (by decide)
                                        · rw [if_neg c46] at H
                                          have c46b0 : decide (t8009 < t8037) = false := decide_eq_false c46
                                          clear c46
                                          have H' := Aside0.mk H
                                          clear H
                                          obtain ⟨Ao50, co50, eo50⟩ := Kd.R_slice HO_8.out
                                          subst eo50
                                          try go_wp2
                                          have n0_ := Aside0.mk (Kd.R_drew HO_7.out)
                                          have n1_ := Aside0.mk (Kd.R_drew HO_8.out)
                                          have n2_ := Aside0.mk (Kd.R_drew HO_11.out)
                                          have n3_ := Aside0.mk (Kd.Q_drew HO_8011003.out)
                                          have n4_ := Aside0.mk (blk_drew BK8010.out)
                                          have n5_ := Aside0.mk (below_drew1 HB.out)
                                          clear HO_7
                                          clear HO_8
                                          clear HO_11
                                          clear HO_8011003
                                          clear BK8010
                                          clear HB
                                          have HO_7 := n0_
                                          have HO_8 := n1_
                                          have HO_11 := n2_
                                          have HO_8011003 := n3_
                                          have BK8010 := n4_
                                          have HB := n5_
                                          clear n0_ n1_ n2_ n3_ n4_ n5_
                                          obtain ⟨Ao52, co52, eo52⟩ := Kd.R_slice HO_11.out
                                          (first | subst eo52 | (injection eo52 with f1_ f2_ f3_; have f4_ := f1_.symm; have f5_ := f3_.symm; clear f1_ f2_ f3_; subst f4_; subst f5_))
                                          have p8035 : 0 ≤ (x12_4 : Int) := of_decide_eq_true (by first | (with_reducible assumption) | assumption)
                                          have q8035 : x12_4 < (t8032.length : Int) := of_decide_eq_true (by first | (with_reducible assumption) | assumption)
                                          obtain ⟨ad8035, e8035, hx8035_0⟩ := Kd.at_int (Kd.R_reads' HO_11.out).2.2 x12_4 p8035 q8035
                                          cases e8035
                                          replace p8035 := eq_true p8035
                                          replace q8035 := eq_true q8035
                                          have p8036 : 0 ≤ (x12_4 : Int) := of_decide_eq_true (by first | (with_reducible assumption) | assumption)
                                          have q8036 : x12_4 < (t8022.length : Int) := of_decide_eq_true (by first | (with_reducible assumption) | assumption)
                                          obtain ⟨ad8036, e8036, hx8036_0⟩ := Kd.at_int (Kd.R_reads' HO_8.out).2.2 x12_4 p8036 q8036
                                          cases e8036
                                          replace p8036 := eq_true p8036
                                          replace q8036 := eq_true q8036
                                          refine start_ (n := 19) (S := fun w' => w'.cell? (ad8035.add (x12_4).toNat) = some (.int .i64 (rd t8032 x12_4)) ∧ w'.cell? (ad8036.add (x12_4).toNat) = some (.int .i64 (rd t8022 x12_4))) (ds := []) #[false, false, false, false, false, false, false, false, false, false, false, false, false, false, false, false, false, false, false] (by kernel_rfl) rfl rfl ⟨hx8035_0, hx8036_0⟩ (fun hHeld => ?_); refine with_tabW laws_FnFloodRegion.tab18 laws_FnFloodRegion.bits18 (fun HT_ HW_ => ?_)
                                          generalize wr.drew = w51 at HO_7 HO_8 HO_11 HO_8011003 BK8010 HB hx8035_0 hx8036_0 hHeld ⊢
                                          refine pure_ (i := 0) (N := some 86) (v := ?_) (a' := ?_) #[true, false, false, false, false, false, false, false, false, false, false, false, false, false, false, false, false, false, false] rfl rfl (any_of HT_.out (by kernel_rfl)) (fun _ _ _ h => h) (Or.inl ⟨by rfl, ?_⟩) ?_ ?_
                                          rotate_left
                                          · intro w'
                                            go_simp
                                            with_reducible rfl
                                          rotate_left
                                          · simp only [Act.put, List.setIfInBounds_toArray, List.set_cons_zero, List.set_cons_succ, i64_w, i32_w]
                                            rfl
                                          refine pure_ (i := 1) (N := some 87) (v := ?_) (a' := ?_) #[true, true, false, false, false, false, false, false, false, false, false, false, false, false, false, false, false, false, false] rfl rfl (any_of HT_.out (by kernel_rfl)) (fun _ _ _ h => h) (Or.inl ⟨by rfl, ?_⟩) ?_ ?_
                                          rotate_left
                                          · intro w'
                                            go_simp
                                            with_reducible rfl
                                          rotate_left
                                          · simp only [Act.put, List.setIfInBounds_toArray, List.set_cons_zero, List.set_cons_succ, i64_w, i32_w]
                                            rfl
                                          refine pure_ (i := 2) (N := some 88) (v := ?_) (a' := ?_) #[true, true, true, false, false, false, false, false, false, false, false, false, false, false, false, false, false, false, false] rfl rfl (any_of HT_.out (by kernel_rfl)) (fun _ _ _ h => h) (Or.inl ⟨by rfl, ?_⟩) ?_ ?_
                                          rotate_left
                                          · intro w'
                                            go_simp
                                            with_reducible rfl
                                          rotate_left
                                          · simp only [Act.put, List.setIfInBounds_toArray, List.set_cons_zero, List.set_cons_succ, i64_w, i32_w]
                                            rfl
                                          refine pure_ (i := 3) (N := some 89) (v := ?_) (a' := ?_) #[true, true, true, true, false, false, false, false, false, false, false, false, false, false, false, false, false, false, false] rfl rfl (any_of HT_.out (by kernel_rfl)) (fun _ _ _ h => h) (Or.inl ⟨by rfl, ?_⟩) ?_ ?_
                                          rotate_left
                                          · intro w'
                                            go_simp
                                            with_reducible rfl
                                          rotate_left
                                          · simp only [Act.put, List.setIfInBounds_toArray, List.set_cons_zero, List.set_cons_succ, i64_w, i32_w]
                                            rfl
                                          refine pure_ (i := 4) (N := some 90) (v := ?_) (a' := ?_) #[true, true, true, true, true, false, false, false, false, false, false, false, false, false, false, false, false, false, false] rfl rfl (any_of HT_.out (by kernel_rfl)) (fun _ _ _ h => h) (Or.inl ⟨by rfl, ?_⟩) ?_ ?_
                                          rotate_left
                                          · intro w'
                                            go_simp
                                            with_reducible rfl
                                          rotate_left
                                          · simp only [Act.put, List.setIfInBounds_toArray, List.set_cons_zero, List.set_cons_succ, i64_w, i32_w]
                                            rfl
                                          refine pure_ (i := 5) (N := some 91) (v := ?_) (a' := ?_) #[true, true, true, true, true, true, false, false, false, false, false, false, false, false, false, false, false, false, false] rfl rfl (any_of HT_.out (by kernel_rfl)) (fun _ _ _ h => h) (Or.inl ⟨by rfl, ?_⟩) ?_ ?_
                                          rotate_left
                                          · intro w'
                                            go_simp
                                            with_reducible rfl
                                          rotate_left
                                          · simp only [Act.put, List.setIfInBounds_toArray, List.set_cons_zero, List.set_cons_succ, i64_w, i32_w]
                                            rfl
                                          refine pure_ (i := 6) (N := some 92) (v := ?_) (a' := ?_) #[true, true, true, true, true, true, true, false, false, false, false, false, false, false, false, false, false, false, false] rfl rfl (any_of HT_.out (by kernel_rfl)) (fun _ _ _ h => h) (Or.inl ⟨by rfl, ?_⟩) ?_ ?_
                                          rotate_left
                                          · intro w'
                                            go_simp
                                            with_reducible rfl
                                          rotate_left
                                          · simp only [Act.put, List.setIfInBounds_toArray, List.set_cons_zero, List.set_cons_succ, i64_w, i32_w]
                                            rfl
                                          refine pure_ (i := 7) (N := some 93) (v := ?_) (a' := ?_) #[true, true, true, true, true, true, true, true, false, false, false, false, false, false, false, false, false, false, false] rfl rfl (any_of HT_.out (by kernel_rfl)) (fun _ _ _ h => h) (Or.inl ⟨by rfl, ?_⟩) ?_ ?_
                                          rotate_left
                                          · intro w'
                                            go_simp
                                            with_reducible rfl
                                          rotate_left
                                          · simp only [Act.put, List.setIfInBounds_toArray, List.set_cons_zero, List.set_cons_succ, i64_w, i32_w]
                                            rfl
                                          refine pure_ (i := 8) (N := some 94) (v := ?_) (a' := ?_) #[true, true, true, true, true, true, true, true, true, false, false, false, false, false, false, false, false, false, false] rfl rfl (any_of HT_.out (by kernel_rfl)) (fun _ _ _ h => h) (Or.inl ⟨by rfl, ?_⟩) ?_ ?_
                                          rotate_left
                                          · intro w'
                                            go_simp
                                            with_reducible rfl
                                          rotate_left
                                          · simp only [Act.put, List.setIfInBounds_toArray, List.set_cons_zero, List.set_cons_succ, i64_w, i32_w]
                                            rfl
                                          refine pure_ (i := 10) (N := some 96) (v := ?_) (a' := ?_) #[true, true, true, true, true, true, true, true, true, false, true, false, false, false, false, false, false, false, false] rfl rfl (any_of HT_.out (by kernel_rfl)) (fun _ _ _ h => h) (Or.inl ⟨by rfl, ?_⟩) ?_ ?_
                                          rotate_left
                                          · intro w'
                                            go_simp
                                            with_reducible rfl
                                          rotate_left
                                          · simp only [Act.put, List.setIfInBounds_toArray, List.set_cons_zero, List.set_cons_succ, i64_w, i32_w]
                                            rfl
                                          refine pure_ (i := 11) (N := some 97) (v := ?_) (a' := ?_) #[true, true, true, true, true, true, true, true, true, false, true, true, false, false, false, false, false, false, false] rfl rfl (any_of HT_.out (by kernel_rfl)) (fun _ _ _ h => h) (Or.inl ⟨by rfl, ?_⟩) ?_ ?_
                                          rotate_left
                                          · intro w'
                                            go_simp
                                            with_reducible rfl
                                          rotate_left
                                          · simp only [Act.put, List.setIfInBounds_toArray, List.set_cons_zero, List.set_cons_succ, i64_w, i32_w]
                                            rfl
                                          refine pure_ (i := 12) (N := some 98) (v := ?_) (a' := ?_) #[true, true, true, true, true, true, true, true, true, false, true, true, true, false, false, false, false, false, false] rfl rfl (any_of HT_.out (by kernel_rfl)) (fun _ _ _ h => h) (Or.inl ⟨by rfl, ?_⟩) ?_ ?_
                                          rotate_left
                                          · intro w'
                                            go_simp
                                            with_reducible rfl
                                          rotate_left
                                          · simp only [Act.put, List.setIfInBounds_toArray, List.set_cons_zero, List.set_cons_succ, i64_w, i32_w]
                                            rfl
                                          refine pure_ (i := 16) (N := some 102) (v := ?_) (a' := ?_) #[true, true, true, true, true, true, true, true, true, false, true, true, true, false, false, false, true, false, false] rfl rfl (any_of HT_.out (by kernel_rfl)) (fun _ _ _ h => h) (Or.inl ⟨by rfl, ?_⟩) ?_ ?_
                                          rotate_left
                                          · intro w'
                                            go_simp
                                            with_reducible rfl
                                          rotate_left
                                          · simp only [Act.put, List.setIfInBounds_toArray, List.set_cons_zero, List.set_cons_succ, i64_w, i32_w]
                                            rfl
                                          refine take_ (i := 9) (N := some 95) (v := ?_) (a' := ?_) #[true, true, true, true, true, true, true, true, true, true, true, true, true, false, false, false, true, false, false] rfl rfl (take_ofW HT_.out HW_.out (by kernel_rfl)) (fun _ _ _ h => h) (Or.inl ⟨by rfl, ?_⟩) hHeld ?_ ?_
                                          rotate_left
                                          · rintro w' ⟨s0, s1⟩
                                            go_simp
                                            with_reducible rfl
                                          rotate_left
                                          · simp only [Act.put, List.setIfInBounds_toArray, List.set_cons_zero, List.set_cons_succ, i64_w, i32_w]
                                            rfl
                                          refine take_ (i := 13) (N := some 99) (v := ?_) (a' := ?_) #[true, true, true, true, true, true, true, true, true, true, true, true, true, true, false, false, true, false, false] rfl rfl (take_ofW HT_.out HW_.out (by kernel_rfl)) (fun _ _ _ h => h) (Or.inl ⟨by rfl, ?_⟩) hHeld ?_ ?_
                                          rotate_left
                                          · rintro w' ⟨s0, s1⟩
                                            go_simp
                                            with_reducible rfl
                                          rotate_left
                                          · simp only [Act.put, List.setIfInBounds_toArray, List.set_cons_zero, List.set_cons_succ, i64_w, i32_w]
                                            rfl
                                          refine pure_ (i := 14) (N := some 100) (v := ?_) (a' := ?_) #[true, true, true, true, true, true, true, true, true, true, true, true, true, true, true, false, true, false, false] rfl rfl (any_of HT_.out (by kernel_rfl)) (fun _ _ _ h => h) (Or.inl ⟨by rfl, ?_⟩) ?_ ?_
                                          rotate_left
                                          · intro w'
                                            go_simp
                                            with_reducible rfl
                                          rotate_left
                                          · simp only [Act.put, List.setIfInBounds_toArray, List.set_cons_zero, List.set_cons_succ, i64_w, i32_w]
                                            rfl
                                          refine one_ (i := 15) (N := some 101) #[true, true, true, true, true, true, true, true, true, true, true, true, true, true, true, true, true, false, false] rfl rfl (one_of HT_.out (by kernel_rfl)) (by decide) (fun K hK => ?_)
                                          refine goes_ Try.func30 (by kernel_rfl) rfl #[.int .i64 (wrap64 ((rd t8032 x12_4) - (rd t8022 x12_4)))] (by rfl) rfl rfl (by (try simp only [List.map_toArray, List.map_cons, List.map_nil]); first | done | rfl | (simp only [List.length_drop, List.length_take]; rfl)) ?_
                                          with_reducible refine (laws_absolute.calls (wrap64 ((rd t8032 x12_4) - (rd t8022 x12_4))) t8037 _ A45.out).mono ?_
                                          rintro e w' ⟨rfl, ⟨nd, rfl⟩⟩
                                          refine ⟨_, rfl, ?_⟩
                                          refine hK.out _ _ ⟨hHeld.1, hHeld.2⟩ (fun hHeld => ?_)
                                          clear hK K
                                          refine norm_ (a' := ?_) ?_ ?_
                                          rotate_left
                                          · show Act.put _ (some 101) _ = _
                                            simp only [Act.put, List.setIfInBounds_toArray, List.set_cons_zero, List.set_cons_succ, i64_w, i32_w]
                                            rfl
                                          refine pure_ (i := 17) (N := some 103) (v := ?_) (a' := ?_) #[true, true, true, true, true, true, true, true, true, true, true, true, true, true, true, true, true, true, false] rfl rfl (any_of HT_.out (by kernel_rfl)) (fun _ _ _ h => h) (Or.inl ⟨by rfl, ?_⟩) ?_ ?_
                                          rotate_left
                                          · intro w'
                                            go_simp
                                            with_reducible rfl
                                          rotate_left
                                          · simp only [Act.put, List.setIfInBounds_toArray, List.set_cons_zero, List.set_cons_succ, i64_w, i32_w]
                                            rfl
                                          refine pure_ (i := 18) (N := some 104) (v := ?_) (a' := ?_) #[true, true, true, true, true, true, true, true, true, true, true, true, true, true, true, true, true, true, true] rfl rfl (any_of HT_.out (by kernel_rfl)) (fun _ _ _ h => h) (Or.inl ⟨by rfl, ?_⟩) ?_ ?_
                                          rotate_left
                                          · intro w'
                                            go_simp
                                            with_reducible rfl
                                          rotate_left
                                          · simp only [Act.put, List.setIfInBounds_toArray, List.set_cons_zero, List.set_cons_succ, i64_w, i32_w]
                                            rfl
                                          refine done_ (done_of HT_.out (by kernel_rfl)) ?_
                                          try go_wp2
                                          go_roundg k4
                                          case measure => have := HJ4.out; have := HK2.out; have := HK3.out; have := HK4.out; omega
                                          case rel => exact ⟨(wrap64 (x12_4 + 1)), (by first | rfl | (simp; done) | (simp [*]; done)), H', ⟨by have := HJ4.out; have := HK2.out; have := HK3.out; have := HK4.out; omega⟩, ⟨by (with_reducible repeat (first | apply Kd.R_alloc | apply Kd.R_drewN | apply Kd.R_drew)); exact HO_7.out⟩, ⟨by (with_reducible repeat (first | apply Kd.R_alloc | apply Kd.R_drewN | apply Kd.R_drew)); exact HO_8.out⟩, ⟨by (with_reducible repeat (first | apply Kd.R_alloc | apply Kd.R_drewN | apply Kd.R_drew)); exact HO_11.out⟩, ⟨by (with_reducible repeat (first | apply Kd.Q_alloc | apply Kd.Q_drewN | apply Kd.Q_drew)); exact HO_8011003.out⟩, ⟨by (with_reducible repeat (first | refine blk_drewN ?_ _ | refine blk_drew ?_ | refine blk_alloc ?_ _)); exact BK8010.out⟩, ⟨by repeat (first | (with_reducible first | exact HB.out | apply below_alloc | apply pw_below_drewN | apply below_drew1 | refine below_set ?_ GE8010.out) | exact HB.out)⟩⟩
                                      · rw [if_neg c44] at H
                                        exact absurd H (by simp)
                                    · rw [if_neg c43] at H
                                      exact absurd H (by simp)
                                  · rw [if_neg c42] at H
                                    have c42b0 : ((t8032.length : Int) == (t8022.length : Int)) = false := beq_eq_false_iff_ne.mpr c42
                                    have c42b1 : ((t8032.length : Int) != (t8022.length : Int)) = true := bne_iff_ne.mpr c42
                                    have c42b2 : (t8032.length == t8022.length) = false := by first | simpa using c42 | (simp at c42 ⊢; omega)
                                    obtain rfl := Option.some.inj H
                                    obtain ⟨Ao53, co53, eo53⟩ := Kd.R_slice HO_8.out
                                    subst eo53
                                    try go_wp2
                                    have n0_ := Aside0.mk (Kd.R_drew HO_7.out)
                                    have n1_ := Aside0.mk (Kd.R_drew HO_8.out)
                                    have n2_ := Aside0.mk (Kd.R_drew HO_11.out)
                                    have n3_ := Aside0.mk (Kd.Q_drew HO_8011003.out)
                                    have n4_ := Aside0.mk (blk_drew BK8010.out)
                                    have n5_ := Aside0.mk (below_drew1 HB.out)
                                    clear HO_7
                                    clear HO_8
                                    clear HO_11
                                    clear HO_8011003
                                    clear BK8010
                                    clear HB
                                    have HO_7 := n0_
                                    have HO_8 := n1_
                                    have HO_11 := n2_
                                    have HO_8011003 := n3_
                                    have BK8010 := n4_
                                    have HB := n5_
                                    clear n0_ n1_ n2_ n3_ n4_ n5_
                                    obtain ⟨Ao55, co55, eo55⟩ := Kd.R_slice HO_11.out
                                    (first | subst eo55 | (injection eo55 with f1_ f2_ f3_; have f4_ := f1_.symm; have f5_ := f3_.symm; clear f1_ f2_ f3_; subst f4_; subst f5_))
                                    refine start_ (n := 19) (S := fun w' => True) (ds := []) #[false, false, false, false, false, false, false, false, false, false, false, false, false, false, false, false, false, false, false] (by kernel_rfl) rfl rfl trivial (fun hHeld => ?_); refine with_tabW laws_FnFloodRegion.tab18 laws_FnFloodRegion.bits18 (fun HT_ HW_ => ?_)
                                    generalize wr.drew = w54 at HO_7 HO_8 HO_11 HO_8011003 BK8010 HB hHeld ⊢
                                    refine pure_ (i := 0) (N := some 86) (v := ?_) (a' := ?_) #[true, false, false, false, false, false, false, false, false, false, false, false, false, false, false, false, false, false, false] rfl rfl (any_of HT_.out (by kernel_rfl)) (fun _ _ _ h => h) (Or.inl ⟨by rfl, ?_⟩) ?_ ?_
                                    rotate_left
                                    · intro w'
                                      go_simp
                                      with_reducible rfl
                                    rotate_left
                                    · simp only [Act.put, List.setIfInBounds_toArray, List.set_cons_zero, List.set_cons_succ, i64_w, i32_w]
                                      rfl
                                    refine pure_ (i := 1) (N := some 87) (v := ?_) (a' := ?_) #[true, true, false, false, false, false, false, false, false, false, false, false, false, false, false, false, false, false, false] rfl rfl (any_of HT_.out (by kernel_rfl)) (fun _ _ _ h => h) (Or.inl ⟨by rfl, ?_⟩) ?_ ?_
                                    rotate_left
                                    · intro w'
                                      go_simp
                                      with_reducible rfl
                                    rotate_left
                                    · simp only [Act.put, List.setIfInBounds_toArray, List.set_cons_zero, List.set_cons_succ, i64_w, i32_w]
                                      rfl
                                    refine pure_ (i := 2) (N := some 88) (v := ?_) (a' := ?_) #[true, true, true, false, false, false, false, false, false, false, false, false, false, false, false, false, false, false, false] rfl rfl (any_of HT_.out (by kernel_rfl)) (fun _ _ _ h => h) (Or.inl ⟨by rfl, ?_⟩) ?_ ?_
                                    rotate_left
                                    · intro w'
                                      go_simp
                                      with_reducible rfl
                                    rotate_left
                                    · simp only [Act.put, List.setIfInBounds_toArray, List.set_cons_zero, List.set_cons_succ, i64_w, i32_w]
                                      rfl
                                    refine pure_ (i := 3) (N := some 89) (v := ?_) (a' := ?_) #[true, true, true, true, false, false, false, false, false, false, false, false, false, false, false, false, false, false, false] rfl rfl (any_of HT_.out (by kernel_rfl)) (fun _ _ _ h => h) (Or.inl ⟨by rfl, ?_⟩) ?_ ?_
                                    rotate_left
                                    · intro w'
                                      go_simp
                                      with_reducible rfl
                                    rotate_left
                                    · simp only [Act.put, List.setIfInBounds_toArray, List.set_cons_zero, List.set_cons_succ, i64_w, i32_w]
                                      rfl
                                    refine pure_ (i := 4) (N := some 90) (v := ?_) (a' := ?_) #[true, true, true, true, true, false, false, false, false, false, false, false, false, false, false, false, false, false, false] rfl rfl (any_of HT_.out (by kernel_rfl)) (fun _ _ _ h => h) (Or.inl ⟨by rfl, ?_⟩) ?_ ?_
                                    rotate_left
                                    · intro w'
                                      go_simp
                                      with_reducible rfl
                                    rotate_left
                                    · simp only [Act.put, List.setIfInBounds_toArray, List.set_cons_zero, List.set_cons_succ, i64_w, i32_w]
                                      rfl
                                    refine pure_ (i := 5) (N := some 91) (v := ?_) (a' := ?_) #[true, true, true, true, true, true, false, false, false, false, false, false, false, false, false, false, false, false, false] rfl rfl (any_of HT_.out (by kernel_rfl)) (fun _ _ _ h => h) (Or.inl ⟨by rfl, ?_⟩) ?_ ?_
                                    rotate_left
                                    · intro w'
                                      go_simp
                                      with_reducible rfl
                                    rotate_left
                                    · simp only [Act.put, List.setIfInBounds_toArray, List.set_cons_zero, List.set_cons_succ, i64_w, i32_w]
                                      rfl
                                    refine pure_ (i := 6) (N := some 92) (v := undef) (a' := ?_) #[true, true, true, true, true, true, true, false, false, false, false, false, false, false, false, false, false, false, false] rfl rfl (any_of HT_.out (by kernel_rfl)) (fun _ _ _ h => h) (Or.inr ⟨by rfl, rfl⟩) ?_ ?_
                                    rotate_left
                                    · simp only [Act.put, List.setIfInBounds_toArray, List.set_cons_zero, List.set_cons_succ, i64_w, i32_w]
                                      rfl
                                    refine pure_ (i := 7) (N := some 93) (v := undef) (a' := ?_) #[true, true, true, true, true, true, true, true, false, false, false, false, false, false, false, false, false, false, false] rfl rfl (any_of HT_.out (by kernel_rfl)) (fun _ _ _ h => h) (Or.inr ⟨by rfl, rfl⟩) ?_ ?_
                                    rotate_left
                                    · simp only [Act.put, List.setIfInBounds_toArray, List.set_cons_zero, List.set_cons_succ, i64_w, i32_w]
                                      rfl
                                    refine pure_ (i := 8) (N := some 94) (v := undef) (a' := ?_) #[true, true, true, true, true, true, true, true, true, false, false, false, false, false, false, false, false, false, false] rfl rfl (any_of HT_.out (by kernel_rfl)) (fun _ _ _ h => h) (Or.inr ⟨by rfl, rfl⟩) ?_ ?_
                                    rotate_left
                                    · simp only [Act.put, List.setIfInBounds_toArray, List.set_cons_zero, List.set_cons_succ, i64_w, i32_w]
                                      rfl
                                    refine pure_ (i := 9) (N := some 95) (v := undef) (a' := ?_) #[true, true, true, true, true, true, true, true, true, true, false, false, false, false, false, false, false, false, false] rfl rfl (any_of HT_.out (by kernel_rfl)) (fun _ _ _ h => h) (Or.inr ⟨by rfl, rfl⟩) ?_ ?_
                                    rotate_left
                                    · simp only [Act.put, List.setIfInBounds_toArray, List.set_cons_zero, List.set_cons_succ, i64_w, i32_w]
                                      rfl
                                    refine pure_ (i := 10) (N := some 96) (v := undef) (a' := ?_) #[true, true, true, true, true, true, true, true, true, true, true, false, false, false, false, false, false, false, false] rfl rfl (any_of HT_.out (by kernel_rfl)) (fun _ _ _ h => h) (Or.inr ⟨by rfl, rfl⟩) ?_ ?_
                                    rotate_left
                                    · simp only [Act.put, List.setIfInBounds_toArray, List.set_cons_zero, List.set_cons_succ, i64_w, i32_w]
                                      rfl
                                    refine pure_ (i := 11) (N := some 97) (v := undef) (a' := ?_) #[true, true, true, true, true, true, true, true, true, true, true, true, false, false, false, false, false, false, false] rfl rfl (any_of HT_.out (by kernel_rfl)) (fun _ _ _ h => h) (Or.inr ⟨by rfl, rfl⟩) ?_ ?_
                                    rotate_left
                                    · simp only [Act.put, List.setIfInBounds_toArray, List.set_cons_zero, List.set_cons_succ, i64_w, i32_w]
                                      rfl
                                    refine pure_ (i := 12) (N := some 98) (v := undef) (a' := ?_) #[true, true, true, true, true, true, true, true, true, true, true, true, true, false, false, false, false, false, false] rfl rfl (any_of HT_.out (by kernel_rfl)) (fun _ _ _ h => h) (Or.inr ⟨by rfl, rfl⟩) ?_ ?_
                                    rotate_left
                                    · simp only [Act.put, List.setIfInBounds_toArray, List.set_cons_zero, List.set_cons_succ, i64_w, i32_w]
                                      rfl
                                    refine pure_ (i := 13) (N := some 99) (v := undef) (a' := ?_) #[true, true, true, true, true, true, true, true, true, true, true, true, true, true, false, false, false, false, false] rfl rfl (any_of HT_.out (by kernel_rfl)) (fun _ _ _ h => h) (Or.inr ⟨by rfl, rfl⟩) ?_ ?_
                                    rotate_left
                                    · simp only [Act.put, List.setIfInBounds_toArray, List.set_cons_zero, List.set_cons_succ, i64_w, i32_w]
                                      rfl
                                    refine pure_ (i := 14) (N := some 100) (v := undef) (a' := ?_) #[true, true, true, true, true, true, true, true, true, true, true, true, true, true, true, false, false, false, false] rfl rfl (any_of HT_.out (by kernel_rfl)) (fun _ _ _ h => h) (Or.inr ⟨by rfl, rfl⟩) ?_ ?_
                                    rotate_left
                                    · simp only [Act.put, List.setIfInBounds_toArray, List.set_cons_zero, List.set_cons_succ, i64_w, i32_w]
                                      rfl
                                    refine pure_ (i := 15) (N := some 101) (v := undef) (a' := ?_) #[true, true, true, true, true, true, true, true, true, true, true, true, true, true, true, true, false, false, false] rfl rfl (any_of HT_.out (by kernel_rfl)) (fun _ _ _ h => h) (Or.inr ⟨by rfl, rfl⟩) ?_ ?_
                                    rotate_left
                                    · simp only [Act.put, List.setIfInBounds_toArray, List.set_cons_zero, List.set_cons_succ, i64_w, i32_w]
                                      rfl
                                    refine pure_ (i := 16) (N := some 102) (v := undef) (a' := ?_) #[true, true, true, true, true, true, true, true, true, true, true, true, true, true, true, true, true, false, false] rfl rfl (any_of HT_.out (by kernel_rfl)) (fun _ _ _ h => h) (Or.inr ⟨by rfl, rfl⟩) ?_ ?_
                                    rotate_left
                                    · simp only [Act.put, List.setIfInBounds_toArray, List.set_cons_zero, List.set_cons_succ, i64_w, i32_w]
                                      rfl
                                    refine pure_ (i := 17) (N := some 103) (v := undef) (a' := ?_) #[true, true, true, true, true, true, true, true, true, true, true, true, true, true, true, true, true, true, false] rfl rfl (any_of HT_.out (by kernel_rfl)) (fun _ _ _ h => h) (Or.inr ⟨by rfl, rfl⟩) ?_ ?_
                                    rotate_left
                                    · simp only [Act.put, List.setIfInBounds_toArray, List.set_cons_zero, List.set_cons_succ, i64_w, i32_w]
                                      rfl
                                    refine pure_ (i := 18) (N := some 104) (v := ?_) (a' := ?_) #[true, true, true, true, true, true, true, true, true, true, true, true, true, true, true, true, true, true, true] rfl rfl (any_of HT_.out (by kernel_rfl)) (fun _ _ _ h => h) (Or.inl ⟨by rfl, ?_⟩) ?_ ?_
                                    rotate_left
                                    · intro w'
                                      go_simp
                                      with_reducible rfl
                                    rotate_left
                                    · simp only [Act.put, List.setIfInBounds_toArray, List.set_cons_zero, List.set_cons_succ, i64_w, i32_w]
                                      rfl
                                    refine done_ (done_of HT_.out (by kernel_rfl)) ?_
                                    try go_wp2
                                    go_ret
                                    exact ⟨by first | rfl | (simp [errW_none, errW_some] <;> rfl) | (simp [*, errW_none, errW_some] <;> rfl), by repeat (first | (with_reducible first | exact HB.out | apply below_alloc | apply pw_below_drewN | apply below_drew1 | refine below_set ?_ GE8010.out) | exact HB.out)⟩
                                · rw [if_neg c41] at H
                                  have c41b0 : decide (x12_4 < (t8022.length : Int)) = false := decide_eq_false c41
                                  clear c41
                                  have H' := Aside0.mk H
                                  clear H
                                  obtain ⟨Ao56, co56, eo56⟩ := Kd.R_slice HO_8.out
                                  subst eo56
                                  go_wp2
                                  go_roundg k4
                                  case measure => have := HJ4.out; have := HK2.out; have := HK3.out; have := HK4.out; omega
                                  case rel => exact ⟨(wrap64 (x10_3 + 1)), (by first | rfl | (simp; done) | (simp [*]; done)), H', ⟨by have := HJ4.out; have := HK2.out; have := HK3.out; have := HK4.out; omega⟩, ⟨by (with_reducible repeat (first | apply Kd.R_alloc | apply Kd.R_drewN | apply Kd.R_drew)); exact HO_7.out⟩, ⟨by (with_reducible repeat (first | apply Kd.R_alloc | apply Kd.R_drewN | apply Kd.R_drew)); exact Kd.R_mono HO_8.out (fun _ hk => hk.2)⟩, ⟨by (with_reducible repeat (first | apply Kd.Q_alloc | apply Kd.Q_drewN | apply Kd.Q_drew)); exact Kd.Q_mono HO_8011003.out (fun _ hk => hk.1)⟩, ⟨by (with_reducible repeat (first | refine blk_drewN ?_ _ | refine blk_drew ?_ | refine blk_alloc ?_ _)); exact BK8010.out⟩, ⟨by repeat (first | (with_reducible first | exact HB.out | apply below_alloc | apply pw_below_drewN | apply below_drew1 | refine below_set ?_ GE8010.out) | exact HB.out)⟩⟩
                          · rw [if_neg c37] at H
                            have c37b0 : decide (x10_3 < ((rd_T47 t8011 x9_2).f2)) = false := decide_eq_false c37
                            clear c37
                            have H' := Aside0.mk H
                            clear H
                            have p8030 : 0 ≤ (x9_2 : Int) := of_decide_eq_true (by first | (with_reducible assumption) | assumption)
                            have q8030 : x9_2 < (t8011.length : Int) := of_decide_eq_true (by first | (with_reducible assumption) | assumption)
                            obtain ⟨ad8030, e8030, hx8030_0, hx8030_1, hx8030_2⟩ := at_T47 (Kd.R_reads' HO_7.out).2.2 x9_2 p8030 q8030
                            obtain rfl : ad8029 = ad8030 := (by injection e8030)
                            replace p8030 := eq_true p8030
                            replace q8030 := eq_true q8030
                            go_wp2
                            go_roundg k3
                            case measure => have := HJ4.out; have := HK2.out; have := HK3.out; omega
                            case rel => exact ⟨(wrap64 (x9_2 + 1)), (by first | rfl | (simp; done) | (simp [*]; done)), H', ⟨by have := HJ4.out; have := HK2.out; have := HK3.out; omega⟩, ⟨by (with_reducible repeat (first | apply Kd.R_alloc | apply Kd.R_drewN | apply Kd.R_drew)); exact HO_7.out⟩, ⟨by (with_reducible repeat (first | apply Kd.R_alloc | apply Kd.R_drewN | apply Kd.R_drew)); exact HO_8.out⟩, ⟨by (with_reducible repeat (first | apply Kd.Q_alloc | apply Kd.Q_drewN | apply Kd.Q_drew)); exact HO_8011003.out⟩, ⟨by (with_reducible repeat (first | refine blk_drewN ?_ _ | refine blk_drew ?_ | refine blk_alloc ?_ _)); exact BK8010.out⟩, ⟨by repeat (first | (with_reducible first | exact HB.out | apply below_alloc | apply pw_below_drewN | apply below_drew1 | refine below_set ?_ GE8010.out) | exact HB.out)⟩⟩
                        · rw [if_neg c36] at H
                          exact absurd H (by simp)
                      · rw [if_neg c35] at H
                        exact absurd H (by simp)
                · rw [if_neg c33] at H
                  exact absurd H (by simp)
              · rw [if_neg c32] at H
                have c32b0 : decide (x9_2 < (t8011.length : Int)) = false := decide_eq_false c32
                clear c32
                replace H := Option.bind_eq_some_iff.mp H
                obtain ⟨t8025, A570, H⟩ := H
                replace H : (if t8025 = true then ((impl_PartsOf.f t8011).bind fun t8026 => (some ((t8026.length : Int) == 1))) else (some false)) = some r := H
                have A57 := Aside0.mk A570
                clear A570
                by_cases c58 : t8025 = true
                · subst c58
                  have H1 : ((impl_PartsOf.f t8011).bind fun t8026 => (some ((t8026.length : Int) == 1))) = some r := by rw [if_pos rfl] at H; exact H
                  clear H
                  have H := H1
                  clear H1
                  replace H := Option.bind_eq_some_iff.mp H
                  obtain ⟨t8026, A590, H⟩ := H
                  replace H : (some ((t8026.length : Int) == 1)) = some r := H
                  have A59 := Aside0.mk A590
                  clear A590
                  obtain rfl := Option.some.inj H
                  obtain ⟨Ao60, co60, eo60⟩ := Kd.R_slice HO_7.out
                  subst eo60
                  go_wp2_with (first | ((with_reducible refine gate_callee (f := 22) rfl ?_); refine goesL_ (some 108) rfl rfl Try.func22 (by kernel_rfl) rfl #[.slice Ao60 t8011.length co60, .int .i64 t8007, .int .i64 t8008] rfl (by (try simp only [List.map_toArray, List.map_cons, List.map_nil]); first | done | rfl | (simp only [List.length_drop, List.length_take]; rfl)) ?_; (with_reducible refine (impl_RegionHas.calls _ _ t8011 t8007 t8008 true _ ?side1 ?side2 A57.out).mono ?_); (case side1 => repeat (first | exact (Kd.R_reads' HO_7.out).2.2 | (with_reducible refine Kd.C_alloc ?_ _) | (with_reducible refine Kd.C_drewN ?_ _) | (with_reducible refine Kd.C_drew ?_))); (case side2 => exact (Kd.R_reads' HO_7.out).2.1); rintro e w61 ⟨rfl, hb⟩; refine ⟨_, rfl, ?_⟩; have n0_ := Aside0.mk (Kd.R_below (by (with_reducible repeat (first | apply Kd.R_alloc | apply Kd.R_drewN | apply Kd.R_drew)); exact HO_7.out) hb); have n1_ := Aside0.mk (Kd.R_below (by (with_reducible repeat (first | apply Kd.R_alloc | apply Kd.R_drewN | apply Kd.R_drew)); exact HO_8.out) hb); have n2_ := Aside0.mk (Kd.Q_below (by (with_reducible repeat (first | apply Kd.Q_alloc | apply Kd.Q_drewN | apply Kd.Q_drew)); exact HO_8011003.out) hb); have n3_ := Aside0.mk (blk_below (g := gb8010) (o := .cells #[.int .i64 t8001, .int .i64 t8002, .int .i64 t8003, .slice Ao9 t8004.length co9] 28 (0, 0)) (by (with_reducible repeat (first | refine blk_drewN ?_ _ | refine blk_drew ?_ | refine blk_alloc ?_ _)); exact BK8010.out) hb); have n4_ := Aside0.mk (below_step (by repeat (first | (with_reducible first | exact HB.out | apply below_alloc | apply pw_below_drewN | apply below_drew1 | refine below_set ?_ GE8010.out) | exact HB.out)) hb); clear HO_7; clear HO_8; clear HO_8011003; clear BK8010; clear HB; have HO_7 := n0_; have HO_8 := n1_; have HO_8011003 := n2_; have BK8010 := n3_; have HB := n4_; clear n0_ n1_ n2_ n3_ n4_; (try clear hb); (try clear hb2); (try clear hk); (try clear hi)) | (go_at_call 31; (with_reducible refine (impl_PartsOf.calls _ _ t8011 t8026 _ ?side1 ?side2 A59.out).mono ?_); (case side1 => repeat (first | exact (Kd.R_reads' HO_7.out).2.2 | (with_reducible refine Kd.C_alloc ?_ _) | (with_reducible refine Kd.C_drewN ?_ _) | (with_reducible refine Kd.C_drew ?_))); (case side2 => exact (Kd.R_reads' HO_7.out).2.1); rintro e w62 ⟨v8027, rfl, ho0, hb⟩; have n0_ := Aside0.mk (Kd.R_below (by (with_reducible repeat (first | apply Kd.R_alloc | apply Kd.R_drewN | apply Kd.R_drew)); exact HO_7.out) hb); have n1_ := Aside0.mk (Kd.R_below (by (with_reducible repeat (first | apply Kd.R_alloc | apply Kd.R_drewN | apply Kd.R_drew)); exact HO_8.out) hb); have n2_ := Aside0.mk (Kd.Q_below (by (with_reducible repeat (first | apply Kd.Q_alloc | apply Kd.Q_drewN | apply Kd.Q_drew)); exact HO_8011003.out) hb); have n3_ := Aside0.mk (Kd.S_lower (Kd.S_new' ho0 (Kd.R_lt (by (with_reducible repeat (first | apply Kd.R_alloc | apply Kd.R_drewN | apply Kd.R_drew)); exact HO_7.out))) (below_size (by repeat (first | (with_reducible first | exact HB.out | apply below_alloc | apply pw_below_drewN | apply below_drew1 | refine below_set ?_ GE8010.out) | exact HB.out)))); have n4_ := Aside0.mk (blk_below (g := gb8010) (o := .cells #[.int .i64 t8001, .int .i64 t8002, .int .i64 t8003, .slice Ao9 t8004.length co9] 28 (0, 0)) (by (with_reducible repeat (first | refine blk_drewN ?_ _ | refine blk_drew ?_ | refine blk_alloc ?_ _)); exact BK8010.out) hb); have n5_ := Aside0.mk (below_step (by repeat (first | (with_reducible first | exact HB.out | apply below_alloc | apply pw_below_drewN | apply below_drew1 | refine below_set ?_ GE8010.out) | exact HB.out)) hb); clear HO_7; clear HO_8; clear HO_8011003; clear BK8010; clear HB; have HO_7 := n0_; have HO_8 := n1_; have HO_8011003 := n2_; have HO8028 := n3_; have BK8010 := n4_; have HB := n5_; clear n0_ n1_ n2_ n3_ n4_ n5_; (try clear hb); (try clear hb2); (try clear hk); (try clear hi); (try clear ho0); obtain ⟨Ao63, co63, eo63⟩ := Kd.S_slice HO8028.out; subst eo63))
                  go_ret
                  exact ⟨by first | rfl | (simp [errW_none, errW_some] <;> rfl) | (simp [*, errW_none, errW_some] <;> rfl), by repeat (first | (with_reducible first | exact HB.out | apply below_alloc | apply pw_below_drewN | apply below_drew1 | refine below_set ?_ GE8010.out) | exact HB.out)⟩
                · replace c58 := Bool.eq_false_iff.mpr c58
                  subst c58
                  have H1 : (some false) = some r := by rw [if_neg (show ¬ (false = true) by decide)] at H; exact H
                  clear H
                  have H := H1
                  clear H1
                  exact absurd ((Option.some.inj H).trans HRT.out) (by decide)

/-- THE ONE PURE STATEMENT of laws_FnFloodRegion: yours. -/
def laws_FnFloodRegion.Pure : Prop := ∀ (l0 : List Int), l0.length ≤ maxLen → l0.length * 1 ≤ 140737488351232 → (∀ x ∈ l0, (Lit.int .u8 x).wf = true) → ∃ k, laws_FnFloodRegion.f k l0 = some true
theorem laws_FnFloodRegion.walk (P : laws_FnFloodRegion.Pure) (a0 : Option Addr) (len0 cap0 : Nat) (z0 : List Int) (w : World) (w0 : (a0 = none ∧ len0 = 0 ∧ cap0 = 0 ∧ z0 = []) ∨ ∃ x, a0 = some x ∧ len0 ≤ cap0 ∧ cap0 ≤ maxLen ∧ z0.length = cap0 ∧ (∀ i, i < z0.length → w.cell? (x.add i) = some (.int .u8 (z0.getD i 0))) ∧ ∀ n ∈ z0, (Lit.int .u8 n).wf = true) (y0 : len0 * 1 ≤ 140737488351232) :
    Calls Try.prog 7 #[.slice a0 len0 cap0] w fun e w' => e = .returned (.bool true) ∧ Below w.heap.size w w' := by
  obtain ⟨l0, rfl, hr0, hm0, hw0, hc0⟩ := ReadsInt.ofRowC w0
  obtain ⟨k, h⟩ := P l0 hm0 y0 hw0
  refine (laws_FnFloodRegion.calls k _ _ l0 true w (Kd.C_of_reads (d := (0 : Int)) (h1 := fun _ => rfl) hr0) hc0 h rfl).mono ?_
  rintro e w' ⟨rfl, hd⟩
  exact ⟨rfl, hd⟩

end Go.Proofs.Ytbgohbinonkhfaa.Q

/- The region of a box, as the program and the reference have it. -/
namespace Go.Proofs.Ytbgohbinonkhfaa.Pure
open Go.RowKit Go.Proofs.Ytbgohbinonkhfaa.Q Go.Proofs.YtbgohbinonkhfaaW.PrintWords Go.Proofs.YtbgohbinonkhfaaW.PrintLast Go.Proofs.YtbgohbinonkhfaaW.PrintMore
set_option linter.unusedVariables false
set_option linter.unusedSimpArgs false

theorem scanRow_len (g : Nat → Bool) (y : Nat) : ∀ d x, 17 ≤ x + d → (scanRow g y x).length ≤ 17 - x := by
  intro d
  induction d with
  | zero => intro x hx; rw [scan_end g y x (by omega)]; simp
  | succ d ih =>
    intro x hx
    by_cases h16 : x < 16
    · cases hv : g (y * 16 + x) with
      | true =>
        have := endAt_ge g y (16 - x) x
        rw [scan_true g y x h16 hv, List.length_cons]
        have := ih (endAt g y (16 - x) x + 1) (by omega)
        omega
      | false =>
        rw [scan_false g y x h16 hv]
        have := ih (x + 1) (by omega)
        omega
    · rw [scan_end g y x (by omega)]; simp
theorem runsTo_len (g : Nat → Bool) (n : Nat) : (runsTo g n).length ≤ 17 * n := by
  induction n with
  | zero => simp [runsTo]
  | succ n ih =>
    rw [runsTo_succ, List.length_append]
    have := scanRow_len g n 17 0 (by omega)
    omega
theorem runsL_len (g : Nat → Bool) : (runsL g).length ≤ 272 := runsTo_len g 16
end Go.Proofs.Ytbgohbinonkhfaa.Pure

/- The pixels at which two images differ, as the program and the reference have them. -/
namespace Go.Proofs.Ytbgohbinonkhfaa.Pure
open Go.RowKit Go.Proofs.Ytbgohbinonkhfaa.Q Go.Proofs.YtbgohbinonkhfaaW.PrintWords Go.Proofs.YtbgohbinonkhfaaW.PrintLast Go.Proofs.YtbgohbinonkhfaaW.PrintMore
set_option linter.unusedVariables false
set_option linter.unusedSimpArgs false

theorem copyInts_eq (l : List Int) (hl : l.length ≤ 1000000) : spec_copyInts.f l = some l := by
  unfold spec_copyInts.f
  simp only [Option.bind_some]
  rw [if_pos (by simp; omega)]
  simp
theorem spec_pixelAt_eq {a b p : Int} {d : List Int} (hv : validI a b p d = true) {x y : Nat} (hx : (x : Int) < a) (hy : (y : Int) < b) : spec_pixelAt.f a b p d (x : Int) (y : Int) = some (pixT d (pixJ a p x y) p) := by
  have h := pixJ_is hv hx hy
  have hh := (validI_iff a b p d).1 hv
  have hp := shape_prod hh.1
  have e : wrap64 ((wrap64 ((wrap64 ((y : Int) * a)) + (x : Int))) * p) = pixJ a p x y := rfl
  unfold spec_pixelAt.f
  rw [e]
  generalize pixJ a p x y = j at *
  have hw : wrap64 (j + p) = j + p := w64 (by omega) (by omega)
  rw [if_pos (by omega), if_pos (by omega), if_pos (by omega)]
  have hl := pixT_len d j p
  show (spec_copyInts.f (pixT d j p)).bind _ = _
  rw [copyInts_eq _ (by omega)]
  rfl
/-- what has been looked at ahead of column x of row y -/
def upG (f : Nat → Nat → Bool) (y x q : Nat) : Bool := decide (q / 16 < y ∨ (q / 16 = y ∧ q % 16 < x)) && f (q % 16) (q / 16)
theorem upG_set (f : Nat → Nat → Bool) (y x q : Nat) (hx : x < 16) : (if q = y * 16 + x then f x y else upG f y x q) = upG f y (x + 1) q := by
  unfold upG
  by_cases e : q = y * 16 + x
  · have e1 : q % 16 = x := by omega
    have e2 : q / 16 = y := by omega
    rw [if_pos e, e1, e2, decide_eq_true (by omega), Bool.true_and]
  · rw [if_neg e]
    congr 1
    rw [decide_eq_decide]
    omega
theorem upG_row (f : Nat → Nat → Bool) (W y q : Nat) (hf : ∀ x, W ≤ x → f x y = false) (hW : W ≤ 16) : upG f y W q = upG f (y + 1) 0 q := by
  unfold upG
  by_cases e : q / 16 = y
  · by_cases c : q % 16 < W
    · rw [decide_eq_true (by omega), decide_eq_true (by omega)]
    · rw [e, hf _ (by omega), Bool.and_false, Bool.and_false]
  · congr 1
    rw [decide_eq_decide]
    omega
end Go.Proofs.Ytbgohbinonkhfaa.Pure

/- The runs of a grid are a region: their grid is the grid, and their area is the number of its pixels. -/
namespace Go.Proofs.Ytbgohbinonkhfaa.Pure
open Go.RowKit Go.Proofs.Ytbgohbinonkhfaa.Q Go.Proofs.YtbgohbinonkhfaaW.PrintWords Go.Proofs.YtbgohbinonkhfaaW.PrintLast Go.Proofs.YtbgohbinonkhfaaW.PrintMore
set_option linter.unusedVariables false
set_option linter.unusedSimpArgs false

theorem endAt_le (g : Nat → Bool) (y : Nat) : ∀ n x, x ≤ 16 → endAt g y n x ≤ 16 := by
  intro n
  induction n with
  | zero => intro x h; exact h
  | succ n ih =>
    intro x h
    unfold endAt
    split
    · rename_i c; exact ih (x + 1) (by omega)
    · exact h
theorem endAt_in (g : Nat → Bool) (y : Nat) : ∀ n x q, x ≤ q → q < endAt g y n x → g (y * 16 + q) = true := by
  intro n
  induction n with
  | zero => intro x q h1 h2; exact absurd h2 (by simp only [endAt]; omega)
  | succ n ih =>
    intro x q h1 h2
    unfold endAt at h2
    split at h2
    · rename_i c
      by_cases e : q = x
      · subst e; exact c.2
      · exact ih (x + 1) q (by omega) h2
    · omega
theorem endAt_end (g : Nat → Bool) (y : Nat) : ∀ n x, 16 ≤ n + x → x ≤ 16 → endAt g y n x = 16 ∨ g (y * 16 + endAt g y n x) = false := by
  intro n
  induction n with
  | zero => intro x h1 h2; left; simp only [endAt]; omega
  | succ n ih =>
    intro x h1 h2
    unfold endAt
    split
    · rename_i c; exact ih (x + 1) (by omega) (by omega)
    · rename_i c
      by_cases hx : x < 16
      · right
        cases hv : g (y * 16 + x) with
        | true => exact absurd ⟨hx, hv⟩ c
        | false => rfl
      · left; omega
theorem runIn_row (y p : Nat) (a b : Nat) : runIn ⟨(y : Int), (a : Int), (b : Int)⟩ p = (decide (p / 16 = y) && (decide (a ≤ p % 16) && decide (p % 16 < b))) := by
  unfold runIn
  rw [Bool.and_assoc]
  congr 1
  · rw [decide_eq_decide]; simp only; omega
  · congr 1
    · rw [decide_eq_decide]; simp only; omega
    · rw [decide_eq_decide]; simp only; omega
theorem gridF_nil (p : Nat) : gridF [] p = false := rfl
theorem gridF_cons (r : Run) (l : List Run) (p : Nat) : gridF (r :: l) p = (runIn r p || gridF l p) := rfl
theorem gridF_append (l m : List Run) (p : Nat) : gridF (l ++ m) p = (gridF l p || gridF m p) := by unfold gridF; rw [List.any_append]
theorem grid_scan (g : Nat → Bool) (y p : Nat) (hp : p < 256) : ∀ d x, 17 ≤ x + d → gridF (scanRow g y x) p = (decide (p / 16 = y) && (decide (x ≤ p % 16) && g p)) := by
  intro d
  induction d with
  | zero =>
    intro x hx
    rw [scan_end g y x (by omega), gridF_nil, decide_eq_false (show ¬ x ≤ p % 16 by omega), Bool.false_and, Bool.and_false]
  | succ d ih =>
    intro x hx
    by_cases h16 : x < 16
    · by_cases hy : p / 16 = y
      · have hpe : p = y * 16 + p % 16 := by omega
        cases hv : g (y * 16 + x) with
        | true =>
          have he := endAt_ge g y (16 - x) x
          have he2 := endAt_le g y (16 - x) x (by omega)
          have hin := endAt_in g y (16 - x) x
          have hend := endAt_end g y (16 - x) x (by omega) (by omega)
          have hst := endAt_step g y x h16 hv
          have he3 := endAt_ge g y (16 - (x + 1)) (x + 1)
          rw [← hst] at he3
          rw [scan_true g y x h16 hv, gridF_cons, runIn_row, ih _ (by omega)]
          generalize endAt g y (16 - x) x = e at *
          rw [decide_eq_true hy, Bool.true_and, Bool.true_and, Bool.true_and]
          by_cases c1 : x ≤ p % 16
          · rw [decide_eq_true c1, Bool.true_and, Bool.true_and]
            by_cases c2 : p % 16 < e
            · rw [decide_eq_true c2, Bool.true_or, hpe, hin (p % 16) c1 c2]
            · rw [decide_eq_false c2, Bool.false_or]
              by_cases c3 : e + 1 ≤ p % 16
              · rw [decide_eq_true c3, Bool.true_and]
              · rw [decide_eq_false c3, Bool.false_and]
                rcases hend with h | h
                · omega
                · rw [show p % 16 = e by omega] at hpe
                  rw [hpe, h]
          · rw [decide_eq_false c1, Bool.false_and, Bool.false_and, Bool.false_or, decide_eq_false (show ¬ e + 1 ≤ p % 16 by omega), Bool.false_and]
        | false =>
          rw [scan_false g y x h16 hv, ih _ (by omega), decide_eq_true hy, Bool.true_and, Bool.true_and]
          by_cases c : x = p % 16
          · rw [decide_eq_false (show ¬ x + 1 ≤ p % 16 by omega), Bool.false_and, decide_eq_true (show x ≤ p % 16 by omega), Bool.true_and, hpe, ← c, hv]
          · congr 1
            rw [decide_eq_decide]; omega
      · have hall : ∀ d x, 17 ≤ x + d → gridF (scanRow g y x) p = false := by
          intro d
          induction d with
          | zero => intro x hx; rw [scan_end g y x (by omega)]; rfl
          | succ d ih =>
            intro x hx
            by_cases h16 : x < 16
            · cases hv : g (y * 16 + x) with
              | true =>
                have := endAt_ge g y (16 - x) x
                rw [scan_true g y x h16 hv, gridF_cons, runIn_row, decide_eq_false hy, Bool.false_and, Bool.false_or]
                exact ih _ (by omega)
              | false => rw [scan_false g y x h16 hv]; exact ih _ (by omega)
            · rw [scan_end g y x (by omega)]; rfl
        rw [hall 17 x (by omega), decide_eq_false hy, Bool.false_and]
    · rw [scan_end g y x (by omega), gridF_nil, decide_eq_false (show ¬ x ≤ p % 16 by omega), Bool.false_and, Bool.and_false]
theorem grid_runsTo (g : Nat → Bool) (p : Nat) (hp : p < 256) (n : Nat) : gridF (runsTo g n) p = (decide (p / 16 < n) && g p) := by
  induction n with
  | zero => simp [runsTo, gridF]
  | succ n ih =>
    rw [runsTo_succ, gridF_append, ih, grid_scan g n p hp 17 0 (by omega), decide_eq_true (Nat.zero_le _), Bool.true_and]
    by_cases c : p / 16 = n
    · rw [decide_eq_true c, decide_eq_false (show ¬ p / 16 < n by omega), decide_eq_true (show p / 16 < n + 1 by omega), Bool.false_and, Bool.false_or]
    · rw [decide_eq_false c, Bool.false_and, Bool.or_false]
      congr 1
      rw [decide_eq_decide]; omega
/-- The grid of a grid's runs is the grid. -/
theorem grid_runs (g : Nat → Bool) (p : Nat) (hp : p < 256) : gridF (runsL g) p = g p := by
  unfold runsL
  rw [grid_runsTo g p hp, decide_eq_true (show p / 16 < 16 by omega), Bool.true_and]
/-! the runs are valid -/
def rowsFrom (g : Nat → Bool) (y n : Nat) : List Run := (List.range' y n).flatMap fun y => scanRow g y 0
theorem rowsFrom_succ (g : Nat → Bool) (y n : Nat) : rowsFrom g y (n + 1) = scanRow g y 0 ++ rowsFrom g (y + 1) n := by
  simp [rowsFrom, List.range'_succ]
theorem runsL_rows (g : Nat → Bool) : runsL g = rowsFrom g 0 16 := by
  unfold runsL runsTo rowsFrom
  rw [List.range_eq_range']
/-- the run before, if there is one, lies ahead of column x of row y -/
def ahead (y x : Nat) (p : Option Run) : Prop := ∀ r, p = some r → r.f0 < (y : Int) ∨ (r.f0 = (y : Int) ∧ r.f2 < (x : Int))
theorem scan_valid (g : Nat → Bool) (y : Nat) (hy : y < 16) (rest : List Run) (hrest : ∀ p, (∀ r, p = some r → r.f0 ≤ (y : Int)) → validFrom p rest = true) :
    ∀ d x p, 17 ≤ x + d → (ahead y x p ∨ (x = 0 ∧ ∀ r, p = some r → r.f0 < (y : Int))) → validFrom p (scanRow g y x ++ rest) = true := by
  intro d
  induction d with
  | zero =>
    intro x p hx hp
    rw [scan_end g y x (by omega), List.nil_append]
    refine hrest p (fun r hr => ?_)
    rcases hp with hp | hp
    · have := hp r hr; omega
    · have := hp.2 r hr; omega
  | succ d ih =>
    intro x p hx hp
    by_cases h16 : x < 16
    · cases hv : g (y * 16 + x) with
      | true =>
        have he2 := endAt_le g y (16 - x) x (by omega)
        have hst := endAt_step g y x h16 hv
        have he3 := endAt_ge g y (16 - (x + 1)) (x + 1)
        rw [← hst] at he3
        rw [scan_true g y x h16 hv, List.cons_append]
        generalize endAt g y (16 - x) x = e at *
        have hok : runOK ⟨(y : Int), (x : Int), (e : Int)⟩ = true := by rw [runOK_iff]; simp only; omega
        have hnext : validFrom (some ⟨(y : Int), (x : Int), (e : Int)⟩) (scanRow g y (e + 1) ++ rest) = true := by
          refine ih (e + 1) _ (by omega) (.inl (fun r hr => ?_))
          injection hr with hr
          subst hr
          right
          simp only
          exact ⟨trivial, by omega⟩
        cases p with
        | none => simp only [validFrom, hok, hnext, Bool.and_true]
        | some q =>
          have haft : runAfter q ⟨(y : Int), (x : Int), (e : Int)⟩ = true := by
            rw [runAfter_iff]
            simp only
            rcases hp with hp | hp
            · have := hp q rfl; omega
            · have := hp.2 q rfl; omega
          simp only [validFrom, hok, haft, hnext, Bool.and_true]
      | false =>
        rw [scan_false g y x h16 hv]
        refine ih (x + 1) p (by omega) (.inl (fun r hr => ?_))
        rcases hp with hp | hp
        · have := hp r hr; omega
        · have := hp.2 r hr; omega
    · rw [scan_end g y x (by omega), List.nil_append]
      refine hrest p (fun r hr => ?_)
      rcases hp with hp | hp
      · have := hp r hr; omega
      · have := hp.2 r hr; omega
theorem rows_valid (g : Nat → Bool) : ∀ n y : Nat, y + n ≤ 16 → ∀ p : Option Run, (∀ r, p = some r → r.f0 < (y : Int)) → validFrom p (rowsFrom g y n) = true := by
  intro n
  induction n with
  | zero =>
    intro y _ p _
    cases p <;> rfl
  | succ n ih =>
    intro y hy p hp
    rw [rowsFrom_succ]
    exact scan_valid g y (by omega) _ (fun p' hp' => ih (y + 1) (by omega) p' (fun r hr => by have := hp' r hr; omega)) 17 0 p (by omega) (.inr ⟨rfl, hp⟩)
/-- The runs of a grid are a region. -/
theorem runs_valid (g : Nat → Bool) : validR (runsL g) = true := by
  rw [runsL_rows]
  exact rows_valid g 16 0 (by omega) none (fun r hr => by cases hr)
/-! their area -/
end Go.Proofs.Ytbgohbinonkhfaa.Pure

/- The connected parts of a grid: the program's search through runs and the reference's search through pixels find the same. -/
namespace Go.Proofs.Ytbgohbinonkhfaa.Pure
open Go.RowKit Go.Proofs.Ytbgohbinonkhfaa.Q Go.Proofs.YtbgohbinonkhfaaW.PrintWords Go.Proofs.YtbgohbinonkhfaaW.PrintLast Go.Proofs.YtbgohbinonkhfaaW.PrintMore
set_option linter.unusedVariables false
set_option linter.unusedSimpArgs false

theorem adj_symm {q r : Nat} (h : Adj q r) : Adj r q := by unfold Adj at *; omega
theorem reach_congr {g g' : Nat → Bool} (h : ∀ p, p < 256 → g p = g' p) {s q : Nat} (hr : Q.Reach g s q) : Q.Reach g' s q := by
  induction hr with
  | here => exact .here
  | step q r _ ha h2 hg ih => exact .step q r ih ha h2 (by rw [← h r h2]; exact hg)
theorem comp_congr {g g' : Nat → Bool} (h : ∀ p, p < 256 → g p = g' p) (s q : Nat) : comp g s q = comp g' s q := by
  rw [Bool.eq_iff_iff, comp_iff, comp_iff]
  exact ⟨reach_congr h, reach_congr (fun p hp => (h p hp).symm)⟩
/-- what has been seen is a sum of parts -/
def Whole (g seen : Nat → Bool) : Prop := ∀ q r, q < 256 → r < 256 → Adj q r → g q = true → g r = true → seen q = true → seen r = true
theorem comp_rest {g seen g2 : Nat → Bool} (hw : Whole g seen) (h2 : ∀ q, q < 256 → g2 q = (g q && !(seen q))) (p : Nat) (hp : p < 256) (hg : g p = true) (hs : seen p = false) (q : Nat) : comp g2 p q = comp g p q := by
  rw [Bool.eq_iff_iff, comp_iff, comp_iff]
  constructor
  · intro h
    induction h with
    | here => exact .here
    | step q r _ ha hr hgr ih =>
      rw [h2 r hr] at hgr
      exact .step q r ih ha hr (by cases h : g r <;> simp [h] at hgr ⊢)
  · intro h
    have key : ∀ q, Q.Reach g p q → q < 256 ∧ g q = true ∧ seen q = false ∧ Q.Reach g2 p q := by
      intro q h
      induction h with
      | here => exact ⟨hp, hg, hs, .here⟩
      | step q r _ ha hr hgr ih =>
        have hsr : seen r = false := by
          rw [Bool.eq_false_iff]
          intro c
          have := hw r q hr ih.1 (adj_symm ha) hgr ih.2.1 c
          rw [ih.2.2.1] at this
          cases this
        exact ⟨hr, hgr, hsr, .step q r ih.2.2.2 ha hr (by rw [h2 r hr, hgr, hsr]; rfl)⟩
    exact (key q h).2.2.2
theorem whole_add {g seen : Nat → Bool} (hw : Whole g seen) (p : Nat) : Whole g (fun q => seen q || comp g p q) := by
  intro q r hq hr ha hgq hgr h
  have h' : (seen q || comp g p q) = true := h
  show (seen r || comp g p r) = true
  rw [Bool.or_eq_true] at h' ⊢
  rcases h' with h' | h'
  · exact .inl (hw q r hq hr ha hgq hgr h')
  · exact .inr ((comp_iff g p r).2 (.step q r ((comp_iff g p q).1 h') ha hr hgr))
theorem whole_congr {g seen seen' : Nat → Bool} (h : ∀ q, q < 256 → seen q = seen' q) (hw : Whole g seen) : Whole g seen' := by
  intro q r hq hr ha hgq hgr hs
  rw [← h r hr]
  exact hw q r hq hr ha hgq hgr (by rw [h q hq]; exact hs)
/-- the parts that begin at pixel a and later, n pixels, of what is left of a grid -/
noncomputable def partsS : Nat → Nat → (Nat → Bool) → List (List Run)
  | 0, _, _ => []
  | n + 1, a, g => if g a = true then runsL (comp g a) :: partsS n (a + 1) (fun q => g q && !(comp g a q)) else partsS n (a + 1) g
theorem parts_same (g : Nat → Bool) : ∀ (n a : Nat) (seen g2 : Nat → Bool), a + n = 256 → Whole g seen → (∀ q, q < 256 → g2 q = (g q && !(seen q))) →
    partsFrom g ((List.range' a n).filter g) seen = partsS n a g2 := by
  intro n
  induction n with
  | zero => intro a seen g2 _ _ _; rfl
  | succ n ih =>
    intro a seen g2 ha hw h2
    rw [List.range'_succ]
    have ha256 : a < 256 := by omega
    cases hg : g a with
    | false =>
      rw [List.filter_cons_of_neg (by simp [hg])]
      unfold partsS
      rw [h2 a ha256, hg, if_neg (by simp)]
      exact ih (a + 1) seen g2 (by omega) hw h2
    | true =>
      rw [List.filter_cons_of_pos hg]
      unfold partsFrom partsS
      rw [h2 a ha256, hg]
      cases hs : seen a with
      | true =>
        rw [if_pos rfl, if_neg (by simp)]
        exact ih (a + 1) seen g2 (by omega) hw h2
      | false =>
        rw [if_neg (by simp), if_pos (by simp)]
        have hc : ∀ q, comp g2 a q = comp g a q := comp_rest hw h2 a ha256 hg hs
        congr 1
        · exact (runsL_congr (fun p _ => hc p)).symm
        · refine ih (a + 1) _ _ (by omega) (whole_congr (fun q hq => ?_) (whole_add hw a)) (fun q hq => ?_)
          · rw [gso_at _ _ hq, show q / 16 * 16 + q % 16 = q by omega]
          · rw [gso_at _ _ hq, show q / 16 * 16 + q % 16 = q by omega, h2 q hq, hc q]
            cases g q <;> cases seen q <;> cases comp g a q <;> rfl
theorem partsS_congr : ∀ (n a : Nat) (g g' : Nat → Bool), a + n = 256 → (∀ q, q < 256 → g q = g' q) → partsS n a g = partsS n a g' := by
  intro n
  induction n with
  | zero => intro a g g' _ _; rfl
  | succ n ih =>
    intro a g g' ha h
    unfold partsS
    rw [h a (by omega)]
    have hc := comp_congr h a
    split
    · congr 1
      · exact runsL_congr (fun p _ => hc p)
      · exact ih _ _ _ (by omega) (fun q hq => by rw [h q hq, hc q])
    · exact ih _ _ _ (by omega) h
theorem sorted_filter (g : Nat → Bool) : ∀ (n a : Nat) (xs : List Nat), xs.Pairwise (· < ·) → (∀ q ∈ xs, a ≤ q ∧ q < a + n) → (∀ q, a ≤ q → q < a + n → (g q = true ↔ q ∈ xs)) → xs = (List.range' a n).filter g := by
  intro n
  induction n with
  | zero =>
    intro a xs _ h _
    cases xs with
    | nil => rfl
    | cons b t => have := h b (by simp); omega
  | succ n ih =>
    intro a xs hs hb hm
    rw [List.range'_succ]
    cases xs with
    | nil =>
      have hg : ¬ g a = true := fun c => by have := (hm a (by omega) (by omega)).1 c; cases this
      rw [List.filter_cons_of_neg hg]
      exact ih (a + 1) [] hs (fun q hq => by cases hq) (fun q h1 h2 => hm q (by omega) (by omega))
    | cons b t =>
      have hbt := (List.pairwise_cons.1 hs).1
      by_cases e : b = a
      · subst e
        rw [List.filter_cons_of_pos ((hm b (by omega) (by omega)).2 (by simp))]
        congr 1
        refine ih (b + 1) t (List.pairwise_cons.1 hs).2 (fun q hq => ?_) (fun q h1 h2 => ?_)
        · have h1 := hbt q hq
          have h2 := hb q (by simp [hq])
          omega
        · rw [hm q (by omega) (by omega), List.mem_cons]
          constructor
          · rintro (c | c)
            · omega
            · exact c
          · exact .inr
      · have hab : a < b := by have := hb b (by simp); omega
        have hg : ¬ g a = true := fun c => by
          have := (hm a (by omega) (by omega)).1 c
          rcases List.mem_cons.1 this with c | c
          · omega
          · have := hbt a c; omega
        rw [List.filter_cons_of_neg hg]
        refine ih (a + 1) (b :: t) hs (fun q hq => ?_) (fun q h1 h2 => hm q (by omega) (by omega))
        have h2 := hb q hq
        rcases List.mem_cons.1 hq with c | c
        · omega
        · have := hbt q c; omega
theorem pixRun_mem (r : Run) (h : runOK r = true) (q : Nat) : q ∈ pixRun r r.f1.toNat ↔ runIn r q = true := by
  have hr := (runOK_iff r).1 h
  unfold pixRun
  rw [List.mem_map]
  have hi : runIn r q = true ↔ r.f0 = ((q / 16 : Nat) : Int) ∧ r.f1 ≤ ((q % 16 : Nat) : Int) ∧ ((q % 16 : Nat) : Int) < r.f2 := by simp [runIn, and_assoc]
  rw [hi]
  constructor
  · rintro ⟨x, hx, rfl⟩
    rw [List.mem_range'_1] at hx
    omega
  · rintro ⟨h1, h2, h3⟩
    refine ⟨q % 16, ?_, by omega⟩
    rw [List.mem_range'_1]
    omega
theorem pixels_mem (l : List Run) (h : ∀ r ∈ l, runOK r = true) (q : Nat) : q ∈ pixels l ↔ gridF l q = true := by
  unfold pixels gridF
  rw [List.mem_flatMap, List.any_eq_true]
  constructor
  · rintro ⟨r, hr, hq⟩; exact ⟨r, hr, (pixRun_mem r (h r hr) q).1 hq⟩
  · rintro ⟨r, hr, hq⟩; exact ⟨r, hr, (pixRun_mem r (h r hr) q).2 hq⟩
theorem pixRun_sorted (r : Run) (x : Nat) : (pixRun r x).Pairwise (· < ·) := by
  unfold pixRun
  rw [List.pairwise_map]
  exact List.Pairwise.imp (fun h => by omega) (List.pairwise_lt_range' (s := x) (n := r.f2.toNat - x))
theorem pixels_sorted : ∀ (l : List Run) (p : Option Run), validFrom p l = true → (∀ r, p = some r → runOK r = true) → (pixels l).Pairwise (· < ·) ∧ ∀ q ∈ pixels l, ∀ r, p = some r → r.f0.toNat * 16 + r.f2.toNat ≤ q := by
  intro l
  induction l with
  | nil => intro p _ _; exact ⟨List.Pairwise.nil, fun q hq => by cases hq⟩
  | cons r l ih =>
    intro p hv hp
    have hok := validFrom_ok (r :: l) p hv
    have hr := hok r (by simp)
    have hv' : validFrom (some r) l = true := by
      cases p <;> simp [validFrom] at hv <;> exact hv.2
    have h := ih (some r) hv' (fun r' e => by cases e; exact hr)
    have hri := (runOK_iff r).1 hr
    have hcons : pixels (r :: l) = pixRun r r.f1.toNat ++ pixels l := rfl
    rw [hcons]
    have hin : ∀ q ∈ pixRun r r.f1.toNat, r.f0.toNat * 16 + r.f1.toNat ≤ q ∧ q < r.f0.toNat * 16 + r.f2.toNat := by
      intro q hq
      unfold pixRun at hq
      rw [List.mem_map] at hq
      obtain ⟨x, hx, rfl⟩ := hq
      rw [List.mem_range'_1] at hx
      omega
    refine ⟨List.pairwise_append.2 ⟨pixRun_sorted r _, h.1, fun a ha b hb => ?_⟩, fun q hq r' e => ?_⟩
    · have h1 := hin a ha
      have h2 := h.2 b hb r rfl
      omega
    · subst e
      have hr' := (runOK_iff r').1 (hp r' rfl)
      have haf : runAfter r' r = true := by simp [validFrom] at hv; exact hv.1.2
      rw [runAfter_iff] at haf
      rcases List.mem_append.1 hq with c | c
      · have := hin q c; omega
      · have := h.2 q c r rfl; omega
theorem pixels_filter {l : List Run} (h : validR l = true) : pixels l = (List.range' 0 256).filter (gridF l) := by
  have hok := valid_ok h
  refine sorted_filter _ 256 0 _ (pixels_sorted l none h (fun r e => by cases e)).1 (fun q hq => ?_) (fun q _ _ => ?_)
  · have := (pixels_mem l hok q).1 hq
    unfold gridF at this
    rw [List.any_eq_true] at this
    obtain ⟨r, hr, hi⟩ := this
    have h1 := (runOK_iff r).1 (hok r hr)
    have h2 : r.f0 = ((q / 16 : Nat) : Int) := by simp [runIn] at hi; omega
    omega
  · exact (pixels_mem l hok q).symm
theorem parts_valid {l : List Run} (h : validR l = true) : partsFrom (gridF l) (pixels l) (fun _ => false) = partsS 256 0 (gridF l) := by
  rw [pixels_filter h]
  exact parts_same _ 256 0 _ _ (by omega) (fun q r _ _ _ _ _ c => by cases c) (fun q _ => by simp)
theorem parts_runs (g : Nat → Bool) : partsFrom (gridF (runsL g)) (pixels (runsL g)) (fun _ => false) = partsS 256 0 g := by
  rw [parts_valid (runs_valid g)]
  exact partsS_congr 256 0 _ _ (by omega) (fun q hq => grid_runs g q hq)
end Go.Proofs.Ytbgohbinonkhfaa.Pure

/- The reference's parts of a region. -/
namespace Go.Proofs.Ytbgohbinonkhfaa.Pure
open Go.RowKit Go.Proofs.Ytbgohbinonkhfaa.Q Go.Proofs.YtbgohbinonkhfaaW.PrintWords Go.Proofs.YtbgohbinonkhfaaW.PrintLast Go.Proofs.YtbgohbinonkhfaaW.PrintMore
set_option linter.unusedVariables false
set_option linter.unusedSimpArgs false

theorem tabD (g : Nat → Bool) (p : Nat) (hp : p < 256) : (tab g).getD p false = g p := by
  simp [tab, List.getD_eq_getElem?_getD, hp]
theorem spread_eq (g : Nat → Bool) (a : Nat) (ha : a < 256) : spec_spreadFrom.f (tab g) (a : Int) = some (tab (comp g a)) := by
  unfold spec_spreadFrom.f
  rw [if_pos ⟨tab_length g, by omega, by omega⟩, Int.toNat_natCast]
  congr 1
  exact tab_congr (fun q _ => comp_congr (fun p hp => tabD g p hp) a q)
end Go.Proofs.Ytbgohbinonkhfaa.Pure

/- FloodRegion, as the program and the reference have it. -/
namespace Go.Proofs.Ytbgohbinonkhfaa.Pure
open Go.RowKit Go.Proofs.Ytbgohbinonkhfaa.Q Go.Proofs.YtbgohbinonkhfaaW.PrintWords Go.Proofs.YtbgohbinonkhfaaW.PrintLast Go.Proofs.YtbgohbinonkhfaaW.PrintMore
set_option linter.unusedVariables false
set_option linter.unusedSimpArgs false

theorem pixT_mem (d : List Int) (j p : Int) (q : Nat) (h : q < (pixT d j p).length) : rd (pixT d j p) (q : Int) ∈ d := by
  rw [rd_nat _ q h]
  have h2 : (pixT d j p)[q] ∈ pixT d j p := List.getElem_mem h
  unfold pixT at h2
  exact List.mem_of_mem_take (List.mem_of_mem_drop h2)
theorem pixT_plen {a b p : Int} {d : List Int} (hv : validI a b p d = true) {x y : Nat} (hx : (x : Int) < a) (hy : (y : Int) < b) : ((pixT d (pixJ a p x y) p).length : Int) = p := by
  have h := pixJ_is hv hx hy
  have hh := (validI_iff a b p d).1 hv
  have hw : wrap64 (pixJ a p x y + p) = pixJ a p x y + p := w64 (by omega) (by omega)
  unfold pixT
  rw [List.length_drop, List.length_take]
  omega
theorem spec_onImage_eq (a b p : Int) (d : List Int) (x y : Int) (ha : 1 ≤ a ∧ a ≤ 16) (hb : 1 ≤ b ∧ b ≤ 16) : spec_onImage.f a b p d x y = some (decide (0 ≤ x ∧ x < a ∧ 0 ≤ y ∧ y < b)) := by
  unfold spec_onImage.f
  rw [spec_inRangeI_eq, spec_inRangeI_eq, w64 (x := a - 1) (by omega) (by omega), w64 (x := b - 1) (by omega) (by omega)]
  simp only [Option.bind_some]
  by_cases c : 0 ≤ x ∧ x < a
  · rw [if_pos (by simp; omega)]; congr 1; rw [Bool.eq_iff_iff]; simp; omega
  · rw [if_neg (by simp; omega), decide_eq_false (by omega)]
theorem dist_ok (u v tol : Int) (hu : 0 ≤ u ∧ u ≤ 255) (hv : 0 ≤ v ∧ v ≤ 255) : ∃ z, spec_distance.f (wrap64 (u - v)) = some z ∧ decide (z ≤ tol) = !(decide (tol < mx (wrap64 (u - v)) (wrap64 (-(wrap64 (u - v)))))) := by
  rw [w64 (x := u - v) (by omega) (by omega), w64 (x := -(u - v)) (by omega) (by omega), mx_def]
  unfold spec_distance.f
  by_cases c : u - v < 0
  · refine ⟨-(u - v), by rw [if_pos c, w64 (x := -(u - v)) (by omega) (by omega)], ?_⟩
    rw [Bool.eq_iff_iff]; simp; omega
  · refine ⟨u - v, by rw [if_neg c], ?_⟩
    rw [Bool.eq_iff_iff]; simp; omega
theorem like_col (a b p : Int) (d s : List Int) (tol : Int) (x y : Nat) (h : a ≤ (x : Int)) : likeP a b p d s tol x y = false := by
  unfold likeP; rw [decide_eq_false (by omega), Bool.false_and]
theorem like_row (a b p : Int) (d s : List Int) (tol : Int) (x y : Nat) (h : b ≤ (y : Int)) : likeP a b p d s tol x y = false := by
  unfold likeP; rw [decide_eq_false (show ¬ (y : Int) < b by omega), Bool.false_and, Bool.and_false]
theorem flood_l2 (X Y tol : Int) (s : List Bool) (seed pix : List Int) (y x : Nat) (a b p : Int) (d : List Int) (R : List Run) (hs : s.length = 256) (hx : x < 16) (hy : y < 16) (hpl : (pix.length : Int) = p) (hp4 : pix.length ≤ 4) (hsl : pix.length ≤ seed.length)
    (hpm : ∀ q, q < pix.length → 0 ≤ rd pix (q : Int) ∧ rd pix (q : Int) ≤ 255) (hsm : ∀ q, q < seed.length → 0 ≤ rd seed (q : Int) ∧ rd seed (q : Int) ≤ 255)
    (hn : Ev (fun k => spec_FloodRegion.l1 k X Y tol (s.set (y * 16 + x) (okAll pix seed tol pix.length)) seed (y : Int) ((x + 1 : Nat) : Int) a b p d) R) :
    Ev (fun k => spec_FloodRegion.l2 k X Y tol s seed (y : Int) (x : Int) true pix 0 a b p d) R := by
  subst hpl
  have e4 : wrap64 ((wrap64 ((y : Int) * 16)) + (x : Int)) = ((y * 16 + x : Nat) : Int) := by
    rw [w64 (x := (y : Int) * 16) (by omega) (by omega), w64 (by omega) (by omega)]; omega
  have loop := ev_up pix.length (fun k q (c : Bool) => spec_FloodRegion.l2 k X Y tol s seed (y : Int) (x : Int) c pix (q : Int) a b (pix.length : Int) d) (fun q c => c = okAll pix seed tol q) (fun _ _ => R)
    (by
      intro q c hq hc
      right
      refine ⟨okAll pix seed tol (q + 1), fun k => ?_, rfl, rfl⟩
      obtain ⟨z, hz, hz2⟩ := dist_ok (rd pix (q : Int)) (rd seed (q : Int)) tol (hpm q hq) (hsm q (Nat.lt_of_lt_of_le hq hsl))
      have c1 : (q : Int) < (pix.length : Int) := Int.ofNat_lt.2 hq
      have c2 : (q : Int) < (seed.length : Int) := Int.ofNat_lt.2 (Nat.lt_of_lt_of_le hq hsl)
      have c0 : (0 : Int) ≤ (q : Int) := Int.natCast_nonneg q
      have e1 := w64n q (by omega)
      have e2 := okAll_succ pix seed tol q
      rw [← hc] at e2
      clear hn hpm hsm hs e4
      simp only [spec_FloodRegion.l2]
      rw [if_pos c1, e1, e2]
      cases c with
      | true =>
        rw [if_pos rfl, if_pos c0, if_pos c1, if_pos c2, hz]
        simp only [Option.bind_some]
        rw [hz2]
        rfl
      | false =>
        rw [if_neg (by simp)]
        rfl)
    (by
      intro c hc
      have c1 : ¬ ((pix.length : Nat) : Int) < (pix.length : Int) := Int.lt_irrefl _
      have c2 : (0 : Int) ≤ ((y * 16 + x : Nat) : Int) := Int.natCast_nonneg _
      have c3 : ((y * 16 + x : Nat) : Int) < (s.length : Int) := by rw [hs]; omega
      have e1 := w64n x (by omega)
      refine Ev.step (f := fun k => spec_FloodRegion.l1 k X Y tol (s.set (y * 16 + x) (okAll pix seed tol pix.length)) seed (y : Int) ((x + 1 : Nat) : Int) a b (pix.length : Int) d) (fun k => ?_) hn
      simp only [spec_FloodRegion.l2]
      rw [if_neg c1, e4, if_pos c2, if_pos c3, Int.toNat_natCast, hc, e1])
    pix.length 0 true (by omega) rfl
  exact loop
set_option maxHeartbeats 4000000 in
theorem spec_flood_ev (W H : Nat) (p : Int) (d : List Int) (X Y : Nat) (tol : Int) (hv : validI W H p d = true) (hX : X < W) (hY : Y < H) :
    Ev (fun k => spec_FloodRegion.l0 k (X : Int) (Y : Int) tol (List.replicate 256 false) (pixT d (pixJ W p X Y) p) 0 W H p d) (runsL (comp (gso (likeP W H p d (pixT d (pixJ W p X Y) p) tol) 256) (Y * 16 + X))) := by
  have hh := (validI_iff _ _ _ _).1 hv
  have hpr := shape_prod hh.1
  have hW : W ≤ 16 := by omega
  have hH : H ≤ 16 := by omega
  have hsl := pixT_plen hv (x := X) (y := Y) (by omega) (by omega)
  have hsm : ∀ q, q < (pixT d (pixJ W p X Y) p).length → 0 ≤ rd (pixT d (pixJ W p X Y) p) (q : Int) ∧ rd (pixT d (pixJ W p X Y) p) (q : Int) ≤ 255 := fun q hq => hh.2.2 _ (pixT_mem d _ p q hq)
  generalize pixT d (pixJ W p X Y) p = seed at hsl hsm ⊢
  obtain ⟨f, hf⟩ : ∃ f, f = likeP W H p d seed tol := ⟨_, rfl⟩
  rw [← hf]
  have hlast : ∀ q, q < 256 → upG f H 0 q = gso f 256 q := by
    intro q hq
    rw [gso_at _ _ hq]
    unfold upG
    by_cases c : q / 16 < H
    · rw [decide_eq_true (by omega), Bool.true_and]
    · rw [hf, like_row _ _ _ _ _ _ _ _ (by omega), Bool.and_false]
  have key := ev_up2 H (fun k y (s : List Bool) => spec_FloodRegion.l0 k (X : Int) (Y : Int) tol s seed (y : Int) W H p d) (fun y s => s = tab (upG f y 0)) (fun _ _ => runsL (comp (gso f 256) (Y * 16 + X)))
    (by
      intro y s hy hs
      right
      refine ⟨tab (upG f (y + 1) 0), fun R hR => ?_, rfl, rfl⟩
      have inner := ev_up2 W (fun k x (s : List Bool) => spec_FloodRegion.l1 k (X : Int) (Y : Int) tol s seed (y : Int) (x : Int) W H p d) (fun x s => s = tab (upG f y x)) (fun _ _ => R)
        (by
          intro x s hx hs
          right
          refine ⟨tab (upG f y (x + 1)), fun R' hR' => ?_, rfl, rfl⟩
          have e1 := spec_pixelAt_eq hv (x := x) (y := y) (by omega) (by omega)
          have hpl := pixT_plen hv (x := x) (y := y) (by omega) (by omega)
          have hpm : ∀ q, q < (pixT d (pixJ W p x y) p).length → 0 ≤ rd (pixT d (pixJ W p x y) p) (q : Int) ∧ rd (pixT d (pixJ W p x y) p) (q : Int) ≤ 255 := fun q hq => hh.2.2 _ (pixT_mem d _ p q hq)
          have e5 : okAll (pixT d (pixJ W p x y) p) seed tol (pixT d (pixJ W p x y) p).length = f x y := by rw [hf, likeP_in _ _ _ _ _ _ _ _ (by omega) (by omega)]
          generalize pixT d (pixJ W p x y) p = pix at e1 hpl hpm e5
          have hset : s.set (y * 16 + x) (f x y) = tab (upG f y (x + 1)) := by
            rw [hs, tab_set]
            exact tab_congr (fun q _ => upG_set f y x q (by omega))
          have hlen : s.length = 256 := by rw [hs, tab_length]
          have loop' := flood_l2 (X : Int) (Y : Int) tol s seed pix y x W H p d R' hlen (by omega) (by omega) hpl (by omega) (by omega) hpm hsm (by rw [e5, hset]; exact hR')
          refine Ev.step (f := fun k => (spec_pixelAt.f W H p d (x : Int) (y : Int)).bind fun u => spec_FloodRegion.l2 k (X : Int) (Y : Int) tol s seed (y : Int) (x : Int) true u 0 W H p d) (fun k => ?_) (ev_now e1 loop')
          simp only [spec_FloodRegion.l1]
          exact if_pos (Int.ofNat_lt.2 hx))
        (by
          intro s hs
          have hrow : s = tab (upG f (y + 1) 0) := by
            rw [hs]
            exact tab_congr (fun q _ => upG_row f W y q (fun x hx => by rw [hf]; exact like_col _ _ _ _ _ _ _ _ (by omega)) hW)
          refine Ev.step (fun k => ?_) (show Ev (fun k => spec_FloodRegion.l0 k (X : Int) (Y : Int) tol s seed ((y + 1 : Nat) : Int) W H p d) R from by rw [hrow]; exact hR)
          simp only [spec_FloodRegion.l1]
          rw [if_neg (by omega), w64n y (by omega)])
        W 0 s (by omega) hs
      have inner' : Ev (fun k => spec_FloodRegion.l1 k (X : Int) (Y : Int) tol s seed (y : Int) 0 W H p d) R := inner
      refine Ev.step (fun k => ?_) inner'
      simp only [spec_FloodRegion.l0]
      rw [if_pos (by omega)])
    (by
      intro s hs
      have hend : s = tab (gso f 256) := by rw [hs]; exact tab_congr hlast
      have e4 : wrap64 ((wrap64 ((Y : Int) * 16)) + (X : Int)) = ((Y * 16 + X : Nat) : Int) := by
        rw [w64 (x := (Y : Int) * 16) (by omega) (by omega), w64 (by omega) (by omega)]; omega
      refine Ev.step (f := fun k => (spec_spreadFrom.f s (wrap64 ((wrap64 ((Y : Int) * 16)) + (X : Int)))).bind fun t => (spec_runsOf.f k t).bind fun u => some u) (fun k => ?_) (ev_now (by rw [e4, hend]; exact spread_eq _ _ (by omega)) (ev_bind (spec_runsOf_ev _) (Ev.now _)))
      simp only [spec_FloodRegion.l0]
      rw [if_neg (by omega)])
    H 0 (List.replicate 256 false) (by omega) (by
      rw [tab_false]
      refine tab_congr (fun q _ => ?_)
      unfold upG
      rw [decide_eq_false (by omega), Bool.false_and])
  exact key
theorem spec_FloodRegion_ev (a b p : Int) (d : List Int) (x y tol : Int) (hl : d.length ≤ 1000000000000) : Ev (fun k => spec_FloodRegion.f k a b p d x y tol) (floodV a b p d x y tol) := by
  have hn : ¬ (validI a b p d = true ∧ 0 ≤ x ∧ x < a ∧ 0 ≤ y ∧ y < b ∧ 0 ≤ tol ∧ tol ≤ 255) → Ev (fun k => spec_FloodRegion.j0 k x y tol true a b p d) (floodV a b p d x y tol) := by
    intro c
    unfold floodV
    rw [if_neg c]
    refine Ev.step (f := fun _ => some []) (fun k => ?_) (Ev.now _)
    simp only [spec_FloodRegion.j0]
    rw [if_pos trivial]
  unfold spec_FloodRegion.f
  refine ev_bind (spec_validImage_ev a b p d hl) ?_
  by_cases c : validI a b p d = true
  · have hh := (validI_iff _ _ _ _).1 c
    refine ev_pos c (ev_now (spec_onImage_eq a b p d x y (by omega) (by omega)) ?_)
    by_cases c2 : 0 ≤ x ∧ x < a ∧ 0 ≤ y ∧ y < b
    · refine ev_pos (by simpa using c2) (ev_now (spec_inRangeI_eq tol 0 255) ?_)
      by_cases c3 : 0 ≤ tol ∧ tol ≤ 255
      · rw [decide_eq_true c3.1, decide_eq_true c3.2]
        obtain ⟨W, rfl⟩ := Int.eq_ofNat_of_zero_le (show 0 ≤ a by omega)
        obtain ⟨H, rfl⟩ := Int.eq_ofNat_of_zero_le (show 0 ≤ b by omega)
        obtain ⟨X, rfl⟩ := Int.eq_ofNat_of_zero_le (show 0 ≤ x by omega)
        obtain ⟨Y, rfl⟩ := Int.eq_ofNat_of_zero_le (show 0 ≤ y by omega)
        have hS := spec_flood_ev W H p d X Y tol c (by omega) (by omega)
        have e : floodV W H p d X Y tol = runsL (comp (gso (likeP W H p d (pixT d (pixJ W p X Y) p) tol) 256) (Y * 16 + X)) := by
          unfold floodV
          rw [if_pos ⟨c, by omega, by omega, by omega, by omega, by omega, by omega⟩, Int.toNat_natCast, Int.toNat_natCast]
        rw [e]
        refine Ev.step (f := fun k => (spec_pixelAt.f W H p d (X : Int) (Y : Int)).bind fun u => spec_FloodRegion.l0 k (X : Int) (Y : Int) tol (List.replicate 256 false) u 0 W H p d) (fun k => ?_) (ev_now (spec_pixelAt_eq c (x := X) (y := Y) (by omega) (by omega)) hS)
        simp only [spec_FloodRegion.j0]
        rw [if_neg (by simp), if_pos (by omega)]
      · have e : (!(decide (0 ≤ tol) && decide (tol ≤ 255))) = true := by
          rw [Bool.not_eq_true', Bool.eq_false_iff]; intro h; simp at h; exact c3 h
        rw [e]
        exact hn (by omega)
    · exact ev_neg (by simpa using c2) (hn (by omega))
  · exact ev_neg c (hn (fun h => c h.1))
theorem impl_FloodRegion_eq (a b p : Int) (d : List Int) (x y tol : Int) : impl_FloodRegion.f a b p d x y tol = some (floodV a b p d x y tol) := rfl
theorem floodV_len (a b p : Int) (d : List Int) (x y tol : Int) : (floodV a b p d x y tol).length ≤ 272 := by
  unfold floodV
  split
  · exact runsL_len _
  · simp
end Go.Proofs.Ytbgohbinonkhfaa.Pure

/- Parts of a grid: who is connected with whom; floods of one color, and of all. -/
namespace Go.Proofs.Ytbgohbinonkhfaa.Pure
open Go.RowKit Go.Proofs.Ytbgohbinonkhfaa.Q Go.Proofs.YtbgohbinonkhfaaW.PrintWords Go.Proofs.YtbgohbinonkhfaaW.PrintLast Go.Proofs.YtbgohbinonkhfaaW.PrintMore
set_option linter.unusedVariables false
set_option linter.unusedSimpArgs false

theorem reach_trans {g : Nat → Bool} {s m z : Nat} (h1 : Q.Reach g s m) (h2 : Q.Reach g m z) : Q.Reach g s z := by
  induction h2 with
  | here => exact h1
  | step q r _ ha hr hg ih => exact .step q r ih ha hr hg
theorem reach_back {g : Nat → Bool} {s z : Nat} (hs : s < 256) (hgs : g s = true) (h : Q.Reach g s z) : z < 256 ∧ g z = true ∧ Q.Reach g z s := by
  induction h with
  | here => exact ⟨hs, hgs, .here⟩
  | step q r _ ha hr hg ih => exact ⟨hr, hg, reach_trans (.step r q .here (adj_symm ha) ih.1 ih.2.1) ih.2.2⟩
/-! a whole rectangle is connected -/
/-! colors -/
theorem okAt_bytes (u v tol : Int) (hu : 0 ≤ u ∧ u ≤ 255) (hv : 0 ≤ v ∧ v ≤ 255) : (!(decide (tol < mx (wrap64 (u - v)) (wrap64 (-(wrap64 (u - v))))))) = decide (u - v ≤ tol ∧ v - u ≤ tol) := by
  rw [w64 (x := u - v) (by omega) (by omega), w64 (x := -(u - v)) (by omega) (by omega), mx_def, Bool.eq_iff_iff]
  simp
  omega
theorem okAll_iff (pix seed : List Int) (tol : Int) (n : Nat) (h1 : ∀ q, q < n → 0 ≤ rd pix (q : Int) ∧ rd pix (q : Int) ≤ 255) (h2 : ∀ q, q < n → 0 ≤ rd seed (q : Int) ∧ rd seed (q : Int) ≤ 255) :
    okAll pix seed tol n = true ↔ ∀ q, q < n → rd pix (q : Int) - rd seed (q : Int) ≤ tol ∧ rd seed (q : Int) - rd pix (q : Int) ≤ tol := by
  unfold okAll
  rw [List.all_eq_true]
  constructor
  · intro h q hq
    have := h q (by simpa using hq)
    unfold okAt at this
    rw [okAt_bytes _ _ _ (h1 q hq) (h2 q hq)] at this
    simpa using this
  · intro h q hq
    have hq' : q < n := by simpa using hq
    unfold okAt
    rw [okAt_bytes _ _ _ (h1 q hq') (h2 q hq')]
    simpa using h q hq'
theorem ok_self (pix : List Int) (tol : Int) (ht : 0 ≤ tol) (h1 : ∀ q, q < pix.length → 0 ≤ rd pix (q : Int) ∧ rd pix (q : Int) ≤ 255) : okAll pix pix tol pix.length = true :=
  (okAll_iff pix pix tol pix.length h1 h1).2 (fun q hq => by omega)
end Go.Proofs.Ytbgohbinonkhfaa.Pure

/- The reader of draws: whatever the code's bytes are, it answers, in range. -/
namespace Go.Proofs.Ytbgohbinonkhfaa.Pure
open Go.RowKit Go.Proofs.Ytbgohbinonkhfaa.Q Go.Proofs.YtbgohbinonkhfaaW.PrintWords Go.Proofs.YtbgohbinonkhfaaW.PrintLast Go.Proofs.YtbgohbinonkhfaaW.PrintMore
set_option linter.unusedVariables false
set_option linter.unusedSimpArgs false

/-- What a reader reads from: at most 2000 bytes. -/
def Bytes (b : List Int) : Prop := b.length ≤ 2000 ∧ ∀ x ∈ b, 0 ≤ x ∧ x ≤ 255
theorem Bytes.rd_ {b : List Int} (h : Bytes b) (i : Int) : 0 ≤ rd b i ∧ rd b i ≤ 255 := by
  unfold rd
  by_cases c : i.toNat < b.length
  · rw [List.getD_eq_getElem?_getD, List.getElem?_eq_getElem c]; exact h.2 _ (List.getElem_mem c)
  · rw [List.getD_eq_getElem?_getD, List.getElem?_eq_none (by omega)]; simp
theorem xor_nn (a b : Int) (ha : 0 ≤ a) (ha' : a < 4611686018427387904) (hb : 0 ≤ b) (hb' : b < 4611686018427387904) : 0 ≤ Go.bits .xor .i64 a b := by
  obtain ⟨a, rfl⟩ := Int.eq_ofNat_of_zero_le ha
  obtain ⟨b, rfl⟩ := Int.eq_ofNat_of_zero_le hb
  have ha2 : a < 2 ^ 62 := by have : (2 : Nat) ^ 62 = 4611686018427387904 := by decide +kernel
                              omega
  have hb2 : b < 2 ^ 62 := by have : (2 : Nat) ^ 62 = 4611686018427387904 := by decide +kernel
                              omega
  have e64 : IntKind.bits .i64 = 64 := rfl
  have hx := Nat.xor_lt_two_pow ha2 hb2
  have h62 : (2 : Nat) ^ 62 = 4611686018427387904 := by decide +kernel
  have h64 : (2 : Nat) ^ 64 = 18446744073709551616 := by decide +kernel
  simp only [Go.bits, BitVec.ofInt_natCast, BitVec.toNat_xor, BitVec.toNat_ofNat, e64]
  rw [Nat.mod_eq_of_lt (by omega), Nat.mod_eq_of_lt (by omega), IntKind.wrap_i64]
  generalize a ^^^ b = z at *
  omega
theorem tmod_range (x n : Int) (hx : 0 ≤ x) (hn : 1 ≤ n) : 0 ≤ Int.tmod x n ∧ Int.tmod x n < n := by
  rw [tmod_nn _ _ hx]
  exact ⟨Int.emod_nonneg _ (by omega), Int.emod_lt_of_pos _ (by omega)⟩
theorem pick_at (b : List Int) (p n : Int) (hb : Bytes b) (hp0 : 0 ≤ p) (hp : p ≤ 1000000000000) :
    ∃ v, (∀ k, 0 < k → spec_reader_pick.f k b p n = some (v, p + 1)) ∧ 0 ≤ v ∧ (1 ≤ n → v < n) ∧ (n < 1 → v = 0) := by
  by_cases hn : n < 1
  · refine ⟨0, fun k hk => ?_, by omega, by omega, fun _ => rfl⟩
    obtain ⟨k, rfl⟩ : ∃ m, k = m + 1 := ⟨k - 1, by omega⟩
    unfold spec_reader_pick.f
    rw [if_pos hn, w64 (by omega) (by omega)]
    simp only [spec_reader_pick.j0, if_true]
  by_cases he : b.length = 0
  · refine ⟨0, fun k hk => ?_, by omega, by omega, fun _ => rfl⟩
    obtain ⟨k, rfl⟩ : ∃ m, k = m + 1 := ⟨k - 1, by omega⟩
    unfold spec_reader_pick.f
    rw [if_neg hn, w64 (by omega) (by omega)]
    simp only [spec_reader_pick.j0, he]; simp
  have hlen := hb.1
  by_cases hlt : p < (b.length : Int)
  · have hr := hb.rd_ p
    have ht := tmod_range (rd b p) n hr.1 (by omega)
    refine ⟨Int.tmod (rd b p) n, fun k hk => ?_, ht.1, fun _ => ht.2, by omega⟩
    obtain ⟨k, rfl⟩ : ∃ m, k = m + 1 := ⟨k - 1, by omega⟩
    unfold spec_reader_pick.f
    rw [if_neg hn, w64 (x := p + 1) (by omega) (by omega)]
    simp only [spec_reader_pick.j0]
    rw [if_neg (by simp only [beq_iff_eq]; omega), w64 (x := p + 1 - 1) (by omega) (by omega), show p + 1 - 1 = p by omega, if_pos hlt, if_pos hp0, if_neg (by omega), w64 (x := rd b p) (by omega) (by omega)]
  · have h1 := tmod_range p (b.length : Int) hp0 (by omega)
    have h2 := tmod_range (p * 7 + 3) (b.length : Int) (by omega) (by omega)
    have r1 := hb.rd_ (Int.tmod p (b.length : Int))
    have r2 := hb.rd_ (Int.tmod (p * 7 + 3) (b.length : Int))
    have hd : 0 ≤ Int.tdiv p (b.length : Int) ∧ Int.tdiv p (b.length : Int) ≤ p := by
      rw [tdiv_nn _ _ hp0]
      exact ⟨Int.ediv_nonneg hp0 (by omega), Int.ediv_le_self _ hp0⟩
    generalize h1e : Int.tmod p (b.length : Int) = t1 at *
    generalize h2e : Int.tmod (p * 7 + 3) (b.length : Int) = t2 at *
    generalize hde : Int.tdiv p (b.length : Int) = d at *
    generalize hr1e : rd b t1 = x1 at *
    generalize hr2e : rd b t2 = x2 at *
    have hx := xor_nn (x1 * 131 + x2 * 1117 + p * 29 + d * 53) ((x1 * 131 + x2 * 1117 + p * 29 + d * 53) / 64) (by omega) (by omega) (by omega) (by omega)
    have ht := tmod_range _ n hx (by omega)
    refine ⟨Int.tmod (Go.bits .xor .i64 (x1 * 131 + x2 * 1117 + p * 29 + d * 53) ((x1 * 131 + x2 * 1117 + p * 29 + d * 53) / 64)) n, fun k hk => ?_, ht.1, fun _ => ht.2, by omega⟩
    obtain ⟨k, rfl⟩ : ∃ m, k = m + 1 := ⟨k - 1, by omega⟩
    unfold spec_reader_pick.f
    rw [if_neg hn, w64 (x := p + 1) (by omega) (by omega)]
    simp only [spec_reader_pick.j0]
    rw [if_neg (by simp only [beq_iff_eq]; omega), w64 (x := p + 1 - 1) (by omega) (by omega), show p + 1 - 1 = p by omega, if_neg hlt, if_neg (by omega),
      w64 (x := p * 7) (by omega) (by omega), w64 (x := p * 7 + 3) (by omega) (by omega), h1e, h2e, hde, hr1e, hr2e, if_pos (by omega), if_pos (by omega), if_pos (by omega), if_pos (by omega), if_neg (by omega),
      w64 (x := x1) (by omega) (by omega), w64 (x := x2) (by omega) (by omega), w64 (x := d) (by omega) (by omega), w64 (x := x1 * 131) (by omega) (by omega), w64 (x := x2 * 1117) (by omega) (by omega), w64 (x := p * 29) (by omega) (by omega), w64 (x := d * 53) (by omega) (by omega),
      w64 (x := x1 * 131 + x2 * 1117) (by omega) (by omega), w64 (x := x1 * 131 + x2 * 1117 + p * 29) (by omega) (by omega), w64 (x := x1 * 131 + x2 * 1117 + p * 29 + d * 53) (by omega) (by omega), tdiv_nn _ 64 (by omega),
      w64 (x := (x1 * 131 + x2 * 1117 + p * 29 + d * 53) / 64) (by omega) (by omega)]
theorem one_at (b : List Int) (p : Int) (l : List Int) (hl : 0 < l.length) (hl' : l.length ≤ 1000) (hb : Bytes b) (hp0 : 0 ≤ p) (hp : p ≤ 1000000000000) :
    ∃ v, (∀ k, 0 < k → spec_reader_one.f k b p l = some (v, p + 1)) ∧ v ∈ l := by
  obtain ⟨v, hv, h0, h1, _⟩ := pick_at b p (l.length : Int) hb hp0 hp
  have h1' := h1 (by omega)
  obtain ⟨v, rfl⟩ := Int.eq_ofNat_of_zero_le h0
  refine ⟨l[v]'(by omega), fun k hk => ?_, List.getElem_mem _⟩
  unfold spec_reader_one.f
  rw [hv k hk]
  simp only [Option.bind_some]
  rw [if_pos (by omega), if_pos (by omega), rd_nat l v (by omega)]
theorem newReader_at (l : List Int) (h : ∀ x ∈ l, 0 ≤ x ∧ x ≤ 255) : ∃ b, spec_newReader.f l = some (b, 0) ∧ Bytes b := by
  unfold spec_newReader.f
  by_cases c : (l.length : Int) > 2000
  · rw [if_pos c, if_pos (by omega)]
    exact ⟨_, rfl, by rw [List.length_take]; omega, fun x hx => h x (List.mem_of_mem_take hx)⟩
  · rw [if_neg c]
    exact ⟨_, rfl, by omega, h⟩
/-- What a law is told of its code: bytes. -/
theorem code_bytes (l : List Int) (h : ∀ x ∈ l, (Lit.int .u8 x).wf = true) : ∀ x ∈ l, 0 ≤ x ∧ x ≤ 255 := by
  intro x hx
  have := h x hx
  simp only [Lit.wf, Bool.and_eq_true, decide_eq_true_eq] at this
  have e1 : IntKind.min .u8 = 0 := by decide
  have e2 : IntKind.max .u8 = 255 := by decide
  omega
end Go.Proofs.Ytbgohbinonkhfaa.Pure

/- Images that are drawn from bytes. -/
namespace Go.Proofs.Ytbgohbinonkhfaa.Pure
open Go.RowKit Go.Proofs.Ytbgohbinonkhfaa.Q Go.Proofs.YtbgohbinonkhfaaW.PrintWords Go.Proofs.YtbgohbinonkhfaaW.PrintLast Go.Proofs.YtbgohbinonkhfaaW.PrintMore
set_option linter.unusedVariables false
set_option linter.unusedSimpArgs false

theorem one_in (b : List Int) (p : Int) (l : List Int) (hl : 0 < l.length) (hl' : l.length ≤ 1000) (hb : Bytes b) (hp0 : 0 ≤ p) (hp : p ≤ 1000000000000) : ∃ v, Ev (fun k => spec_reader_one.f k b p l) (v, p + 1) ∧ v ∈ l := by
  obtain ⟨v, h, hv⟩ := one_at b p l hl hl' hb hp0 hp
  exact ⟨v, ev_of 0 h, hv⟩
theorem pick_in (b : List Int) (p n : Int) (hn : 1 ≤ n) (hb : Bytes b) (hp0 : 0 ≤ p) (hp : p ≤ 1000000000000) : ∃ v, Ev (fun k => spec_reader_pick.f k b p n) (v, p + 1) ∧ 0 ≤ v ∧ v < n := by
  obtain ⟨v, h, h0, h1, _⟩ := pick_at b p n hb hp0 hp
  exact ⟨v, ev_of 0 h, h0, h1 hn⟩
theorem newImage_eq (w h p : Int) (hs : 1 ≤ w ∧ w ≤ 16 ∧ 1 ≤ h ∧ h ≤ 16 ∧ 1 ≤ p ∧ p ≤ 4) : spec_newImage.f w h p = some (w, h, p, List.replicate (w * h * p).toNat 0) := by
  have := shape_prod hs
  unfold spec_newImage.f
  rw [shape_wrap hs, if_pos (by omega), if_pos (by omega)]
theorem randomLoop (b : List Int) (hb : Bytes b) (m : Int) (w h p : Int) : ∀ (n i : Nat) (x pos : Int) (d : List Int), i + n = d.length → 0 ≤ pos → pos + n ≤ 1000000000000 → d.length ≤ 1000000 →
    ∃ (d' : List Int) (q : Int), d'.length = d.length ∧ pos ≤ q ∧ q ≤ pos + n ∧ Ev (fun k => spec_randomImage.l0 k m x (i : Int) b pos w h p d) (w, h, p, d', q) := by
  intro n
  induction n with
  | zero =>
    intro i x pos d hi h0 h1 h2
    refine ⟨d, pos, rfl, by omega, by omega, ?_⟩
    refine Ev.step (f := fun _ => some (w, h, p, d, pos)) (fun k => ?_) (Ev.now _)
    simp only [spec_randomImage.l0]
    rw [if_neg (by omega)]
  | succ n ih =>
    intro i x pos d hi h0 h1 h2
    have go : ∀ (v x' pos' : Int), pos ≤ pos' → pos' ≤ pos + 1 → ∃ (d' : List Int) (q : Int), d'.length = d.length ∧ pos ≤ q ∧ q ≤ pos + ((n + 1 : Nat) : Int) ∧ Ev (fun k => spec_randomImage.l0 k m x' ((i + 1 : Nat) : Int) b pos' w h p (d.set i v)) (w, h, p, d', q) := by
      intro v x' pos' a1 a2
      obtain ⟨d', q, e1, e2, e3, e4⟩ := ih (i + 1) x' pos' (d.set i v) (by rw [List.length_set]; omega) (by omega) (by omega) (by rw [List.length_set]; omega)
      exact ⟨d', q, by rw [e1, List.length_set], by omega, by omega, e4⟩
    by_cases c0 : m = 0
    · obtain ⟨v, hv, _, _⟩ := pick_in b pos 256 (by omega) hb h0 (by omega)
      obtain ⟨d', q, e1, e2, e3, e4⟩ := go v v (pos + 1) (by omega) (by omega)
      refine ⟨d', q, e1, e2, e3, ?_⟩
      refine Ev.step (f := fun k => (spec_reader_pick.f k b pos 256).bind fun bt => if 0 ≤ (i : Int) then spec_randomImage.l0 k m bt.1 (wrap64 ((i : Int) + 1)) b bt.2 w h p (d.set (i : Int).toNat bt.1) else none) (fun k => ?_) ?_
      · simp only [spec_randomImage.l0]
        rw [if_pos (by omega), if_pos c0]
      · refine ev_bind hv (ev_pos (by omega) ?_)
        simp only [Int.toNat_natCast, w64n i (by omega)]
        exact e4
    · by_cases c1 : m = 1
      · obtain ⟨v, hv, _, _⟩ := pick_in b pos 5 (by omega) hb h0 (by omega)
        obtain ⟨d', q, e1, e2, e3, e4⟩ := go (Int.tmod (wrap64 ((wrap64 (x + v)) + 254)) 256) (Int.tmod (wrap64 ((wrap64 (x + v)) + 254)) 256) (pos + 1) (by omega) (by omega)
        refine ⟨d', q, e1, e2, e3, ?_⟩
        refine Ev.step (f := fun k => (spec_reader_pick.f k b pos 5).bind fun bt => if 0 ≤ (i : Int) then spec_randomImage.l0 k m (Int.tmod (wrap64 ((wrap64 (x + bt.1)) + 254)) 256) (wrap64 ((i : Int) + 1)) b bt.2 w h p (d.set (i : Int).toNat (Int.tmod (wrap64 ((wrap64 (x + bt.1)) + 254)) 256)) else none) (fun k => ?_) ?_
        · simp only [spec_randomImage.l0]
          rw [if_pos (by omega), if_neg c0, if_pos c1]
        · refine ev_bind hv (ev_pos (by omega) ?_)
          simp only [Int.toNat_natCast, w64n i (by omega)]
          exact e4
      · by_cases c2 : m = 2
        · obtain ⟨v, hv, _, _⟩ := pick_in b pos 4 (by omega) hb h0 (by omega)
          obtain ⟨d', q, e1, e2, e3, e4⟩ := go (wrap64 (60 * v)) (wrap64 (60 * v)) (pos + 1) (by omega) (by omega)
          refine ⟨d', q, e1, e2, e3, ?_⟩
          refine Ev.step (f := fun k => (spec_reader_pick.f k b pos 4).bind fun bt => if 0 ≤ (i : Int) then spec_randomImage.l0 k m (wrap64 (60 * bt.1)) (wrap64 ((i : Int) + 1)) b bt.2 w h p (d.set (i : Int).toNat (wrap64 (60 * bt.1))) else none) (fun k => ?_) ?_
          · simp only [spec_randomImage.l0]
            rw [if_pos (by omega), if_neg c0, if_neg c1, if_pos c2]
          · refine ev_bind hv (ev_pos (by omega) ?_)
            simp only [Int.toNat_natCast, w64n i (by omega)]
            exact e4
        · obtain ⟨d', q, e1, e2, e3, e4⟩ := go x x pos (by omega) (by omega)
          refine ⟨d', q, e1, e2, e3, Ev.step (fun k => ?_) e4⟩
          simp only [spec_randomImage.l0]
          rw [if_pos (by omega), if_neg c0, if_neg c1, if_neg c2, if_pos (by omega), Int.toNat_natCast, w64n i (by omega)]
theorem randomImage_ev (b : List Int) (pos p : Int) (hb : Bytes b) (h0 : 0 ≤ pos) (h1 : pos ≤ 100000000) (hp : 1 ≤ p ∧ p ≤ 4) :
    ∃ (w h : Int) (d : List Int) (q : Int), 1 ≤ w ∧ w ≤ 8 ∧ 1 ≤ h ∧ h ≤ 8 ∧ (d.length : Int) = w * h * p ∧ 1 ≤ d.length ∧ d.length ≤ 1024 ∧ pos ≤ q ∧ q ≤ pos + 2000 ∧ Ev (fun k => spec_randomImage.f k b pos p) (w, h, p, d, q) := by
  obtain ⟨w, hw, mw⟩ := one_in b pos [3, 4, 2, 5, 1, 8, 6] (by simp) (by simp) hb h0 (by omega)
  obtain ⟨h, hh, mh⟩ := one_in b (pos + 1) [3, 2, 4, 1, 5, 8] (by simp) (by simp) hb (by omega) (by omega)
  obtain ⟨m, hm, _, _⟩ := pick_in b (pos + 1 + 1) 4 (by omega) hb (by omega) (by omega)
  obtain ⟨x, hx, _, _⟩ := pick_in b (pos + 1 + 1 + 1) 256 (by omega) hb (by omega) (by omega)
  have bw : 1 ≤ w ∧ w ≤ 8 := by simp only [List.mem_cons, List.not_mem_nil, or_false] at mw; omega
  have bh : 1 ≤ h ∧ h ≤ 8 := by simp only [List.mem_cons, List.not_mem_nil, or_false] at mh; omega
  have hs : 1 ≤ w ∧ w ≤ 16 ∧ 1 ≤ h ∧ h ≤ 16 ∧ 1 ≤ p ∧ p ≤ 4 := by omega
  have hpr := shape_prod hs
  have hpos : 1 ≤ w * h * p := by
    have e1 : 1 * 1 ≤ w * h := Int.mul_le_mul (by omega) (by omega) (by omega) (by omega)
    have e2 : 1 * 1 ≤ w * h * p := Int.mul_le_mul (by omega) (by omega) (by omega) (by omega)
    omega
  have hlen : (List.replicate (w * h * p).toNat (0 : Int)).length = (w * h * p).toNat := List.length_replicate
  obtain ⟨d', q, e1, e2, e3, e4⟩ := randomLoop b hb m w h p (w * h * p).toNat 0 x (pos + 1 + 1 + 1 + 1) (List.replicate (w * h * p).toNat 0) (by omega) (by omega) (by omega) (by omega)
  refine ⟨w, h, d', q, bw.1, bw.2, bh.1, bh.2, by omega, by omega, by omega, by omega, by omega, ?_⟩
  unfold spec_randomImage.f
  exact ev_bind hw (ev_bind hh (ev_now (newImage_eq w h p hs) (ev_bind hm (ev_bind hx e4))))
theorem anyPlanes_ev (b : List Int) (pos : Int) (hb : Bytes b) (h0 : 0 ≤ pos) (h1 : pos ≤ 100000000) : ∃ p, 1 ≤ p ∧ p ≤ 4 ∧ Ev (fun k => spec_anyPlanes.f k b pos) (p, pos + 1) := by
  obtain ⟨p, hp, mp⟩ := one_in b pos [1, 3, 1, 4, 2] (by simp) (by simp) hb h0 (by omega)
  simp only [List.mem_cons, List.not_mem_nil, or_false] at mp
  refine ⟨p, by omega, by omega, ?_⟩
  unfold spec_anyPlanes.f
  exact ev_bind hp (Ev.now _)
theorem spoilImage_ev (b : List Int) (pos : Int) (w h p : Int) (d : List Int) (hb : Bytes b) (h0 : 0 ≤ pos) (h1 : pos ≤ 100000000) (hd : 1 ≤ d.length) :
    ∃ (w' h' p' : Int) (d' : List Int) (q : Int), d'.length ≤ d.length ∧ pos ≤ q ∧ q ≤ pos + 2 ∧ Ev (fun k => spec_spoilImage.f k b pos w h p d) (w', h', p', d', q) := by
  obtain ⟨v, hv, _, _⟩ := pick_in b pos 40 (by omega) hb h0 (by omega)
  unfold spec_spoilImage.f
  by_cases c0 : v = 0
  · obtain ⟨x, hx, _⟩ := one_in b (pos + 1) [0, 17, wrap64 (w + 1)] (by simp) (by simp) hb (by omega) (by omega)
    exact ⟨x, h, p, d, pos + 1 + 1, by omega, by omega, by omega, ev_bind hv (ev_pos c0 (ev_bind hx (Ev.now _)))⟩
  · by_cases c1 : v = 1
    · exact ⟨w, h, p, d.drop (1 : Int).toNat, pos + 1, by rw [List.length_drop]; omega, by omega, by omega, ev_bind hv (ev_neg c0 (ev_pos c1 (ev_pos (by omega) (Ev.now _))))⟩
    · by_cases c2 : v = 2
      · obtain ⟨x, hx, _⟩ := one_in b (pos + 1) [(-1), 256] (by simp) (by simp) hb (by omega) (by omega)
        exact ⟨w, h, p, d.set (0 : Int).toNat x, pos + 1 + 1, by rw [List.length_set]; omega, by omega, by omega, ev_bind hv (ev_neg c0 (ev_neg c1 (ev_pos c2 (ev_bind hx (ev_pos (by omega) (Ev.now _))))))⟩
      · by_cases c3 : v = 3
        · obtain ⟨x, hx, _⟩ := one_in b (pos + 1) [0, 5] (by simp) (by simp) hb (by omega) (by omega)
          exact ⟨w, h, x, d, pos + 1 + 1, by omega, by omega, by omega, ev_bind hv (ev_neg c0 (ev_neg c1 (ev_neg c2 (ev_pos c3 (ev_bind hx (Ev.now _))))))⟩
        · exact ⟨w, h, p, d, pos + 1, by omega, by omega, by omega, ev_bind hv (ev_neg c0 (ev_neg c1 (ev_neg c2 (ev_neg c3 (Ev.now _)))))⟩
theorem anyImage_ev (b : List Int) (pos : Int) (hb : Bytes b) (h0 : 0 ≤ pos) (h1 : pos ≤ 90000000) :
    ∃ (w h p : Int) (d : List Int) (q : Int), d.length ≤ 1024 ∧ pos ≤ q ∧ q ≤ pos + 3000 ∧ Ev (fun k => spec_anyImage.f k b pos) (w, h, p, d, q) := by
  obtain ⟨p, p1, p2, hp⟩ := anyPlanes_ev b pos hb h0 (by omega)
  obtain ⟨w, h, d, q, _, _, _, _, _, d1, d2, q1, q2, hr⟩ := randomImage_ev b (pos + 1) p hb (by omega) (by omega) ⟨p1, p2⟩
  obtain ⟨w', h', p', d', q', d3, q3, q4, hs⟩ := spoilImage_ev b q w h p d hb (by omega) (by omega) d1
  refine ⟨w', h', p', d', q', by omega, by omega, by omega, ?_⟩
  unfold spec_anyImage.f
  exact ev_bind hp (ev_bind hr (ev_bind hs (Ev.now _)))
end Go.Proofs.Ytbgohbinonkhfaa.Pure

/- Floods reach similar pixels: the law FnFloodRegion over lists of numbers alone. -/
namespace Go.Proofs.Ytbgohbinonkhfaa.Pure
open Go.RowKit Go.Proofs.Ytbgohbinonkhfaa.Q Go.Proofs.YtbgohbinonkhfaaW.PrintWords Go.Proofs.YtbgohbinonkhfaaW.PrintLast Go.Proofs.YtbgohbinonkhfaaW.PrintMore
set_option linter.unusedVariables false
set_option linter.unusedSimpArgs false

theorem equalRunsG (l : List Run) (hl : l.length ≤ 1000000000000) : Ev (fun k => laws_equalRuns.f k l l) true := by
  have h := ev_up l.length (fun k i (_ : Unit) => laws_equalRuns.l0 k l l (i : Int)) (fun _ _ => True) (fun _ _ => true)
    (by
      intro i s hi _
      refine .inr ⟨(), fun k => ?_, trivial, rfl⟩
      simp only [laws_equalRuns.l0]
      rw [if_pos (by omega), if_pos (by omega), if_pos (by omega), w64n i (by omega)]
      simp)
    (by
      intro s _
      refine Ev.step (f := fun _ => some true) (fun k => ?_) (ev_const rfl)
      simp only [laws_equalRuns.l0]
      rw [if_neg (by omega)])
    l.length 0 () (by omega) trivial
  unfold laws_equalRuns.f
  exact ev_pos rfl (by simpa using h)
theorem drawFloodG (code : List Int) (hw : ∀ x ∈ code, (Lit.int .u8 x).wf = true) : ∃ (w h p : Int) (d : List Int) (x y t : Int), d.length ≤ 1024 ∧ Ev (fun k => spec_DrawFloodRegion.f k code) (w, h, p, d, x, y, t) := by
  obtain ⟨b, hb, hB⟩ := newReader_at code (code_bytes code hw)
  obtain ⟨w, h, p, d, q, hd, q1, q2, he⟩ := anyImage_ev b 0 hB (by omega) (by omega)
  obtain ⟨x, hx, _⟩ := one_in b q [0, 1, 2, (-1), 4] (by simp) (by simp) hB (by omega) (by omega)
  obtain ⟨y, hy, _⟩ := one_in b (q + 1) [0, 1, 2, (-1), 4] (by simp) (by simp) hB (by omega) (by omega)
  obtain ⟨t, ht, _⟩ := one_in b (q + 1 + 1) [0, 5, 60, 120, 255, 256, (-1)] (by simp) (by simp) hB (by omega) (by omega)
  refine ⟨w, h, p, d, x, y, t, hd, ?_⟩
  unfold spec_DrawFloodRegion.f
  exact ev_now hb (ev_bind he (ev_bind hx (ev_bind hy (ev_bind ht (Ev.now _)))))
theorem parts_none : ∀ (n a : Nat) (g : Nat → Bool), a + n ≤ 256 → (∀ q, q < 256 → g q = false) → partsS n a g = [] := by
  intro n
  induction n with
  | zero => intro a g _ _; rfl
  | succ n ih =>
    intro a g ha h
    unfold partsS
    rw [if_neg (by rw [h a (by omega)]; simp)]
    exact ih (a + 1) g (by omega) h
theorem parts_one : ∀ (n a : Nat) (c : Nat → Bool), a + n = 256 → (∀ q, q < a → c q = false) → (∃ q, q < 256 ∧ c q = true) → (∀ u v, u < 256 → v < 256 → c u = true → c v = true → Q.Reach c u v) → (partsS n a c).length = 1 := by
  intro n
  induction n with
  | zero =>
    intro a c ha h hx _
    obtain ⟨q, hq, hc⟩ := hx
    rw [h q (by omega)] at hc
    cases hc
  | succ n ih =>
    intro a c ha h hx hr
    by_cases e : c a = true
    · have e2 : partsS (n + 1) a c = runsL (comp c a) :: partsS n (a + 1) (fun q => c q && !(comp c a q)) := by
        conv => lhs; unfold partsS
        rw [if_pos e]
      rw [e2, parts_none n (a + 1) _ (by omega) (fun q hq => by
        show (c q && !(comp c a q)) = false
        cases hc : c q with
        | false => rfl
        | true => rw [(comp_iff c a q).2 (hr a q (by omega) hq e hc)]; rfl)]
      rfl
    · have e2 : partsS (n + 1) a c = partsS n (a + 1) c := by
        conv => lhs; unfold partsS
        rw [if_neg e]
      rw [e2]
      exact ih (a + 1) c (by omega) (fun q hq => by
        by_cases e3 : q = a
        · subst e3; simpa using e
        · exact h q (by omega)) hx hr
theorem comp_conn (g : Nat → Bool) (s : Nat) (hs : s < 256) (hgs : g s = true) (u v : Nat) (hu : comp g s u = true) (hv : comp g s v = true) : Q.Reach (comp g s) u v := by
  have h1 := (comp_iff g s u).1 hu
  have h2 := (comp_iff g s v).1 hv
  have h3 := reach_trans (reach_back hs hgs h1).2.2 h2
  clear hv h2
  induction h3 with
  | here => exact .here
  | step q r hq ha hr hg ih => exact .step q r ih ha hr ((comp_iff g s r).2 (reach_trans h1 (.step q r hq ha hr hg)))
theorem abs_ok (u v t : Int) (hu : 0 ≤ u ∧ u ≤ 255) (hv : 0 ≤ v ∧ v ≤ 255) (h : u - v ≤ t ∧ v - u ≤ t) : ∃ z, laws_absolute.f (wrap64 (u - v)) = some z ∧ ¬ z > t := by
  rw [w64 (x := u - v) (by omega) (by omega)]
  unfold laws_absolute.f
  by_cases c : u - v < 0
  · exact ⟨-(u - v), by rw [if_pos c, w64 (x := -(u - v)) (by omega) (by omega)], by omega⟩
  · exact ⟨u - v, by rw [if_neg c], by omega⟩
theorem flood_l2G (X Y t : Int) (V : List Run) (seed pix : List Int) (i : Nat) (c a b p : Int) (d : List Int) (R : Bool) (hl : pix.length = seed.length) (h4 : pix.length ≤ 1000)
    (h1 : ∀ q, q < pix.length → 0 ≤ rd pix (q : Int) ∧ rd pix (q : Int) ≤ 255) (h2 : ∀ q, q < seed.length → 0 ≤ rd seed (q : Int) ∧ rd seed (q : Int) ≤ 255) (hok : okAll pix seed t pix.length = true)
    (hn : Ev (fun k => laws_FnFloodRegion.l1 k X Y t V seed (i : Int) (wrap64 (c + 1)) a b p d) R) : Ev (fun k => laws_FnFloodRegion.l2 k X Y t V seed (i : Int) c pix 0 a b p d) R := by
  have hh := (okAll_iff pix seed t pix.length h1 (fun q hq => h2 q (by omega))).1 hok
  have loop := ev_up pix.length (fun k q (_ : Unit) => laws_FnFloodRegion.l2 k X Y t V seed (i : Int) c pix (q : Int) a b p d) (fun _ _ => True) (fun _ _ => R)
    (by
      intro q s hq _
      right
      obtain ⟨z, hz, hz2⟩ := abs_ok (rd pix (q : Int)) (rd seed (q : Int)) t (h1 q hq) (h2 q (by omega)) (hh q hq)
      have c1 : (q : Int) < (seed.length : Int) := by omega
      have c2 : (pix.length : Int) = (seed.length : Int) := by omega
      have c3 : (q : Int) < (pix.length : Int) := by omega
      have c0 : (0 : Int) ≤ (q : Int) := Int.natCast_nonneg q
      have e1 := w64n q (by omega)
      refine ⟨(), fun k => ?_, trivial, rfl⟩
      simp only [laws_FnFloodRegion.l2]
      rw [if_pos c1, if_pos c2, if_pos c0, if_pos c3, hz]
      simp only [Option.bind_some]
      rw [if_neg hz2, e1])
    (by
      intro s _
      have c1 : ¬ ((pix.length : Nat) : Int) < (seed.length : Int) := by omega
      refine Ev.step (fun k => ?_) hn
      simp only [laws_FnFloodRegion.l2]
      rw [if_neg c1])
    pix.length 0 () (by omega) trivial
  exact loop
theorem step_add (c n : Nat) (f : Int) (h : (c : Int) + ((n + 1 : Nat) : Int) = f) : ((c + 1 : Nat) : Int) + (n : Int) = f := by omega
theorem step_le (c : Nat) (f : Int) (h : f ≤ (c : Int)) : f ≤ ((c + 1 : Nat) : Int) := by omega
theorem step_lt (c n : Nat) (f : Int) (h : (c : Int) + ((n + 1 : Nat) : Int) = f) : (c : Int) < f := by omega
theorem step_end (c : Nat) (f : Int) (h : (c : Int) + ((0 : Nat) : Int) = f) : ¬ (c : Int) < f := by omega
theorem small_nat (c : Nat) (f : Int) (h : (c : Int) < f) (hf : f ≤ 16) : c < 9223372036854775807 := by omega
theorem run_len (a b : Int) (h0 : 0 ≤ a) (h1 : a < b) : a ≤ ((a.toNat : Nat) : Int) ∧ ((a.toNat : Nat) : Int) + (((b - a).toNat : Nat) : Int) = b := by omega
theorem len_le (n : Nat) (p : Int) (h : (n : Int) = p) (hp : p ≤ 4) : n ≤ 1000 := by omega
section
variable (W H : Nat) (p : Int) (d : List Int) (hv : validI W H p d = true)
include hv
theorem pixBG (x y : Nat) (hx : x < W) (hy : y < H) : ∀ q, q < (pixT d (pixJ W p x y) p).length → 0 ≤ rd (pixT d (pixJ W p x y) p) (q : Int) ∧ rd (pixT d (pixJ W p x y) p) (q : Int) ≤ 255 :=
  fun q hq => ((validI_iff _ _ _ _).1 hv).2.2 _ (pixT_mem d _ p q hq)
theorem pixLG (x y X Y : Nat) (hx : x < W) (hy : y < H) (hX : X < W) (hY : Y < H) : (pixT d (pixJ W p x y) p).length = (pixT d (pixJ W p X Y) p).length := by
  have h1 := pixT_plen hv (x := x) (y := y) (by omega) (by omega)
  have h2 := pixT_plen hv (x := X) (y := Y) (by omega) (by omega)
  omega
theorem flood_isG (X Y : Nat) (t : Int) (hX : X < W) (hY : Y < H) (ht : 0 ≤ t ∧ t ≤ 255) : floodV W H p d X Y t = runsL (comp (gso (likeP W H p d (pixT d (pixJ W p X Y) p) t) 256) (Y * 16 + X)) := by
  unfold floodV
  rw [if_pos ⟨hv, by omega, by omega, by omega, by omega, by omega, by omega⟩, Int.toNat_natCast, Int.toNat_natCast]
theorem like_selfG (X Y : Nat) (t : Int) (hX : X < W) (hY : Y < H) (ht : 0 ≤ t) : gso (likeP W H p d (pixT d (pixJ W p X Y) p) t) 256 (Y * 16 + X) = true := by
  have hh := (validI_iff _ _ _ _).1 hv
  rw [gso_at _ _ (by omega), show (Y * 16 + X) % 16 = X by omega, show (Y * 16 + X) / 16 = Y by omega, likeP_in _ _ _ _ _ _ _ _ (by omega) (by omega)]
  exact ok_self _ t ht (pixBG W H p d hv X Y hX hY)
theorem flood_pix (X Y : Nat) (t : Int) (hX : X < W) (hY : Y < H) (ht : 0 ≤ t) (q : Nat) (hq : q < 256) (hc : comp (gso (likeP W H p d (pixT d (pixJ W p X Y) p) t) 256) (Y * 16 + X) q = true) :
    q % 16 < W ∧ q / 16 < H ∧ okAll (pixT d (pixJ W p (q % 16) (q / 16)) p) (pixT d (pixJ W p X Y) p) t (pixT d (pixJ W p (q % 16) (q / 16)) p).length = true := by
  have hh := (validI_iff _ _ _ _).1 hv
  have hs := like_selfG W H p d hv X Y t hX hY ht
  have hg := (reach_back (by omega) hs ((comp_iff _ _ _).1 hc)).2.1
  rw [gso_at _ _ hq] at hg
  have hin : q % 16 < W ∧ q / 16 < H := by
    by_cases c1 : q % 16 < W
    · by_cases c2 : q / 16 < H
      · exact ⟨c1, c2⟩
      · rw [like_row _ _ _ _ _ _ _ _ (by omega)] at hg; cases hg
    · rw [like_col _ _ _ _ _ _ _ _ (by omega)] at hg; cases hg
  rw [likeP_in _ _ _ _ _ _ _ _ (by omega) (by omega)] at hg
  exact ⟨hin.1, hin.2, hg⟩
theorem pixelAtG {x y : Nat} (hx : x < W) (hy : y < H) : impl_PixelAt.f W H p d (x : Int) (y : Int) = some (pixT d (pixJ W p x y) p) := by
  unfold impl_PixelAt.f
  rw [if_pos ⟨hv, by omega, by omega, by omega, by omega⟩, Int.toNat_natCast, Int.toNat_natCast]
theorem flood_loopG (X Y : Nat) (t : Int) (hX : X < W) (hY : Y < H) (ht : 0 ≤ t ∧ t ≤ 255) :
    Ev (fun k => laws_FnFloodRegion.l0 k (X : Int) (Y : Int) t (floodV W H p d X Y t) (pixT d (pixJ W p X Y) p) 0 W H p d) true := by
  have hh := (validI_iff _ _ _ _).1 hv
  have hVr := flood_isG W H p d hv X Y t hX hY ht
  have hlen := floodV_len W H p d X Y t
  have hsl := pixT_plen hv (x := X) (y := Y) (by omega) (by omega)
  obtain ⟨V, hV⟩ : ∃ V, V = floodV W H p d X Y t := ⟨_, rfl⟩
  have hok : ∀ r ∈ V, runOK r = true := by rw [hV, hVr]; exact valid_ok (runs_valid _)
  have hpix : ∀ r ∈ V, ∀ c : Nat, r.f1 ≤ (c : Int) → (c : Int) < r.f2 → c < W ∧ r.f0.toNat < H ∧ okAll (pixT d (pixJ W p c r.f0.toNat) p) (pixT d (pixJ W p X Y) p) t (pixT d (pixJ W p c r.f0.toNat) p).length = true := by
    intro r hr c h1 h2
    have hb := (runOK_iff r).1 (hok r hr)
    have hq : r.f0.toNat * 16 + c < 256 := by omega
    have hg : gridF V (r.f0.toNat * 16 + c) = true := by
      unfold gridF
      rw [List.any_eq_true]
      exact ⟨r, hr, by simp [runIn]; omega⟩
    rw [hV, hVr, grid_runs _ _ hq] at hg
    have hm := flood_pix W H p d hv X Y t hX hY ht.1 _ hq hg
    rw [show (r.f0.toNat * 16 + c) % 16 = c by omega, show (r.f0.toNat * 16 + c) / 16 = r.f0.toNat by omega] at hm
    exact hm
  rw [← hV] at hlen ⊢
  have key := ev_up2 V.length (fun k i (_ : Unit) => laws_FnFloodRegion.l0 k (X : Int) (Y : Int) t V (pixT d (pixJ W p X Y) p) (i : Int) W H p d) (fun _ _ => True) (fun _ _ => true)
    (by
      intro i s hi _
      right
      refine ⟨(), fun R hR => ?_, trivial, rfl⟩
      have hr := List.getElem_mem hi
      have hb := (runOK_iff _).1 (hok _ hr)
      have c1 : (i : Int) < (V.length : Int) := Int.ofNat_lt.2 hi
      have c0 : (0 : Int) ≤ (i : Int) := Int.natCast_nonneg i
      have inner : ∀ n c : Nat, (V[i]).f1 ≤ (c : Int) → (c : Int) + n = (V[i]).f2 → Ev (fun k => laws_FnFloodRegion.l1 k (X : Int) (Y : Int) t V (pixT d (pixJ W p X Y) p) (i : Int) (c : Int) W H p d) R := by
        intro n
        induction n with
        | zero =>
          intro c h1 h2
          have c2 : ¬ (c : Int) < (V[i]).f2 := step_end c _ h2
          have e1 := w64n i (by omega)
          refine Ev.step (fun k => ?_) hR
          simp only [laws_FnFloodRegion.l1]
          rw [if_pos c0, if_pos c1, rdRun V i hi, if_neg c2, e1]
        | succ n ih =>
          intro c h1 h2
          have c2 : (c : Int) < (V[i]).f2 := step_lt c n _ h2
          have e1 := w64n c (small_nat c _ c2 hb.2.2.2.2)
          have hnext := ih (c + 1) (step_le c _ h1) (step_add c n _ h2)
          rw [← e1] at hnext
          have hp := hpix _ hr c h1 c2
          have hf0 : (V[i]).f0 = (((V[i]).f0.toNat : Nat) : Int) := (Int.toNat_of_nonneg hb.1).symm
          have e0 := pixelAtG W H p d hv hp.1 hp.2.1
          rw [← hf0] at e0
          have hpl := pixT_plen hv (x := c) (y := (V[i]).f0.toNat) (Int.ofNat_lt.2 hp.1) (Int.ofNat_lt.2 hp.2.1)
          have h3 := flood_l2G (X : Int) (Y : Int) t V (pixT d (pixJ W p X Y) p) (pixT d (pixJ W p c (V[i]).f0.toNat) p) i (c : Int) W H p d R (pixLG W H p d hv _ _ _ _ hp.1 hp.2.1 hX hY) (len_le _ p hpl hh.1.2.2.2.2.2) (pixBG W H p d hv _ _ hp.1 hp.2.1) (pixBG W H p d hv _ _ hX hY) hp.2.2 hnext
          refine Ev.step (f := fun k => (impl_PixelAt.f W H p d (c : Int) (V[i]).f0).bind fun u => laws_FnFloodRegion.l2 k (X : Int) (Y : Int) t V (pixT d (pixJ W p X Y) p) (i : Int) (c : Int) u 0 W H p d) (fun k => ?_) (ev_now e0 h3)
          simp only [laws_FnFloodRegion.l1]
          rw [if_pos c0, if_pos c1, rdRun V i hi, if_pos c2]
      have hF : (V[i]).f1 = (((V[i]).f1.toNat : Nat) : Int) := (Int.toNat_of_nonneg hb.2.2.1).symm
      have h0 := inner ((V[i]).f2 - (V[i]).f1).toNat (V[i]).f1.toNat (run_len _ _ hb.2.2.1 hb.2.2.2.1).1 (run_len _ _ hb.2.2.1 hb.2.2.2.1).2
      rw [← hF] at h0
      refine Ev.step (fun k => ?_) h0
      simp only [laws_FnFloodRegion.l0]
      rw [if_pos c1, if_pos c0, rdRun V i hi])
    (by
      intro s _
      have hs := like_selfG W H p d hv X Y t hX hY ht.1
      obtain ⟨g, hg⟩ : ∃ g, g = gso (likeP W H p d (pixT d (pixJ W p X Y) p) t) 256 := ⟨_, rfl⟩
      rw [← hg] at hs hVr
      have hsz : Y * 16 + X < 256 := by omega
      have hhas : impl_RegionHas.f V (X : Int) (Y : Int) = some true := by
        unfold impl_RegionHas.f
        have hp : hasP (gridF (runsL (comp g (Y * 16 + X)))) (X : Int) (Y : Int) = true := by
          rw [hasP_iff, Int.toNat_natCast, Int.toNat_natCast, grid_runs _ _ hsz]
          exact ⟨by omega, by omega, by omega, by omega, (comp_iff _ _ _).2 .here⟩
        rw [hV, hVr, runs_valid, hp]
        rfl
      have hone : impl_PartsOf.f V = some (partsS 256 0 (comp g (Y * 16 + X))) := by
        unfold impl_PartsOf.f
        rw [hV, hVr, if_pos (runs_valid _), parts_runs]
      have hlen1 : (partsS 256 0 (comp g (Y * 16 + X))).length = 1 := parts_one 256 0 _ (by omega) (fun q hq => absurd hq (Nat.not_lt_zero q)) ⟨Y * 16 + X, hsz, (comp_iff _ _ _).2 .here⟩ (fun u v _ _ hu hv2 => comp_conn g _ hsz hs u v hu hv2)
      refine Ev.step (f := fun k => (impl_RegionHas.f V (X : Int) (Y : Int)).bind fun u => if u = true then ((impl_PartsOf.f V).bind fun z => some ((z.length : Int) == 1)) else some false) (fun k => ?_) (ev_now hhas (ev_pos rfl (ev_now hone (ev_const (by rw [hlen1]; rfl)))))
      simp only [laws_FnFloodRegion.l0]
      rw [if_neg (Int.lt_irrefl _)])
    V.length 0 () (by omega) trivial
  exact key
end
theorem FnFloodRegion : laws_FnFloodRegion.Pure := by
  intro code _ _ hw
  apply Ev.rounds
  unfold laws_FnFloodRegion.f
  by_cases c : (code.length : Int) > 1048576
  · exact ev_pos c (Ev.now true)
  refine ev_neg c ?_
  obtain ⟨w, h, p, d, x, y, t, hdl, hd⟩ := drawFloodG code hw
  have hI := impl_FloodRegion_eq w h p d x y t
  have hS := spec_FloodRegion_ev w h p d x y t (by omega)
  have hlen := floodV_len w h p d x y t
  have heq := equalRunsG (floodV w h p d x y t) (by omega)
  refine ev_bind hd (ev_now hI (ev_bind hS (ev_bind heq (ev_pos rfl ?_))))
  by_cases hz : floodV w h p d x y t = []
  · rw [hz] at hS heq ⊢
    refine Ev.step (f := fun k => (spec_FloodRegion.f k w h p d x y t).bind fun a => (laws_equalRuns.f k [] a).bind fun b => some b) (fun k => ?_) (ev_bind hS (ev_bind heq (Ev.now _)))
    simp only [laws_FnFloodRegion.j0]
    rw [if_pos (by simp)]
  · have hs : validI w h p d = true ∧ 0 ≤ x ∧ x < w ∧ 0 ≤ y ∧ y < h ∧ 0 ≤ t ∧ t ≤ 255 := by
      by_cases c : validI w h p d = true ∧ 0 ≤ x ∧ x < w ∧ 0 ≤ y ∧ y < h ∧ 0 ≤ t ∧ t ≤ 255
      · exact c
      · exact absurd (by unfold floodV; rw [if_neg c]) hz
    have hh := (validI_iff _ _ _ _).1 hs.1
    obtain ⟨W, rfl⟩ := Int.eq_ofNat_of_zero_le (show 0 ≤ w by omega)
    obtain ⟨H, rfl⟩ := Int.eq_ofNat_of_zero_le (show 0 ≤ h by omega)
    obtain ⟨X, rfl⟩ := Int.eq_ofNat_of_zero_le hs.2.1
    obtain ⟨Y, rfl⟩ := Int.eq_ofNat_of_zero_le hs.2.2.2.1
    have hL := flood_loopG W H p d hs.1 X Y t (by omega) (by omega) ⟨hs.2.2.2.2.2.1, hs.2.2.2.2.2.2⟩
    refine Ev.step (f := fun k => (impl_PixelAt.f W H p d (X : Int) (Y : Int)).bind fun a => laws_FnFloodRegion.l0 k (X : Int) (Y : Int) t (floodV W H p d X Y t) a 0 W H p d) (fun k => ?_) (ev_now (pixelAtG W H p d hs.1 (by omega) (by omega)) hL)
    simp only [laws_FnFloodRegion.j0]
    rw [if_neg (by simpa using hz)]
end Go.Proofs.Ytbgohbinonkhfaa.Pure

/- The head of the translation reads as a plain cut. -/
namespace Go.Proofs.Ytbgohbinonkhfaa.Head
set_option maxRecDepth 100000
theorem wordsSigns_word (w r : List Char) (h : w.all (fun c => !(c == Char.ofNat 32)) = true) : wordsSigns (w ++ Char.ofNat 32 :: r) = w :: wordsSigns r := by
  induction w with
  | nil => rfl
  | cons c w ih =>
    simp only [List.all_cons, Bool.and_eq_true, Bool.not_eq_true', beq_eq_false_iff_ne, ne_eq] at h
    have h1 := ih (by simpa using h.2)
    rw [List.cons_append, wordsSigns.eq_3 c _ h.1, h1]
def w1 : List Char := [104, 97, 114, 110, 101, 115, 115].map Char.ofNat
def w2 : List Char := [51, 55, 55, 51, 100, 53, 51, 56, 50, 98, 53, 98, 101, 101, 49, 50, 100, 98, 57, 53, 100, 98, 101, 50, 51, 51, 101, 57, 100, 57, 52, 97, 99, 54, 53, 55, 97, 101, 56, 99, 55, 52, 99, 52, 48, 99, 57, 54, 54, 99, 100, 99, 48, 50, 56, 53, 54, 48, 100, 101, 100, 55, 52, 52].map Char.ofNat
def w3 : List Char := [99, 117, 116].map Char.ofNat
def w4 : List Char := [97, 116, 32, 108, 111, 111, 112, 46, 101, 120, 97, 109, 112, 108, 101, 47, 112, 105, 120, 101, 108, 119, 111, 114, 107, 115, 47, 108, 97, 119, 115, 46, 70, 110, 69, 120, 97, 99, 116, 67, 104, 97, 110, 103, 101, 100, 82, 101, 103, 105, 111, 110, 32, 108, 111, 111, 112, 46, 101, 120, 97, 109, 112, 108, 101, 47, 112, 105, 120, 101, 108, 119, 111, 114, 107, 115, 47, 108, 97, 119, 115, 46, 70, 110, 67, 104, 97, 110, 103, 101, 100, 82, 101, 103, 105, 111, 110, 32, 108, 111, 111, 112, 46, 101, 120, 97, 109, 112, 108, 101, 47, 112, 105, 120, 101, 108, 119, 111, 114, 107, 115, 47, 108, 97, 119, 115, 46, 70, 110, 69, 120, 97, 99, 116, 70, 108, 111, 111, 100, 82, 101, 103, 105, 111, 110, 32, 108, 111, 111, 112, 46, 101, 120, 97, 109, 112, 108, 101, 47, 112, 105, 120, 101, 108, 119, 111, 114, 107, 115, 47, 108, 97, 119, 115, 46, 70, 110, 70, 108, 111, 111, 100, 82, 101, 103, 105, 111, 110, 83, 97, 109, 101, 32, 108, 111, 111, 112, 46, 101, 120, 97, 109, 112, 108, 101, 47, 112, 105, 120, 101, 108, 119, 111, 114, 107, 115, 47, 108, 97, 119, 115, 46, 70, 110, 70, 108, 111, 111, 100, 82, 101, 103, 105, 111, 110, 32, 108, 111, 111, 112, 46, 101, 120, 97, 109, 112, 108, 101, 47, 112, 105, 120, 101, 108, 119, 111, 114, 107, 115, 47, 108, 97, 119, 115, 46, 70, 110, 69, 120, 97, 99, 116, 67, 104, 97, 110, 103, 101, 100, 66, 111, 120, 101, 115, 32, 108, 111, 111, 112, 46, 101, 120, 97, 109, 112, 108, 101, 47, 112, 105, 120, 101, 108, 119, 111, 114, 107, 115, 47, 108, 97, 119, 115, 46, 70, 110, 67, 104, 97, 110, 103, 101, 100, 66, 111, 120, 101, 115, 32, 108, 111, 111, 112, 46, 101, 120, 97, 109, 112, 108, 101, 47, 112, 105, 120, 101, 108, 119, 111, 114, 107, 115, 47, 108, 97, 119, 115, 46, 70, 110, 80, 97, 116, 99, 104, 73, 109, 97, 103, 101].map Char.ofNat
theorem signs0 : Try.prog.initOrder = String.ofList (w1 ++ Char.ofNat 32 :: (w2 ++ Char.ofNat 32 :: (w3 ++ Char.ofNat 32 :: w4))) := by kernel_rfl
theorem behind : behindMainWord (wordsSigns Try.prog.initOrder.toList) = w3 :: wordsSigns w4 := by
  rw [signs0, String.toList_ofList, wordsSigns_word w1 _ (by kernel_rfl), wordsSigns_word w2 _ (by kernel_rfl), wordsSigns_word w3 _ (by kernel_rfl)]
  unfold behindMainWord
  dsimp only
  rw [if_pos (by kernel_rfl)]
theorem strip_cut (R : List (List Char)) : stripLifts liftWords (w3 :: R) = ([], w3 :: R) := by kernel_rfl
theorem mayEnter_of (P : Program) (R : List (List Char)) (h : behindMainWord (wordsSigns P.initOrder.toList) = w3 :: R) (h1 : P.laysLater = false) (h2 : P.bearsReflect = false) (h3 : P.doorFits [] = true) : P.mayEnter = true := by
  unfold Program.mayEnter
  rw [h]
  dsimp only
  rw [strip_cut, h1, h2, h3]
  kernel_rfl
theorem liftsFinal_of (P : Program) (R : List (List Char)) (h : behindMainWord (wordsSigns P.initOrder.toList) = w3 :: R) : P.liftsFinal = false := by
  unfold Program.liftsFinal Program.headLifts
  rw [h]
  dsimp only
  rw [strip_cut]
  kernel_rfl
theorem make_of (P : Program) (R : List (List Char)) (h : behindMainWord (wordsSigns P.initOrder.toList) = w3 :: R) : P.make = some .cut := by
  unfold Program.make
  rw [h]
  kernel_rfl
theorem mayEnter : Try.prog.mayEnter = true := mayEnter_of _ _ behind (by kernel_rfl) (by kernel_rfl) (by kernel_rfl)
theorem liftsFinal : Try.prog.liftsFinal = false := liftsFinal_of _ _ behind
theorem make : Try.prog.make = some .cut := make_of _ _ behind
end Go.Proofs.Ytbgohbinonkhfaa.Head

-- PRINTED by print.py: the row of the law laws_FnFloodRegion, out of its Pure (the session's) and the printed walk. Not trusted: Lean checks it.
namespace Go.Proofs.Ytbgohbinonkhfaa.fnFloodRegion
open Go.ChangeShapes Go.WideShapes Go.ChangeAt Go.RowKit
open Go.ChangeMaps (open_string shut_string)
set_option linter.unusedVariables false
theorem own : ownKnob Try.prog.godebug = none := by kernel_rfl
theorem laidOut : laidOutB Try.prog = true := by kernel_rfl
def IsRow (k : IntKind) (w : World) (a : Option Addr) (len cap : Nat) (zs : List Int) : Prop :=
  (a = none ∧ len = 0 ∧ cap = 0 ∧ zs = []) ∨
  ∃ x, a = some x ∧ len ≤ cap ∧ cap ≤ maxLen ∧ zs.length = cap ∧ (∀ i, i < zs.length → w.cell? (x.add i) = some (.int k (zs.getD i 0))) ∧ ∀ n ∈ zs, (Lit.int k n).wf = true
set_option maxRecDepth 100000 in
theorem lifted (os : Os) (started : os.Started) (H : Type) (enc : TypeId × Value → H) :
    ReturnsInHanded {} Try.checked os 7 .any (Rows.fnFloodRegionSpec.pre6 enc Try.prog Try.f7 Rows.fnFloodRegionRow.domain false) (Rows.fnFloodRegionSpec.post enc Try.prog Try.f7 false true false false) := by
  refine returnsInHanded_of_change_sized (C := Try.checked) own started (by kernel_rfl) Try.func7
    (ChangeSpec.witness6 (enc := enc) (C := Try.checked) false ⟨#[], #[.slice none 0 0], []⟩ 8 (by kernel_rfl) (by kernel_rfl) (by kernel_rfl) (by kernel_rfl)) ?_
  intro W base args ds gs before hval0 hW hcnd hsz0 _
  have hsz : (DataW.weightsEach Try.prog (Try.f7.params.toList ++ Rows.fnFloodRegionSpec.plain.varTypes Try.prog) (ds ++ gs)).all (· ≤ reachBytes) = true := hsz0
  have hval : ∀ (j : Nat) t v, Try.f7.params[j]? = some t → args[j]? = some v → Value.okWide Try.prog W .any base t v := hval0
  have hW' := hW
  obtain ⟨p, q, hA0, hV, rfl, hfz, hnd⟩ := hW
  have hA : DataW.TrodAll enc Try.prog W 0 (fun _ => true) true Try.f7.params.toList args.toList ds p := hA0
  rw [Try.params7] at hA hval hsz
  obtain ⟨v0, vs0, d0, ds0, p0, q0, hargs, rfl, rfl, h0, r0⟩ := trodAll_cons hA
  obtain ⟨rfl, rfl, rfl⟩ := trodAll_nil r0
  obtain rfl : args = #[v0] := by cases args; simp_all
  obtain ⟨rfl, rfl⟩ := trodVars_none hV
  obtain ⟨a0, len0, cap0, rfl⟩ := okWide_slice Try.underlying35 (hval 0 35 v0 rfl rfl)
  have k0 := h0
  have lt0 : ∀ x ∈ p0, x.block < W.heap.size := by obtain ⟨m, hm⟩ := k0; exact DataW.trod_lt m _ _ _ hm
  obtain ⟨z0, w0⟩ : ∃ zs, IsRow .u8 W a0 len0 cap0 zs := by
    obtain ⟨fuel, hf⟩ := h0
    rcases open_ints Try.underlying35 Try.underlying5 (by kernel_rfl) hf with ⟨hcs, _⟩ | ⟨x, l, c, zs, hcs, _, hl, hm, hz, _, hcell, hwz⟩
    · simp [Value.cells] at hcs
      obtain ⟨rfl, rfl, rfl⟩ := hcs
      exact ⟨[], .inl ⟨rfl, rfl, rfl, rfl⟩⟩
    · simp [Value.cells] at hcs
      obtain ⟨rfl, rfl, rfl⟩ := hcs
      exact ⟨zs, .inr ⟨_, rfl, hl, hm, by simpa using hz, hcell, hwz⟩⟩
  have y0 : len0 * 1 ≤ 140737488351232 := Go.Proofs.YtbgohbinonkhfaaW.PrintWords.sized_ints hsz (j := 0) (t := 35) rfl rfl Try.underlying35 Try.underlying5 (by kernel_rfl) (by kernel_rfl) h0
  clear hA0 hval0 hsz0 hsz
  refine (Q.laws_FnFloodRegion.walk Pure.FnFloodRegion a0 len0 cap0 z0 W w0 y0).mono fun e W' ⟨he, bel⟩ => ?_
  subst he
  exact ⟨_, rfl, _, _, _, [], _, [], hW', trodAll_mk1 (shut_bool Try.underlying4 _), (trodAll_cons_mk (Below.trod laidOut (by kernel_rfl) (of_decide_eq_true (by kernel_rfl)) k0 bel lt0) trodAll_mk0), rfl, bel.frame _, fun h => by cases h⟩
set_option maxHeartbeats 4000000 in
theorem closed : joinedFacts Try.prog 7 Try.f7 Rows.fnFloodRegionSpec Rows.fnFloodRegionRow = true := by
  unfold joinedFacts
  rw [Head.mayEnter, Head.liftsFinal, Head.make]
  simp only [Bool.and_eq_true]
  repeat' apply And.intro
  all_goals first | exact True.intro | (as_aux_lemma => kernel_rfl)
theorem over : Rows.fnFloodRegionRow.holds Try.pinned (OpenSpec.ofChange Rows.fnFloodRegionSpec) :=
  OpenClaim.holds_of_wide 7 Try.f7 rfl rfl rfl rfl rfl rfl rfl ⟨rfl, rfl, rfl, rfl, rfl⟩ rfl rfl rfl rfl rfl (by kernel_rfl) Try.func7 closed
    (of_decide_eq_true (by kernel_rfl)) (by unfold Func.isWrapper; first | (rw [if_pos (by decide +kernel)]; kernel_rfl) | (rw [if_neg (by decide +kernel)]; exact ⟨rfl, rfl⟩))
    (fun os started H enc _ => lifted os started H enc)
theorem proved : Rows.FnFloodRegionSaid := over
#print axioms proved
end Go.Proofs.Ytbgohbinonkhfaa.fnFloodRegion
namespace Go.Proofs.Ytbgohbinonkhfaa
/-- The row, under a short name, for the claim. -/
theorem fnFloodRegion_holds : Rows.FnFloodRegionSaid := fnFloodRegion.proved
end Go.Proofs.Ytbgohbinonkhfaa
