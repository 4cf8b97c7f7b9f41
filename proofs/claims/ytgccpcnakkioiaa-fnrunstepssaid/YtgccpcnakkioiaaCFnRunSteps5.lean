/- A part of the proof that the statement FnRunStepsSaid holds, under no condition of its own: Steps are performed one by one: the law FnRunSteps over lists of numbers alone. -/
import Derived.Test.YtgccpcnakkioiaaCFnRunSteps1
import Derived.Test.YtgccpcnakkioiaaCFnRunSteps2
import Derived.Test.YtgccpcnakkioiaaCFnRunSteps3
import Derived.Test.YtgccpcnakkioiaaCFnRunSteps4
import Derived.Test.YtgccpcnakkioiaaRows
import Derived.JoinedOf
import Derived.KernelRfl
import Derived.WalkKit
import Derived.ProofKit
import Derived.OpenShut
import Derived.ShutString
import Derived.ChangeOld
import Derived.Below
import Derived.SizedLaws
import Derived.Test.YtgccpcnakkioiaaCFnRunStepsW1
namespace Go.Proofs.Ytgccpcnakkioiaa.Q
open Go.RowKit Go.Proofs.YtgccpcnakkioiaaW.PrintWords Go.Proofs.YtgccpcnakkioiaaW.PrintLast Go.Proofs.YtgccpcnakkioiaaW.PrintMore
open Go.Proofs.YtgccpcnakkioiaaW.PrintWords.Aside0 (mk)
attribute [local go_sem] max2_int min2_int max_two min_two max_three min_three max_four min_four
set_option linter.unusedVariables false
set_option linter.unusedSimpArgs false
mutual
def laws_FnRunSteps.j0 : Nat → List S43 → Int → Int → Bool → Int → Int → Int → List Int → Int → Int → Int → List Int → Int → Int → Int → List Int → Option (Bool)
 | 0, _, _, _, _, _, _, _, _, _, _, _, _, _, _, _, _ => none
 | k + 1, x4, x6, x8, x45, xz12, xz13, xz14, xz15, xz4, xz5, xz6, xz7, xz16, xz17, xz18, xz19 => if x45 = true then ((laws_equalImage.f k xz4 xz5 xz6 xz7 xz16 xz17 xz18 xz19).bind fun t9028 => (if t9028 = true then (some (x6 == x8)) else (some false))) else (laws_FnRunSteps.l0 k x4 x6 0 xz4 xz5 xz6 xz7 xz12 xz13 xz14 xz15)
def laws_FnRunSteps.l0 : Nat → List S43 → Int → Int → Int → Int → Int → List Int → Int → Int → Int → List Int → Option (Bool)
 | 0, _, _, _, _, _, _, _, _, _, _, _ => none
 | k + 1, x4, x6, x10, xz4, xz5, xz6, xz7, xz8, xz9, xz10, xz11 => if x10 < (x4.length : Int) then (if 0 ≤ x10 then ((impl_DoStep.f xz8 xz9 xz10 xz11 ((rd_T43 x4 x10).f0) ((rd_T43 x4 x10).f1.f0) ((rd_T43 x4 x10).f1.f1) ((rd_T43 x4 x10).f1.f2) ((rd_T43 x4 x10).f1.f3) ((rd_T43 x4 x10).f2)).bind fun bt9032 => (if bt9032.2.2.2.2 = true then (laws_FnRunSteps.l0 k x4 x6 (wrap64 (x10 + 1)) xz4 xz5 xz6 xz7 bt9032.1 bt9032.2.1 bt9032.2.2.1 bt9032.2.2.2.1) else (if x6 = x10 then ((laws_equalImage.f k xz8 xz9 xz10 xz11 xz4 xz5 xz6 xz7).bind fun t9040 => (some t9040)) else (some false)))) else none) else (if x6 = (x4.length : Int) then ((laws_equalImage.f k xz8 xz9 xz10 xz11 xz4 xz5 xz6 xz7).bind fun t9030 => (some t9030)) else (some false))
end
def laws_FnRunSteps.f (k : Nat) (l0 : List Int) : Option Bool := if (l0.length : Int) > 1048576 then (some true) else ((spec_DrawRunSteps.f k l0).bind fun bt9001 => ((impl_RunSteps.f k bt9001.1 bt9001.2.1 bt9001.2.2.1 bt9001.2.2.2.1 bt9001.2.2.2.2).bind fun bt9011 => ((spec_RunSteps.f k bt9001.1 bt9001.2.1 bt9001.2.2.1 bt9001.2.2.2.1 bt9001.2.2.2.2).bind fun bt9019 => ((laws_equalImage.f k bt9011.1 bt9011.2.1 bt9011.2.2.1 bt9011.2.2.2.1 bt9019.1 bt9019.2.1 bt9019.2.2.1 bt9019.2.2.2.1).bind fun t9027 => (if t9027 = true then (if bt9011.2.2.2.2 = bt9019.2.2.2.2 then (laws_FnRunSteps.j0 k bt9001.2.2.2.2 bt9011.2.2.2.2 bt9019.2.2.2.2 (decide (bt9011.2.2.2.2 < 0)) bt9001.1 bt9001.2.1 bt9001.2.2.1 bt9001.2.2.2.1 bt9011.1 bt9011.2.1 bt9011.2.2.1 bt9011.2.2.2.1 bt9019.1 bt9019.2.1 bt9019.2.2.1 bt9019.2.2.2.1) else (laws_FnRunSteps.j0 k bt9001.2.2.2.2 bt9011.2.2.2.2 bt9019.2.2.2.2 true bt9001.1 bt9001.2.1 bt9001.2.2.1 bt9001.2.2.2.1 bt9011.1 bt9011.2.1 bt9011.2.2.1 bt9011.2.2.2.1 bt9019.1 bt9019.2.1 bt9019.2.2.1 bt9019.2.2.2.1)) else (laws_FnRunSteps.j0 k bt9001.2.2.2.2 bt9011.2.2.2.2 bt9019.2.2.2.2 true bt9001.1 bt9001.2.1 bt9001.2.2.1 bt9001.2.2.2.1 bt9011.1 bt9011.2.1 bt9011.2.2.1 bt9011.2.2.2.1 bt9019.1 bt9019.2.1 bt9019.2.2.1 bt9019.2.2.2.1))))))
theorem laws_FnRunSteps.mono_l : ∀ k, (∀ y0 y1 y2 y3 y4 y5 y6 y7 y8 y9 y10 y11 y12 y13 y14 y15, LeO (laws_FnRunSteps.j0 k y0 y1 y2 y3 y4 y5 y6 y7 y8 y9 y10 y11 y12 y13 y14 y15) (laws_FnRunSteps.j0 (k + 1) y0 y1 y2 y3 y4 y5 y6 y7 y8 y9 y10 y11 y12 y13 y14 y15)) ∧ (∀ y0 y1 y2 y3 y4 y5 y6 y7 y8 y9 y10, LeO (laws_FnRunSteps.l0 k y0 y1 y2 y3 y4 y5 y6 y7 y8 y9 y10) (laws_FnRunSteps.l0 (k + 1) y0 y1 y2 y3 y4 y5 y6 y7 y8 y9 y10))
 | 0 => ⟨fun _ _ _ _ _ _ _ _ _ _ _ _ _ _ _ _ r h => by simp [laws_FnRunSteps.j0] at h, fun _ _ _ _ _ _ _ _ _ _ _ r h => by simp [laws_FnRunSteps.l0] at h⟩
 | k + 1 => by
  obtain ⟨ih0, ih1⟩ := laws_FnRunSteps.mono_l k
  refine ⟨?_, ?_⟩
  ·intro y0 y1 y2 y3 y4 y5 y6 y7 y8 y9 y10 y11 y12 y13 y14 y15
   unfold laws_FnRunSteps.j0
   repeat' first | (with_reducible exact ih1 _ _ _ _ _ _ _ _ _ _ _) | (with_reducible exact laws_equalImage.mono _ _ _ _ _ _ _ _ _) | (with_reducible exact LeO.refl _) | (with_reducible refine LeO.ite ?_ ?_) | (with_reducible refine LeO.bind ?_ (fun _ => ?_))
  ·intro y0 y1 y2 y3 y4 y5 y6 y7 y8 y9 y10
   unfold laws_FnRunSteps.l0
   repeat' first | (with_reducible exact ih1 _ _ _ _ _ _ _ _ _ _ _) | (with_reducible exact laws_equalImage.mono _ _ _ _ _ _ _ _ _) | (with_reducible exact LeO.refl _) | (with_reducible refine LeO.ite ?_ ?_) | (with_reducible refine LeO.bind ?_ (fun _ => ?_))
theorem laws_FnRunSteps.mono : ∀ a0 k, LeO (laws_FnRunSteps.f k a0) (laws_FnRunSteps.f (k + 1) a0) := by
 intro a0 k
 obtain ⟨ih0, ih1⟩ := laws_FnRunSteps.mono_l k
 unfold laws_FnRunSteps.f
 repeat' first | (with_reducible exact ih0 _ _ _ _ _ _ _ _ _ _ _ _ _ _ _ _) | (with_reducible exact impl_RunSteps.mono _ _ _ _ _ _) | (with_reducible exact laws_equalImage.mono _ _ _ _ _ _ _ _ _) | (with_reducible exact spec_DrawRunSteps.mono _ _) | (with_reducible exact spec_RunSteps.mono _ _ _ _ _ _) | (with_reducible exact LeO.refl _) | (with_reducible refine LeO.ite ?_ ?_) | (with_reducible refine LeO.bind ?_ (fun _ => ?_))
def laws_FnRunSteps.T12 : Bool × List (List Nat × List Nat) := (true, [([], []), ([], []), ([], []), ([1, 2], [1, 2]), ([3], [3]), ([0, 4], [0, 4]), ([5], [5]), ([6], [6]), ([6], [6]), ([], []), ([9, 7, 5, 0, 1, 2, 3, 4, 5, 6, 7, 9], [7, 9]), ([8, 10, 0, 1, 2, 3, 4, 5, 6, 7, 8, 9, 10], [8])])
def laws_FnRunSteps.B12 : List Nat := [0, 0, 0, 6, 14, 31, 63, 127, 127, 0, 767, 2047]
theorem laws_FnRunSteps.tab12 : rtab .any (opsOf Try.f8 12) = laws_FnRunSteps.T12 := by kernel_rfl
theorem laws_FnRunSteps.bits12 : waitsOk laws_FnRunSteps.T12.2 laws_FnRunSteps.B12 = true := by kernel_rfl
set_option maxHeartbeats 8000000 in
set_option maxRecDepth 100000 in
theorem laws_FnRunSteps.calls (k : Nat) (A0 : Option Addr) (c0 : Nat) (l0 : List Int) (r : Bool) (w : World) (hr0 : Kd.C (Kd.int .u8) w A0 l0.length l0) (hc0 : l0.length ≤ c0) (h : laws_FnRunSteps.f k l0 = some r) (hrt : r = true) :
  Calls Try.prog 8 #[.slice A0 l0.length c0] w fun e w' => e = .returned (.bool r) ∧ Below w.heap.size w w' := by
 have HRT := mk hrt
 clear hrt
 have hu28 := Try.underlying28
 have hu43 := Try.underlying43
 have HR0 := mk hr0
 have HC0 := mk hc0
 clear hr0 hc0
 have HB := mk (Below.refl w.heap.size w)
 have H : (if (l0.length : Int) > 1048576 then (some true) else ((spec_DrawRunSteps.f k l0).bind fun bt9001 => ((impl_RunSteps.f k bt9001.1 bt9001.2.1 bt9001.2.2.1 bt9001.2.2.2.1 bt9001.2.2.2.2).bind fun bt9011 => ((spec_RunSteps.f k bt9001.1 bt9001.2.1 bt9001.2.2.1 bt9001.2.2.2.1 bt9001.2.2.2.2).bind fun bt9019 => ((laws_equalImage.f k bt9011.1 bt9011.2.1 bt9011.2.2.1 bt9011.2.2.2.1 bt9019.1 bt9019.2.1 bt9019.2.2.1 bt9019.2.2.2.1).bind fun t9027 => (if t9027 = true then (if bt9011.2.2.2.2 = bt9019.2.2.2.2 then (laws_FnRunSteps.j0 k bt9001.2.2.2.2 bt9011.2.2.2.2 bt9019.2.2.2.2 (decide (bt9011.2.2.2.2 < 0)) bt9001.1 bt9001.2.1 bt9001.2.2.1 bt9001.2.2.2.1 bt9011.1 bt9011.2.1 bt9011.2.2.1 bt9011.2.2.2.1 bt9019.1 bt9019.2.1 bt9019.2.2.1 bt9019.2.2.2.1) else (laws_FnRunSteps.j0 k bt9001.2.2.2.2 bt9011.2.2.2.2 bt9019.2.2.2.2 true bt9001.1 bt9001.2.1 bt9001.2.2.1 bt9001.2.2.2.1 bt9011.1 bt9011.2.1 bt9011.2.2.1 bt9011.2.2.2.1 bt9019.1 bt9019.2.1 bt9019.2.2.1 bt9019.2.2.2.1)) else (laws_FnRunSteps.j0 k bt9001.2.2.2.2 bt9011.2.2.2.2 bt9019.2.2.2.2 true bt9001.1 bt9001.2.1 bt9001.2.2.1 bt9001.2.2.2.1 bt9011.1 bt9011.2.1 bt9011.2.2.1 bt9011.2.2.2.1 bt9019.1 bt9019.2.1 bt9019.2.2.1 bt9019.2.2.2.1))))))) = some r := h
 clear h
 by_cases c2 : (l0.length : Int) > 1048576
 ·rw [if_pos c2] at H
  have c2b0 : decide (1048576 < (l0.length : Int)) = true := decide_eq_true c2
  have c2b1 : decide (1048576 < l0.length) = true := decide_eq_true (by omega)
  clear c2
  obtain rfl := Option.some.inj H
  go_enter Try.func8, Try.ntmps8
  go_wp2
  go_ret
  exact ⟨by rfl, by exact HB.out⟩
 ·rw [if_neg c2] at H
  have c2b0 : decide (1048576 < (l0.length : Int)) = false := decide_eq_false c2
  have c2b1 : decide (1048576 < l0.length) = false := decide_eq_false (by omega)
  clear c2
  replace H := Option.bind_eq_some_iff.mp H
  obtain ⟨⟨t9001, t9002, t9003, t9004, t9007⟩, A30, H⟩ := H
  replace H : ((impl_RunSteps.f k t9001 t9002 t9003 t9004 t9007).bind fun bt9011 => ((spec_RunSteps.f k t9001 t9002 t9003 t9004 t9007).bind fun bt9019 => ((laws_equalImage.f k bt9011.1 bt9011.2.1 bt9011.2.2.1 bt9011.2.2.2.1 bt9019.1 bt9019.2.1 bt9019.2.2.1 bt9019.2.2.2.1).bind fun t9027 => (if t9027 = true then (if bt9011.2.2.2.2 = bt9019.2.2.2.2 then (laws_FnRunSteps.j0 k t9007 bt9011.2.2.2.2 bt9019.2.2.2.2 (decide (bt9011.2.2.2.2 < 0)) t9001 t9002 t9003 t9004 bt9011.1 bt9011.2.1 bt9011.2.2.1 bt9011.2.2.2.1 bt9019.1 bt9019.2.1 bt9019.2.2.1 bt9019.2.2.2.1) else (laws_FnRunSteps.j0 k t9007 bt9011.2.2.2.2 bt9019.2.2.2.2 true t9001 t9002 t9003 t9004 bt9011.1 bt9011.2.1 bt9011.2.2.1 bt9011.2.2.2.1 bt9019.1 bt9019.2.1 bt9019.2.2.1 bt9019.2.2.2.1)) else (laws_FnRunSteps.j0 k t9007 bt9011.2.2.2.2 bt9019.2.2.2.2 true t9001 t9002 t9003 t9004 bt9011.1 bt9011.2.1 bt9011.2.2.1 bt9011.2.2.2.1 bt9019.1 bt9019.2.1 bt9019.2.2.1 bt9019.2.2.2.1))))) = some r := H
  have A3 := mk A30
  clear A30
  replace H := Option.bind_eq_some_iff.mp H
  obtain ⟨⟨t9011, t9012, t9013, t9014, t9017⟩, A40, H⟩ := H
  replace H : ((spec_RunSteps.f k t9001 t9002 t9003 t9004 t9007).bind fun bt9019 => ((laws_equalImage.f k t9011 t9012 t9013 t9014 bt9019.1 bt9019.2.1 bt9019.2.2.1 bt9019.2.2.2.1).bind fun t9027 => (if t9027 = true then (if t9017 = bt9019.2.2.2.2 then (laws_FnRunSteps.j0 k t9007 t9017 bt9019.2.2.2.2 (decide (t9017 < 0)) t9001 t9002 t9003 t9004 t9011 t9012 t9013 t9014 bt9019.1 bt9019.2.1 bt9019.2.2.1 bt9019.2.2.2.1) else (laws_FnRunSteps.j0 k t9007 t9017 bt9019.2.2.2.2 true t9001 t9002 t9003 t9004 t9011 t9012 t9013 t9014 bt9019.1 bt9019.2.1 bt9019.2.2.1 bt9019.2.2.2.1)) else (laws_FnRunSteps.j0 k t9007 t9017 bt9019.2.2.2.2 true t9001 t9002 t9003 t9004 t9011 t9012 t9013 t9014 bt9019.1 bt9019.2.1 bt9019.2.2.1 bt9019.2.2.2.1)))) = some r := H
  have A4 := mk A40
  clear A40
  replace H := Option.bind_eq_some_iff.mp H
  obtain ⟨⟨t9019, t9020, t9021, t9022, t9025⟩, A50, H⟩ := H
  replace H : ((laws_equalImage.f k t9011 t9012 t9013 t9014 t9019 t9020 t9021 t9022).bind fun t9027 => (if t9027 = true then (if t9017 = t9025 then (laws_FnRunSteps.j0 k t9007 t9017 t9025 (decide (t9017 < 0)) t9001 t9002 t9003 t9004 t9011 t9012 t9013 t9014 t9019 t9020 t9021 t9022) else (laws_FnRunSteps.j0 k t9007 t9017 t9025 true t9001 t9002 t9003 t9004 t9011 t9012 t9013 t9014 t9019 t9020 t9021 t9022)) else (laws_FnRunSteps.j0 k t9007 t9017 t9025 true t9001 t9002 t9003 t9004 t9011 t9012 t9013 t9014 t9019 t9020 t9021 t9022))) = some r := H
  have A5 := mk A50
  clear A50
  have HC6 := mk H
  clear H
  go_enter Try.func8, Try.ntmps8
  go_upto_region 6 with (first | ((with_reducible refine gate_callee (f := 36) rfl ?_); refine goesL_ (some 18) rfl rfl Try.func36 (by kernel_rfl) rfl #[.slice A0 l0.length c0] rfl (by (try simp only [List.map_toArray, List.map_cons, List.map_nil]); rfl) ?_; (with_reducible refine (spec_DrawRunSteps.calls k _ _ l0 t9001 t9002 t9003 t9004 t9007 _ ?side1 ?side2 A3.out).mono ?_); (case side1 => repeat (exact HR0.out)); (case side2 => exact HC0.out); rintro e w7 ⟨v9005, v9008, rfl, ho0, ho1, hb⟩; refine ⟨_, rfl, ?_⟩; have HO9006 := mk (Kd.Q_lower (Kd.Q_mono (ok' := fun k_ => True) ho0 (fun _ hk_ => trivial)) (below_size HB.out)); have HO9009 := mk (Kd.N_lower (Kd.N_mono (ok' := fun k_ => some k_ ≠ (v9005 : Value).ownBlock) ho1 (fun k_ hk_ => hk_.2)) (below_size HB.out)); replace HB := mk (below_step HB.out hb); (try clear hb); (try clear ho0); (try clear ho1)) | ((with_reducible refine gate_dst (N := 3) rfl ?_); refine box_event (by rfl) (N := 3) (by rfl) (cs := #[.int .i64 0, .int .i64 0, .int .i64 0, .slice none 0 0]) (t := 28) (by go_simp; done) ?_; intro gb9010 hg w8 hbox hb; replace HO9006 := mk (Kd.Q_below HO9006.out hb); replace HO9009 := mk (Kd.N_below (Kd.N_elderB HO9009.out gb9010 (Nat.le_of_eq hg.symm)) hb); have BK9010 := mk (hbox); have GE9010 := mk ((by rw [hg]; exact (below_size HB.out) : w.heap.size ≤ gb9010)); replace HB := mk (below_step HB.out hb); clear hb hbox hg; obtain ⟨hcz9_0, hcz9_1, hcz9_2, hcz9_3, hfz9_0, hfz9_1, hfz9_2, hfz9_3⟩ := c4 BK9010.out; obtain ⟨Ao10, co10, eo10, _⟩ := Kd.Q_slice HO9006.out; subst eo10; obtain ⟨Ao11, co11, eo11⟩ := Kd.N_slice HO9009.out; subst eo11) | ((with_reducible refine gate_callee (f := 15) rfl ?_); refine goesL_ (some 24) rfl rfl Try.func15 (by kernel_rfl) rfl #[.agg #[.int .i64 t9001, .int .i64 t9002, .int .i64 t9003, .slice Ao10 t9004.length co10], .slice Ao11 t9007.length co11] rfl (by (try simp only [List.map_toArray, List.map_cons, List.map_nil]); rfl) ?_; (with_reducible refine (impl_RunSteps.calls k t9001 t9002 t9003 _ _ t9004 _ _ t9007 t9011 t9012 t9013 t9014 t9017 _ ?side1 ?side2 ?side3 ?side4 A4.out).mono ?_); (case side1 => refine (Kd.Q_reads' (e := 3) (base := w.heap.size) (ok := fun k_ => True) (n := t9004.length) (c := co10) ?_).2.2; exact (by exact (Kd.Q_mono (Kd.Q_far (p := ⟨gb9010, 3, none⟩) (Kd.Q_far (p := ⟨gb9010, 2, none⟩) (Kd.Q_far (p := ⟨gb9010, 1, none⟩) (Kd.Q_far (p := ⟨gb9010, 0, none⟩) (Kd.Q_types HO9006.out BK9010.out (by decide)) (fun _ hk => hk.2) (.int .i64 t9001)) (fun _ hk => hk.2) (.int .i64 t9002)) (fun _ hk => hk.2) (.int .i64 t9003)) (fun _ hk => hk.2) (.slice Ao10 t9004.length co10)) (fun _ h_ => h_.1)))); (case side2 => exact (Kd.Q_reads' HO9006.out).2.1); (case side3 => refine (Kd.N_reads' (e := 43) (base := w.heap.size) (ok := fun k_ => (some k_ ≠ (.slice Ao10 t9004.length co10 : Value).ownBlock ∧ k_ ≠ gb9010)) (n := t9007.length) (c := co11) ?_).2.2; exact (by exact (Kd.N_mono (Kd.N_far (p := ⟨gb9010, 3, none⟩) (Kd.N_far (p := ⟨gb9010, 2, none⟩) (Kd.N_far (p := ⟨gb9010, 1, none⟩) (Kd.N_far (p := ⟨gb9010, 0, none⟩) (Kd.N_mono HO9009.out (fun k_ hk => (⟨hk, hk.2⟩ : _ ∧ k_ ≠ gb9010))) (fun _ hk => hk.2) (.int .i64 t9001)) (fun _ hk => hk.2) (.int .i64 t9002)) (fun _ hk => hk.2) (.int .i64 t9003)) (fun _ hk => hk.2) (.slice Ao10 t9004.length co10)) (fun _ h_ => h_.1)))); (case side4 => exact (Kd.N_reads' HO9009.out).2.1); rintro e w12 ⟨v9015, rfl, ho0, hb⟩; refine ⟨_, rfl, ?_⟩; replace HO9009 := mk (Kd.N_elder' (by exact (Kd.N_mono (Kd.N_far (p := ⟨gb9010, 3, none⟩) (Kd.N_far (p := ⟨gb9010, 2, none⟩) (Kd.N_far (p := ⟨gb9010, 1, none⟩) (Kd.N_far (p := ⟨gb9010, 0, none⟩) (Kd.N_mono HO9009.out (fun k_ hk => (⟨hk, hk.2⟩ : _ ∧ k_ ≠ gb9010))) (fun _ hk => hk.2) (.int .i64 t9001)) (fun _ hk => hk.2) (.int .i64 t9002)) (fun _ hk => hk.2) (.int .i64 t9003)) (fun _ hk => hk.2) (.slice Ao10 t9004.length co10)) (fun _ h_ => h_.1))) (Kd.R_base ho0) hb); have HO9016 := mk (Kd.R_lower (Kd.R_new' ho0 (Kd.Q_lt (by exact (Kd.Q_mono (Kd.Q_far (p := ⟨gb9010, 3, none⟩) (Kd.Q_far (p := ⟨gb9010, 2, none⟩) (Kd.Q_far (p := ⟨gb9010, 1, none⟩) (Kd.Q_far (p := ⟨gb9010, 0, none⟩) (Kd.Q_types HO9006.out BK9010.out (by decide)) (fun _ hk => hk.2) (.int .i64 t9001)) (fun _ hk => hk.2) (.int .i64 t9002)) (fun _ hk => hk.2) (.int .i64 t9003)) (fun _ hk => hk.2) (.slice Ao10 t9004.length co10)) (fun _ h_ => h_.1))))) (below_size (by repeat (with_reducible first | exact HB.out | refine below_set ?_ GE9010.out)))); replace HO9006 := mk (Kd.Q_elder' (by exact (Kd.Q_mono (Kd.Q_far (p := ⟨gb9010, 3, none⟩) (Kd.Q_far (p := ⟨gb9010, 2, none⟩) (Kd.Q_far (p := ⟨gb9010, 1, none⟩) (Kd.Q_far (p := ⟨gb9010, 0, none⟩) (Kd.Q_types HO9006.out BK9010.out (by decide)) (fun _ hk => hk.2) (.int .i64 t9001)) (fun _ hk => hk.2) (.int .i64 t9002)) (fun _ hk => hk.2) (.int .i64 t9003)) (fun _ hk => hk.2) (.slice Ao10 t9004.length co10)) (fun _ h_ => h_.1))) (Kd.R_base ho0) hb); replace BK9010 := mk (blk_below (g := gb9010) (o := .cells #[.int .i64 t9001, .int .i64 t9002, .int .i64 t9003, .slice Ao10 t9004.length co10] 28 (0, 0)) (by refine blk_put (cs := #[.int .i64 t9001, .int .i64 t9002, .int .i64 t9003, .slice none 0 0]) ?_ 3 _ rfl; refine blk_put (cs := #[.int .i64 t9001, .int .i64 t9002, .int .i64 0, .slice none 0 0]) ?_ 2 _ rfl; refine blk_put (cs := #[.int .i64 t9001, .int .i64 0, .int .i64 0, .slice none 0 0]) ?_ 1 _ rfl; refine blk_put (cs := #[.int .i64 0, .int .i64 0, .int .i64 0, .slice none 0 0]) ?_ 0 _ rfl; exact BK9010.out) hb); replace HB := mk (below_step (by repeat (with_reducible first | exact HB.out | refine below_set ?_ GE9010.out)) hb); (try clear hb); (try clear ho0)) | ((with_reducible refine gate_dst (N := 5) rfl ?_); refine box_event (by rfl) (N := 5) (by rfl) (cs := #[.int .i64 0, .int .i64 0, .int .i64 0, .slice none 0 0]) (t := 28) (by go_simp; done) ?_; intro gb9018 hg w13 hbox hb; replace HO9006 := mk (Kd.Q_below HO9006.out hb); replace HO9009 := mk (Kd.N_below (Kd.N_elderB HO9009.out gb9018 (Nat.le_of_eq hg.symm)) hb); replace HO9016 := mk (Kd.R_below HO9016.out hb); have BK9018 := mk (hbox); have GE9018 := mk ((by rw [hg]; exact (below_size HB.out) : w.heap.size ≤ gb9018)); replace HB := mk (below_step HB.out hb); have NB9010_9018 := mk ((by rw [hg]; exact Nat.ne_of_lt (blk_lt BK9010.out) : gb9010 ≠ gb9018)); replace BK9010 := mk (blk_below BK9010.out hb); clear hb hbox hg; have hnc14 := NB9010_9018.out; obtain ⟨hcz15_0, hcz15_1, hcz15_2, hcz15_3, hfz15_0, hfz15_1, hfz15_2, hfz15_3⟩ := c4 BK9018.out; obtain ⟨Ao16, co16, eo16⟩ := Kd.R_slice HO9016.out; subst eo16; obtain ⟨hcz17_0, hcz17_1, hcz17_2, hcz17_3, hfz17_0, hfz17_1, hfz17_2, -⟩ := c4 BK9010.out; have hfz17_3 := blk_frozen BK9010.out 3) | ((with_reducible refine gate_callee (f := 12) rfl ?_); refine goesL_ (some 30) rfl rfl Try.func12 (by kernel_rfl) rfl #[.agg #[.int .i64 t9001, .int .i64 t9002, .int .i64 t9003, .slice Ao10 t9004.length co10], .slice Ao11 t9007.length co11] rfl (by (try simp only [List.map_toArray, List.map_cons, List.map_nil]); rfl) ?_; (with_reducible refine (spec_RunSteps.calls k t9001 t9002 t9003 _ _ t9004 _ _ t9007 t9019 t9020 t9021 t9022 t9025 _ ?side1 ?side2 ?side3 ?side4 A5.out).mono ?_); (case side1 => refine (Kd.Q_reads' (e := 3) (base := w.heap.size) (ok := fun k_ => (True ∧ some k_ ≠ (.slice Ao16 t9014.length co16 : Value).ownBlock)) (n := t9004.length) (c := co10) ?_).2.2; exact (by exact (Kd.Q_mono (Kd.Q_far (p := ⟨gb9018, 3, none⟩) (Kd.Q_far (p := ⟨gb9018, 2, none⟩) (Kd.Q_far (p := ⟨gb9018, 1, none⟩) (Kd.Q_far (p := ⟨gb9018, 0, none⟩) (Kd.Q_types HO9006.out BK9018.out (by decide)) (fun _ hk => hk.2) (.int .i64 t9011)) (fun _ hk => hk.2) (.int .i64 t9012)) (fun _ hk => hk.2) (.int .i64 t9013)) (fun _ hk => hk.2) (.slice Ao16 t9014.length co16)) (fun _ h_ => h_.1)))); (case side2 => exact (Kd.Q_reads' HO9006.out).2.1); (case side3 => refine (Kd.N_reads' (e := 43) (base := w.heap.size) (ok := fun k_ => (((some k_ ≠ (.slice Ao10 t9004.length co10 : Value).ownBlock ∧ k_ ≠ gb9010) ∧ some k_ ≠ (.slice Ao16 t9014.length co16 : Value).ownBlock) ∧ k_ ≠ gb9018)) (n := t9007.length) (c := co11) ?_).2.2; exact (by exact (Kd.N_mono (Kd.N_far (p := ⟨gb9018, 3, none⟩) (Kd.N_far (p := ⟨gb9018, 2, none⟩) (Kd.N_far (p := ⟨gb9018, 1, none⟩) (Kd.N_far (p := ⟨gb9018, 0, none⟩) (Kd.N_mono HO9009.out (fun k_ hk => (⟨hk, hk.2⟩ : _ ∧ k_ ≠ gb9018))) (fun _ hk => hk.2) (.int .i64 t9011)) (fun _ hk => hk.2) (.int .i64 t9012)) (fun _ hk => hk.2) (.int .i64 t9013)) (fun _ hk => hk.2) (.slice Ao16 t9014.length co16)) (fun _ h_ => h_.1)))); (case side4 => exact (Kd.N_reads' HO9009.out).2.1); rintro e w18 ⟨v9023, rfl, ho0, hb⟩; refine ⟨_, rfl, ?_⟩; replace HO9009 := mk (Kd.N_elder' (by exact (Kd.N_mono (Kd.N_far (p := ⟨gb9018, 3, none⟩) (Kd.N_far (p := ⟨gb9018, 2, none⟩) (Kd.N_far (p := ⟨gb9018, 1, none⟩) (Kd.N_far (p := ⟨gb9018, 0, none⟩) (Kd.N_mono HO9009.out (fun k_ hk => (⟨hk, hk.2⟩ : _ ∧ k_ ≠ gb9018))) (fun _ hk => hk.2) (.int .i64 t9011)) (fun _ hk => hk.2) (.int .i64 t9012)) (fun _ hk => hk.2) (.int .i64 t9013)) (fun _ hk => hk.2) (.slice Ao16 t9014.length co16)) (fun _ h_ => h_.1))) (Kd.R_base ho0) hb); have HO9024 := mk (Kd.R_lower (Kd.R_new' (Kd.R_new' ho0 (Kd.Q_lt (by exact (Kd.Q_mono (Kd.Q_far (p := ⟨gb9018, 3, none⟩) (Kd.Q_far (p := ⟨gb9018, 2, none⟩) (Kd.Q_far (p := ⟨gb9018, 1, none⟩) (Kd.Q_far (p := ⟨gb9018, 0, none⟩) (Kd.Q_types HO9006.out BK9018.out (by decide)) (fun _ hk => hk.2) (.int .i64 t9011)) (fun _ hk => hk.2) (.int .i64 t9012)) (fun _ hk => hk.2) (.int .i64 t9013)) (fun _ hk => hk.2) (.slice Ao16 t9014.length co16)) (fun _ h_ => h_.1))))) (Kd.R_lt (by exact (Kd.R_mono (Kd.R_far (p := ⟨gb9018, 3, none⟩) (Kd.R_far (p := ⟨gb9018, 2, none⟩) (Kd.R_far (p := ⟨gb9018, 1, none⟩) (Kd.R_far (p := ⟨gb9018, 0, none⟩) (Kd.R_types HO9016.out BK9018.out (by decide)) (fun _ hk => hk.2) (.int .i64 t9011)) (fun _ hk => hk.2) (.int .i64 t9012)) (fun _ hk => hk.2) (.int .i64 t9013)) (fun _ hk => hk.2) (.slice Ao16 t9014.length co16)) (fun _ h_ => h_.1))))) (below_size (by repeat (with_reducible first | exact HB.out | refine below_set ?_ GE9018.out)))); replace HO9006 := mk (Kd.Q_elder' (by exact (Kd.Q_mono (Kd.Q_far (p := ⟨gb9018, 3, none⟩) (Kd.Q_far (p := ⟨gb9018, 2, none⟩) (Kd.Q_far (p := ⟨gb9018, 1, none⟩) (Kd.Q_far (p := ⟨gb9018, 0, none⟩) (Kd.Q_types HO9006.out BK9018.out (by decide)) (fun _ hk => hk.2) (.int .i64 t9011)) (fun _ hk => hk.2) (.int .i64 t9012)) (fun _ hk => hk.2) (.int .i64 t9013)) (fun _ hk => hk.2) (.slice Ao16 t9014.length co16)) (fun _ h_ => h_.1))) (Kd.R_base ho0) hb); replace HO9016 := mk (Kd.R_elder' (by exact (Kd.R_mono (Kd.R_far (p := ⟨gb9018, 3, none⟩) (Kd.R_far (p := ⟨gb9018, 2, none⟩) (Kd.R_far (p := ⟨gb9018, 1, none⟩) (Kd.R_far (p := ⟨gb9018, 0, none⟩) (Kd.R_types HO9016.out BK9018.out (by decide)) (fun _ hk => hk.2) (.int .i64 t9011)) (fun _ hk => hk.2) (.int .i64 t9012)) (fun _ hk => hk.2) (.int .i64 t9013)) (fun _ hk => hk.2) (.slice Ao16 t9014.length co16)) (fun _ h_ => h_.1))) (Kd.R_base ho0) hb); replace BK9010 := mk (blk_below (g := gb9010) (o := .cells #[.int .i64 t9001, .int .i64 t9002, .int .i64 t9003, .slice Ao10 t9004.length co10] 28 (0, 0)) (by refine blk_far ?_ NB9010_9018.out _; refine blk_far ?_ NB9010_9018.out _; refine blk_far ?_ NB9010_9018.out _; refine blk_far ?_ NB9010_9018.out _; exact BK9010.out) hb); replace BK9018 := mk (blk_below (g := gb9018) (o := .cells #[.int .i64 t9011, .int .i64 t9012, .int .i64 t9013, .slice Ao16 t9014.length co16] 28 (0, 0)) (by refine blk_put (cs := #[.int .i64 t9011, .int .i64 t9012, .int .i64 t9013, .slice none 0 0]) ?_ 3 _ rfl; refine blk_put (cs := #[.int .i64 t9011, .int .i64 t9012, .int .i64 0, .slice none 0 0]) ?_ 2 _ rfl; refine blk_put (cs := #[.int .i64 t9011, .int .i64 0, .int .i64 0, .slice none 0 0]) ?_ 1 _ rfl; refine blk_put (cs := #[.int .i64 0, .int .i64 0, .int .i64 0, .slice none 0 0]) ?_ 0 _ rfl; exact BK9018.out) hb); replace HB := mk (below_step (by repeat (with_reducible first | exact HB.out | refine below_set ?_ GE9018.out)) hb); (try clear hb); (try clear ho0)) | ((with_reducible refine gate_dst (N := 7) rfl ?_); refine box_event (by rfl) (N := 7) (by rfl) (cs := #[.int .i64 0, .int .i64 0, .int .i64 0, .slice none 0 0]) (t := 28) (by go_simp; done) ?_; intro gb9026 hg w19 hbox hb; replace HO9006 := mk (Kd.Q_below HO9006.out hb); replace HO9009 := mk (Kd.N_below (Kd.N_elderB HO9009.out gb9026 (Nat.le_of_eq hg.symm)) hb); replace HO9016 := mk (Kd.R_below HO9016.out hb); replace HO9024 := mk (Kd.R_below HO9024.out hb); have BK9026 := mk (hbox); have GE9026 := mk ((by rw [hg]; exact (below_size HB.out) : w.heap.size ≤ gb9026)); replace HB := mk (below_step HB.out hb); have NB9010_9026 := mk ((by rw [hg]; exact Nat.ne_of_lt (blk_lt BK9010.out) : gb9010 ≠ gb9026)); have NB9026_9010 := mk ((by rw [hg]; exact Nat.ne_of_gt (blk_lt BK9010.out) : gb9026 ≠ gb9010)); replace BK9010 := mk (blk_below BK9010.out hb); have NB9018_9026 := mk ((by rw [hg]; exact Nat.ne_of_lt (blk_lt BK9018.out) : gb9018 ≠ gb9026)); have NB9026_9018 := mk ((by rw [hg]; exact Nat.ne_of_gt (blk_lt BK9018.out) : gb9026 ≠ gb9018)); replace BK9018 := mk (blk_below BK9018.out hb); clear hb hbox hg; obtain ⟨hcz22_0, hcz22_1, hcz22_2, hcz22_3, hfz22_0, hfz22_1, hfz22_2, hfz22_3⟩ := c4 BK9026.out; obtain ⟨Ao23, co23, eo23⟩ := Kd.R_slice HO9024.out; subst eo23))
  go_cut [45] (fun v45 wc => ∃ (kq : Nat) (x45_5 : Bool), v45 = .bool x45_5 ∧ Aside0 (laws_FnRunSteps.j0 kq t9007 t9017 t9025 x45_5 t9001 t9002 t9003 t9004 t9011 t9012 t9013 t9014 t9019 t9020 t9021 t9022 = some r) ∧ Aside0 (kq ≤ k) ∧ Aside0 (Kd.N k43 43 wc w.heap.size (fun k_ => some k_ ≠ ((.slice Ao10 t9004.length co10) : Value).ownBlock ∧ some k_ ≠ ((.slice Ao16 t9014.length co16) : Value).ownBlock ∧ some k_ ≠ ((.slice Ao23 t9022.length co23) : Value).ownBlock ∧ k_ ≠ gb9010 ∧ k_ ≠ gb9018 ∧ k_ ≠ gb9026) (.slice Ao11 t9007.length co11) t9007) ∧ Aside0 (Kd.Q (Kd.int .i64) 3 wc w.heap.size (fun k_ => some k_ ≠ ((.slice Ao16 t9014.length co16) : Value).ownBlock ∧ some k_ ≠ ((.slice Ao23 t9022.length co23) : Value).ownBlock) (.slice Ao10 t9004.length co10) t9004) ∧ Aside0 (Kd.Q (Kd.int .i64) 3 wc w.heap.size (fun k_ => some k_ ≠ ((.slice Ao10 t9004.length co10) : Value).ownBlock ∧ some k_ ≠ ((.slice Ao23 t9022.length co23) : Value).ownBlock) (.slice Ao16 t9014.length co16) t9014) ∧ Aside0 (Kd.Q (Kd.int .i64) 3 wc w.heap.size (fun k_ => some k_ ≠ ((.slice Ao10 t9004.length co10) : Value).ownBlock ∧ some k_ ≠ ((.slice Ao16 t9014.length co16) : Value).ownBlock) (.slice Ao23 t9022.length co23) t9022) ∧ Aside0 (wc.heap[gb9010]? = some (.cells #[.int .i64 t9001, .int .i64 t9002, .int .i64 t9003, (.slice Ao10 t9004.length co10)] 28 (0, 0))) ∧ Aside0 (wc.heap[gb9018]? = some (.cells #[.int .i64 t9011, .int .i64 t9012, .int .i64 t9013, (.slice Ao16 t9014.length co16)] 28 (0, 0))) ∧ Aside0 (wc.heap[gb9026]? = some (.cells #[.int .i64 t9019, .int .i64 t9020, .int .i64 t9021, (.slice Ao23 t9022.length co23)] 28 (0, 0))) ∧ Aside0 (Below w.heap.size w wc))
  case first =>
   have H := HC6.out
   clear HC6
   replace H := Option.bind_eq_some_iff.mp H
   obtain ⟨t9027, A240, H⟩ := H
   replace H : (if t9027 = true then (if t9017 = t9025 then (laws_FnRunSteps.j0 k t9007 t9017 t9025 (decide (t9017 < 0)) t9001 t9002 t9003 t9004 t9011 t9012 t9013 t9014 t9019 t9020 t9021 t9022) else (laws_FnRunSteps.j0 k t9007 t9017 t9025 true t9001 t9002 t9003 t9004 t9011 t9012 t9013 t9014 t9019 t9020 t9021 t9022)) else (laws_FnRunSteps.j0 k t9007 t9017 t9025 true t9001 t9002 t9003 t9004 t9011 t9012 t9013 t9014 t9019 t9020 t9021 t9022)) = some r := H
   have A24 := mk A240
   clear A240
   by_cases c25 : t9027 = true
   ·subst c25
    have H1 : (if t9017 = t9025 then (laws_FnRunSteps.j0 k t9007 t9017 t9025 (decide (t9017 < 0)) t9001 t9002 t9003 t9004 t9011 t9012 t9013 t9014 t9019 t9020 t9021 t9022) else (laws_FnRunSteps.j0 k t9007 t9017 t9025 true t9001 t9002 t9003 t9004 t9011 t9012 t9013 t9014 t9019 t9020 t9021 t9022)) = some r := by rw [if_pos rfl] at H; exact H
    clear H
    have H := H1
    clear H1
    by_cases c26 : t9017 = t9025
    ·rw [if_pos c26] at H
     have c26b0 : (t9017 == t9025) = true := beq_iff_eq.mpr c26
     have c26b1 : (t9017 != t9025) = false := bne_eq_false_iff_eq.mpr c26
     clear c26
     (skip)
     have H' := mk H
     clear H
     have hnc28 := NB9026_9018.out
     obtain ⟨hcz29_0, hcz29_1, hcz29_2, hcz29_3, -⟩ := c4 BK9018.out
     have hnb30 := NB9026_9010.out
     have hnc30 := NB9010_9026.out
     go_wp2_with (first | ((with_reducible refine gate_callee (f := 24) rfl ?_); refine goesL_ (some 35) rfl rfl Try.func24 (by kernel_rfl) rfl #[.agg #[.int .i64 t9011, .int .i64 t9012, .int .i64 t9013, .slice Ao16 t9014.length co16], .agg #[.int .i64 t9019, .int .i64 t9020, .int .i64 t9021, .slice Ao23 t9022.length co23]] rfl (by (try simp only [List.map_toArray, List.map_cons, List.map_nil]); rfl) ?_; (with_reducible refine (laws_equalImage.calls k t9011 t9012 t9013 _ _ t9014 t9019 t9020 t9021 _ _ t9022 true _ ?side1 ?side2 ?side3 ?side4 A24.out).mono ?_); (case side1 => refine (Kd.R_reads' (e := 3) (base := w.heap.size) (ok := fun k_ => ((True ∧ some k_ ≠ (.slice Ao10 t9004.length co10 : Value).ownBlock) ∧ some k_ ≠ (.slice Ao23 t9022.length co23 : Value).ownBlock)) (n := t9014.length) (c := co16) ?_).2.2; exact (by exact (Kd.R_mono (Kd.R_far (p := ⟨gb9026, 3, none⟩) (Kd.R_far (p := ⟨gb9026, 2, none⟩) (Kd.R_far (p := ⟨gb9026, 1, none⟩) (Kd.R_far (p := ⟨gb9026, 0, none⟩) (Kd.R_types HO9016.out BK9026.out (by decide)) (fun _ hk => hk.2) (.int .i64 t9019)) (fun _ hk => hk.2) (.int .i64 t9020)) (fun _ hk => hk.2) (.int .i64 t9021)) (fun _ hk => hk.2) (.slice Ao23 t9022.length co23)) (fun _ h_ => h_.1)))); (case side2 => exact (Kd.R_reads' HO9016.out).2.1); (case side3 => refine (Kd.R_reads' (e := 3) (base := w.heap.size) (ok := fun k_ => ((True ∧ some k_ ≠ (.slice Ao10 t9004.length co10 : Value).ownBlock) ∧ some k_ ≠ (.slice Ao16 t9014.length co16 : Value).ownBlock)) (n := t9022.length) (c := co23) ?_).2.2; exact (by exact (Kd.R_mono (Kd.R_far (p := ⟨gb9026, 3, none⟩) (Kd.R_far (p := ⟨gb9026, 2, none⟩) (Kd.R_far (p := ⟨gb9026, 1, none⟩) (Kd.R_far (p := ⟨gb9026, 0, none⟩) (Kd.R_types HO9024.out BK9026.out (by decide)) (fun _ hk => hk.2) (.int .i64 t9019)) (fun _ hk => hk.2) (.int .i64 t9020)) (fun _ hk => hk.2) (.int .i64 t9021)) (fun _ hk => hk.2) (.slice Ao23 t9022.length co23)) (fun _ h_ => h_.1)))); (case side4 => exact (Kd.R_reads' HO9024.out).2.1); rintro e w32 ⟨rfl, hb⟩; refine ⟨_, rfl, ?_⟩; replace HO9006 := mk (Kd.Q_below (by exact (Kd.Q_mono (Kd.Q_far (p := ⟨gb9026, 3, none⟩) (Kd.Q_far (p := ⟨gb9026, 2, none⟩) (Kd.Q_far (p := ⟨gb9026, 1, none⟩) (Kd.Q_far (p := ⟨gb9026, 0, none⟩) (Kd.Q_types HO9006.out BK9026.out (by decide)) (fun _ hk => hk.2) (.int .i64 t9019)) (fun _ hk => hk.2) (.int .i64 t9020)) (fun _ hk => hk.2) (.int .i64 t9021)) (fun _ hk => hk.2) (.slice Ao23 t9022.length co23)) (fun _ h_ => h_.1))) hb); replace HO9009 := mk (Kd.N_below (by exact (Kd.N_mono (Kd.N_far (p := ⟨gb9026, 3, none⟩) (Kd.N_far (p := ⟨gb9026, 2, none⟩) (Kd.N_far (p := ⟨gb9026, 1, none⟩) (Kd.N_far (p := ⟨gb9026, 0, none⟩) (Kd.N_mono HO9009.out (fun k_ hk => (⟨hk, hk.2⟩ : _ ∧ k_ ≠ gb9026))) (fun _ hk => hk.2) (.int .i64 t9019)) (fun _ hk => hk.2) (.int .i64 t9020)) (fun _ hk => hk.2) (.int .i64 t9021)) (fun _ hk => hk.2) (.slice Ao23 t9022.length co23)) (fun _ h_ => h_.1))) hb); replace HO9016 := mk (Kd.R_below (by exact (Kd.R_mono (Kd.R_far (p := ⟨gb9026, 3, none⟩) (Kd.R_far (p := ⟨gb9026, 2, none⟩) (Kd.R_far (p := ⟨gb9026, 1, none⟩) (Kd.R_far (p := ⟨gb9026, 0, none⟩) (Kd.R_types HO9016.out BK9026.out (by decide)) (fun _ hk => hk.2) (.int .i64 t9019)) (fun _ hk => hk.2) (.int .i64 t9020)) (fun _ hk => hk.2) (.int .i64 t9021)) (fun _ hk => hk.2) (.slice Ao23 t9022.length co23)) (fun _ h_ => h_.1))) hb); replace HO9024 := mk (Kd.R_below (by exact (Kd.R_mono (Kd.R_far (p := ⟨gb9026, 3, none⟩) (Kd.R_far (p := ⟨gb9026, 2, none⟩) (Kd.R_far (p := ⟨gb9026, 1, none⟩) (Kd.R_far (p := ⟨gb9026, 0, none⟩) (Kd.R_types HO9024.out BK9026.out (by decide)) (fun _ hk => hk.2) (.int .i64 t9019)) (fun _ hk => hk.2) (.int .i64 t9020)) (fun _ hk => hk.2) (.int .i64 t9021)) (fun _ hk => hk.2) (.slice Ao23 t9022.length co23)) (fun _ h_ => h_.1))) hb); replace BK9010 := mk (blk_below (g := gb9010) (o := .cells #[.int .i64 t9001, .int .i64 t9002, .int .i64 t9003, .slice Ao10 t9004.length co10] 28 (0, 0)) (by refine blk_far ?_ NB9010_9026.out _; refine blk_far ?_ NB9010_9026.out _; refine blk_far ?_ NB9010_9026.out _; refine blk_far ?_ NB9010_9026.out _; exact BK9010.out) hb); replace BK9018 := mk (blk_below (g := gb9018) (o := .cells #[.int .i64 t9011, .int .i64 t9012, .int .i64 t9013, .slice Ao16 t9014.length co16] 28 (0, 0)) (by refine blk_far ?_ NB9018_9026.out _; refine blk_far ?_ NB9018_9026.out _; refine blk_far ?_ NB9018_9026.out _; refine blk_far ?_ NB9018_9026.out _; exact BK9018.out) hb); replace BK9026 := mk (blk_below (g := gb9026) (o := .cells #[.int .i64 t9019, .int .i64 t9020, .int .i64 t9021, .slice Ao23 t9022.length co23] 28 (0, 0)) (by refine blk_put (cs := #[.int .i64 t9019, .int .i64 t9020, .int .i64 t9021, .slice none 0 0]) ?_ 3 _ rfl; refine blk_put (cs := #[.int .i64 t9019, .int .i64 t9020, .int .i64 0, .slice none 0 0]) ?_ 2 _ rfl; refine blk_put (cs := #[.int .i64 t9019, .int .i64 0, .int .i64 0, .slice none 0 0]) ?_ 1 _ rfl; refine blk_put (cs := #[.int .i64 0, .int .i64 0, .int .i64 0, .slice none 0 0]) ?_ 0 _ rfl; exact BK9026.out) hb); replace HB := mk (below_step (by repeat (with_reducible first | exact HB.out | refine below_set ?_ GE9026.out)) hb); (try clear hb)))
     go_meet
     case rel => exact ⟨_, (decide (t9017 < 0)), (by rfl), H', ⟨by omega⟩, ⟨by exact Kd.N_mono HO9009.out (fun _ hk => ⟨hk.1.1.1.1.1, ⟨hk.1.1.1.2, ⟨hk.1.2, ⟨hk.1.1.1.1.2, ⟨hk.1.1.2, hk.2⟩⟩⟩⟩⟩)⟩, ⟨by exact Kd.Q_mono HO9006.out (fun _ hk => by simp [hk])⟩, ⟨Kd.Q_of_R (by exact Kd.R_mono HO9016.out (fun _ hk => by simp [hk]))⟩, ⟨Kd.Q_of_R (by exact Kd.R_mono HO9024.out (fun _ hk => by simp [hk]))⟩, BK9010, BK9018, BK9026, HB⟩
    ·rw [if_neg c26] at H
     have c26b0 : (t9017 == t9025) = false := beq_eq_false_iff_ne.mpr c26
     have c26b1 : (t9017 != t9025) = true := bne_iff_ne.mpr c26
     (skip)
     have H' := mk H
     clear H
     have hnc34 := NB9026_9018.out
     obtain ⟨hcz35_0, hcz35_1, hcz35_2, hcz35_3, -⟩ := c4 BK9018.out
     have hnb36 := NB9026_9010.out
     have hnc36 := NB9010_9026.out
     go_wp2_with (first | ((with_reducible refine gate_callee (f := 24) rfl ?_); refine goesL_ (some 35) rfl rfl Try.func24 (by kernel_rfl) rfl #[.agg #[.int .i64 t9011, .int .i64 t9012, .int .i64 t9013, .slice Ao16 t9014.length co16], .agg #[.int .i64 t9019, .int .i64 t9020, .int .i64 t9021, .slice Ao23 t9022.length co23]] rfl (by (try simp only [List.map_toArray, List.map_cons, List.map_nil]); rfl) ?_; (with_reducible refine (laws_equalImage.calls k t9011 t9012 t9013 _ _ t9014 t9019 t9020 t9021 _ _ t9022 true _ ?side1 ?side2 ?side3 ?side4 A24.out).mono ?_); (case side1 => refine (Kd.R_reads' (e := 3) (base := w.heap.size) (ok := fun k_ => ((True ∧ some k_ ≠ (.slice Ao10 t9004.length co10 : Value).ownBlock) ∧ some k_ ≠ (.slice Ao23 t9022.length co23 : Value).ownBlock)) (n := t9014.length) (c := co16) ?_).2.2; exact (by exact (Kd.R_mono (Kd.R_far (p := ⟨gb9026, 3, none⟩) (Kd.R_far (p := ⟨gb9026, 2, none⟩) (Kd.R_far (p := ⟨gb9026, 1, none⟩) (Kd.R_far (p := ⟨gb9026, 0, none⟩) (Kd.R_types HO9016.out BK9026.out (by decide)) (fun _ hk => hk.2) (.int .i64 t9019)) (fun _ hk => hk.2) (.int .i64 t9020)) (fun _ hk => hk.2) (.int .i64 t9021)) (fun _ hk => hk.2) (.slice Ao23 t9022.length co23)) (fun _ h_ => h_.1)))); (case side2 => exact (Kd.R_reads' HO9016.out).2.1); (case side3 => refine (Kd.R_reads' (e := 3) (base := w.heap.size) (ok := fun k_ => ((True ∧ some k_ ≠ (.slice Ao10 t9004.length co10 : Value).ownBlock) ∧ some k_ ≠ (.slice Ao16 t9014.length co16 : Value).ownBlock)) (n := t9022.length) (c := co23) ?_).2.2; exact (by exact (Kd.R_mono (Kd.R_far (p := ⟨gb9026, 3, none⟩) (Kd.R_far (p := ⟨gb9026, 2, none⟩) (Kd.R_far (p := ⟨gb9026, 1, none⟩) (Kd.R_far (p := ⟨gb9026, 0, none⟩) (Kd.R_types HO9024.out BK9026.out (by decide)) (fun _ hk => hk.2) (.int .i64 t9019)) (fun _ hk => hk.2) (.int .i64 t9020)) (fun _ hk => hk.2) (.int .i64 t9021)) (fun _ hk => hk.2) (.slice Ao23 t9022.length co23)) (fun _ h_ => h_.1)))); (case side4 => exact (Kd.R_reads' HO9024.out).2.1); rintro e w38 ⟨rfl, hb⟩; refine ⟨_, rfl, ?_⟩; replace HO9006 := mk (Kd.Q_below (by exact (Kd.Q_mono (Kd.Q_far (p := ⟨gb9026, 3, none⟩) (Kd.Q_far (p := ⟨gb9026, 2, none⟩) (Kd.Q_far (p := ⟨gb9026, 1, none⟩) (Kd.Q_far (p := ⟨gb9026, 0, none⟩) (Kd.Q_types HO9006.out BK9026.out (by decide)) (fun _ hk => hk.2) (.int .i64 t9019)) (fun _ hk => hk.2) (.int .i64 t9020)) (fun _ hk => hk.2) (.int .i64 t9021)) (fun _ hk => hk.2) (.slice Ao23 t9022.length co23)) (fun _ h_ => h_.1))) hb); replace HO9009 := mk (Kd.N_below (by exact (Kd.N_mono (Kd.N_far (p := ⟨gb9026, 3, none⟩) (Kd.N_far (p := ⟨gb9026, 2, none⟩) (Kd.N_far (p := ⟨gb9026, 1, none⟩) (Kd.N_far (p := ⟨gb9026, 0, none⟩) (Kd.N_mono HO9009.out (fun k_ hk => (⟨hk, hk.2⟩ : _ ∧ k_ ≠ gb9026))) (fun _ hk => hk.2) (.int .i64 t9019)) (fun _ hk => hk.2) (.int .i64 t9020)) (fun _ hk => hk.2) (.int .i64 t9021)) (fun _ hk => hk.2) (.slice Ao23 t9022.length co23)) (fun _ h_ => h_.1))) hb); replace HO9016 := mk (Kd.R_below (by exact (Kd.R_mono (Kd.R_far (p := ⟨gb9026, 3, none⟩) (Kd.R_far (p := ⟨gb9026, 2, none⟩) (Kd.R_far (p := ⟨gb9026, 1, none⟩) (Kd.R_far (p := ⟨gb9026, 0, none⟩) (Kd.R_types HO9016.out BK9026.out (by decide)) (fun _ hk => hk.2) (.int .i64 t9019)) (fun _ hk => hk.2) (.int .i64 t9020)) (fun _ hk => hk.2) (.int .i64 t9021)) (fun _ hk => hk.2) (.slice Ao23 t9022.length co23)) (fun _ h_ => h_.1))) hb); replace HO9024 := mk (Kd.R_below (by exact (Kd.R_mono (Kd.R_far (p := ⟨gb9026, 3, none⟩) (Kd.R_far (p := ⟨gb9026, 2, none⟩) (Kd.R_far (p := ⟨gb9026, 1, none⟩) (Kd.R_far (p := ⟨gb9026, 0, none⟩) (Kd.R_types HO9024.out BK9026.out (by decide)) (fun _ hk => hk.2) (.int .i64 t9019)) (fun _ hk => hk.2) (.int .i64 t9020)) (fun _ hk => hk.2) (.int .i64 t9021)) (fun _ hk => hk.2) (.slice Ao23 t9022.length co23)) (fun _ h_ => h_.1))) hb); replace BK9010 := mk (blk_below (g := gb9010) (o := .cells #[.int .i64 t9001, .int .i64 t9002, .int .i64 t9003, .slice Ao10 t9004.length co10] 28 (0, 0)) (by refine blk_far ?_ NB9010_9026.out _; refine blk_far ?_ NB9010_9026.out _; refine blk_far ?_ NB9010_9026.out _; refine blk_far ?_ NB9010_9026.out _; exact BK9010.out) hb); replace BK9018 := mk (blk_below (g := gb9018) (o := .cells #[.int .i64 t9011, .int .i64 t9012, .int .i64 t9013, .slice Ao16 t9014.length co16] 28 (0, 0)) (by refine blk_far ?_ NB9018_9026.out _; refine blk_far ?_ NB9018_9026.out _; refine blk_far ?_ NB9018_9026.out _; refine blk_far ?_ NB9018_9026.out _; exact BK9018.out) hb); replace BK9026 := mk (blk_below (g := gb9026) (o := .cells #[.int .i64 t9019, .int .i64 t9020, .int .i64 t9021, .slice Ao23 t9022.length co23] 28 (0, 0)) (by refine blk_put (cs := #[.int .i64 t9019, .int .i64 t9020, .int .i64 t9021, .slice none 0 0]) ?_ 3 _ rfl; refine blk_put (cs := #[.int .i64 t9019, .int .i64 t9020, .int .i64 0, .slice none 0 0]) ?_ 2 _ rfl; refine blk_put (cs := #[.int .i64 t9019, .int .i64 0, .int .i64 0, .slice none 0 0]) ?_ 1 _ rfl; refine blk_put (cs := #[.int .i64 0, .int .i64 0, .int .i64 0, .slice none 0 0]) ?_ 0 _ rfl; exact BK9026.out) hb); replace HB := mk (below_step (by repeat (with_reducible first | exact HB.out | refine below_set ?_ GE9026.out)) hb); (try clear hb)))
     go_meet
     case rel => exact ⟨_, (true), (by rfl), H', ⟨by omega⟩, ⟨by exact Kd.N_mono HO9009.out (fun _ hk => ⟨hk.1.1.1.1.1, ⟨hk.1.1.1.2, ⟨hk.1.2, ⟨hk.1.1.1.1.2, ⟨hk.1.1.2, hk.2⟩⟩⟩⟩⟩)⟩, ⟨by exact Kd.Q_mono HO9006.out (fun _ hk => by simp [hk])⟩, ⟨Kd.Q_of_R (by exact Kd.R_mono HO9016.out (fun _ hk => by simp [hk]))⟩, ⟨Kd.Q_of_R (by exact Kd.R_mono HO9024.out (fun _ hk => by simp [hk]))⟩, BK9010, BK9018, BK9026, HB⟩
   ·replace c25 := Bool.eq_false_iff.mpr c25
    subst c25
    have H1 : (laws_FnRunSteps.j0 k t9007 t9017 t9025 true t9001 t9002 t9003 t9004 t9011 t9012 t9013 t9014 t9019 t9020 t9021 t9022) = some r := by rw [if_neg (show ¬ (false = true) by decide)] at H; exact H
    clear H
    have H := H1
    clear H1
    have H' := mk H
    clear H
    have hnc40 := NB9026_9018.out
    obtain ⟨hcz41_0, hcz41_1, hcz41_2, hcz41_3, -⟩ := c4 BK9018.out
    have hnb42 := NB9026_9010.out
    have hnc42 := NB9010_9026.out
    go_wp2_with (first | ((with_reducible refine gate_callee (f := 24) rfl ?_); refine goesL_ (some 35) rfl rfl Try.func24 (by kernel_rfl) rfl #[.agg #[.int .i64 t9011, .int .i64 t9012, .int .i64 t9013, .slice Ao16 t9014.length co16], .agg #[.int .i64 t9019, .int .i64 t9020, .int .i64 t9021, .slice Ao23 t9022.length co23]] rfl (by (try simp only [List.map_toArray, List.map_cons, List.map_nil]); rfl) ?_; (with_reducible refine (laws_equalImage.calls k t9011 t9012 t9013 _ _ t9014 t9019 t9020 t9021 _ _ t9022 false _ ?side1 ?side2 ?side3 ?side4 A24.out).mono ?_); (case side1 => refine (Kd.R_reads' (e := 3) (base := w.heap.size) (ok := fun k_ => ((True ∧ some k_ ≠ (.slice Ao10 t9004.length co10 : Value).ownBlock) ∧ some k_ ≠ (.slice Ao23 t9022.length co23 : Value).ownBlock)) (n := t9014.length) (c := co16) ?_).2.2; exact (by exact (Kd.R_mono (Kd.R_far (p := ⟨gb9026, 3, none⟩) (Kd.R_far (p := ⟨gb9026, 2, none⟩) (Kd.R_far (p := ⟨gb9026, 1, none⟩) (Kd.R_far (p := ⟨gb9026, 0, none⟩) (Kd.R_types HO9016.out BK9026.out (by decide)) (fun _ hk => hk.2) (.int .i64 t9019)) (fun _ hk => hk.2) (.int .i64 t9020)) (fun _ hk => hk.2) (.int .i64 t9021)) (fun _ hk => hk.2) (.slice Ao23 t9022.length co23)) (fun _ h_ => h_.1)))); (case side2 => exact (Kd.R_reads' HO9016.out).2.1); (case side3 => refine (Kd.R_reads' (e := 3) (base := w.heap.size) (ok := fun k_ => ((True ∧ some k_ ≠ (.slice Ao10 t9004.length co10 : Value).ownBlock) ∧ some k_ ≠ (.slice Ao16 t9014.length co16 : Value).ownBlock)) (n := t9022.length) (c := co23) ?_).2.2; exact (by exact (Kd.R_mono (Kd.R_far (p := ⟨gb9026, 3, none⟩) (Kd.R_far (p := ⟨gb9026, 2, none⟩) (Kd.R_far (p := ⟨gb9026, 1, none⟩) (Kd.R_far (p := ⟨gb9026, 0, none⟩) (Kd.R_types HO9024.out BK9026.out (by decide)) (fun _ hk => hk.2) (.int .i64 t9019)) (fun _ hk => hk.2) (.int .i64 t9020)) (fun _ hk => hk.2) (.int .i64 t9021)) (fun _ hk => hk.2) (.slice Ao23 t9022.length co23)) (fun _ h_ => h_.1)))); (case side4 => exact (Kd.R_reads' HO9024.out).2.1); rintro e w44 ⟨rfl, hb⟩; refine ⟨_, rfl, ?_⟩; replace HO9006 := mk (Kd.Q_below (by exact (Kd.Q_mono (Kd.Q_far (p := ⟨gb9026, 3, none⟩) (Kd.Q_far (p := ⟨gb9026, 2, none⟩) (Kd.Q_far (p := ⟨gb9026, 1, none⟩) (Kd.Q_far (p := ⟨gb9026, 0, none⟩) (Kd.Q_types HO9006.out BK9026.out (by decide)) (fun _ hk => hk.2) (.int .i64 t9019)) (fun _ hk => hk.2) (.int .i64 t9020)) (fun _ hk => hk.2) (.int .i64 t9021)) (fun _ hk => hk.2) (.slice Ao23 t9022.length co23)) (fun _ h_ => h_.1))) hb); replace HO9009 := mk (Kd.N_below (by exact (Kd.N_mono (Kd.N_far (p := ⟨gb9026, 3, none⟩) (Kd.N_far (p := ⟨gb9026, 2, none⟩) (Kd.N_far (p := ⟨gb9026, 1, none⟩) (Kd.N_far (p := ⟨gb9026, 0, none⟩) (Kd.N_mono HO9009.out (fun k_ hk => (⟨hk, hk.2⟩ : _ ∧ k_ ≠ gb9026))) (fun _ hk => hk.2) (.int .i64 t9019)) (fun _ hk => hk.2) (.int .i64 t9020)) (fun _ hk => hk.2) (.int .i64 t9021)) (fun _ hk => hk.2) (.slice Ao23 t9022.length co23)) (fun _ h_ => h_.1))) hb); replace HO9016 := mk (Kd.R_below (by exact (Kd.R_mono (Kd.R_far (p := ⟨gb9026, 3, none⟩) (Kd.R_far (p := ⟨gb9026, 2, none⟩) (Kd.R_far (p := ⟨gb9026, 1, none⟩) (Kd.R_far (p := ⟨gb9026, 0, none⟩) (Kd.R_types HO9016.out BK9026.out (by decide)) (fun _ hk => hk.2) (.int .i64 t9019)) (fun _ hk => hk.2) (.int .i64 t9020)) (fun _ hk => hk.2) (.int .i64 t9021)) (fun _ hk => hk.2) (.slice Ao23 t9022.length co23)) (fun _ h_ => h_.1))) hb); replace HO9024 := mk (Kd.R_below (by exact (Kd.R_mono (Kd.R_far (p := ⟨gb9026, 3, none⟩) (Kd.R_far (p := ⟨gb9026, 2, none⟩) (Kd.R_far (p := ⟨gb9026, 1, none⟩) (Kd.R_far (p := ⟨gb9026, 0, none⟩) (Kd.R_types HO9024.out BK9026.out (by decide)) (fun _ hk => hk.2) (.int .i64 t9019)) (fun _ hk => hk.2) (.int .i64 t9020)) (fun _ hk => hk.2) (.int .i64 t9021)) (fun _ hk => hk.2) (.slice Ao23 t9022.length co23)) (fun _ h_ => h_.1))) hb); replace BK9010 := mk (blk_below (g := gb9010) (o := .cells #[.int .i64 t9001, .int .i64 t9002, .int .i64 t9003, .slice Ao10 t9004.length co10] 28 (0, 0)) (by refine blk_far ?_ NB9010_9026.out _; refine blk_far ?_ NB9010_9026.out _; refine blk_far ?_ NB9010_9026.out _; refine blk_far ?_ NB9010_9026.out _; exact BK9010.out) hb); replace BK9018 := mk (blk_below (g := gb9018) (o := .cells #[.int .i64 t9011, .int .i64 t9012, .int .i64 t9013, .slice Ao16 t9014.length co16] 28 (0, 0)) (by refine blk_far ?_ NB9018_9026.out _; refine blk_far ?_ NB9018_9026.out _; refine blk_far ?_ NB9018_9026.out _; refine blk_far ?_ NB9018_9026.out _; exact BK9018.out) hb); replace BK9026 := mk (blk_below (g := gb9026) (o := .cells #[.int .i64 t9019, .int .i64 t9020, .int .i64 t9021, .slice Ao23 t9022.length co23] 28 (0, 0)) (by refine blk_put (cs := #[.int .i64 t9019, .int .i64 t9020, .int .i64 t9021, .slice none 0 0]) ?_ 3 _ rfl; refine blk_put (cs := #[.int .i64 t9019, .int .i64 t9020, .int .i64 0, .slice none 0 0]) ?_ 2 _ rfl; refine blk_put (cs := #[.int .i64 t9019, .int .i64 0, .int .i64 0, .slice none 0 0]) ?_ 1 _ rfl; refine blk_put (cs := #[.int .i64 0, .int .i64 0, .int .i64 0, .slice none 0 0]) ?_ 0 _ rfl; exact BK9026.out) hb); replace HB := mk (below_step (by repeat (with_reducible first | exact HB.out | refine below_set ?_ GE9026.out)) hb); (try clear hb)))
    go_meet
    case rel => exact ⟨_, (true), (by rfl), H', ⟨by omega⟩, ⟨by exact Kd.N_mono HO9009.out (fun _ hk => ⟨hk.1.1.1.1.1, ⟨hk.1.1.1.2, ⟨hk.1.2, ⟨hk.1.1.1.1.2, ⟨hk.1.1.2, hk.2⟩⟩⟩⟩⟩)⟩, ⟨by exact Kd.Q_mono HO9006.out (fun _ hk => by simp [hk])⟩, ⟨Kd.Q_of_R (by exact Kd.R_mono HO9016.out (fun _ hk => by simp [hk]))⟩, ⟨Kd.Q_of_R (by exact Kd.R_mono HO9024.out (fun _ hk => by simp [hk]))⟩, BK9010, BK9018, BK9026, HB⟩
  case rest =>
   clear HC6
   obtain ⟨kq, x45_5, rfl, HA, HJ5, HO_4, HOz3, HOz1, HOz2, BK9010, BK9018, BK9026, HB⟩ := hcut
   cases kq with
   | zero => exact absurd HA.out (by simp [laws_FnRunSteps.j0])
   | succ kj5 =>
    have H := HA.out
    clear HA
    simp only [laws_FnRunSteps.j0] at H
    by_cases c45 : x45_5 = true
    ·subst c45
     have H1 : ((laws_equalImage.f kj5 t9011 t9012 t9013 t9014 t9019 t9020 t9021 t9022).bind fun t9028 => (if t9028 = true then (some (t9017 == t9025)) else (some false))) = some r := by rw [if_pos rfl] at H; exact H
     clear H
     have H := H1
     clear H1
     replace H := Option.bind_eq_some_iff.mp H
     obtain ⟨t9028, A460, H⟩ := H
     replace H : (if t9028 = true then (some (t9017 == t9025)) else (some false)) = some r := H
     have A46 := mk A460
     clear A460
     by_cases c47 : t9028 = true
     ·subst c47
      have H1 : (some (t9017 == t9025)) = some r := by rw [if_pos rfl] at H; exact H
      clear H
      have H := H1
      clear H1
      obtain rfl := Option.some.inj H
      obtain ⟨hcz50_0, hcz50_1, hcz50_2, hcz50_3, -⟩ := c4 BK9018.out
      obtain ⟨hcz52_0, hcz52_1, hcz52_2, hcz52_3, -⟩ := c4 BK9026.out
      go_wp2_with (first | ((with_reducible refine gate_callee (f := 24) rfl ?_); refine goesL_ (some 48) rfl rfl Try.func24 (by kernel_rfl) rfl #[.agg #[.int .i64 t9011, .int .i64 t9012, .int .i64 t9013, .slice Ao16 t9014.length co16], .agg #[.int .i64 t9019, .int .i64 t9020, .int .i64 t9021, .slice Ao23 t9022.length co23]] rfl (by (try simp only [List.map_toArray, List.map_cons, List.map_nil]); rfl) ?_; (with_reducible refine (laws_equalImage.calls kj5 t9011 t9012 t9013 _ _ t9014 t9019 t9020 t9021 _ _ t9022 true _ ?side1 ?side2 ?side3 ?side4 A46.out).mono ?_); (case side1 => repeat (exact (Kd.Q_reads' HOz1.out).2.2)); (case side2 => exact (Kd.Q_reads' HOz1.out).2.1); (case side3 => repeat (exact (Kd.Q_reads' HOz2.out).2.2)); (case side4 => exact (Kd.Q_reads' HOz2.out).2.1); rintro e w53 ⟨rfl, hb⟩; refine ⟨_, rfl, ?_⟩; have n7_ := mk (below_step HB.out hb); clear HO_4; clear HOz3; clear HOz1; clear HOz2; clear BK9010; clear BK9018; clear BK9026; clear HB; have HB := n7_; (try clear hb)))
      go_ret
      exact ⟨by rfl, by exact HB.out⟩
     ·replace c47 := Bool.eq_false_iff.mpr c47
      subst c47
      have H1 : (some false) = some r := by rw [if_neg (show ¬ (false = true) by decide)] at H; exact H
      clear H
      have H := H1
      clear H1
      exact absurd ((Option.some.inj H).trans HRT.out) (by decide)
    ·replace c45 := Bool.eq_false_iff.mpr c45
     subst c45
     have H1 : (laws_FnRunSteps.l0 kj5 t9007 t9017 0 t9011 t9012 t9013 t9014 t9001 t9002 t9003 t9004) = some r := by rw [if_neg (show ¬ (false = true) by decide)] at H; exact H
     clear H
     have H := H1
     clear H1
     have H' := mk H
     clear H
     obtain ⟨hcz62_0, hcz62_1, hcz62_2, hcz62_3, hfz62_0, hfz62_1, hfz62_2, hfz62_3⟩ := c4 BK9010.out
     go_wp2_with (first | ((with_reducible refine gate_dst (N := 9) rfl ?_); refine box_event (by rfl) (N := 9) (by rfl) (cs := #[.int .i64 0, .int .i64 0, .int .i64 0, .slice none 0 0]) (t := 28) (by go_simp; done) ?_; intro gb9029 hg w63 hbox hb; replace HO_4 := mk (Kd.N_below (Kd.N_elderB HO_4.out gb9029 (Nat.le_of_eq hg.symm)) hb); replace HOz3 := mk (Kd.Q_below HOz3.out hb); replace HOz1 := mk (Kd.Q_below HOz1.out hb); replace HOz2 := mk (Kd.Q_below HOz2.out hb); have BK9029 := mk (hbox); have GE9029 := mk ((by rw [hg]; exact (below_size HB.out) : w.heap.size ≤ gb9029)); replace HB := mk (below_step HB.out hb); have NB9010_9029 := mk ((by rw [hg]; exact Nat.ne_of_lt (blk_lt BK9010.out) : gb9010 ≠ gb9029)); replace BK9010 := mk (blk_below BK9010.out hb); have NB9018_9029 := mk ((by rw [hg]; exact Nat.ne_of_lt (blk_lt BK9018.out) : gb9018 ≠ gb9029)); replace BK9018 := mk (blk_below BK9018.out hb); have NB9026_9029 := mk ((by rw [hg]; exact Nat.ne_of_lt (blk_lt BK9026.out) : gb9026 ≠ gb9029)); replace BK9026 := mk (blk_below BK9026.out hb); clear hb hbox hg; obtain ⟨hcz67_0, hcz67_1, hcz67_2, hcz67_3, hfz67_0, hfz67_1, hfz67_2, hfz67_3⟩ := c4 BK9029.out))
     go_loopg [10] kj5 (fun kq v10 w' => ∃ (x10_2 : Int) (xz3 : Int) (xz2 : Int) (xz1 : Int) (xz0 : List Int) (u9030003 : Value), v10 = .int .i64 x10_2 ∧ Aside0 (laws_FnRunSteps.l0 kq t9007 t9017 x10_2 t9011 t9012 t9013 t9014 xz3 xz2 xz1 xz0 = some r) ∧ Aside0 (kq ≤ kj5) ∧ Aside0 (Kd.N k43 43 w' w.heap.size (fun k_ => some k_ ≠ ((.slice Ao10 t9004.length co10) : Value).ownBlock ∧ some k_ ≠ ((.slice Ao16 t9014.length co16) : Value).ownBlock ∧ some k_ ≠ ((.slice Ao23 t9022.length co23) : Value).ownBlock ∧ some k_ ≠ (u9030003 : Value).ownBlock ∧ k_ ≠ gb9010 ∧ k_ ≠ gb9018 ∧ k_ ≠ gb9026 ∧ k_ ≠ gb9029) (.slice Ao11 t9007.length co11) t9007) ∧ Aside0 (Kd.Q (Kd.int .i64) 3 w' w.heap.size (fun k_ => some k_ ≠ ((.slice Ao16 t9014.length co16) : Value).ownBlock ∧ some k_ ≠ ((.slice Ao23 t9022.length co23) : Value).ownBlock) (.slice Ao10 t9004.length co10) t9004) ∧ Aside0 (Kd.Q (Kd.int .i64) 3 w' w.heap.size (fun k_ => some k_ ≠ ((.slice Ao10 t9004.length co10) : Value).ownBlock ∧ some k_ ≠ ((.slice Ao23 t9022.length co23) : Value).ownBlock ∧ some k_ ≠ (u9030003 : Value).ownBlock) (.slice Ao16 t9014.length co16) t9014) ∧ Aside0 (Kd.Q (Kd.int .i64) 3 w' w.heap.size (fun k_ => some k_ ≠ ((.slice Ao10 t9004.length co10) : Value).ownBlock ∧ some k_ ≠ ((.slice Ao16 t9014.length co16) : Value).ownBlock ∧ some k_ ≠ (u9030003 : Value).ownBlock) (.slice Ao23 t9022.length co23) t9022) ∧ Aside0 (Kd.Q (Kd.int .i64) 3 w' w.heap.size (fun k_ => some k_ ≠ ((.slice Ao16 t9014.length co16) : Value).ownBlock ∧ some k_ ≠ ((.slice Ao23 t9022.length co23) : Value).ownBlock) u9030003 xz0) ∧ Aside0 (w'.heap[gb9010]? = some (.cells #[.int .i64 t9001, .int .i64 t9002, .int .i64 t9003, (.slice Ao10 t9004.length co10)] 28 (0, 0))) ∧ Aside0 (w'.heap[gb9018]? = some (.cells #[.int .i64 t9011, .int .i64 t9012, .int .i64 t9013, (.slice Ao16 t9014.length co16)] 28 (0, 0))) ∧ Aside0 (w'.heap[gb9026]? = some (.cells #[.int .i64 t9019, .int .i64 t9020, .int .i64 t9021, (.slice Ao23 t9022.length co23)] 28 (0, 0))) ∧ Aside0 (w'.heap[gb9029]? = some (.cells #[.int .i64 xz3, .int .i64 xz2, .int .i64 xz1, u9030003] 28 (0, 0))) ∧ Aside0 (Below w.heap.size w w'))
     case atStart => exact ⟨(0), (t9001), (t9002), (t9003), (t9004), (.slice Ao10 t9004.length co10), (by rfl), H', ⟨Nat.le_refl _⟩, ⟨by exact Kd.N_mono (Kd.N_far (p := ⟨gb9029, 3, none⟩) (Kd.N_far (p := ⟨gb9029, 2, none⟩) (Kd.N_far (p := ⟨gb9029, 1, none⟩) (Kd.N_far (p := ⟨gb9029, 0, none⟩) (Kd.N_mono HO_4.out (fun k_ hk => (⟨hk, hk.2⟩ : _ ∧ k_ ≠ gb9029))) (fun _ hk => hk.2) (.int .i64 t9001)) (fun _ hk => hk.2) (.int .i64 t9002)) (fun _ hk => hk.2) (.int .i64 t9003)) (fun _ hk => hk.2) (.slice Ao10 t9004.length co10)) (fun _ hk => ⟨hk.1.1.1, ⟨hk.1.1.2.1, ⟨hk.1.1.2.2.1, ⟨hk.1.1.1, ⟨hk.1.1.2.2.2.1, ⟨hk.1.1.2.2.2.2.1, ⟨hk.1.1.2.2.2.2.2, hk.1.2⟩⟩⟩⟩⟩⟩⟩)⟩, ⟨by exact Kd.Q_mono (Kd.Q_far (p := ⟨gb9029, 3, none⟩) (Kd.Q_far (p := ⟨gb9029, 2, none⟩) (Kd.Q_far (p := ⟨gb9029, 1, none⟩) (Kd.Q_far (p := ⟨gb9029, 0, none⟩) (Kd.Q_types HOz3.out BK9029.out (by decide)) (fun _ hk => hk.2) (.int .i64 t9001)) (fun _ hk => hk.2) (.int .i64 t9002)) (fun _ hk => hk.2) (.int .i64 t9003)) (fun _ hk => hk.2) (.slice Ao10 t9004.length co10)) (fun _ hk => ⟨hk.1.1, hk.1.2⟩)⟩, ⟨by exact Kd.Q_mono (Kd.Q_far (p := ⟨gb9029, 3, none⟩) (Kd.Q_far (p := ⟨gb9029, 2, none⟩) (Kd.Q_far (p := ⟨gb9029, 1, none⟩) (Kd.Q_far (p := ⟨gb9029, 0, none⟩) (Kd.Q_types HOz1.out BK9029.out (by decide)) (fun _ hk => hk.2) (.int .i64 t9001)) (fun _ hk => hk.2) (.int .i64 t9002)) (fun _ hk => hk.2) (.int .i64 t9003)) (fun _ hk => hk.2) (.slice Ao10 t9004.length co10)) (fun _ hk => ⟨hk.1.1, ⟨hk.1.2, hk.1.1⟩⟩)⟩, ⟨by exact Kd.Q_mono (Kd.Q_far (p := ⟨gb9029, 3, none⟩) (Kd.Q_far (p := ⟨gb9029, 2, none⟩) (Kd.Q_far (p := ⟨gb9029, 1, none⟩) (Kd.Q_far (p := ⟨gb9029, 0, none⟩) (Kd.Q_types HOz2.out BK9029.out (by decide)) (fun _ hk => hk.2) (.int .i64 t9001)) (fun _ hk => hk.2) (.int .i64 t9002)) (fun _ hk => hk.2) (.int .i64 t9003)) (fun _ hk => hk.2) (.slice Ao10 t9004.length co10)) (fun _ hk => ⟨hk.1.1, ⟨hk.1.2, hk.1.1⟩⟩)⟩, ⟨by exact Kd.Q_mono (Kd.Q_far (p := ⟨gb9029, 3, none⟩) (Kd.Q_far (p := ⟨gb9029, 2, none⟩) (Kd.Q_far (p := ⟨gb9029, 1, none⟩) (Kd.Q_far (p := ⟨gb9029, 0, none⟩) (Kd.Q_types HOz3.out BK9029.out (by decide)) (fun _ hk => hk.2) (.int .i64 t9001)) (fun _ hk => hk.2) (.int .i64 t9002)) (fun _ hk => hk.2) (.int .i64 t9003)) (fun _ hk => hk.2) (.slice Ao10 t9004.length co10)) (fun _ hk => ⟨hk.1.1, hk.1.2⟩)⟩, ⟨by refine blk_far ?_ NB9010_9029.out _; refine blk_far ?_ NB9010_9029.out _; refine blk_far ?_ NB9010_9029.out _; refine blk_far ?_ NB9010_9029.out _; exact BK9010.out⟩, ⟨by refine blk_far ?_ NB9018_9029.out _; refine blk_far ?_ NB9018_9029.out _; refine blk_far ?_ NB9018_9029.out _; refine blk_far ?_ NB9018_9029.out _; exact BK9018.out⟩, ⟨by refine blk_far ?_ NB9026_9029.out _; refine blk_far ?_ NB9026_9029.out _; refine blk_far ?_ NB9026_9029.out _; refine blk_far ?_ NB9026_9029.out _; exact BK9026.out⟩, ⟨by refine blk_put (cs := #[.int .i64 t9001, .int .i64 t9002, .int .i64 t9003, .slice none 0 0]) ?_ 3 _ rfl; refine blk_put (cs := #[.int .i64 t9001, .int .i64 t9002, .int .i64 0, .slice none 0 0]) ?_ 2 _ rfl; refine blk_put (cs := #[.int .i64 t9001, .int .i64 0, .int .i64 0, .slice none 0 0]) ?_ 1 _ rfl; refine blk_put (cs := #[.int .i64 0, .int .i64 0, .int .i64 0, .slice none 0 0]) ?_ 0 _ rfl; exact BK9029.out⟩, ⟨by repeat (with_reducible first | exact HB.out | refine below_set ?_ GE9029.out)⟩⟩
     case round =>
      clear H'
      obtain ⟨x10_2, xz3, xz2, xz1, xz0, u9030003, rfl, HA, HK2, HO_4, HOz3, HOz1, HOz2, HOz0, BK9010, BK9018, BK9026, BK9029, HB⟩ := hrel
      cases gk with
      | zero => exact absurd HA.out (by simp [laws_FnRunSteps.l0])
      | succ k2 =>
       have H := HA.out
       clear HA
       simp only [laws_FnRunSteps.l0] at H
       by_cases c68 : x10_2 < (t9007.length : Int)
       ·rw [if_pos c68] at H
        have c68b0 : decide (x10_2 < (t9007.length : Int)) = true := decide_eq_true c68
        clear c68
        by_cases c69 : 0 ≤ x10_2
        ·rw [if_pos c69] at H
         have c69b0 : decide (0 ≤ x10_2) = true := decide_eq_true c69
         clear c69
         replace H := Option.bind_eq_some_iff.mp H
         obtain ⟨⟨t9032, t9033, t9034, t9035, t9038⟩, A700, H⟩ := H
         replace H : (if t9038 = true then (laws_FnRunSteps.l0 k2 t9007 t9017 (wrap64 (x10_2 + 1)) t9011 t9012 t9013 t9014 t9032 t9033 t9034 t9035) else (if t9017 = x10_2 then ((laws_equalImage.f k2 xz3 xz2 xz1 xz0 t9011 t9012 t9013 t9014).bind fun t9040 => (some t9040)) else (some false))) = some r := H
         have A70 := mk A700
         clear A700
         by_cases c71 : t9038 = true
         ·subst c71
          have H1 : (laws_FnRunSteps.l0 k2 t9007 t9017 (wrap64 (x10_2 + 1)) t9011 t9012 t9013 t9014 t9032 t9033 t9034 t9035) = some r := by rw [if_pos rfl] at H; exact H
          clear H
          have H := H1
          clear H1
          have H' := mk H
          clear H
          obtain ⟨Ao72, co72, eo72, _⟩ := Kd.Q_slice HOz0.out
          subst eo72
          try go_wp2
          replace HO_4 := mk (Kd.N_drew HO_4.out)
          replace HOz3 := mk (Kd.Q_drew HOz3.out)
          replace HOz1 := mk (Kd.Q_drew HOz1.out)
          replace HOz2 := mk (Kd.Q_drew HOz2.out)
          replace HOz0 := mk (Kd.Q_drew HOz0.out)
          replace BK9010 := mk (blk_drew BK9010.out)
          replace BK9018 := mk (blk_drew BK9018.out)
          replace BK9026 := mk (blk_drew BK9026.out)
          replace BK9029 := mk (blk_drew BK9029.out)
          replace HB := mk (below_drew1 HB.out)
          have p9031 : 0 ≤ (x10_2 : Int) := of_decide_eq_true (by (with_reducible assumption))
          have q9031 : x10_2 < (t9007.length : Int) := of_decide_eq_true (by (with_reducible assumption))
          obtain ⟨ad9031, A9031_5, c9031_5, e9031, hx9031_0, hx9031_1, hx9031_2, hx9031_3, hx9031_4, hx9031_5, hl9031_5, hi9031_5⟩ := at_T43 (Kd.N_reads' HO_4.out).2.2 x10_2 p9031 q9031
          cases e9031
          obtain ⟨ce9031, hce9031, hMe9031, hcc9031⟩ := Kd.N_get HO_4.out z43 x10_2 p9031 q9031
          obtain ⟨ua9031_5, uc9031_5, rfl, ul9031_5, ge9031_5⟩ := k43_openF hMe9031
          have hv9031_5 := hcc9031 5 _ rfl
          rw [add_field _ _ 5 (by omega)] at hv9031_5
          replace hv9031_5 := Option.some.inj (hv9031_5.symm.trans hx9031_5)
          injection hv9031_5 with hva_ hvn_ hvc_
          rw [hva_] at ge9031_5
          rw [hvc_] at ul9031_5
          have HL9031_5 := mk (show Kd.V (Kd.int .i64) 3 _ w.heap.size _ _ ((rd_T43 t9007 x10_2).f2) from Kd.V_mk ul9031_5 ge9031_5)
          clear hva_ hvn_ hvc_ ge9031_5 ul9031_5 hcc9031 hce9031
          have HR9031_5 := mk hi9031_5
          have HC9031_5 := mk hl9031_5
          clear hi9031_5 hl9031_5
          replace p9031 := eq_true p9031
          replace q9031 := eq_true q9031
          refine start_ (n := 12) (S := fun w' => w'.cell? ⟨gb9029, 0, none⟩ = some (.int .i64 xz3) ∧ w'.cell? ⟨gb9029, 1, none⟩ = some (.int .i64 xz2) ∧ w'.cell? ⟨gb9029, 2, none⟩ = some (.int .i64 xz1) ∧ w'.cell? ⟨gb9029, 3, none⟩ = some (.slice Ao72 xz0.length co72) ∧ w'.cell? (ad9031.add ((x10_2).toNat * 6)) = some (.int .i64 ((rd_T43 t9007 x10_2).f0)) ∧ w'.cell? ⟨(ad9031.add ((x10_2).toNat * 6)).block, (ad9031.add ((x10_2).toNat * 6)).off + 1, none⟩ = some (.int .i64 ((rd_T43 t9007 x10_2).f1.f0)) ∧ w'.cell? ⟨(ad9031.add ((x10_2).toNat * 6)).block, (ad9031.add ((x10_2).toNat * 6)).off + 2, none⟩ = some (.int .i64 ((rd_T43 t9007 x10_2).f1.f1)) ∧ w'.cell? ⟨(ad9031.add ((x10_2).toNat * 6)).block, (ad9031.add ((x10_2).toNat * 6)).off + 3, none⟩ = some (.int .i64 ((rd_T43 t9007 x10_2).f1.f2)) ∧ w'.cell? ⟨(ad9031.add ((x10_2).toNat * 6)).block, (ad9031.add ((x10_2).toNat * 6)).off + 4, none⟩ = some (.int .i64 ((rd_T43 t9007 x10_2).f1.f3)) ∧ w'.cell? ⟨(ad9031.add ((x10_2).toNat * 6)).block, (ad9031.add ((x10_2).toNat * 6)).off + 5, none⟩ = some (.slice A9031_5 ((rd_T43 t9007 x10_2).f2).length c9031_5)) (ds := []) #[false, false, false, false, false, false, false, false, false, false, false, false] (by kernel_rfl) rfl rfl ⟨blk_cell BK9029.out 0, blk_cell BK9029.out 1, blk_cell BK9029.out 2, blk_cell BK9029.out 3, hx9031_0, hx9031_1, hx9031_2, hx9031_3, hx9031_4, hx9031_5⟩ (fun hHeld => ?_); refine with_tabW laws_FnRunSteps.tab12 laws_FnRunSteps.bits12 (fun HT_ HW_ => ?_)
          generalize wr.drew = w73 at HO_4 HOz3 HOz1 HOz2 HOz0 BK9010 BK9018 BK9026 BK9029 HB HL9031_5 HR9031_5 hx9031_0 hx9031_1 hx9031_2 hx9031_3 hx9031_4 hx9031_5 hHeld ⊢
          refine pure_ (i := 1) (N := some 63) (v := ?_) (a' := ?_) #[false, true, false, false, false, false, false, false, false, false, false, false] rfl rfl (any_of HT_.out (by kernel_rfl)) (fun _ _ _ h => h) (Or.inl ⟨by rfl, ?_⟩) ?_ ?_
          rotate_left
          ·intro w'
           go_simp
           with_reducible rfl
          rotate_left
          ·simp only [Act.put, List.setIfInBounds_toArray, List.set_cons_zero, List.set_cons_succ, i64_w, i32_w]
           rfl
          refine pure_ (i := 2) (N := some 64) (v := ?_) (a' := ?_) #[false, true, true, false, false, false, false, false, false, false, false, false] rfl rfl (any_of HT_.out (by kernel_rfl)) (fun _ _ _ h => h) (Or.inl ⟨by rfl, ?_⟩) ?_ ?_
          rotate_left
          ·intro w'
           go_simp
           with_reducible rfl
          rotate_left
          ·simp only [Act.put, List.setIfInBounds_toArray, List.set_cons_zero, List.set_cons_succ, i64_w, i32_w]
           rfl
          refine pure_ (i := 3) (N := some 65) (v := ?_) (a' := ?_) #[false, true, true, true, false, false, false, false, false, false, false, false] rfl rfl (any_of HT_.out (by kernel_rfl)) (fun _ _ _ h => h) (Or.inl ⟨by rfl, ?_⟩) ?_ ?_
          rotate_left
          ·intro w'
           go_simp
           with_reducible rfl
          rotate_left
          ·simp only [Act.put, List.setIfInBounds_toArray, List.set_cons_zero, List.set_cons_succ, i64_w, i32_w]
           rfl
          refine take_ (i := 0) (N := some 62) (v := ?_) (a' := ?_) #[true, true, true, true, false, false, false, false, false, false, false, false] rfl rfl (take_ofW HT_.out HW_.out (by kernel_rfl)) (fun _ _ _ h => h) (Or.inl ⟨by rfl, ?_⟩) hHeld ?_ ?_
          rotate_left
          ·rintro w' ⟨s0, s1, s2, s3, s4, s5, s6, s7, s8, s9⟩
           go_simp
           with_reducible rfl
          rotate_left
          ·simp only [Act.put, List.setIfInBounds_toArray, List.set_cons_zero, List.set_cons_succ, i64_w, i32_w]
           rfl
          refine take_ (i := 4) (N := some 66) (v := ?_) (a' := ?_) #[true, true, true, true, true, false, false, false, false, false, false, false] rfl rfl (take_ofW HT_.out HW_.out (by kernel_rfl)) (fun _ _ _ h => h) (Or.inl ⟨by rfl, ?_⟩) hHeld ?_ ?_
          rotate_left
          ·rintro w' ⟨s0, s1, s2, s3, s4, s5, s6, s7, s8, s9⟩
           go_simp
           with_reducible rfl
          rotate_left
          ·simp only [Act.put, List.setIfInBounds_toArray, List.set_cons_zero, List.set_cons_succ, i64_w, i32_w]
           rfl
          refine join_ (σ := Value × Nat) 2 #[true, true, true, true, true, true, true, true, true, true, false, false] (fun s_ => [(67, .tuple #[.agg #[.int .i64 t9032, .int .i64 t9033, .int .i64 t9034, s_.1], .bool true]), (11, .pointer (some ⟨s_.2, 0, none⟩)), (61, .tuple #[.agg #[.int .i64 t9032, .int .i64 t9033, .int .i64 t9034, s_.1], .bool true]), (68, .agg #[.int .i64 t9032, .int .i64 t9033, .int .i64 t9034, s_.1]), (69, .bool true)]) (fun s_ w' => (w'.cell? ⟨gb9029, 0, none⟩ = some (.int .i64 xz3) ∧ w'.cell? ⟨gb9029, 1, none⟩ = some (.int .i64 xz2) ∧ w'.cell? ⟨gb9029, 2, none⟩ = some (.int .i64 xz1) ∧ w'.cell? ⟨gb9029, 3, none⟩ = some (.slice Ao72 xz0.length co72) ∧ w'.cell? (ad9031.add ((x10_2).toNat * 6)) = some (.int .i64 ((rd_T43 t9007 x10_2).f0)) ∧ w'.cell? ⟨(ad9031.add ((x10_2).toNat * 6)).block, (ad9031.add ((x10_2).toNat * 6)).off + 1, none⟩ = some (.int .i64 ((rd_T43 t9007 x10_2).f1.f0)) ∧ w'.cell? ⟨(ad9031.add ((x10_2).toNat * 6)).block, (ad9031.add ((x10_2).toNat * 6)).off + 2, none⟩ = some (.int .i64 ((rd_T43 t9007 x10_2).f1.f1)) ∧ w'.cell? ⟨(ad9031.add ((x10_2).toNat * 6)).block, (ad9031.add ((x10_2).toNat * 6)).off + 3, none⟩ = some (.int .i64 ((rd_T43 t9007 x10_2).f1.f2)) ∧ w'.cell? ⟨(ad9031.add ((x10_2).toNat * 6)).block, (ad9031.add ((x10_2).toNat * 6)).off + 4, none⟩ = some (.int .i64 ((rd_T43 t9007 x10_2).f1.f3)) ∧ w'.cell? ⟨(ad9031.add ((x10_2).toNat * 6)).block, (ad9031.add ((x10_2).toNat * 6)).off + 5, none⟩ = some (.slice A9031_5 ((rd_T43 t9007 x10_2).f2).length c9031_5)) ∧ (Kd.V (Kd.int .i64) 3 w' w.heap.size (fun k_ => some k_ ≠ (s_.1 : Value).ownBlock ∧ some k_ ≠ (.slice (some ad9031) t9007.length co11 : Value).ownBlock ∧ some k_ ≠ (.slice Ao10 t9004.length co10 : Value).ownBlock ∧ some k_ ≠ (.slice Ao16 t9014.length co16 : Value).ownBlock ∧ some k_ ≠ (.slice Ao23 t9022.length co23 : Value).ownBlock ∧ some k_ ≠ (.slice Ao72 xz0.length co72 : Value).ownBlock ∧ k_ ≠ gb9010 ∧ k_ ≠ gb9018 ∧ k_ ≠ gb9026 ∧ k_ ≠ gb9029 ∧ k_ ≠ s_.2) (.slice A9031_5 ((rd_T43 t9007 x10_2).f2).length c9031_5) ((rd_T43 t9007 x10_2).f2)) ∧ (Kd.R (Kd.int .i64) 3 w' w.heap.size (fun k_ => some k_ ≠ (.slice Ao10 t9004.length co10 : Value).ownBlock ∧ some k_ ≠ (.slice Ao16 t9014.length co16 : Value).ownBlock ∧ some k_ ≠ (.slice Ao23 t9022.length co23 : Value).ownBlock ∧ some k_ ≠ (.slice Ao72 xz0.length co72 : Value).ownBlock) s_.1 t9035) ∧ (Kd.N k43 43 w' w.heap.size (fun k_ => some k_ ≠ (s_.1 : Value).ownBlock ∧ some k_ ≠ (.slice Ao10 t9004.length co10 : Value).ownBlock ∧ some k_ ≠ (.slice Ao16 t9014.length co16 : Value).ownBlock ∧ some k_ ≠ (.slice Ao23 t9022.length co23 : Value).ownBlock ∧ some k_ ≠ (.slice Ao72 xz0.length co72 : Value).ownBlock ∧ k_ ≠ gb9010 ∧ k_ ≠ gb9018 ∧ k_ ≠ gb9026 ∧ k_ ≠ gb9029 ∧ k_ ≠ s_.2) (.slice (some ad9031) t9007.length co11) t9007) ∧ (Kd.Q (Kd.int .i64) 3 w' w.heap.size (fun k_ => some k_ ≠ (s_.1 : Value).ownBlock ∧ some k_ ≠ (.slice Ao16 t9014.length co16 : Value).ownBlock ∧ some k_ ≠ (.slice Ao23 t9022.length co23 : Value).ownBlock) (.slice Ao10 t9004.length co10) t9004) ∧ (Kd.Q (Kd.int .i64) 3 w' w.heap.size (fun k_ => some k_ ≠ (s_.1 : Value).ownBlock ∧ some k_ ≠ (.slice Ao10 t9004.length co10 : Value).ownBlock ∧ some k_ ≠ (.slice Ao23 t9022.length co23 : Value).ownBlock ∧ some k_ ≠ (.slice Ao72 xz0.length co72 : Value).ownBlock) (.slice Ao16 t9014.length co16) t9014) ∧ (Kd.Q (Kd.int .i64) 3 w' w.heap.size (fun k_ => some k_ ≠ (s_.1 : Value).ownBlock ∧ some k_ ≠ (.slice Ao10 t9004.length co10 : Value).ownBlock ∧ some k_ ≠ (.slice Ao16 t9014.length co16 : Value).ownBlock ∧ some k_ ≠ (.slice Ao72 xz0.length co72 : Value).ownBlock) (.slice Ao23 t9022.length co23) t9022) ∧ (Kd.Q (Kd.int .i64) 3 w' w.heap.size (fun k_ => some k_ ≠ (s_.1 : Value).ownBlock ∧ some k_ ≠ (.slice Ao16 t9014.length co16 : Value).ownBlock ∧ some k_ ≠ (.slice Ao23 t9022.length co23 : Value).ownBlock) (.slice Ao72 xz0.length co72) xz0) ∧ (w'.heap[gb9010]? = some (.cells #[.int .i64 t9001, .int .i64 t9002, .int .i64 t9003, .slice Ao10 t9004.length co10] 28 (0, 0))) ∧ (w'.heap[gb9018]? = some (.cells #[.int .i64 t9011, .int .i64 t9012, .int .i64 t9013, .slice Ao16 t9014.length co16] 28 (0, 0))) ∧ (w'.heap[gb9026]? = some (.cells #[.int .i64 t9019, .int .i64 t9020, .int .i64 t9021, .slice Ao23 t9022.length co23] 28 (0, 0))) ∧ (w'.heap[gb9029]? = some (.cells #[.int .i64 xz3, .int .i64 xz2, .int .i64 xz1, .slice Ao72 xz0.length co72] 28 (0, 0))) ∧ (w'.heap[s_.2]? = some (.cells #[.int .i64 0, .int .i64 0, .int .i64 0, .slice none 0 0] 28 (0, 0))) ∧ (w.heap.size ≤ s_.2) ∧ (w.heap.size ≤ s_.2) ∧ (gb9010 ≠ s_.2) ∧ (s_.2 ≠ gb9010) ∧ (gb9018 ≠ s_.2) ∧ (s_.2 ≠ gb9018) ∧ (gb9026 ≠ s_.2) ∧ (s_.2 ≠ gb9026) ∧ (gb9029 ≠ s_.2) ∧ (s_.2 ≠ gb9029) ∧ (Below w.heap.size w w')) ?_ ?_
          rotate_left
          ·intro hCont
           refine two_ (i := 5) (j := 9) (Ni := some 67) (Nj := some 11) #[true, true, true, true, true, true, false, false, false, false, false, false] #[true, true, true, true, true, false, false, false, false, true, false, false] rfl rfl rfl rfl (two_of HT_.out (by kernel_rfl)) (by decide) (by decide) (fun K hK => ?_) (fun K hK => ?_)
           ·skip
            refine goes_ Try.func22 (by kernel_rfl) rfl #[.agg #[.int .i64 xz3, .int .i64 xz2, .int .i64 xz1, .slice Ao72 xz0.length co72], .agg #[.int .i64 ((rd_T43 t9007 x10_2).f0), .int .i64 ((rd_T43 t9007 x10_2).f1.f0), .int .i64 ((rd_T43 t9007 x10_2).f1.f1), .int .i64 ((rd_T43 t9007 x10_2).f1.f2), .int .i64 ((rd_T43 t9007 x10_2).f1.f3), .slice A9031_5 ((rd_T43 t9007 x10_2).f2).length c9031_5]] (by rfl) rfl rfl (by (try simp only [List.map_toArray, List.map_cons, List.map_nil]); rfl) ?_
            with_reducible refine (impl_DoStep.calls xz3 xz2 xz1 _ _ xz0 ((rd_T43 t9007 x10_2).f0) ((rd_T43 t9007 x10_2).f1.f0) ((rd_T43 t9007 x10_2).f1.f1) ((rd_T43 t9007 x10_2).f1.f2) ((rd_T43 t9007 x10_2).f1.f3) _ _ ((rd_T43 t9007 x10_2).f2) t9032 t9033 t9034 t9035 true _ ?side1 ?side2 ?side3 ?side4 A70.out).mono ?_
            (case side1 => repeat (exact (Kd.Q_reads' HOz0.out).2.2))
            (case side2 => exact (Kd.Q_reads' HOz0.out).2.1)
            (case side3 => repeat (exact HR9031_5.out))
            (case side4 => exact HC9031_5.out)
            rintro e w74 ⟨v9036, rfl, ho0, hb⟩
            have HS4_ := (hb.cell (World.block_lt_of_cell? _ _ hHeld.2.2.2.2.1)).trans (hHeld.2.2.2.2.1)
            have HS5_ := (hb.cell (World.block_lt_of_cell? _ _ hHeld.2.2.2.2.2.1)).trans (hHeld.2.2.2.2.2.1)
            have HS6_ := (hb.cell (World.block_lt_of_cell? _ _ hHeld.2.2.2.2.2.2.1)).trans (hHeld.2.2.2.2.2.2.1)
            have HS7_ := (hb.cell (World.block_lt_of_cell? _ _ hHeld.2.2.2.2.2.2.2.1)).trans (hHeld.2.2.2.2.2.2.2.1)
            have HS8_ := (hb.cell (World.block_lt_of_cell? _ _ hHeld.2.2.2.2.2.2.2.2.1)).trans (hHeld.2.2.2.2.2.2.2.2.1)
            have HS9_ := (hb.cell (World.block_lt_of_cell? _ _ hHeld.2.2.2.2.2.2.2.2.2)).trans (hHeld.2.2.2.2.2.2.2.2.2)
            refine ⟨_, rfl, ?_⟩
            replace HO_4 := mk (Kd.N_elder' HO_4.out (Kd.R_base ho0) hb)
            replace HL9031_5 := mk (Kd.V_elder' HL9031_5.out (Kd.R_base ho0) hb)
            have HO9037 := mk (Kd.R_lower (Kd.R_new' (Kd.R_new' (Kd.R_new' (Kd.R_new' ho0 (Kd.Q_lt HOz3.out)) (Kd.Q_lt HOz1.out)) (Kd.Q_lt HOz2.out)) (Kd.Q_lt HOz0.out)) (below_size HB.out))
            replace HOz3 := mk (Kd.Q_elder' HOz3.out (Kd.R_base ho0) hb)
            replace HOz1 := mk (Kd.Q_elder' HOz1.out (Kd.R_base ho0) hb)
            replace HOz2 := mk (Kd.Q_elder' HOz2.out (Kd.R_base ho0) hb)
            replace HOz0 := mk (Kd.Q_elder' HOz0.out (Kd.R_base ho0) hb)
            replace BK9010 := mk (blk_below BK9010.out hb)
            replace BK9018 := mk (blk_below BK9018.out hb)
            replace BK9026 := mk (blk_below BK9026.out hb)
            replace BK9029 := mk (blk_below BK9029.out hb)
            replace HR9031_5 := mk (Kd.C_below HR9031_5.out hb)
            replace HB := mk (below_step HB.out hb)
            (try clear hb)
            (try clear ho0)
            refine hK.out _ _ ⟨blk_cell BK9029.out 0, blk_cell BK9029.out 1, blk_cell BK9029.out 2, blk_cell BK9029.out 3, HS4_, HS5_, HS6_, HS7_, HS8_, HS9_⟩ (fun hHeld => ?_)
            clear hK K
            refine norm_ (a' := ?_) ?_ ?_
            rotate_left
            ·show Act.put _ (some 67) _ = _
             simp only [Act.put, List.setIfInBounds_toArray, List.set_cons_zero, List.set_cons_succ, i64_w, i32_w]
             rfl
            refine pure_ (i := 6) (N := some 61) (v := ?_) (a' := ?_) #[true, true, true, true, true, true, true, false, false, false, false, false] rfl rfl (any_of HT_.out (by kernel_rfl)) (fun _ _ _ h => h) (Or.inl ⟨by rfl, ?_⟩) ?_ ?_
            rotate_left
            ·intro w'
             go_simp
             with_reducible rfl
            rotate_left
            ·simp only [Act.put, List.setIfInBounds_toArray, List.set_cons_zero, List.set_cons_succ, i64_w, i32_w]
             rfl
            refine pure_ (i := 7) (N := some 68) (v := ?_) (a' := ?_) #[true, true, true, true, true, true, true, true, false, false, false, false] rfl rfl (any_of HT_.out (by kernel_rfl)) (fun _ _ _ h => h) (Or.inl ⟨by rfl, ?_⟩) ?_ ?_
            rotate_left
            ·intro w'
             go_simp
             with_reducible rfl
            rotate_left
            ·simp only [Act.put, List.setIfInBounds_toArray, List.set_cons_zero, List.set_cons_succ, i64_w, i32_w]
             rfl
            refine pure_ (i := 8) (N := some 69) (v := ?_) (a' := ?_) #[true, true, true, true, true, true, true, true, true, false, false, false] rfl rfl (any_of HT_.out (by kernel_rfl)) (fun _ _ _ h => h) (Or.inl ⟨by rfl, ?_⟩) ?_ ?_
            rotate_left
            ·intro w'
             go_simp
             with_reducible rfl
            rotate_left
            ·simp only [Act.put, List.setIfInBounds_toArray, List.set_cons_zero, List.set_cons_succ, i64_w, i32_w]
             rfl
            refine one_ (i := 9) (N := some 11) #[true, true, true, true, true, true, true, true, true, true, false, false] rfl rfl (one_of HT_.out (by kernel_rfl)) (by decide) (fun K hK => ?_)
            refine box_step ?hg (N := 11) ?hd (cs := #[.int .i64 0, .int .i64 0, .int .i64 0, .slice none 0 0]) (t := 28) ?hr ?_; (case hd => rfl); (case hg => rfl); (case hr => (go_simp; done))
            intro gb9039 hg w75 hbox hb
            have HS4_ := (hb.cell (World.block_lt_of_cell? _ _ hHeld.2.2.2.2.1)).trans (hHeld.2.2.2.2.1)
            have HS5_ := (hb.cell (World.block_lt_of_cell? _ _ hHeld.2.2.2.2.2.1)).trans (hHeld.2.2.2.2.2.1)
            have HS6_ := (hb.cell (World.block_lt_of_cell? _ _ hHeld.2.2.2.2.2.2.1)).trans (hHeld.2.2.2.2.2.2.1)
            have HS7_ := (hb.cell (World.block_lt_of_cell? _ _ hHeld.2.2.2.2.2.2.2.1)).trans (hHeld.2.2.2.2.2.2.2.1)
            have HS8_ := (hb.cell (World.block_lt_of_cell? _ _ hHeld.2.2.2.2.2.2.2.2.1)).trans (hHeld.2.2.2.2.2.2.2.2.1)
            have HS9_ := (hb.cell (World.block_lt_of_cell? _ _ hHeld.2.2.2.2.2.2.2.2.2)).trans (hHeld.2.2.2.2.2.2.2.2.2)
            replace HO_4 := mk (Kd.N_below (Kd.N_elderB HO_4.out gb9039 (Nat.le_of_eq hg.symm)) hb)
            replace HOz3 := mk (Kd.Q_below HOz3.out hb)
            replace HOz1 := mk (Kd.Q_below HOz1.out hb)
            replace HOz2 := mk (Kd.Q_below HOz2.out hb)
            replace HOz0 := mk (Kd.Q_below HOz0.out hb)
            replace HL9031_5 := mk (Kd.V_below (Kd.V_elderB HL9031_5.out gb9039 (Nat.le_of_eq hg.symm)) hb)
            replace HO9037 := mk (Kd.R_below HO9037.out hb)
            replace HR9031_5 := mk (Kd.C_below HR9031_5.out hb)
            have BK9039 := mk (hbox)
            have GW9039 := mk ((by rw [hg]; exact (below_size HB.out) : w.heap.size ≤ gb9039))
            have GE9039 := mk ((by rw [hg]; exact (below_size HB.out) : w.heap.size ≤ gb9039))
            replace HB := mk (below_step HB.out hb)
            have NB9010_9039 := mk ((by rw [hg]; exact Nat.ne_of_lt (blk_lt BK9010.out) : gb9010 ≠ gb9039))
            replace BK9010 := mk (blk_below BK9010.out hb)
            have NB9039_9010 := mk NB9010_9039.out.symm
            have NB9018_9039 := mk ((by rw [hg]; exact Nat.ne_of_lt (blk_lt BK9018.out) : gb9018 ≠ gb9039))
            replace BK9018 := mk (blk_below BK9018.out hb)
            have NB9039_9018 := mk NB9018_9039.out.symm
            have NB9026_9039 := mk ((by rw [hg]; exact Nat.ne_of_lt (blk_lt BK9026.out) : gb9026 ≠ gb9039))
            replace BK9026 := mk (blk_below BK9026.out hb)
            have NB9039_9026 := mk NB9026_9039.out.symm
            have NB9029_9039 := mk ((by rw [hg]; exact Nat.ne_of_lt (blk_lt BK9029.out) : gb9029 ≠ gb9039))
            replace BK9029 := mk (blk_below BK9029.out hb)
            have NB9039_9029 := mk NB9029_9039.out.symm
            clear hb hbox hg
            refine hK.out _ _ ⟨blk_cell BK9029.out 0, blk_cell BK9029.out 1, blk_cell BK9029.out 2, blk_cell BK9029.out 3, HS4_, HS5_, HS6_, HS7_, HS8_, HS9_⟩ (fun hHeld => ?_)
            clear hK K
            refine norm_ (a' := ?_) ?_ ?_
            rotate_left
            ·show Act.put _ (some 11) _ = _
             simp only [Act.put, List.setIfInBounds_toArray, List.set_cons_zero, List.set_cons_succ, i64_w, i32_w]
             rfl
            exact norm_ (by simp only [putAll, Act.put, List.setIfInBounds_toArray, List.set_cons_zero, List.set_cons_succ]) (hCont (v9036, gb9039) _ ⟨hHeld, (by exact Kd.V_mono HL9031_5.out (fun _ hk => ⟨hk.1.2, ⟨hk.1.1.2, ⟨hk.1.1.1.1, ⟨hk.1.1.1.2.1, ⟨hk.1.1.1.2.2.1, ⟨hk.1.1.1.2.2.2.1, ⟨hk.1.1.1.2.2.2.2.1, ⟨hk.1.1.1.2.2.2.2.2.1, ⟨hk.1.1.1.2.2.2.2.2.2.1, ⟨hk.1.1.1.2.2.2.2.2.2.2, hk.2⟩⟩⟩⟩⟩⟩⟩⟩⟩⟩)), (by exact Kd.R_mono HO9037.out (fun _ hk => ⟨hk.1.1.1.2, ⟨hk.1.1.2, ⟨hk.1.2, hk.2⟩⟩⟩)), (by exact Kd.N_mono HO_4.out (fun _ hk => ⟨hk.1.2, ⟨hk.1.1.1, ⟨hk.1.1.2.1, ⟨hk.1.1.2.2.1, ⟨hk.1.1.2.2.2.1, ⟨hk.1.1.2.2.2.2.1, ⟨hk.1.1.2.2.2.2.2.1, ⟨hk.1.1.2.2.2.2.2.2.1, ⟨hk.1.1.2.2.2.2.2.2.2, hk.2⟩⟩⟩⟩⟩⟩⟩⟩⟩)), (by exact Kd.Q_mono HOz3.out (fun _ hk => ⟨hk.2, ⟨hk.1.1, hk.1.2⟩⟩)), (by exact Kd.Q_mono HOz1.out (fun _ hk => ⟨hk.2, ⟨hk.1.1, ⟨hk.1.2.1, hk.1.2.2⟩⟩⟩)), (by exact Kd.Q_mono HOz2.out (fun _ hk => ⟨hk.2, ⟨hk.1.1, ⟨hk.1.2.1, hk.1.2.2⟩⟩⟩)), (by exact Kd.Q_mono HOz0.out (fun _ hk => ⟨hk.2, ⟨hk.1.1, hk.1.2⟩⟩)), BK9010.out, BK9018.out, BK9026.out, BK9029.out, BK9039.out, GW9039.out, GE9039.out, NB9010_9039.out, NB9039_9010.out, NB9018_9039.out, NB9039_9018.out, NB9026_9039.out, NB9039_9026.out, NB9029_9039.out, NB9039_9029.out, (HB.out)⟩)
           ·skip
            refine box_step ?hg (N := 11) ?hd (cs := #[.int .i64 0, .int .i64 0, .int .i64 0, .slice none 0 0]) (t := 28) ?hr ?_; (case hd => rfl); (case hg => rfl); (case hr => (go_simp; done))
            intro gb9039 hg w74 hbox hb
            have HS4_ := (hb.cell (World.block_lt_of_cell? _ _ hHeld.2.2.2.2.1)).trans (hHeld.2.2.2.2.1)
            have HS5_ := (hb.cell (World.block_lt_of_cell? _ _ hHeld.2.2.2.2.2.1)).trans (hHeld.2.2.2.2.2.1)
            have HS6_ := (hb.cell (World.block_lt_of_cell? _ _ hHeld.2.2.2.2.2.2.1)).trans (hHeld.2.2.2.2.2.2.1)
            have HS7_ := (hb.cell (World.block_lt_of_cell? _ _ hHeld.2.2.2.2.2.2.2.1)).trans (hHeld.2.2.2.2.2.2.2.1)
            have HS8_ := (hb.cell (World.block_lt_of_cell? _ _ hHeld.2.2.2.2.2.2.2.2.1)).trans (hHeld.2.2.2.2.2.2.2.2.1)
            have HS9_ := (hb.cell (World.block_lt_of_cell? _ _ hHeld.2.2.2.2.2.2.2.2.2)).trans (hHeld.2.2.2.2.2.2.2.2.2)
            replace HO_4 := mk (Kd.N_below (Kd.N_elderB HO_4.out gb9039 (Nat.le_of_eq hg.symm)) hb)
            replace HOz3 := mk (Kd.Q_below HOz3.out hb)
            replace HOz1 := mk (Kd.Q_below HOz1.out hb)
            replace HOz2 := mk (Kd.Q_below HOz2.out hb)
            replace HOz0 := mk (Kd.Q_below HOz0.out hb)
            replace HL9031_5 := mk (Kd.V_below (Kd.V_elderB HL9031_5.out gb9039 (Nat.le_of_eq hg.symm)) hb)
            replace HR9031_5 := mk (Kd.C_below HR9031_5.out hb)
            have BK9039 := mk (hbox)
            have GW9039 := mk ((by rw [hg]; exact (below_size HB.out) : w.heap.size ≤ gb9039))
            have GE9039 := mk ((by rw [hg]; exact (below_size HB.out) : w.heap.size ≤ gb9039))
            replace HB := mk (below_step HB.out hb)
            have NB9010_9039 := mk ((by rw [hg]; exact Nat.ne_of_lt (blk_lt BK9010.out) : gb9010 ≠ gb9039))
            replace BK9010 := mk (blk_below BK9010.out hb)
            have NB9039_9010 := mk NB9010_9039.out.symm
            have NB9018_9039 := mk ((by rw [hg]; exact Nat.ne_of_lt (blk_lt BK9018.out) : gb9018 ≠ gb9039))
            replace BK9018 := mk (blk_below BK9018.out hb)
            have NB9039_9018 := mk NB9018_9039.out.symm
            have NB9026_9039 := mk ((by rw [hg]; exact Nat.ne_of_lt (blk_lt BK9026.out) : gb9026 ≠ gb9039))
            replace BK9026 := mk (blk_below BK9026.out hb)
            have NB9039_9026 := mk NB9026_9039.out.symm
            have NB9029_9039 := mk ((by rw [hg]; exact Nat.ne_of_lt (blk_lt BK9029.out) : gb9029 ≠ gb9039))
            replace BK9029 := mk (blk_below BK9029.out hb)
            have NB9039_9029 := mk NB9029_9039.out.symm
            clear hb hbox hg
            refine hK.out _ _ ⟨blk_cell BK9029.out 0, blk_cell BK9029.out 1, blk_cell BK9029.out 2, blk_cell BK9029.out 3, HS4_, HS5_, HS6_, HS7_, HS8_, HS9_⟩ (fun hHeld => ?_)
            clear hK K
            refine norm_ (a' := ?_) ?_ ?_
            rotate_left
            ·show Act.put _ (some 11) _ = _
             simp only [Act.put, List.setIfInBounds_toArray, List.set_cons_zero, List.set_cons_succ, i64_w, i32_w]
             rfl
            refine one_ (i := 5) (N := some 67) #[true, true, true, true, true, true, false, false, false, true, false, false] rfl rfl (one_of HT_.out (by kernel_rfl)) (by decide) (fun K hK => ?_)
            refine goes_ Try.func22 (by kernel_rfl) rfl #[.agg #[.int .i64 xz3, .int .i64 xz2, .int .i64 xz1, .slice Ao72 xz0.length co72], .agg #[.int .i64 ((rd_T43 t9007 x10_2).f0), .int .i64 ((rd_T43 t9007 x10_2).f1.f0), .int .i64 ((rd_T43 t9007 x10_2).f1.f1), .int .i64 ((rd_T43 t9007 x10_2).f1.f2), .int .i64 ((rd_T43 t9007 x10_2).f1.f3), .slice A9031_5 ((rd_T43 t9007 x10_2).f2).length c9031_5]] (by rfl) rfl rfl (by (try simp only [List.map_toArray, List.map_cons, List.map_nil]); rfl) ?_
            with_reducible refine (impl_DoStep.calls xz3 xz2 xz1 _ _ xz0 ((rd_T43 t9007 x10_2).f0) ((rd_T43 t9007 x10_2).f1.f0) ((rd_T43 t9007 x10_2).f1.f1) ((rd_T43 t9007 x10_2).f1.f2) ((rd_T43 t9007 x10_2).f1.f3) _ _ ((rd_T43 t9007 x10_2).f2) t9032 t9033 t9034 t9035 true _ ?side1 ?side2 ?side3 ?side4 A70.out).mono ?_
            (case side1 => repeat (exact (Kd.Q_reads' HOz0.out).2.2))
            (case side2 => exact (Kd.Q_reads' HOz0.out).2.1)
            (case side3 => repeat (exact HR9031_5.out))
            (case side4 => exact HC9031_5.out)
            rintro e w75 ⟨v9036, rfl, ho0, hb⟩
            have HS4_ := (hb.cell (World.block_lt_of_cell? _ _ hHeld.2.2.2.2.1)).trans (hHeld.2.2.2.2.1)
            have HS5_ := (hb.cell (World.block_lt_of_cell? _ _ hHeld.2.2.2.2.2.1)).trans (hHeld.2.2.2.2.2.1)
            have HS6_ := (hb.cell (World.block_lt_of_cell? _ _ hHeld.2.2.2.2.2.2.1)).trans (hHeld.2.2.2.2.2.2.1)
            have HS7_ := (hb.cell (World.block_lt_of_cell? _ _ hHeld.2.2.2.2.2.2.2.1)).trans (hHeld.2.2.2.2.2.2.2.1)
            have HS8_ := (hb.cell (World.block_lt_of_cell? _ _ hHeld.2.2.2.2.2.2.2.2.1)).trans (hHeld.2.2.2.2.2.2.2.2.1)
            have HS9_ := (hb.cell (World.block_lt_of_cell? _ _ hHeld.2.2.2.2.2.2.2.2.2)).trans (hHeld.2.2.2.2.2.2.2.2.2)
            refine ⟨_, rfl, ?_⟩
            replace HO_4 := mk (Kd.N_elder' HO_4.out (Kd.R_base ho0) hb)
            replace HL9031_5 := mk (Kd.V_elder' HL9031_5.out (Kd.R_base ho0) hb)
            have HO9037 := mk (Kd.R_lower (Kd.R_new' (Kd.R_new' (Kd.R_new' (Kd.R_new' ho0 (Kd.Q_lt HOz3.out)) (Kd.Q_lt HOz1.out)) (Kd.Q_lt HOz2.out)) (Kd.Q_lt HOz0.out)) (below_size HB.out))
            replace HOz3 := mk (Kd.Q_elder' HOz3.out (Kd.R_base ho0) hb)
            replace HOz1 := mk (Kd.Q_elder' HOz1.out (Kd.R_base ho0) hb)
            replace HOz2 := mk (Kd.Q_elder' HOz2.out (Kd.R_base ho0) hb)
            replace HOz0 := mk (Kd.Q_elder' HOz0.out (Kd.R_base ho0) hb)
            replace BK9010 := mk (blk_below BK9010.out hb)
            replace BK9018 := mk (blk_below BK9018.out hb)
            replace BK9026 := mk (blk_below BK9026.out hb)
            replace BK9029 := mk (blk_below BK9029.out hb)
            replace HR9031_5 := mk (Kd.C_below HR9031_5.out hb)
            replace BK9039 := mk (blk_below BK9039.out hb)
            replace HB := mk (below_step HB.out hb)
            (try clear hb)
            (try clear ho0)
            refine hK.out _ _ ⟨blk_cell BK9029.out 0, blk_cell BK9029.out 1, blk_cell BK9029.out 2, blk_cell BK9029.out 3, HS4_, HS5_, HS6_, HS7_, HS8_, HS9_⟩ (fun hHeld => ?_)
            clear hK K
            refine norm_ (a' := ?_) ?_ ?_
            rotate_left
            ·show Act.put _ (some 67) _ = _
             simp only [Act.put, List.setIfInBounds_toArray, List.set_cons_zero, List.set_cons_succ, i64_w, i32_w]
             rfl
            refine pure_ (i := 6) (N := some 61) (v := ?_) (a' := ?_) #[true, true, true, true, true, true, true, false, false, true, false, false] rfl rfl (any_of HT_.out (by kernel_rfl)) (fun _ _ _ h => h) (Or.inl ⟨by rfl, ?_⟩) ?_ ?_
            rotate_left
            ·intro w'
             go_simp
             with_reducible rfl
            rotate_left
            ·simp only [Act.put, List.setIfInBounds_toArray, List.set_cons_zero, List.set_cons_succ, i64_w, i32_w]
             rfl
            refine pure_ (i := 7) (N := some 68) (v := ?_) (a' := ?_) #[true, true, true, true, true, true, true, true, false, true, false, false] rfl rfl (any_of HT_.out (by kernel_rfl)) (fun _ _ _ h => h) (Or.inl ⟨by rfl, ?_⟩) ?_ ?_
            rotate_left
            ·intro w'
             go_simp
             with_reducible rfl
            rotate_left
            ·simp only [Act.put, List.setIfInBounds_toArray, List.set_cons_zero, List.set_cons_succ, i64_w, i32_w]
             rfl
            refine pure_ (i := 8) (N := some 69) (v := ?_) (a' := ?_) #[true, true, true, true, true, true, true, true, true, true, false, false] rfl rfl (any_of HT_.out (by kernel_rfl)) (fun _ _ _ h => h) (Or.inl ⟨by rfl, ?_⟩) ?_ ?_
            rotate_left
            ·intro w'
             go_simp
             with_reducible rfl
            rotate_left
            ·simp only [Act.put, List.setIfInBounds_toArray, List.set_cons_zero, List.set_cons_succ, i64_w, i32_w]
             rfl
            exact norm_ (by simp only [putAll, Act.put, List.setIfInBounds_toArray, List.set_cons_zero, List.set_cons_succ]) (hCont (v9036, gb9039) _ ⟨hHeld, (by exact Kd.V_mono HL9031_5.out (fun _ hk => ⟨hk.2, ⟨hk.1.1.2, ⟨hk.1.1.1.1, ⟨hk.1.1.1.2.1, ⟨hk.1.1.1.2.2.1, ⟨hk.1.1.1.2.2.2.1, ⟨hk.1.1.1.2.2.2.2.1, ⟨hk.1.1.1.2.2.2.2.2.1, ⟨hk.1.1.1.2.2.2.2.2.2.1, ⟨hk.1.1.1.2.2.2.2.2.2.2, hk.1.2⟩⟩⟩⟩⟩⟩⟩⟩⟩⟩)), (by exact Kd.R_mono HO9037.out (fun _ hk => ⟨hk.1.1.1.2, ⟨hk.1.1.2, ⟨hk.1.2, hk.2⟩⟩⟩)), (by exact Kd.N_mono HO_4.out (fun _ hk => ⟨hk.2, ⟨hk.1.1.1, ⟨hk.1.1.2.1, ⟨hk.1.1.2.2.1, ⟨hk.1.1.2.2.2.1, ⟨hk.1.1.2.2.2.2.1, ⟨hk.1.1.2.2.2.2.2.1, ⟨hk.1.1.2.2.2.2.2.2.1, ⟨hk.1.1.2.2.2.2.2.2.2, hk.1.2⟩⟩⟩⟩⟩⟩⟩⟩⟩)), (by exact Kd.Q_mono HOz3.out (fun _ hk => ⟨hk.2, ⟨hk.1.1, hk.1.2⟩⟩)), (by exact Kd.Q_mono HOz1.out (fun _ hk => ⟨hk.2, ⟨hk.1.1, ⟨hk.1.2.1, hk.1.2.2⟩⟩⟩)), (by exact Kd.Q_mono HOz2.out (fun _ hk => ⟨hk.2, ⟨hk.1.1, ⟨hk.1.2.1, hk.1.2.2⟩⟩⟩)), (by exact Kd.Q_mono HOz0.out (fun _ hk => ⟨hk.2, ⟨hk.1.1, hk.1.2⟩⟩)), BK9010.out, BK9018.out, BK9026.out, BK9029.out, BK9039.out, GW9039.out, GE9039.out, NB9010_9039.out, NB9039_9010.out, NB9018_9039.out, NB9039_9018.out, NB9026_9039.out, NB9039_9026.out, NB9029_9039.out, NB9039_9029.out, (HB.out)⟩)
          rintro ⟨v9036, gb9039⟩ w76 ⟨hS_, h0_, h1_, h2_, h3_, h4_, h5_, h6_, h7_, h8_, h9_, h10_, h11_, h12_, h13_, h14_, h15_, h16_, h17_, h18_, h19_, h20_, h21_, h22_⟩
          have n0_ : Aside0 (Kd.V (Kd.int .i64) 3 w76 w.heap.size (fun k_ => some k_ ≠ (v9036 : Value).ownBlock ∧ some k_ ≠ (.slice (some ad9031) t9007.length co11 : Value).ownBlock ∧ some k_ ≠ (.slice Ao10 t9004.length co10 : Value).ownBlock ∧ some k_ ≠ (.slice Ao16 t9014.length co16 : Value).ownBlock ∧ some k_ ≠ (.slice Ao23 t9022.length co23 : Value).ownBlock ∧ some k_ ≠ (.slice Ao72 xz0.length co72 : Value).ownBlock ∧ k_ ≠ gb9010 ∧ k_ ≠ gb9018 ∧ k_ ≠ gb9026 ∧ k_ ≠ gb9029 ∧ k_ ≠ gb9039) (.slice A9031_5 ((rd_T43 t9007 x10_2).f2).length c9031_5) ((rd_T43 t9007 x10_2).f2)) := ⟨h0_⟩
          have n1_ : Aside0 (Kd.R (Kd.int .i64) 3 w76 w.heap.size (fun k_ => some k_ ≠ (.slice Ao10 t9004.length co10 : Value).ownBlock ∧ some k_ ≠ (.slice Ao16 t9014.length co16 : Value).ownBlock ∧ some k_ ≠ (.slice Ao23 t9022.length co23 : Value).ownBlock ∧ some k_ ≠ (.slice Ao72 xz0.length co72 : Value).ownBlock) v9036 t9035) := ⟨h1_⟩
          have n2_ : Aside0 (Kd.N k43 43 w76 w.heap.size (fun k_ => some k_ ≠ (v9036 : Value).ownBlock ∧ some k_ ≠ (.slice Ao10 t9004.length co10 : Value).ownBlock ∧ some k_ ≠ (.slice Ao16 t9014.length co16 : Value).ownBlock ∧ some k_ ≠ (.slice Ao23 t9022.length co23 : Value).ownBlock ∧ some k_ ≠ (.slice Ao72 xz0.length co72 : Value).ownBlock ∧ k_ ≠ gb9010 ∧ k_ ≠ gb9018 ∧ k_ ≠ gb9026 ∧ k_ ≠ gb9029 ∧ k_ ≠ gb9039) (.slice (some ad9031) t9007.length co11) t9007) := ⟨h2_⟩
          have n3_ : Aside0 (Kd.Q (Kd.int .i64) 3 w76 w.heap.size (fun k_ => some k_ ≠ (v9036 : Value).ownBlock ∧ some k_ ≠ (.slice Ao16 t9014.length co16 : Value).ownBlock ∧ some k_ ≠ (.slice Ao23 t9022.length co23 : Value).ownBlock) (.slice Ao10 t9004.length co10) t9004) := ⟨h3_⟩
          have n4_ : Aside0 (Kd.Q (Kd.int .i64) 3 w76 w.heap.size (fun k_ => some k_ ≠ (v9036 : Value).ownBlock ∧ some k_ ≠ (.slice Ao10 t9004.length co10 : Value).ownBlock ∧ some k_ ≠ (.slice Ao23 t9022.length co23 : Value).ownBlock ∧ some k_ ≠ (.slice Ao72 xz0.length co72 : Value).ownBlock) (.slice Ao16 t9014.length co16) t9014) := ⟨h4_⟩
          have n5_ : Aside0 (Kd.Q (Kd.int .i64) 3 w76 w.heap.size (fun k_ => some k_ ≠ (v9036 : Value).ownBlock ∧ some k_ ≠ (.slice Ao10 t9004.length co10 : Value).ownBlock ∧ some k_ ≠ (.slice Ao16 t9014.length co16 : Value).ownBlock ∧ some k_ ≠ (.slice Ao72 xz0.length co72 : Value).ownBlock) (.slice Ao23 t9022.length co23) t9022) := ⟨h5_⟩
          have n6_ : Aside0 (Kd.Q (Kd.int .i64) 3 w76 w.heap.size (fun k_ => some k_ ≠ (v9036 : Value).ownBlock ∧ some k_ ≠ (.slice Ao16 t9014.length co16 : Value).ownBlock ∧ some k_ ≠ (.slice Ao23 t9022.length co23 : Value).ownBlock) (.slice Ao72 xz0.length co72) xz0) := ⟨h6_⟩
          have n7_ : Aside0 (w76.heap[gb9010]? = some (.cells #[.int .i64 t9001, .int .i64 t9002, .int .i64 t9003, .slice Ao10 t9004.length co10] 28 (0, 0))) := ⟨h7_⟩
          have n8_ : Aside0 (w76.heap[gb9018]? = some (.cells #[.int .i64 t9011, .int .i64 t9012, .int .i64 t9013, .slice Ao16 t9014.length co16] 28 (0, 0))) := ⟨h8_⟩
          have n9_ : Aside0 (w76.heap[gb9026]? = some (.cells #[.int .i64 t9019, .int .i64 t9020, .int .i64 t9021, .slice Ao23 t9022.length co23] 28 (0, 0))) := ⟨h9_⟩
          have n10_ : Aside0 (w76.heap[gb9029]? = some (.cells #[.int .i64 xz3, .int .i64 xz2, .int .i64 xz1, .slice Ao72 xz0.length co72] 28 (0, 0))) := ⟨h10_⟩
          have n11_ : Aside0 (w76.heap[gb9039]? = some (.cells #[.int .i64 0, .int .i64 0, .int .i64 0, .slice none 0 0] 28 (0, 0))) := ⟨h11_⟩
          have n12_ : Aside0 (w.heap.size ≤ gb9039) := ⟨h12_⟩
          have n13_ : Aside0 (w.heap.size ≤ gb9039) := ⟨h13_⟩
          have n14_ : Aside0 (gb9010 ≠ gb9039) := ⟨h14_⟩
          have n15_ : Aside0 (gb9039 ≠ gb9010) := ⟨h15_⟩
          have n16_ : Aside0 (gb9018 ≠ gb9039) := ⟨h16_⟩
          have n17_ : Aside0 (gb9039 ≠ gb9018) := ⟨h17_⟩
          have n18_ : Aside0 (gb9026 ≠ gb9039) := ⟨h18_⟩
          have n19_ : Aside0 (gb9039 ≠ gb9026) := ⟨h19_⟩
          have n20_ : Aside0 (gb9029 ≠ gb9039) := ⟨h20_⟩
          have n21_ : Aside0 (gb9039 ≠ gb9029) := ⟨h21_⟩
          have n22_ : Aside0 (Below w.heap.size w w76) := ⟨h22_⟩
          clear HO_4 HOz3 HOz1 HOz2 HOz0 BK9010 BK9018 BK9026 BK9029 HB h0_ h1_ h2_ h3_ h4_ h5_ h6_ h7_ h8_ h9_ h10_ h11_ h12_ h13_ h14_ h15_ h16_ h17_ h18_ h19_ h20_ h21_ h22_
          revert n0_ n1_ n2_ n3_ n4_ n5_ n6_ n7_ n8_ n9_ n10_ n11_ n12_ n13_ n14_ n15_ n16_ n17_ n18_ n19_ n20_ n21_ n22_; intro HL9031_5 HO9037 HO_4 HOz3 HOz1 HOz2 HOz0 BK9010 BK9018 BK9026 BK9029 BK9039 GW9039 GE9039 NB9010_9039 NB9039_9010 NB9018_9039 NB9039_9018 NB9026_9039 NB9039_9026 NB9029_9039 NB9039_9029 HB
          have hHeld : w76.cell? ⟨gb9029, 0, none⟩ = some (.int .i64 xz3) ∧ w76.cell? ⟨gb9029, 1, none⟩ = some (.int .i64 xz2) ∧ w76.cell? ⟨gb9029, 2, none⟩ = some (.int .i64 xz1) ∧ w76.cell? ⟨gb9029, 3, none⟩ = some (.slice Ao72 xz0.length co72) ∧ w76.cell? (ad9031.add ((x10_2).toNat * 6)) = some (.int .i64 ((rd_T43 t9007 x10_2).f0)) ∧ w76.cell? ⟨(ad9031.add ((x10_2).toNat * 6)).block, (ad9031.add ((x10_2).toNat * 6)).off + 1, none⟩ = some (.int .i64 ((rd_T43 t9007 x10_2).f1.f0)) ∧ w76.cell? ⟨(ad9031.add ((x10_2).toNat * 6)).block, (ad9031.add ((x10_2).toNat * 6)).off + 2, none⟩ = some (.int .i64 ((rd_T43 t9007 x10_2).f1.f1)) ∧ w76.cell? ⟨(ad9031.add ((x10_2).toNat * 6)).block, (ad9031.add ((x10_2).toNat * 6)).off + 3, none⟩ = some (.int .i64 ((rd_T43 t9007 x10_2).f1.f2)) ∧ w76.cell? ⟨(ad9031.add ((x10_2).toNat * 6)).block, (ad9031.add ((x10_2).toNat * 6)).off + 4, none⟩ = some (.int .i64 ((rd_T43 t9007 x10_2).f1.f3)) ∧ w76.cell? ⟨(ad9031.add ((x10_2).toNat * 6)).block, (ad9031.add ((x10_2).toNat * 6)).off + 5, none⟩ = some (.slice A9031_5 ((rd_T43 t9007 x10_2).f2).length c9031_5) := hS_
          obtain ⟨Ao80, co80, eo80⟩ := Kd.R_slice HO9037.out
          (subst eo80)
          refine norm_ (a' := ?_) ?_ ?_
          rotate_left
          ·simp only [putAll, Act.put, List.setIfInBounds_toArray, List.set_cons_zero, List.set_cons_succ]
           rfl
          refine one_ (i := 10) (N := none) #[true, true, true, true, true, true, true, true, true, true, true, false] rfl rfl (one_of HT_.out (by kernel_rfl)) (by decide) (fun K hK => ?_)
          obtain ⟨hs77, -, -, -, hfs77, -⟩ := c4 BK9039.out
          have hns77_0 := NB9010_9039.out
          have hns77_1 := NB9018_9039.out
          have hns77_2 := NB9026_9039.out
          have hns77_3 := NB9029_9039.out
          have hms77_0 := NB9039_9010.out
          have hms77_1 := NB9039_9018.out
          have hms77_2 := NB9039_9026.out
          have hms77_3 := NB9039_9029.out
          obtain ⟨-, hs78, -, -, -, hfs78, -⟩ := c4 BK9039.out
          have hns78_0 := NB9010_9039.out
          have hns78_1 := NB9018_9039.out
          have hns78_2 := NB9026_9039.out
          have hns78_3 := NB9029_9039.out
          have hms78_0 := NB9039_9010.out
          have hms78_1 := NB9039_9018.out
          have hms78_2 := NB9039_9026.out
          have hms78_3 := NB9039_9029.out
          obtain ⟨-, -, hs79, -, -, -, hfs79, -⟩ := c4 BK9039.out
          have hns79_0 := NB9010_9039.out
          have hns79_1 := NB9018_9039.out
          have hns79_2 := NB9026_9039.out
          have hns79_3 := NB9029_9039.out
          have hms79_0 := NB9039_9010.out
          have hms79_1 := NB9039_9018.out
          have hms79_2 := NB9039_9026.out
          have hms79_3 := NB9039_9029.out
          obtain ⟨-, -, -, hs81, -, -, -, hfs81⟩ := c4 BK9039.out
          have hns81_0 := NB9010_9039.out
          have hns81_1 := NB9018_9039.out
          have hns81_2 := NB9026_9039.out
          have hns81_3 := NB9029_9039.out
          have hms81_0 := NB9039_9010.out
          have hms81_1 := NB9039_9018.out
          have hms81_2 := NB9039_9026.out
          have hms81_3 := NB9039_9029.out
          refine skip_ (w1 := ?_) (by rfl) rfl ?_ ?_
          rotate_left
          ·go_simp
           rfl
          refine hK.out _ _ ⟨((cell_far (p := ⟨gb9039, _, none⟩) NB9029_9039.out _).trans (((cell_far (p := ⟨gb9039, _, none⟩) NB9029_9039.out _).trans (((cell_far (p := ⟨gb9039, _, none⟩) NB9029_9039.out _).trans (((cell_far (p := ⟨gb9039, _, none⟩) NB9029_9039.out _).trans hHeld.1))))))), ((cell_far (p := ⟨gb9039, _, none⟩) NB9029_9039.out _).trans (((cell_far (p := ⟨gb9039, _, none⟩) NB9029_9039.out _).trans (((cell_far (p := ⟨gb9039, _, none⟩) NB9029_9039.out _).trans (((cell_far (p := ⟨gb9039, _, none⟩) NB9029_9039.out _).trans hHeld.2.1))))))), ((cell_far (p := ⟨gb9039, _, none⟩) NB9029_9039.out _).trans (((cell_far (p := ⟨gb9039, _, none⟩) NB9029_9039.out _).trans (((cell_far (p := ⟨gb9039, _, none⟩) NB9029_9039.out _).trans (((cell_far (p := ⟨gb9039, _, none⟩) NB9029_9039.out _).trans hHeld.2.2.1))))))), ((cell_far (p := ⟨gb9039, _, none⟩) NB9029_9039.out _).trans (((cell_far (p := ⟨gb9039, _, none⟩) NB9029_9039.out _).trans (((cell_far (p := ⟨gb9039, _, none⟩) NB9029_9039.out _).trans (((cell_far (p := ⟨gb9039, _, none⟩) NB9029_9039.out _).trans hHeld.2.2.2.1))))))), ((cell_far (p := ⟨gb9039, _, none⟩) (by (rw [add_block]; exact Kd.own_blk (Kd.N_away HO_4.out (fun _ hk => hk.2.2.2.2.2.2.2.2.2)))) _).trans (((cell_far (p := ⟨gb9039, _, none⟩) (by (rw [add_block]; exact Kd.own_blk (Kd.N_away HO_4.out (fun _ hk => hk.2.2.2.2.2.2.2.2.2)))) _).trans (((cell_far (p := ⟨gb9039, _, none⟩) (by (rw [add_block]; exact Kd.own_blk (Kd.N_away HO_4.out (fun _ hk => hk.2.2.2.2.2.2.2.2.2)))) _).trans (((cell_far (p := ⟨gb9039, _, none⟩) (by (rw [add_block]; exact Kd.own_blk (Kd.N_away HO_4.out (fun _ hk => hk.2.2.2.2.2.2.2.2.2)))) _).trans hHeld.2.2.2.2.1))))))), ((cell_far (p := ⟨gb9039, _, none⟩) (by (rw [add_block]; exact Kd.own_blk (Kd.N_away HO_4.out (fun _ hk => hk.2.2.2.2.2.2.2.2.2)))) _).trans (((cell_far (p := ⟨gb9039, _, none⟩) (by (rw [add_block]; exact Kd.own_blk (Kd.N_away HO_4.out (fun _ hk => hk.2.2.2.2.2.2.2.2.2)))) _).trans (((cell_far (p := ⟨gb9039, _, none⟩) (by (rw [add_block]; exact Kd.own_blk (Kd.N_away HO_4.out (fun _ hk => hk.2.2.2.2.2.2.2.2.2)))) _).trans (((cell_far (p := ⟨gb9039, _, none⟩) (by (rw [add_block]; exact Kd.own_blk (Kd.N_away HO_4.out (fun _ hk => hk.2.2.2.2.2.2.2.2.2)))) _).trans hHeld.2.2.2.2.2.1))))))), ((cell_far (p := ⟨gb9039, _, none⟩) (by (rw [add_block]; exact Kd.own_blk (Kd.N_away HO_4.out (fun _ hk => hk.2.2.2.2.2.2.2.2.2)))) _).trans (((cell_far (p := ⟨gb9039, _, none⟩) (by (rw [add_block]; exact Kd.own_blk (Kd.N_away HO_4.out (fun _ hk => hk.2.2.2.2.2.2.2.2.2)))) _).trans (((cell_far (p := ⟨gb9039, _, none⟩) (by (rw [add_block]; exact Kd.own_blk (Kd.N_away HO_4.out (fun _ hk => hk.2.2.2.2.2.2.2.2.2)))) _).trans (((cell_far (p := ⟨gb9039, _, none⟩) (by (rw [add_block]; exact Kd.own_blk (Kd.N_away HO_4.out (fun _ hk => hk.2.2.2.2.2.2.2.2.2)))) _).trans hHeld.2.2.2.2.2.2.1))))))), ((cell_far (p := ⟨gb9039, _, none⟩) (by (rw [add_block]; exact Kd.own_blk (Kd.N_away HO_4.out (fun _ hk => hk.2.2.2.2.2.2.2.2.2)))) _).trans (((cell_far (p := ⟨gb9039, _, none⟩) (by (rw [add_block]; exact Kd.own_blk (Kd.N_away HO_4.out (fun _ hk => hk.2.2.2.2.2.2.2.2.2)))) _).trans (((cell_far (p := ⟨gb9039, _, none⟩) (by (rw [add_block]; exact Kd.own_blk (Kd.N_away HO_4.out (fun _ hk => hk.2.2.2.2.2.2.2.2.2)))) _).trans (((cell_far (p := ⟨gb9039, _, none⟩) (by (rw [add_block]; exact Kd.own_blk (Kd.N_away HO_4.out (fun _ hk => hk.2.2.2.2.2.2.2.2.2)))) _).trans hHeld.2.2.2.2.2.2.2.1))))))), ((cell_far (p := ⟨gb9039, _, none⟩) (by (rw [add_block]; exact Kd.own_blk (Kd.N_away HO_4.out (fun _ hk => hk.2.2.2.2.2.2.2.2.2)))) _).trans (((cell_far (p := ⟨gb9039, _, none⟩) (by (rw [add_block]; exact Kd.own_blk (Kd.N_away HO_4.out (fun _ hk => hk.2.2.2.2.2.2.2.2.2)))) _).trans (((cell_far (p := ⟨gb9039, _, none⟩) (by (rw [add_block]; exact Kd.own_blk (Kd.N_away HO_4.out (fun _ hk => hk.2.2.2.2.2.2.2.2.2)))) _).trans (((cell_far (p := ⟨gb9039, _, none⟩) (by (rw [add_block]; exact Kd.own_blk (Kd.N_away HO_4.out (fun _ hk => hk.2.2.2.2.2.2.2.2.2)))) _).trans hHeld.2.2.2.2.2.2.2.2.1))))))), ((cell_far (p := ⟨gb9039, _, none⟩) (by (rw [add_block]; exact Kd.own_blk (Kd.N_away HO_4.out (fun _ hk => hk.2.2.2.2.2.2.2.2.2)))) _).trans (((cell_far (p := ⟨gb9039, _, none⟩) (by (rw [add_block]; exact Kd.own_blk (Kd.N_away HO_4.out (fun _ hk => hk.2.2.2.2.2.2.2.2.2)))) _).trans (((cell_far (p := ⟨gb9039, _, none⟩) (by (rw [add_block]; exact Kd.own_blk (Kd.N_away HO_4.out (fun _ hk => hk.2.2.2.2.2.2.2.2.2)))) _).trans (((cell_far (p := ⟨gb9039, _, none⟩) (by (rw [add_block]; exact Kd.own_blk (Kd.N_away HO_4.out (fun _ hk => hk.2.2.2.2.2.2.2.2.2)))) _).trans hHeld.2.2.2.2.2.2.2.2.2)))))))⟩ (fun hHeld => ?_)
          clear hK K
          refine pure_ (i := 11) (N := some 12) (v := ?_) (a' := ?_) #[true, true, true, true, true, true, true, true, true, true, true, true] rfl rfl (any_of HT_.out (by kernel_rfl)) (fun _ _ _ h => h) (Or.inl ⟨by rfl, ?_⟩) ?_ ?_
          rotate_left
          ·intro w'
           go_simp
           with_reducible rfl
          rotate_left
          ·simp only [Act.put, List.setIfInBounds_toArray, List.set_cons_zero, List.set_cons_succ, i64_w, i32_w]
           rfl
          refine done_ (done_of HT_.out (by kernel_rfl)) ?_
          obtain ⟨-, -, -, -, hfz90_0, hfz90_1, hfz90_2, hfz90_3⟩ := c4 BK9029.out
          try go_wp2
          go_roundg k2
          case measure => have := HJ5.out; have := HK2.out; omega
          case rel => exact ⟨(wrap64 (x10_2 + 1)), (t9032), (t9033), (t9034), (t9035), (.slice Ao80 t9035.length co80), (by rfl), H', ⟨by have := HJ5.out; have := HK2.out; omega⟩, ⟨by exact Kd.N_mono (Kd.N_far (p := ⟨gb9029, 3, none⟩) (Kd.N_far (p := ⟨gb9029, 2, none⟩) (Kd.N_far (p := ⟨gb9029, 1, none⟩) (Kd.N_far (p := ⟨gb9029, 0, none⟩) (Kd.N_far (p := ⟨gb9039, 3, none⟩) (Kd.N_far (p := ⟨gb9039, 2, none⟩) (Kd.N_far (p := ⟨gb9039, 1, none⟩) (Kd.N_far (p := ⟨gb9039, 0, none⟩) (Kd.N_mono (Kd.N_mono HO_4.out (fun k_ hk => (⟨hk, hk.2.2.2.2.2.2.2.2.2⟩ : _ ∧ k_ ≠ gb9039))) (fun k_ hk => (⟨hk, hk.1.2.2.2.2.2.2.2.2.1⟩ : _ ∧ k_ ≠ gb9029))) (fun _ hk => hk.1.2) (.int .i64 t9032)) (fun _ hk => hk.1.2) (.int .i64 t9033)) (fun _ hk => hk.1.2) (.int .i64 t9034)) (fun _ hk => hk.1.2) (.slice Ao80 t9035.length co80)) (fun _ hk => hk.2) (.int .i64 t9032)) (fun _ hk => hk.2) (.int .i64 t9033)) (fun _ hk => hk.2) (.int .i64 t9034)) (fun _ hk => hk.2) (.slice Ao80 t9035.length co80)) (fun _ hk => ⟨hk.1.1.2.1, ⟨hk.1.1.2.2.1, ⟨hk.1.1.2.2.2.1, ⟨hk.1.1.1, ⟨hk.1.1.2.2.2.2.2.1, ⟨hk.1.1.2.2.2.2.2.2.1, ⟨hk.1.1.2.2.2.2.2.2.2.1, hk.1.1.2.2.2.2.2.2.2.2.1⟩⟩⟩⟩⟩⟩⟩)⟩, ⟨by exact Kd.Q_mono (Kd.Q_far (p := ⟨gb9029, 3, none⟩) (Kd.Q_far (p := ⟨gb9029, 2, none⟩) (Kd.Q_far (p := ⟨gb9029, 1, none⟩) (Kd.Q_far (p := ⟨gb9029, 0, none⟩) (Kd.Q_far (p := ⟨gb9039, 3, none⟩) (Kd.Q_far (p := ⟨gb9039, 2, none⟩) (Kd.Q_far (p := ⟨gb9039, 1, none⟩) (Kd.Q_far (p := ⟨gb9039, 0, none⟩) (Kd.Q_types (Kd.Q_types HOz3.out BK9039.out (by decide)) BK9029.out (by decide)) (fun _ hk => hk.1.2) (.int .i64 t9032)) (fun _ hk => hk.1.2) (.int .i64 t9033)) (fun _ hk => hk.1.2) (.int .i64 t9034)) (fun _ hk => hk.1.2) (.slice Ao80 t9035.length co80)) (fun _ hk => hk.2) (.int .i64 t9032)) (fun _ hk => hk.2) (.int .i64 t9033)) (fun _ hk => hk.2) (.int .i64 t9034)) (fun _ hk => hk.2) (.slice Ao80 t9035.length co80)) (fun _ hk => by simp [hk])⟩, ⟨by exact Kd.Q_mono (Kd.Q_far (p := ⟨gb9029, 3, none⟩) (Kd.Q_far (p := ⟨gb9029, 2, none⟩) (Kd.Q_far (p := ⟨gb9029, 1, none⟩) (Kd.Q_far (p := ⟨gb9029, 0, none⟩) (Kd.Q_far (p := ⟨gb9039, 3, none⟩) (Kd.Q_far (p := ⟨gb9039, 2, none⟩) (Kd.Q_far (p := ⟨gb9039, 1, none⟩) (Kd.Q_far (p := ⟨gb9039, 0, none⟩) (Kd.Q_types (Kd.Q_types HOz1.out BK9039.out (by decide)) BK9029.out (by decide)) (fun _ hk => hk.1.2) (.int .i64 t9032)) (fun _ hk => hk.1.2) (.int .i64 t9033)) (fun _ hk => hk.1.2) (.int .i64 t9034)) (fun _ hk => hk.1.2) (.slice Ao80 t9035.length co80)) (fun _ hk => hk.2) (.int .i64 t9032)) (fun _ hk => hk.2) (.int .i64 t9033)) (fun _ hk => hk.2) (.int .i64 t9034)) (fun _ hk => hk.2) (.slice Ao80 t9035.length co80)) (fun _ hk => by simp [hk])⟩, ⟨by exact Kd.Q_mono (Kd.Q_far (p := ⟨gb9029, 3, none⟩) (Kd.Q_far (p := ⟨gb9029, 2, none⟩) (Kd.Q_far (p := ⟨gb9029, 1, none⟩) (Kd.Q_far (p := ⟨gb9029, 0, none⟩) (Kd.Q_far (p := ⟨gb9039, 3, none⟩) (Kd.Q_far (p := ⟨gb9039, 2, none⟩) (Kd.Q_far (p := ⟨gb9039, 1, none⟩) (Kd.Q_far (p := ⟨gb9039, 0, none⟩) (Kd.Q_types (Kd.Q_types HOz2.out BK9039.out (by decide)) BK9029.out (by decide)) (fun _ hk => hk.1.2) (.int .i64 t9032)) (fun _ hk => hk.1.2) (.int .i64 t9033)) (fun _ hk => hk.1.2) (.int .i64 t9034)) (fun _ hk => hk.1.2) (.slice Ao80 t9035.length co80)) (fun _ hk => hk.2) (.int .i64 t9032)) (fun _ hk => hk.2) (.int .i64 t9033)) (fun _ hk => hk.2) (.int .i64 t9034)) (fun _ hk => hk.2) (.slice Ao80 t9035.length co80)) (fun _ hk => by simp [hk])⟩, ⟨Kd.Q_of_R (by exact Kd.R_mono (Kd.R_far (p := ⟨gb9029, 3, none⟩) (Kd.R_far (p := ⟨gb9029, 2, none⟩) (Kd.R_far (p := ⟨gb9029, 1, none⟩) (Kd.R_far (p := ⟨gb9029, 0, none⟩) (Kd.R_far (p := ⟨gb9039, 3, none⟩) (Kd.R_far (p := ⟨gb9039, 2, none⟩) (Kd.R_far (p := ⟨gb9039, 1, none⟩) (Kd.R_far (p := ⟨gb9039, 0, none⟩) (Kd.R_types (Kd.R_types HO9037.out BK9039.out (by decide)) BK9029.out (by decide)) (fun _ hk => hk.1.2) (.int .i64 t9032)) (fun _ hk => hk.1.2) (.int .i64 t9033)) (fun _ hk => hk.1.2) (.int .i64 t9034)) (fun _ hk => hk.1.2) (.slice Ao80 t9035.length co80)) (fun _ hk => hk.2) (.int .i64 t9032)) (fun _ hk => hk.2) (.int .i64 t9033)) (fun _ hk => hk.2) (.int .i64 t9034)) (fun _ hk => hk.2) (.slice Ao80 t9035.length co80)) (fun _ hk => by simp [hk]))⟩, ⟨by refine blk_far ?_ NB9010_9029.out _; refine blk_far ?_ NB9010_9029.out _; refine blk_far ?_ NB9010_9029.out _; refine blk_far ?_ NB9010_9029.out _; refine blk_far ?_ NB9010_9039.out _; refine blk_far ?_ NB9010_9039.out _; refine blk_far ?_ NB9010_9039.out _; refine blk_far ?_ NB9010_9039.out _; exact BK9010.out⟩, ⟨by refine blk_far ?_ NB9018_9029.out _; refine blk_far ?_ NB9018_9029.out _; refine blk_far ?_ NB9018_9029.out _; refine blk_far ?_ NB9018_9029.out _; refine blk_far ?_ NB9018_9039.out _; refine blk_far ?_ NB9018_9039.out _; refine blk_far ?_ NB9018_9039.out _; refine blk_far ?_ NB9018_9039.out _; exact BK9018.out⟩, ⟨by refine blk_far ?_ NB9026_9029.out _; refine blk_far ?_ NB9026_9029.out _; refine blk_far ?_ NB9026_9029.out _; refine blk_far ?_ NB9026_9029.out _; refine blk_far ?_ NB9026_9039.out _; refine blk_far ?_ NB9026_9039.out _; refine blk_far ?_ NB9026_9039.out _; refine blk_far ?_ NB9026_9039.out _; exact BK9026.out⟩, ⟨by refine blk_put (cs := #[.int .i64 t9032, .int .i64 t9033, .int .i64 t9034, .slice Ao72 xz0.length co72]) ?_ 3 _ rfl; refine blk_put (cs := #[.int .i64 t9032, .int .i64 t9033, .int .i64 xz1, .slice Ao72 xz0.length co72]) ?_ 2 _ rfl; refine blk_put (cs := #[.int .i64 t9032, .int .i64 xz2, .int .i64 xz1, .slice Ao72 xz0.length co72]) ?_ 1 _ rfl; refine blk_put (cs := #[.int .i64 xz3, .int .i64 xz2, .int .i64 xz1, .slice Ao72 xz0.length co72]) ?_ 0 _ rfl; refine blk_far ?_ NB9029_9039.out _; refine blk_far ?_ NB9029_9039.out _; refine blk_far ?_ NB9029_9039.out _; refine blk_far ?_ NB9029_9039.out _; exact BK9029.out⟩, ⟨by repeat (with_reducible first | exact HB.out | refine below_set ?_ GE9029.out | refine below_set ?_ GE9039.out)⟩⟩
         ·replace c71 := Bool.eq_false_iff.mpr c71
          subst c71
          have H1 : (if t9017 = x10_2 then ((laws_equalImage.f k2 xz3 xz2 xz1 xz0 t9011 t9012 t9013 t9014).bind fun t9040 => (some t9040)) else (some false)) = some r := by rw [if_neg (show ¬ (false = true) by decide)] at H; exact H
          clear H
          have H := H1
          clear H1
          by_cases c91 : t9017 = x10_2
          ·rw [if_pos c91] at H
           have c91b0 : (t9017 == x10_2) = true := beq_iff_eq.mpr c91
           have c91b1 : (t9017 != x10_2) = false := bne_eq_false_iff_eq.mpr c91
           clear c91
           replace H := Option.bind_eq_some_iff.mp H
           obtain ⟨t9040, A920, H⟩ := H
           replace H : (some t9040) = some r := H
           have A92 := mk A920
           clear A920
           obtain rfl := Option.some.inj H
           obtain ⟨Ao93, co93, eo93, _⟩ := Kd.Q_slice HOz0.out
           subst eo93
           try go_wp2
           replace HO_4 := mk (Kd.N_drew HO_4.out)
           replace HOz3 := mk (Kd.Q_drew HOz3.out)
           replace HOz1 := mk (Kd.Q_drew HOz1.out)
           replace HOz2 := mk (Kd.Q_drew HOz2.out)
           replace HOz0 := mk (Kd.Q_drew HOz0.out)
           replace BK9010 := mk (blk_drew BK9010.out)
           replace BK9018 := mk (blk_drew BK9018.out)
           replace BK9026 := mk (blk_drew BK9026.out)
           replace BK9029 := mk (blk_drew BK9029.out)
           replace HB := mk (below_drew1 HB.out)
           have p9031 : 0 ≤ (x10_2 : Int) := of_decide_eq_true (by (with_reducible assumption))
           have q9031 : x10_2 < (t9007.length : Int) := of_decide_eq_true (by (with_reducible assumption))
           obtain ⟨ad9031, A9031_5, c9031_5, e9031, hx9031_0, hx9031_1, hx9031_2, hx9031_3, hx9031_4, hx9031_5, hl9031_5, hi9031_5⟩ := at_T43 (Kd.N_reads' HO_4.out).2.2 x10_2 p9031 q9031
           cases e9031
           obtain ⟨ce9031, hce9031, hMe9031, hcc9031⟩ := Kd.N_get HO_4.out z43 x10_2 p9031 q9031
           obtain ⟨ua9031_5, uc9031_5, rfl, ul9031_5, ge9031_5⟩ := k43_openF hMe9031
           have hv9031_5 := hcc9031 5 _ rfl
           rw [add_field _ _ 5 (by omega)] at hv9031_5
           replace hv9031_5 := Option.some.inj (hv9031_5.symm.trans hx9031_5)
           injection hv9031_5 with hva_ hvn_ hvc_
           rw [hva_] at ge9031_5
           rw [hvc_] at ul9031_5
           have HL9031_5 := mk (show Kd.V (Kd.int .i64) 3 _ w.heap.size _ _ ((rd_T43 t9007 x10_2).f2) from Kd.V_mk ul9031_5 ge9031_5)
           clear hva_ hvn_ hvc_ ge9031_5 ul9031_5 hcc9031 hce9031
           have HR9031_5 := mk hi9031_5
           have HC9031_5 := mk hl9031_5
           clear hi9031_5 hl9031_5
           replace p9031 := eq_true p9031
           replace q9031 := eq_true q9031
           refine start_ (n := 12) (S := fun w' => w'.cell? ⟨gb9029, 0, none⟩ = some (.int .i64 xz3) ∧ w'.cell? ⟨gb9029, 1, none⟩ = some (.int .i64 xz2) ∧ w'.cell? ⟨gb9029, 2, none⟩ = some (.int .i64 xz1) ∧ w'.cell? ⟨gb9029, 3, none⟩ = some (.slice Ao93 xz0.length co93) ∧ w'.cell? (ad9031.add ((x10_2).toNat * 6)) = some (.int .i64 ((rd_T43 t9007 x10_2).f0)) ∧ w'.cell? ⟨(ad9031.add ((x10_2).toNat * 6)).block, (ad9031.add ((x10_2).toNat * 6)).off + 1, none⟩ = some (.int .i64 ((rd_T43 t9007 x10_2).f1.f0)) ∧ w'.cell? ⟨(ad9031.add ((x10_2).toNat * 6)).block, (ad9031.add ((x10_2).toNat * 6)).off + 2, none⟩ = some (.int .i64 ((rd_T43 t9007 x10_2).f1.f1)) ∧ w'.cell? ⟨(ad9031.add ((x10_2).toNat * 6)).block, (ad9031.add ((x10_2).toNat * 6)).off + 3, none⟩ = some (.int .i64 ((rd_T43 t9007 x10_2).f1.f2)) ∧ w'.cell? ⟨(ad9031.add ((x10_2).toNat * 6)).block, (ad9031.add ((x10_2).toNat * 6)).off + 4, none⟩ = some (.int .i64 ((rd_T43 t9007 x10_2).f1.f3)) ∧ w'.cell? ⟨(ad9031.add ((x10_2).toNat * 6)).block, (ad9031.add ((x10_2).toNat * 6)).off + 5, none⟩ = some (.slice A9031_5 ((rd_T43 t9007 x10_2).f2).length c9031_5)) (ds := []) #[false, false, false, false, false, false, false, false, false, false, false, false] (by kernel_rfl) rfl rfl ⟨blk_cell BK9029.out 0, blk_cell BK9029.out 1, blk_cell BK9029.out 2, blk_cell BK9029.out 3, hx9031_0, hx9031_1, hx9031_2, hx9031_3, hx9031_4, hx9031_5⟩ (fun hHeld => ?_); refine with_tabW laws_FnRunSteps.tab12 laws_FnRunSteps.bits12 (fun HT_ HW_ => ?_)
           generalize wr.drew = w94 at HO_4 HOz3 HOz1 HOz2 HOz0 BK9010 BK9018 BK9026 BK9029 HB HL9031_5 HR9031_5 hx9031_0 hx9031_1 hx9031_2 hx9031_3 hx9031_4 hx9031_5 hHeld ⊢
           refine pure_ (i := 1) (N := some 63) (v := ?_) (a' := ?_) #[false, true, false, false, false, false, false, false, false, false, false, false] rfl rfl (any_of HT_.out (by kernel_rfl)) (fun _ _ _ h => h) (Or.inl ⟨by rfl, ?_⟩) ?_ ?_
           rotate_left
           ·intro w'
            go_simp
            with_reducible rfl
           rotate_left
           ·simp only [Act.put, List.setIfInBounds_toArray, List.set_cons_zero, List.set_cons_succ, i64_w, i32_w]
            rfl
           refine pure_ (i := 2) (N := some 64) (v := ?_) (a' := ?_) #[false, true, true, false, false, false, false, false, false, false, false, false] rfl rfl (any_of HT_.out (by kernel_rfl)) (fun _ _ _ h => h) (Or.inl ⟨by rfl, ?_⟩) ?_ ?_
           rotate_left
           ·intro w'
            go_simp
            with_reducible rfl
           rotate_left
           ·simp only [Act.put, List.setIfInBounds_toArray, List.set_cons_zero, List.set_cons_succ, i64_w, i32_w]
            rfl
           refine pure_ (i := 3) (N := some 65) (v := ?_) (a' := ?_) #[false, true, true, true, false, false, false, false, false, false, false, false] rfl rfl (any_of HT_.out (by kernel_rfl)) (fun _ _ _ h => h) (Or.inl ⟨by rfl, ?_⟩) ?_ ?_
           rotate_left
           ·intro w'
            go_simp
            with_reducible rfl
           rotate_left
           ·simp only [Act.put, List.setIfInBounds_toArray, List.set_cons_zero, List.set_cons_succ, i64_w, i32_w]
            rfl
           refine take_ (i := 0) (N := some 62) (v := ?_) (a' := ?_) #[true, true, true, true, false, false, false, false, false, false, false, false] rfl rfl (take_ofW HT_.out HW_.out (by kernel_rfl)) (fun _ _ _ h => h) (Or.inl ⟨by rfl, ?_⟩) hHeld ?_ ?_
           rotate_left
           ·rintro w' ⟨s0, s1, s2, s3, s4, s5, s6, s7, s8, s9⟩
            go_simp
            with_reducible rfl
           rotate_left
           ·simp only [Act.put, List.setIfInBounds_toArray, List.set_cons_zero, List.set_cons_succ, i64_w, i32_w]
            rfl
           refine take_ (i := 4) (N := some 66) (v := ?_) (a' := ?_) #[true, true, true, true, true, false, false, false, false, false, false, false] rfl rfl (take_ofW HT_.out HW_.out (by kernel_rfl)) (fun _ _ _ h => h) (Or.inl ⟨by rfl, ?_⟩) hHeld ?_ ?_
           rotate_left
           ·rintro w' ⟨s0, s1, s2, s3, s4, s5, s6, s7, s8, s9⟩
            go_simp
            with_reducible rfl
           rotate_left
           ·simp only [Act.put, List.setIfInBounds_toArray, List.set_cons_zero, List.set_cons_succ, i64_w, i32_w]
            rfl
           refine join_ (σ := Value × Nat) 2 #[true, true, true, true, true, true, true, true, true, true, false, false] (fun s_ => [(67, .tuple #[.agg #[.int .i64 t9032, .int .i64 t9033, .int .i64 t9034, s_.1], .bool false]), (11, .pointer (some ⟨s_.2, 0, none⟩)), (61, .tuple #[.agg #[.int .i64 t9032, .int .i64 t9033, .int .i64 t9034, s_.1], .bool false]), (68, .agg #[.int .i64 t9032, .int .i64 t9033, .int .i64 t9034, s_.1]), (69, .bool false)]) (fun s_ w' => (w'.cell? ⟨gb9029, 0, none⟩ = some (.int .i64 xz3) ∧ w'.cell? ⟨gb9029, 1, none⟩ = some (.int .i64 xz2) ∧ w'.cell? ⟨gb9029, 2, none⟩ = some (.int .i64 xz1) ∧ w'.cell? ⟨gb9029, 3, none⟩ = some (.slice Ao93 xz0.length co93) ∧ w'.cell? (ad9031.add ((x10_2).toNat * 6)) = some (.int .i64 ((rd_T43 t9007 x10_2).f0)) ∧ w'.cell? ⟨(ad9031.add ((x10_2).toNat * 6)).block, (ad9031.add ((x10_2).toNat * 6)).off + 1, none⟩ = some (.int .i64 ((rd_T43 t9007 x10_2).f1.f0)) ∧ w'.cell? ⟨(ad9031.add ((x10_2).toNat * 6)).block, (ad9031.add ((x10_2).toNat * 6)).off + 2, none⟩ = some (.int .i64 ((rd_T43 t9007 x10_2).f1.f1)) ∧ w'.cell? ⟨(ad9031.add ((x10_2).toNat * 6)).block, (ad9031.add ((x10_2).toNat * 6)).off + 3, none⟩ = some (.int .i64 ((rd_T43 t9007 x10_2).f1.f2)) ∧ w'.cell? ⟨(ad9031.add ((x10_2).toNat * 6)).block, (ad9031.add ((x10_2).toNat * 6)).off + 4, none⟩ = some (.int .i64 ((rd_T43 t9007 x10_2).f1.f3)) ∧ w'.cell? ⟨(ad9031.add ((x10_2).toNat * 6)).block, (ad9031.add ((x10_2).toNat * 6)).off + 5, none⟩ = some (.slice A9031_5 ((rd_T43 t9007 x10_2).f2).length c9031_5)) ∧ (Kd.V (Kd.int .i64) 3 w' w.heap.size (fun k_ => some k_ ≠ (s_.1 : Value).ownBlock ∧ some k_ ≠ (.slice (some ad9031) t9007.length co11 : Value).ownBlock ∧ some k_ ≠ (.slice Ao10 t9004.length co10 : Value).ownBlock ∧ some k_ ≠ (.slice Ao16 t9014.length co16 : Value).ownBlock ∧ some k_ ≠ (.slice Ao23 t9022.length co23 : Value).ownBlock ∧ some k_ ≠ (.slice Ao93 xz0.length co93 : Value).ownBlock ∧ k_ ≠ gb9010 ∧ k_ ≠ gb9018 ∧ k_ ≠ gb9026 ∧ k_ ≠ gb9029 ∧ k_ ≠ s_.2) (.slice A9031_5 ((rd_T43 t9007 x10_2).f2).length c9031_5) ((rd_T43 t9007 x10_2).f2)) ∧ (Kd.R (Kd.int .i64) 3 w' w.heap.size (fun k_ => some k_ ≠ (.slice Ao10 t9004.length co10 : Value).ownBlock ∧ some k_ ≠ (.slice Ao16 t9014.length co16 : Value).ownBlock ∧ some k_ ≠ (.slice Ao23 t9022.length co23 : Value).ownBlock ∧ some k_ ≠ (.slice Ao93 xz0.length co93 : Value).ownBlock) s_.1 t9035) ∧ (Kd.N k43 43 w' w.heap.size (fun k_ => some k_ ≠ (s_.1 : Value).ownBlock ∧ some k_ ≠ (.slice Ao10 t9004.length co10 : Value).ownBlock ∧ some k_ ≠ (.slice Ao16 t9014.length co16 : Value).ownBlock ∧ some k_ ≠ (.slice Ao23 t9022.length co23 : Value).ownBlock ∧ some k_ ≠ (.slice Ao93 xz0.length co93 : Value).ownBlock ∧ k_ ≠ gb9010 ∧ k_ ≠ gb9018 ∧ k_ ≠ gb9026 ∧ k_ ≠ gb9029 ∧ k_ ≠ s_.2) (.slice (some ad9031) t9007.length co11) t9007) ∧ (Kd.Q (Kd.int .i64) 3 w' w.heap.size (fun k_ => some k_ ≠ (s_.1 : Value).ownBlock ∧ some k_ ≠ (.slice Ao16 t9014.length co16 : Value).ownBlock ∧ some k_ ≠ (.slice Ao23 t9022.length co23 : Value).ownBlock) (.slice Ao10 t9004.length co10) t9004) ∧ (Kd.Q (Kd.int .i64) 3 w' w.heap.size (fun k_ => some k_ ≠ (s_.1 : Value).ownBlock ∧ some k_ ≠ (.slice Ao10 t9004.length co10 : Value).ownBlock ∧ some k_ ≠ (.slice Ao23 t9022.length co23 : Value).ownBlock ∧ some k_ ≠ (.slice Ao93 xz0.length co93 : Value).ownBlock) (.slice Ao16 t9014.length co16) t9014) ∧ (Kd.Q (Kd.int .i64) 3 w' w.heap.size (fun k_ => some k_ ≠ (s_.1 : Value).ownBlock ∧ some k_ ≠ (.slice Ao10 t9004.length co10 : Value).ownBlock ∧ some k_ ≠ (.slice Ao16 t9014.length co16 : Value).ownBlock ∧ some k_ ≠ (.slice Ao93 xz0.length co93 : Value).ownBlock) (.slice Ao23 t9022.length co23) t9022) ∧ (Kd.Q (Kd.int .i64) 3 w' w.heap.size (fun k_ => some k_ ≠ (s_.1 : Value).ownBlock ∧ some k_ ≠ (.slice Ao16 t9014.length co16 : Value).ownBlock ∧ some k_ ≠ (.slice Ao23 t9022.length co23 : Value).ownBlock) (.slice Ao93 xz0.length co93) xz0) ∧ (w'.heap[gb9010]? = some (.cells #[.int .i64 t9001, .int .i64 t9002, .int .i64 t9003, .slice Ao10 t9004.length co10] 28 (0, 0))) ∧ (w'.heap[gb9018]? = some (.cells #[.int .i64 t9011, .int .i64 t9012, .int .i64 t9013, .slice Ao16 t9014.length co16] 28 (0, 0))) ∧ (w'.heap[gb9026]? = some (.cells #[.int .i64 t9019, .int .i64 t9020, .int .i64 t9021, .slice Ao23 t9022.length co23] 28 (0, 0))) ∧ (w'.heap[gb9029]? = some (.cells #[.int .i64 xz3, .int .i64 xz2, .int .i64 xz1, .slice Ao93 xz0.length co93] 28 (0, 0))) ∧ (w'.heap[s_.2]? = some (.cells #[.int .i64 0, .int .i64 0, .int .i64 0, .slice none 0 0] 28 (0, 0))) ∧ (w.heap.size ≤ s_.2) ∧ (w.heap.size ≤ s_.2) ∧ (gb9010 ≠ s_.2) ∧ (s_.2 ≠ gb9010) ∧ (gb9018 ≠ s_.2) ∧ (s_.2 ≠ gb9018) ∧ (gb9026 ≠ s_.2) ∧ (s_.2 ≠ gb9026) ∧ (gb9029 ≠ s_.2) ∧ (s_.2 ≠ gb9029) ∧ (Below w.heap.size w w')) ?_ ?_
           rotate_left
           ·intro hCont
            refine two_ (i := 5) (j := 9) (Ni := some 67) (Nj := some 11) #[true, true, true, true, true, true, false, false, false, false, false, false] #[true, true, true, true, true, false, false, false, false, true, false, false] rfl rfl rfl rfl (two_of HT_.out (by kernel_rfl)) (by decide) (by decide) (fun K hK => ?_) (fun K hK => ?_)
            ·skip
             refine goes_ Try.func22 (by kernel_rfl) rfl #[.agg #[.int .i64 xz3, .int .i64 xz2, .int .i64 xz1, .slice Ao93 xz0.length co93], .agg #[.int .i64 ((rd_T43 t9007 x10_2).f0), .int .i64 ((rd_T43 t9007 x10_2).f1.f0), .int .i64 ((rd_T43 t9007 x10_2).f1.f1), .int .i64 ((rd_T43 t9007 x10_2).f1.f2), .int .i64 ((rd_T43 t9007 x10_2).f1.f3), .slice A9031_5 ((rd_T43 t9007 x10_2).f2).length c9031_5]] (by rfl) rfl rfl (by (try simp only [List.map_toArray, List.map_cons, List.map_nil]); rfl) ?_
             with_reducible refine (impl_DoStep.calls xz3 xz2 xz1 _ _ xz0 ((rd_T43 t9007 x10_2).f0) ((rd_T43 t9007 x10_2).f1.f0) ((rd_T43 t9007 x10_2).f1.f1) ((rd_T43 t9007 x10_2).f1.f2) ((rd_T43 t9007 x10_2).f1.f3) _ _ ((rd_T43 t9007 x10_2).f2) t9032 t9033 t9034 t9035 false _ ?side1 ?side2 ?side3 ?side4 A70.out).mono ?_
             (case side1 => repeat (exact (Kd.Q_reads' HOz0.out).2.2))
             (case side2 => exact (Kd.Q_reads' HOz0.out).2.1)
             (case side3 => repeat (exact HR9031_5.out))
             (case side4 => exact HC9031_5.out)
             rintro e w95 ⟨v9036, rfl, ho0, hb⟩
             have HS4_ := (hb.cell (World.block_lt_of_cell? _ _ hHeld.2.2.2.2.1)).trans (hHeld.2.2.2.2.1)
             have HS5_ := (hb.cell (World.block_lt_of_cell? _ _ hHeld.2.2.2.2.2.1)).trans (hHeld.2.2.2.2.2.1)
             have HS6_ := (hb.cell (World.block_lt_of_cell? _ _ hHeld.2.2.2.2.2.2.1)).trans (hHeld.2.2.2.2.2.2.1)
             have HS7_ := (hb.cell (World.block_lt_of_cell? _ _ hHeld.2.2.2.2.2.2.2.1)).trans (hHeld.2.2.2.2.2.2.2.1)
             have HS8_ := (hb.cell (World.block_lt_of_cell? _ _ hHeld.2.2.2.2.2.2.2.2.1)).trans (hHeld.2.2.2.2.2.2.2.2.1)
             have HS9_ := (hb.cell (World.block_lt_of_cell? _ _ hHeld.2.2.2.2.2.2.2.2.2)).trans (hHeld.2.2.2.2.2.2.2.2.2)
             refine ⟨_, rfl, ?_⟩
             replace HO_4 := mk (Kd.N_elder' HO_4.out (Kd.R_base ho0) hb)
             replace HL9031_5 := mk (Kd.V_elder' HL9031_5.out (Kd.R_base ho0) hb)
             have HO9037 := mk (Kd.R_lower (Kd.R_new' (Kd.R_new' (Kd.R_new' (Kd.R_new' ho0 (Kd.Q_lt HOz3.out)) (Kd.Q_lt HOz1.out)) (Kd.Q_lt HOz2.out)) (Kd.Q_lt HOz0.out)) (below_size HB.out))
             replace HOz3 := mk (Kd.Q_elder' HOz3.out (Kd.R_base ho0) hb)
             replace HOz1 := mk (Kd.Q_elder' HOz1.out (Kd.R_base ho0) hb)
             replace HOz2 := mk (Kd.Q_elder' HOz2.out (Kd.R_base ho0) hb)
             replace HOz0 := mk (Kd.Q_elder' HOz0.out (Kd.R_base ho0) hb)
             replace BK9010 := mk (blk_below BK9010.out hb)
             replace BK9018 := mk (blk_below BK9018.out hb)
             replace BK9026 := mk (blk_below BK9026.out hb)
             replace BK9029 := mk (blk_below BK9029.out hb)
             replace HR9031_5 := mk (Kd.C_below HR9031_5.out hb)
             replace HB := mk (below_step HB.out hb)
             (try clear hb)
             (try clear ho0)
             refine hK.out _ _ ⟨blk_cell BK9029.out 0, blk_cell BK9029.out 1, blk_cell BK9029.out 2, blk_cell BK9029.out 3, HS4_, HS5_, HS6_, HS7_, HS8_, HS9_⟩ (fun hHeld => ?_)
             clear hK K
             refine norm_ (a' := ?_) ?_ ?_
             rotate_left
             ·show Act.put _ (some 67) _ = _
              simp only [Act.put, List.setIfInBounds_toArray, List.set_cons_zero, List.set_cons_succ, i64_w, i32_w]
              rfl
             refine pure_ (i := 6) (N := some 61) (v := ?_) (a' := ?_) #[true, true, true, true, true, true, true, false, false, false, false, false] rfl rfl (any_of HT_.out (by kernel_rfl)) (fun _ _ _ h => h) (Or.inl ⟨by rfl, ?_⟩) ?_ ?_
             rotate_left
             ·intro w'
              go_simp
              with_reducible rfl
             rotate_left
             ·simp only [Act.put, List.setIfInBounds_toArray, List.set_cons_zero, List.set_cons_succ, i64_w, i32_w]
              rfl
             refine pure_ (i := 7) (N := some 68) (v := ?_) (a' := ?_) #[true, true, true, true, true, true, true, true, false, false, false, false] rfl rfl (any_of HT_.out (by kernel_rfl)) (fun _ _ _ h => h) (Or.inl ⟨by rfl, ?_⟩) ?_ ?_
             rotate_left
             ·intro w'
              go_simp
              with_reducible rfl
             rotate_left
             ·simp only [Act.put, List.setIfInBounds_toArray, List.set_cons_zero, List.set_cons_succ, i64_w, i32_w]
              rfl
             refine pure_ (i := 8) (N := some 69) (v := ?_) (a' := ?_) #[true, true, true, true, true, true, true, true, true, false, false, false] rfl rfl (any_of HT_.out (by kernel_rfl)) (fun _ _ _ h => h) (Or.inl ⟨by rfl, ?_⟩) ?_ ?_
             rotate_left
             ·intro w'
              go_simp
              with_reducible rfl
             rotate_left
             ·simp only [Act.put, List.setIfInBounds_toArray, List.set_cons_zero, List.set_cons_succ, i64_w, i32_w]
              rfl
             refine one_ (i := 9) (N := some 11) #[true, true, true, true, true, true, true, true, true, true, false, false] rfl rfl (one_of HT_.out (by kernel_rfl)) (by decide) (fun K hK => ?_)
             refine box_step ?hg (N := 11) ?hd (cs := #[.int .i64 0, .int .i64 0, .int .i64 0, .slice none 0 0]) (t := 28) ?hr ?_; (case hd => rfl); (case hg => rfl); (case hr => (go_simp; done))
             intro gb9039 hg w96 hbox hb
             have HS4_ := (hb.cell (World.block_lt_of_cell? _ _ hHeld.2.2.2.2.1)).trans (hHeld.2.2.2.2.1)
             have HS5_ := (hb.cell (World.block_lt_of_cell? _ _ hHeld.2.2.2.2.2.1)).trans (hHeld.2.2.2.2.2.1)
             have HS6_ := (hb.cell (World.block_lt_of_cell? _ _ hHeld.2.2.2.2.2.2.1)).trans (hHeld.2.2.2.2.2.2.1)
             have HS7_ := (hb.cell (World.block_lt_of_cell? _ _ hHeld.2.2.2.2.2.2.2.1)).trans (hHeld.2.2.2.2.2.2.2.1)
             have HS8_ := (hb.cell (World.block_lt_of_cell? _ _ hHeld.2.2.2.2.2.2.2.2.1)).trans (hHeld.2.2.2.2.2.2.2.2.1)
             have HS9_ := (hb.cell (World.block_lt_of_cell? _ _ hHeld.2.2.2.2.2.2.2.2.2)).trans (hHeld.2.2.2.2.2.2.2.2.2)
             replace HO_4 := mk (Kd.N_below (Kd.N_elderB HO_4.out gb9039 (Nat.le_of_eq hg.symm)) hb)
             replace HOz3 := mk (Kd.Q_below HOz3.out hb)
             replace HOz1 := mk (Kd.Q_below HOz1.out hb)
             replace HOz2 := mk (Kd.Q_below HOz2.out hb)
             replace HOz0 := mk (Kd.Q_below HOz0.out hb)
             replace HL9031_5 := mk (Kd.V_below (Kd.V_elderB HL9031_5.out gb9039 (Nat.le_of_eq hg.symm)) hb)
             replace HO9037 := mk (Kd.R_below HO9037.out hb)
             replace HR9031_5 := mk (Kd.C_below HR9031_5.out hb)
             have BK9039 := mk (hbox)
             have GW9039 := mk ((by rw [hg]; exact (below_size HB.out) : w.heap.size ≤ gb9039))
             have GE9039 := mk ((by rw [hg]; exact (below_size HB.out) : w.heap.size ≤ gb9039))
             replace HB := mk (below_step HB.out hb)
             have NB9010_9039 := mk ((by rw [hg]; exact Nat.ne_of_lt (blk_lt BK9010.out) : gb9010 ≠ gb9039))
             replace BK9010 := mk (blk_below BK9010.out hb)
             have NB9039_9010 := mk NB9010_9039.out.symm
             have NB9018_9039 := mk ((by rw [hg]; exact Nat.ne_of_lt (blk_lt BK9018.out) : gb9018 ≠ gb9039))
             replace BK9018 := mk (blk_below BK9018.out hb)
             have NB9039_9018 := mk NB9018_9039.out.symm
             have NB9026_9039 := mk ((by rw [hg]; exact Nat.ne_of_lt (blk_lt BK9026.out) : gb9026 ≠ gb9039))
             replace BK9026 := mk (blk_below BK9026.out hb)
             have NB9039_9026 := mk NB9026_9039.out.symm
             have NB9029_9039 := mk ((by rw [hg]; exact Nat.ne_of_lt (blk_lt BK9029.out) : gb9029 ≠ gb9039))
             replace BK9029 := mk (blk_below BK9029.out hb)
             have NB9039_9029 := mk NB9029_9039.out.symm
             clear hb hbox hg
             refine hK.out _ _ ⟨blk_cell BK9029.out 0, blk_cell BK9029.out 1, blk_cell BK9029.out 2, blk_cell BK9029.out 3, HS4_, HS5_, HS6_, HS7_, HS8_, HS9_⟩ (fun hHeld => ?_)
             clear hK K
             refine norm_ (a' := ?_) ?_ ?_
             rotate_left
             ·show Act.put _ (some 11) _ = _
              simp only [Act.put, List.setIfInBounds_toArray, List.set_cons_zero, List.set_cons_succ, i64_w, i32_w]
              rfl
             exact norm_ (by simp only [putAll, Act.put, List.setIfInBounds_toArray, List.set_cons_zero, List.set_cons_succ]) (hCont (v9036, gb9039) _ ⟨hHeld, (by exact Kd.V_mono HL9031_5.out (fun _ hk => ⟨hk.1.2, ⟨hk.1.1.2, ⟨hk.1.1.1.1, ⟨hk.1.1.1.2.1, ⟨hk.1.1.1.2.2.1, ⟨hk.1.1.1.2.2.2.1, ⟨hk.1.1.1.2.2.2.2.1, ⟨hk.1.1.1.2.2.2.2.2.1, ⟨hk.1.1.1.2.2.2.2.2.2.1, ⟨hk.1.1.1.2.2.2.2.2.2.2, hk.2⟩⟩⟩⟩⟩⟩⟩⟩⟩⟩)), (by exact Kd.R_mono HO9037.out (fun _ hk => ⟨hk.1.1.1.2, ⟨hk.1.1.2, ⟨hk.1.2, hk.2⟩⟩⟩)), (by exact Kd.N_mono HO_4.out (fun _ hk => ⟨hk.1.2, ⟨hk.1.1.1, ⟨hk.1.1.2.1, ⟨hk.1.1.2.2.1, ⟨hk.1.1.2.2.2.1, ⟨hk.1.1.2.2.2.2.1, ⟨hk.1.1.2.2.2.2.2.1, ⟨hk.1.1.2.2.2.2.2.2.1, ⟨hk.1.1.2.2.2.2.2.2.2, hk.2⟩⟩⟩⟩⟩⟩⟩⟩⟩)), (by exact Kd.Q_mono HOz3.out (fun _ hk => ⟨hk.2, ⟨hk.1.1, hk.1.2⟩⟩)), (by exact Kd.Q_mono HOz1.out (fun _ hk => ⟨hk.2, ⟨hk.1.1, ⟨hk.1.2.1, hk.1.2.2⟩⟩⟩)), (by exact Kd.Q_mono HOz2.out (fun _ hk => ⟨hk.2, ⟨hk.1.1, ⟨hk.1.2.1, hk.1.2.2⟩⟩⟩)), (by exact Kd.Q_mono HOz0.out (fun _ hk => ⟨hk.2, ⟨hk.1.1, hk.1.2⟩⟩)), BK9010.out, BK9018.out, BK9026.out, BK9029.out, BK9039.out, GW9039.out, GE9039.out, NB9010_9039.out, NB9039_9010.out, NB9018_9039.out, NB9039_9018.out, NB9026_9039.out, NB9039_9026.out, NB9029_9039.out, NB9039_9029.out, (HB.out)⟩)
            ·skip
             refine box_step ?hg (N := 11) ?hd (cs := #[.int .i64 0, .int .i64 0, .int .i64 0, .slice none 0 0]) (t := 28) ?hr ?_; (case hd => rfl); (case hg => rfl); (case hr => (go_simp; done))
             intro gb9039 hg w95 hbox hb
             have HS4_ := (hb.cell (World.block_lt_of_cell? _ _ hHeld.2.2.2.2.1)).trans (hHeld.2.2.2.2.1)
             have HS5_ := (hb.cell (World.block_lt_of_cell? _ _ hHeld.2.2.2.2.2.1)).trans (hHeld.2.2.2.2.2.1)
             have HS6_ := (hb.cell (World.block_lt_of_cell? _ _ hHeld.2.2.2.2.2.2.1)).trans (hHeld.2.2.2.2.2.2.1)
             have HS7_ := (hb.cell (World.block_lt_of_cell? _ _ hHeld.2.2.2.2.2.2.2.1)).trans (hHeld.2.2.2.2.2.2.2.1)
             have HS8_ := (hb.cell (World.block_lt_of_cell? _ _ hHeld.2.2.2.2.2.2.2.2.1)).trans (hHeld.2.2.2.2.2.2.2.2.1)
             have HS9_ := (hb.cell (World.block_lt_of_cell? _ _ hHeld.2.2.2.2.2.2.2.2.2)).trans (hHeld.2.2.2.2.2.2.2.2.2)
             replace HO_4 := mk (Kd.N_below (Kd.N_elderB HO_4.out gb9039 (Nat.le_of_eq hg.symm)) hb)
             replace HOz3 := mk (Kd.Q_below HOz3.out hb)
             replace HOz1 := mk (Kd.Q_below HOz1.out hb)
             replace HOz2 := mk (Kd.Q_below HOz2.out hb)
             replace HOz0 := mk (Kd.Q_below HOz0.out hb)
             replace HL9031_5 := mk (Kd.V_below (Kd.V_elderB HL9031_5.out gb9039 (Nat.le_of_eq hg.symm)) hb)
             replace HR9031_5 := mk (Kd.C_below HR9031_5.out hb)
             have BK9039 := mk (hbox)
             have GW9039 := mk ((by rw [hg]; exact (below_size HB.out) : w.heap.size ≤ gb9039))
             have GE9039 := mk ((by rw [hg]; exact (below_size HB.out) : w.heap.size ≤ gb9039))
             replace HB := mk (below_step HB.out hb)
             have NB9010_9039 := mk ((by rw [hg]; exact Nat.ne_of_lt (blk_lt BK9010.out) : gb9010 ≠ gb9039))
             replace BK9010 := mk (blk_below BK9010.out hb)
             have NB9039_9010 := mk NB9010_9039.out.symm
             have NB9018_9039 := mk ((by rw [hg]; exact Nat.ne_of_lt (blk_lt BK9018.out) : gb9018 ≠ gb9039))
             replace BK9018 := mk (blk_below BK9018.out hb)
             have NB9039_9018 := mk NB9018_9039.out.symm
             have NB9026_9039 := mk ((by rw [hg]; exact Nat.ne_of_lt (blk_lt BK9026.out) : gb9026 ≠ gb9039))
             replace BK9026 := mk (blk_below BK9026.out hb)
             have NB9039_9026 := mk NB9026_9039.out.symm
             have NB9029_9039 := mk ((by rw [hg]; exact Nat.ne_of_lt (blk_lt BK9029.out) : gb9029 ≠ gb9039))
             replace BK9029 := mk (blk_below BK9029.out hb)
             have NB9039_9029 := mk NB9029_9039.out.symm
             clear hb hbox hg
             refine hK.out _ _ ⟨blk_cell BK9029.out 0, blk_cell BK9029.out 1, blk_cell BK9029.out 2, blk_cell BK9029.out 3, HS4_, HS5_, HS6_, HS7_, HS8_, HS9_⟩ (fun hHeld => ?_)
             clear hK K
             refine norm_ (a' := ?_) ?_ ?_
             rotate_left
             ·show Act.put _ (some 11) _ = _
              simp only [Act.put, List.setIfInBounds_toArray, List.set_cons_zero, List.set_cons_succ, i64_w, i32_w]
              rfl
             refine one_ (i := 5) (N := some 67) #[true, true, true, true, true, true, false, false, false, true, false, false] rfl rfl (one_of HT_.out (by kernel_rfl)) (by decide) (fun K hK => ?_)
             refine goes_ Try.func22 (by kernel_rfl) rfl #[.agg #[.int .i64 xz3, .int .i64 xz2, .int .i64 xz1, .slice Ao93 xz0.length co93], .agg #[.int .i64 ((rd_T43 t9007 x10_2).f0), .int .i64 ((rd_T43 t9007 x10_2).f1.f0), .int .i64 ((rd_T43 t9007 x10_2).f1.f1), .int .i64 ((rd_T43 t9007 x10_2).f1.f2), .int .i64 ((rd_T43 t9007 x10_2).f1.f3), .slice A9031_5 ((rd_T43 t9007 x10_2).f2).length c9031_5]] (by rfl) rfl rfl (by (try simp only [List.map_toArray, List.map_cons, List.map_nil]); rfl) ?_
             with_reducible refine (impl_DoStep.calls xz3 xz2 xz1 _ _ xz0 ((rd_T43 t9007 x10_2).f0) ((rd_T43 t9007 x10_2).f1.f0) ((rd_T43 t9007 x10_2).f1.f1) ((rd_T43 t9007 x10_2).f1.f2) ((rd_T43 t9007 x10_2).f1.f3) _ _ ((rd_T43 t9007 x10_2).f2) t9032 t9033 t9034 t9035 false _ ?side1 ?side2 ?side3 ?side4 A70.out).mono ?_
             (case side1 => repeat (exact (Kd.Q_reads' HOz0.out).2.2))
             (case side2 => exact (Kd.Q_reads' HOz0.out).2.1)
             (case side3 => repeat (exact HR9031_5.out))
             (case side4 => exact HC9031_5.out)
             rintro e w96 ⟨v9036, rfl, ho0, hb⟩
             have HS4_ := (hb.cell (World.block_lt_of_cell? _ _ hHeld.2.2.2.2.1)).trans (hHeld.2.2.2.2.1)
             have HS5_ := (hb.cell (World.block_lt_of_cell? _ _ hHeld.2.2.2.2.2.1)).trans (hHeld.2.2.2.2.2.1)
             have HS6_ := (hb.cell (World.block_lt_of_cell? _ _ hHeld.2.2.2.2.2.2.1)).trans (hHeld.2.2.2.2.2.2.1)
             have HS7_ := (hb.cell (World.block_lt_of_cell? _ _ hHeld.2.2.2.2.2.2.2.1)).trans (hHeld.2.2.2.2.2.2.2.1)
             have HS8_ := (hb.cell (World.block_lt_of_cell? _ _ hHeld.2.2.2.2.2.2.2.2.1)).trans (hHeld.2.2.2.2.2.2.2.2.1)
             have HS9_ := (hb.cell (World.block_lt_of_cell? _ _ hHeld.2.2.2.2.2.2.2.2.2)).trans (hHeld.2.2.2.2.2.2.2.2.2)
             refine ⟨_, rfl, ?_⟩
             replace HO_4 := mk (Kd.N_elder' HO_4.out (Kd.R_base ho0) hb)
             replace HL9031_5 := mk (Kd.V_elder' HL9031_5.out (Kd.R_base ho0) hb)
             have HO9037 := mk (Kd.R_lower (Kd.R_new' (Kd.R_new' (Kd.R_new' (Kd.R_new' ho0 (Kd.Q_lt HOz3.out)) (Kd.Q_lt HOz1.out)) (Kd.Q_lt HOz2.out)) (Kd.Q_lt HOz0.out)) (below_size HB.out))
             replace HOz3 := mk (Kd.Q_elder' HOz3.out (Kd.R_base ho0) hb)
             replace HOz1 := mk (Kd.Q_elder' HOz1.out (Kd.R_base ho0) hb)
             replace HOz2 := mk (Kd.Q_elder' HOz2.out (Kd.R_base ho0) hb)
             replace HOz0 := mk (Kd.Q_elder' HOz0.out (Kd.R_base ho0) hb)
             replace BK9010 := mk (blk_below BK9010.out hb)
             replace BK9018 := mk (blk_below BK9018.out hb)
             replace BK9026 := mk (blk_below BK9026.out hb)
             replace BK9029 := mk (blk_below BK9029.out hb)
             replace HR9031_5 := mk (Kd.C_below HR9031_5.out hb)
             replace BK9039 := mk (blk_below BK9039.out hb)
             replace HB := mk (below_step HB.out hb)
             (try clear hb)
             (try clear ho0)
             refine hK.out _ _ ⟨blk_cell BK9029.out 0, blk_cell BK9029.out 1, blk_cell BK9029.out 2, blk_cell BK9029.out 3, HS4_, HS5_, HS6_, HS7_, HS8_, HS9_⟩ (fun hHeld => ?_)
             clear hK K
             refine norm_ (a' := ?_) ?_ ?_
             rotate_left
             ·show Act.put _ (some 67) _ = _
              simp only [Act.put, List.setIfInBounds_toArray, List.set_cons_zero, List.set_cons_succ, i64_w, i32_w]
              rfl
             refine pure_ (i := 6) (N := some 61) (v := ?_) (a' := ?_) #[true, true, true, true, true, true, true, false, false, true, false, false] rfl rfl (any_of HT_.out (by kernel_rfl)) (fun _ _ _ h => h) (Or.inl ⟨by rfl, ?_⟩) ?_ ?_
             rotate_left
             ·intro w'
              go_simp
              with_reducible rfl
             rotate_left
             ·simp only [Act.put, List.setIfInBounds_toArray, List.set_cons_zero, List.set_cons_succ, i64_w, i32_w]
              rfl
             refine pure_ (i := 7) (N := some 68) (v := ?_) (a' := ?_) #[true, true, true, true, true, true, true, true, false, true, false, false] rfl rfl (any_of HT_.out (by kernel_rfl)) (fun _ _ _ h => h) (Or.inl ⟨by rfl, ?_⟩) ?_ ?_
             rotate_left
             ·intro w'
              go_simp
              with_reducible rfl
             rotate_left
             ·simp only [Act.put, List.setIfInBounds_toArray, List.set_cons_zero, List.set_cons_succ, i64_w, i32_w]
              rfl
             refine pure_ (i := 8) (N := some 69) (v := ?_) (a' := ?_) #[true, true, true, true, true, true, true, true, true, true, false, false] rfl rfl (any_of HT_.out (by kernel_rfl)) (fun _ _ _ h => h) (Or.inl ⟨by rfl, ?_⟩) ?_ ?_
             rotate_left
             ·intro w'
              go_simp
              with_reducible rfl
             rotate_left
             ·simp only [Act.put, List.setIfInBounds_toArray, List.set_cons_zero, List.set_cons_succ, i64_w, i32_w]
              rfl
             exact norm_ (by simp only [putAll, Act.put, List.setIfInBounds_toArray, List.set_cons_zero, List.set_cons_succ]) (hCont (v9036, gb9039) _ ⟨hHeld, (by exact Kd.V_mono HL9031_5.out (fun _ hk => ⟨hk.2, ⟨hk.1.1.2, ⟨hk.1.1.1.1, ⟨hk.1.1.1.2.1, ⟨hk.1.1.1.2.2.1, ⟨hk.1.1.1.2.2.2.1, ⟨hk.1.1.1.2.2.2.2.1, ⟨hk.1.1.1.2.2.2.2.2.1, ⟨hk.1.1.1.2.2.2.2.2.2.1, ⟨hk.1.1.1.2.2.2.2.2.2.2, hk.1.2⟩⟩⟩⟩⟩⟩⟩⟩⟩⟩)), (by exact Kd.R_mono HO9037.out (fun _ hk => ⟨hk.1.1.1.2, ⟨hk.1.1.2, ⟨hk.1.2, hk.2⟩⟩⟩)), (by exact Kd.N_mono HO_4.out (fun _ hk => ⟨hk.2, ⟨hk.1.1.1, ⟨hk.1.1.2.1, ⟨hk.1.1.2.2.1, ⟨hk.1.1.2.2.2.1, ⟨hk.1.1.2.2.2.2.1, ⟨hk.1.1.2.2.2.2.2.1, ⟨hk.1.1.2.2.2.2.2.2.1, ⟨hk.1.1.2.2.2.2.2.2.2, hk.1.2⟩⟩⟩⟩⟩⟩⟩⟩⟩)), (by exact Kd.Q_mono HOz3.out (fun _ hk => ⟨hk.2, ⟨hk.1.1, hk.1.2⟩⟩)), (by exact Kd.Q_mono HOz1.out (fun _ hk => ⟨hk.2, ⟨hk.1.1, ⟨hk.1.2.1, hk.1.2.2⟩⟩⟩)), (by exact Kd.Q_mono HOz2.out (fun _ hk => ⟨hk.2, ⟨hk.1.1, ⟨hk.1.2.1, hk.1.2.2⟩⟩⟩)), (by exact Kd.Q_mono HOz0.out (fun _ hk => ⟨hk.2, ⟨hk.1.1, hk.1.2⟩⟩)), BK9010.out, BK9018.out, BK9026.out, BK9029.out, BK9039.out, GW9039.out, GE9039.out, NB9010_9039.out, NB9039_9010.out, NB9018_9039.out, NB9039_9018.out, NB9026_9039.out, NB9039_9026.out, NB9029_9039.out, NB9039_9029.out, (HB.out)⟩)
           rintro ⟨v9036, gb9039⟩ w97 ⟨hS_, h0_, h1_, h2_, h3_, h4_, h5_, h6_, h7_, h8_, h9_, h10_, h11_, h12_, h13_, h14_, h15_, h16_, h17_, h18_, h19_, h20_, h21_, h22_⟩
           have n0_ : Aside0 (Kd.V (Kd.int .i64) 3 w97 w.heap.size (fun k_ => some k_ ≠ (v9036 : Value).ownBlock ∧ some k_ ≠ (.slice (some ad9031) t9007.length co11 : Value).ownBlock ∧ some k_ ≠ (.slice Ao10 t9004.length co10 : Value).ownBlock ∧ some k_ ≠ (.slice Ao16 t9014.length co16 : Value).ownBlock ∧ some k_ ≠ (.slice Ao23 t9022.length co23 : Value).ownBlock ∧ some k_ ≠ (.slice Ao93 xz0.length co93 : Value).ownBlock ∧ k_ ≠ gb9010 ∧ k_ ≠ gb9018 ∧ k_ ≠ gb9026 ∧ k_ ≠ gb9029 ∧ k_ ≠ gb9039) (.slice A9031_5 ((rd_T43 t9007 x10_2).f2).length c9031_5) ((rd_T43 t9007 x10_2).f2)) := ⟨h0_⟩
           have n1_ : Aside0 (Kd.R (Kd.int .i64) 3 w97 w.heap.size (fun k_ => some k_ ≠ (.slice Ao10 t9004.length co10 : Value).ownBlock ∧ some k_ ≠ (.slice Ao16 t9014.length co16 : Value).ownBlock ∧ some k_ ≠ (.slice Ao23 t9022.length co23 : Value).ownBlock ∧ some k_ ≠ (.slice Ao93 xz0.length co93 : Value).ownBlock) v9036 t9035) := ⟨h1_⟩
           have n2_ : Aside0 (Kd.N k43 43 w97 w.heap.size (fun k_ => some k_ ≠ (v9036 : Value).ownBlock ∧ some k_ ≠ (.slice Ao10 t9004.length co10 : Value).ownBlock ∧ some k_ ≠ (.slice Ao16 t9014.length co16 : Value).ownBlock ∧ some k_ ≠ (.slice Ao23 t9022.length co23 : Value).ownBlock ∧ some k_ ≠ (.slice Ao93 xz0.length co93 : Value).ownBlock ∧ k_ ≠ gb9010 ∧ k_ ≠ gb9018 ∧ k_ ≠ gb9026 ∧ k_ ≠ gb9029 ∧ k_ ≠ gb9039) (.slice (some ad9031) t9007.length co11) t9007) := ⟨h2_⟩
           have n3_ : Aside0 (Kd.Q (Kd.int .i64) 3 w97 w.heap.size (fun k_ => some k_ ≠ (v9036 : Value).ownBlock ∧ some k_ ≠ (.slice Ao16 t9014.length co16 : Value).ownBlock ∧ some k_ ≠ (.slice Ao23 t9022.length co23 : Value).ownBlock) (.slice Ao10 t9004.length co10) t9004) := ⟨h3_⟩
           have n4_ : Aside0 (Kd.Q (Kd.int .i64) 3 w97 w.heap.size (fun k_ => some k_ ≠ (v9036 : Value).ownBlock ∧ some k_ ≠ (.slice Ao10 t9004.length co10 : Value).ownBlock ∧ some k_ ≠ (.slice Ao23 t9022.length co23 : Value).ownBlock ∧ some k_ ≠ (.slice Ao93 xz0.length co93 : Value).ownBlock) (.slice Ao16 t9014.length co16) t9014) := ⟨h4_⟩
           have n5_ : Aside0 (Kd.Q (Kd.int .i64) 3 w97 w.heap.size (fun k_ => some k_ ≠ (v9036 : Value).ownBlock ∧ some k_ ≠ (.slice Ao10 t9004.length co10 : Value).ownBlock ∧ some k_ ≠ (.slice Ao16 t9014.length co16 : Value).ownBlock ∧ some k_ ≠ (.slice Ao93 xz0.length co93 : Value).ownBlock) (.slice Ao23 t9022.length co23) t9022) := ⟨h5_⟩
           have n6_ : Aside0 (Kd.Q (Kd.int .i64) 3 w97 w.heap.size (fun k_ => some k_ ≠ (v9036 : Value).ownBlock ∧ some k_ ≠ (.slice Ao16 t9014.length co16 : Value).ownBlock ∧ some k_ ≠ (.slice Ao23 t9022.length co23 : Value).ownBlock) (.slice Ao93 xz0.length co93) xz0) := ⟨h6_⟩
           have n7_ : Aside0 (w97.heap[gb9010]? = some (.cells #[.int .i64 t9001, .int .i64 t9002, .int .i64 t9003, .slice Ao10 t9004.length co10] 28 (0, 0))) := ⟨h7_⟩
           have n8_ : Aside0 (w97.heap[gb9018]? = some (.cells #[.int .i64 t9011, .int .i64 t9012, .int .i64 t9013, .slice Ao16 t9014.length co16] 28 (0, 0))) := ⟨h8_⟩
           have n9_ : Aside0 (w97.heap[gb9026]? = some (.cells #[.int .i64 t9019, .int .i64 t9020, .int .i64 t9021, .slice Ao23 t9022.length co23] 28 (0, 0))) := ⟨h9_⟩
           have n10_ : Aside0 (w97.heap[gb9029]? = some (.cells #[.int .i64 xz3, .int .i64 xz2, .int .i64 xz1, .slice Ao93 xz0.length co93] 28 (0, 0))) := ⟨h10_⟩
           have n11_ : Aside0 (w97.heap[gb9039]? = some (.cells #[.int .i64 0, .int .i64 0, .int .i64 0, .slice none 0 0] 28 (0, 0))) := ⟨h11_⟩
           have n12_ : Aside0 (w.heap.size ≤ gb9039) := ⟨h12_⟩
           have n13_ : Aside0 (w.heap.size ≤ gb9039) := ⟨h13_⟩
           have n14_ : Aside0 (gb9010 ≠ gb9039) := ⟨h14_⟩
           have n15_ : Aside0 (gb9039 ≠ gb9010) := ⟨h15_⟩
           have n16_ : Aside0 (gb9018 ≠ gb9039) := ⟨h16_⟩
           have n17_ : Aside0 (gb9039 ≠ gb9018) := ⟨h17_⟩
           have n18_ : Aside0 (gb9026 ≠ gb9039) := ⟨h18_⟩
           have n19_ : Aside0 (gb9039 ≠ gb9026) := ⟨h19_⟩
           have n20_ : Aside0 (gb9029 ≠ gb9039) := ⟨h20_⟩
           have n21_ : Aside0 (gb9039 ≠ gb9029) := ⟨h21_⟩
           have n22_ : Aside0 (Below w.heap.size w w97) := ⟨h22_⟩
           clear HO_4 HOz3 HOz1 HOz2 HOz0 BK9010 BK9018 BK9026 BK9029 HB h0_ h1_ h2_ h3_ h4_ h5_ h6_ h7_ h8_ h9_ h10_ h11_ h12_ h13_ h14_ h15_ h16_ h17_ h18_ h19_ h20_ h21_ h22_
           revert n0_ n1_ n2_ n3_ n4_ n5_ n6_ n7_ n8_ n9_ n10_ n11_ n12_ n13_ n14_ n15_ n16_ n17_ n18_ n19_ n20_ n21_ n22_; intro HL9031_5 HO9037 HO_4 HOz3 HOz1 HOz2 HOz0 BK9010 BK9018 BK9026 BK9029 BK9039 GW9039 GE9039 NB9010_9039 NB9039_9010 NB9018_9039 NB9039_9018 NB9026_9039 NB9039_9026 NB9029_9039 NB9039_9029 HB
           have hHeld : w97.cell? ⟨gb9029, 0, none⟩ = some (.int .i64 xz3) ∧ w97.cell? ⟨gb9029, 1, none⟩ = some (.int .i64 xz2) ∧ w97.cell? ⟨gb9029, 2, none⟩ = some (.int .i64 xz1) ∧ w97.cell? ⟨gb9029, 3, none⟩ = some (.slice Ao93 xz0.length co93) ∧ w97.cell? (ad9031.add ((x10_2).toNat * 6)) = some (.int .i64 ((rd_T43 t9007 x10_2).f0)) ∧ w97.cell? ⟨(ad9031.add ((x10_2).toNat * 6)).block, (ad9031.add ((x10_2).toNat * 6)).off + 1, none⟩ = some (.int .i64 ((rd_T43 t9007 x10_2).f1.f0)) ∧ w97.cell? ⟨(ad9031.add ((x10_2).toNat * 6)).block, (ad9031.add ((x10_2).toNat * 6)).off + 2, none⟩ = some (.int .i64 ((rd_T43 t9007 x10_2).f1.f1)) ∧ w97.cell? ⟨(ad9031.add ((x10_2).toNat * 6)).block, (ad9031.add ((x10_2).toNat * 6)).off + 3, none⟩ = some (.int .i64 ((rd_T43 t9007 x10_2).f1.f2)) ∧ w97.cell? ⟨(ad9031.add ((x10_2).toNat * 6)).block, (ad9031.add ((x10_2).toNat * 6)).off + 4, none⟩ = some (.int .i64 ((rd_T43 t9007 x10_2).f1.f3)) ∧ w97.cell? ⟨(ad9031.add ((x10_2).toNat * 6)).block, (ad9031.add ((x10_2).toNat * 6)).off + 5, none⟩ = some (.slice A9031_5 ((rd_T43 t9007 x10_2).f2).length c9031_5) := hS_
           obtain ⟨Ao101, co101, eo101⟩ := Kd.R_slice HO9037.out
           (subst eo101)
           refine norm_ (a' := ?_) ?_ ?_
           rotate_left
           ·simp only [putAll, Act.put, List.setIfInBounds_toArray, List.set_cons_zero, List.set_cons_succ]
            rfl
           refine one_ (i := 10) (N := none) #[true, true, true, true, true, true, true, true, true, true, true, false] rfl rfl (one_of HT_.out (by kernel_rfl)) (by decide) (fun K hK => ?_)
           obtain ⟨hs98, -, -, -, hfs98, -⟩ := c4 BK9039.out
           have hns98_0 := NB9010_9039.out
           have hns98_1 := NB9018_9039.out
           have hns98_2 := NB9026_9039.out
           have hns98_3 := NB9029_9039.out
           have hms98_0 := NB9039_9010.out
           have hms98_1 := NB9039_9018.out
           have hms98_2 := NB9039_9026.out
           have hms98_3 := NB9039_9029.out
           obtain ⟨-, hs99, -, -, -, hfs99, -⟩ := c4 BK9039.out
           have hns99_0 := NB9010_9039.out
           have hns99_1 := NB9018_9039.out
           have hns99_2 := NB9026_9039.out
           have hns99_3 := NB9029_9039.out
           have hms99_0 := NB9039_9010.out
           have hms99_1 := NB9039_9018.out
           have hms99_2 := NB9039_9026.out
           have hms99_3 := NB9039_9029.out
           obtain ⟨-, -, hs100, -, -, -, hfs100, -⟩ := c4 BK9039.out
           have hns100_0 := NB9010_9039.out
           have hns100_1 := NB9018_9039.out
           have hns100_2 := NB9026_9039.out
           have hns100_3 := NB9029_9039.out
           have hms100_0 := NB9039_9010.out
           have hms100_1 := NB9039_9018.out
           have hms100_2 := NB9039_9026.out
           have hms100_3 := NB9039_9029.out
           obtain ⟨-, -, -, hs102, -, -, -, hfs102⟩ := c4 BK9039.out
           have hns102_0 := NB9010_9039.out
           have hns102_1 := NB9018_9039.out
           have hns102_2 := NB9026_9039.out
           have hns102_3 := NB9029_9039.out
           have hms102_0 := NB9039_9010.out
           have hms102_1 := NB9039_9018.out
           have hms102_2 := NB9039_9026.out
           have hms102_3 := NB9039_9029.out
           refine skip_ (w1 := ?_) (by rfl) rfl ?_ ?_
           rotate_left
           ·go_simp
            rfl
           refine hK.out _ _ ⟨((cell_far (p := ⟨gb9039, _, none⟩) NB9029_9039.out _).trans (((cell_far (p := ⟨gb9039, _, none⟩) NB9029_9039.out _).trans (((cell_far (p := ⟨gb9039, _, none⟩) NB9029_9039.out _).trans (((cell_far (p := ⟨gb9039, _, none⟩) NB9029_9039.out _).trans hHeld.1))))))), ((cell_far (p := ⟨gb9039, _, none⟩) NB9029_9039.out _).trans (((cell_far (p := ⟨gb9039, _, none⟩) NB9029_9039.out _).trans (((cell_far (p := ⟨gb9039, _, none⟩) NB9029_9039.out _).trans (((cell_far (p := ⟨gb9039, _, none⟩) NB9029_9039.out _).trans hHeld.2.1))))))), ((cell_far (p := ⟨gb9039, _, none⟩) NB9029_9039.out _).trans (((cell_far (p := ⟨gb9039, _, none⟩) NB9029_9039.out _).trans (((cell_far (p := ⟨gb9039, _, none⟩) NB9029_9039.out _).trans (((cell_far (p := ⟨gb9039, _, none⟩) NB9029_9039.out _).trans hHeld.2.2.1))))))), ((cell_far (p := ⟨gb9039, _, none⟩) NB9029_9039.out _).trans (((cell_far (p := ⟨gb9039, _, none⟩) NB9029_9039.out _).trans (((cell_far (p := ⟨gb9039, _, none⟩) NB9029_9039.out _).trans (((cell_far (p := ⟨gb9039, _, none⟩) NB9029_9039.out _).trans hHeld.2.2.2.1))))))), ((cell_far (p := ⟨gb9039, _, none⟩) (by (rw [add_block]; exact Kd.own_blk (Kd.N_away HO_4.out (fun _ hk => hk.2.2.2.2.2.2.2.2.2)))) _).trans (((cell_far (p := ⟨gb9039, _, none⟩) (by (rw [add_block]; exact Kd.own_blk (Kd.N_away HO_4.out (fun _ hk => hk.2.2.2.2.2.2.2.2.2)))) _).trans (((cell_far (p := ⟨gb9039, _, none⟩) (by (rw [add_block]; exact Kd.own_blk (Kd.N_away HO_4.out (fun _ hk => hk.2.2.2.2.2.2.2.2.2)))) _).trans (((cell_far (p := ⟨gb9039, _, none⟩) (by (rw [add_block]; exact Kd.own_blk (Kd.N_away HO_4.out (fun _ hk => hk.2.2.2.2.2.2.2.2.2)))) _).trans hHeld.2.2.2.2.1))))))), ((cell_far (p := ⟨gb9039, _, none⟩) (by (rw [add_block]; exact Kd.own_blk (Kd.N_away HO_4.out (fun _ hk => hk.2.2.2.2.2.2.2.2.2)))) _).trans (((cell_far (p := ⟨gb9039, _, none⟩) (by (rw [add_block]; exact Kd.own_blk (Kd.N_away HO_4.out (fun _ hk => hk.2.2.2.2.2.2.2.2.2)))) _).trans (((cell_far (p := ⟨gb9039, _, none⟩) (by (rw [add_block]; exact Kd.own_blk (Kd.N_away HO_4.out (fun _ hk => hk.2.2.2.2.2.2.2.2.2)))) _).trans (((cell_far (p := ⟨gb9039, _, none⟩) (by (rw [add_block]; exact Kd.own_blk (Kd.N_away HO_4.out (fun _ hk => hk.2.2.2.2.2.2.2.2.2)))) _).trans hHeld.2.2.2.2.2.1))))))), ((cell_far (p := ⟨gb9039, _, none⟩) (by (rw [add_block]; exact Kd.own_blk (Kd.N_away HO_4.out (fun _ hk => hk.2.2.2.2.2.2.2.2.2)))) _).trans (((cell_far (p := ⟨gb9039, _, none⟩) (by (rw [add_block]; exact Kd.own_blk (Kd.N_away HO_4.out (fun _ hk => hk.2.2.2.2.2.2.2.2.2)))) _).trans (((cell_far (p := ⟨gb9039, _, none⟩) (by (rw [add_block]; exact Kd.own_blk (Kd.N_away HO_4.out (fun _ hk => hk.2.2.2.2.2.2.2.2.2)))) _).trans (((cell_far (p := ⟨gb9039, _, none⟩) (by (rw [add_block]; exact Kd.own_blk (Kd.N_away HO_4.out (fun _ hk => hk.2.2.2.2.2.2.2.2.2)))) _).trans hHeld.2.2.2.2.2.2.1))))))), ((cell_far (p := ⟨gb9039, _, none⟩) (by (rw [add_block]; exact Kd.own_blk (Kd.N_away HO_4.out (fun _ hk => hk.2.2.2.2.2.2.2.2.2)))) _).trans (((cell_far (p := ⟨gb9039, _, none⟩) (by (rw [add_block]; exact Kd.own_blk (Kd.N_away HO_4.out (fun _ hk => hk.2.2.2.2.2.2.2.2.2)))) _).trans (((cell_far (p := ⟨gb9039, _, none⟩) (by (rw [add_block]; exact Kd.own_blk (Kd.N_away HO_4.out (fun _ hk => hk.2.2.2.2.2.2.2.2.2)))) _).trans (((cell_far (p := ⟨gb9039, _, none⟩) (by (rw [add_block]; exact Kd.own_blk (Kd.N_away HO_4.out (fun _ hk => hk.2.2.2.2.2.2.2.2.2)))) _).trans hHeld.2.2.2.2.2.2.2.1))))))), ((cell_far (p := ⟨gb9039, _, none⟩) (by (rw [add_block]; exact Kd.own_blk (Kd.N_away HO_4.out (fun _ hk => hk.2.2.2.2.2.2.2.2.2)))) _).trans (((cell_far (p := ⟨gb9039, _, none⟩) (by (rw [add_block]; exact Kd.own_blk (Kd.N_away HO_4.out (fun _ hk => hk.2.2.2.2.2.2.2.2.2)))) _).trans (((cell_far (p := ⟨gb9039, _, none⟩) (by (rw [add_block]; exact Kd.own_blk (Kd.N_away HO_4.out (fun _ hk => hk.2.2.2.2.2.2.2.2.2)))) _).trans (((cell_far (p := ⟨gb9039, _, none⟩) (by (rw [add_block]; exact Kd.own_blk (Kd.N_away HO_4.out (fun _ hk => hk.2.2.2.2.2.2.2.2.2)))) _).trans hHeld.2.2.2.2.2.2.2.2.1))))))), ((cell_far (p := ⟨gb9039, _, none⟩) (by (rw [add_block]; exact Kd.own_blk (Kd.N_away HO_4.out (fun _ hk => hk.2.2.2.2.2.2.2.2.2)))) _).trans (((cell_far (p := ⟨gb9039, _, none⟩) (by (rw [add_block]; exact Kd.own_blk (Kd.N_away HO_4.out (fun _ hk => hk.2.2.2.2.2.2.2.2.2)))) _).trans (((cell_far (p := ⟨gb9039, _, none⟩) (by (rw [add_block]; exact Kd.own_blk (Kd.N_away HO_4.out (fun _ hk => hk.2.2.2.2.2.2.2.2.2)))) _).trans (((cell_far (p := ⟨gb9039, _, none⟩) (by (rw [add_block]; exact Kd.own_blk (Kd.N_away HO_4.out (fun _ hk => hk.2.2.2.2.2.2.2.2.2)))) _).trans hHeld.2.2.2.2.2.2.2.2.2)))))))⟩ (fun hHeld => ?_)
           clear hK K
           refine pure_ (i := 11) (N := some 12) (v := ?_) (a' := ?_) #[true, true, true, true, true, true, true, true, true, true, true, true] rfl rfl (any_of HT_.out (by kernel_rfl)) (fun _ _ _ h => h) (Or.inl ⟨by rfl, ?_⟩) ?_ ?_
           rotate_left
           ·intro w'
            go_simp
            with_reducible rfl
           rotate_left
           ·simp only [Act.put, List.setIfInBounds_toArray, List.set_cons_zero, List.set_cons_succ, i64_w, i32_w]
            rfl
           refine done_ (done_of HT_.out (by kernel_rfl)) ?_
           have hnc110 := NB9039_9018.out
           obtain ⟨hcz111_0, hcz111_1, hcz111_2, hcz111_3, -⟩ := c4 BK9018.out
           try go_wp2_with (first | (go_at_call 24; (with_reducible refine (laws_equalImage.calls k2 xz3 xz2 xz1 _ _ xz0 t9011 t9012 t9013 _ _ t9014 t9040 _ ?side1 ?side2 ?side3 ?side4 A92.out).mono ?_); (case side1 => refine (Kd.Q_reads' (e := 3) (base := w.heap.size) (ok := fun k_ => (some k_ ≠ (.slice Ao101 t9035.length co101 : Value).ownBlock ∧ (some k_ ≠ (.slice Ao16 t9014.length co16 : Value).ownBlock ∧ some k_ ≠ (.slice Ao23 t9022.length co23 : Value).ownBlock))) (n := xz0.length) (c := co93) ?_).2.2; exact (by exact (Kd.Q_mono (Kd.Q_far (p := ⟨gb9039, 3, none⟩) (Kd.Q_far (p := ⟨gb9039, 2, none⟩) (Kd.Q_far (p := ⟨gb9039, 1, none⟩) (Kd.Q_far (p := ⟨gb9039, 0, none⟩) (Kd.Q_types HOz0.out BK9039.out (by decide)) (fun _ hk => hk.2) (.int .i64 t9032)) (fun _ hk => hk.2) (.int .i64 t9033)) (fun _ hk => hk.2) (.int .i64 t9034)) (fun _ hk => hk.2) (.slice Ao101 t9035.length co101)) (fun _ h_ => h_.1)))); (case side2 => exact (Kd.Q_reads' HOz0.out).2.1); (case side3 => refine (Kd.Q_reads' (e := 3) (base := w.heap.size) (ok := fun k_ => (some k_ ≠ (.slice Ao101 t9035.length co101 : Value).ownBlock ∧ (some k_ ≠ (.slice Ao10 t9004.length co10 : Value).ownBlock ∧ (some k_ ≠ (.slice Ao23 t9022.length co23 : Value).ownBlock ∧ some k_ ≠ (.slice Ao93 xz0.length co93 : Value).ownBlock)))) (n := t9014.length) (c := co16) ?_).2.2; exact (by exact (Kd.Q_mono (Kd.Q_far (p := ⟨gb9039, 3, none⟩) (Kd.Q_far (p := ⟨gb9039, 2, none⟩) (Kd.Q_far (p := ⟨gb9039, 1, none⟩) (Kd.Q_far (p := ⟨gb9039, 0, none⟩) (Kd.Q_types HOz1.out BK9039.out (by decide)) (fun _ hk => hk.2) (.int .i64 t9032)) (fun _ hk => hk.2) (.int .i64 t9033)) (fun _ hk => hk.2) (.int .i64 t9034)) (fun _ hk => hk.2) (.slice Ao101 t9035.length co101)) (fun _ h_ => h_.1)))); (case side4 => exact (Kd.Q_reads' HOz1.out).2.1); rintro e w112 ⟨rfl, hb⟩; have n5_ := mk (Kd.V_below (by exact (Kd.V_mono (Kd.V_far (p := ⟨gb9039, 3, none⟩) (Kd.V_far (p := ⟨gb9039, 2, none⟩) (Kd.V_far (p := ⟨gb9039, 1, none⟩) (Kd.V_far (p := ⟨gb9039, 0, none⟩) (Kd.V_mono HL9031_5.out (fun k_ hk => (⟨hk, hk.2.2.2.2.2.2.2.2.2.2⟩ : _ ∧ k_ ≠ gb9039))) (fun _ hk => hk.2) (.int .i64 t9032)) (fun _ hk => hk.2) (.int .i64 t9033)) (fun _ hk => hk.2) (.int .i64 t9034)) (fun _ hk => hk.2) (.slice Ao101 t9035.length co101)) (fun _ h_ => h_.1))) hb); have n12_ := mk (below_step (by repeat (with_reducible first | exact HB.out | refine below_set ?_ GE9039.out)) hb); clear HO_4; clear HOz3; clear HOz1; clear HOz2; clear HOz0; clear HL9031_5; clear HO9037; clear BK9010; clear BK9018; clear BK9026; clear BK9029; clear BK9039; clear HB; have HL9031_5 := n5_; have HB := n12_; (try clear hb)))
           go_ret
           exact ⟨by rfl, by exact HB.out⟩
          ·rw [if_neg c91] at H
           have c91b0 : (t9017 == x10_2) = false := beq_eq_false_iff_ne.mpr c91
           have c91b1 : (t9017 != x10_2) = true := bne_iff_ne.mpr c91
           exact absurd ((Option.some.inj H).trans HRT.out) (by decide)
        ·rw [if_neg c69] at H
         exact absurd H (by simp)
       ·rw [if_neg c68] at H
        have c68b0 : decide (x10_2 < (t9007.length : Int)) = false := decide_eq_false c68
        clear c68
        by_cases c123 : t9017 = (t9007.length : Int)
        ·rw [if_pos c123] at H
         have c123b0 : (t9017 == (t9007.length : Int)) = true := beq_iff_eq.mpr c123
         have c123b1 : (t9017 != (t9007.length : Int)) = false := bne_eq_false_iff_eq.mpr c123
         clear c123
         replace H := Option.bind_eq_some_iff.mp H
         obtain ⟨t9030, A1240, H⟩ := H
         replace H : (some t9030) = some r := H
         have A124 := mk A1240
         clear A1240
         obtain rfl := Option.some.inj H
         obtain ⟨hcz128_0, hcz128_1, hcz128_2, -⟩ := c4 BK9029.out
         have hcz128_3 : wr.cell? ⟨gb9029, 3, none⟩ = some u9030003 := (blk_cell BK9029.out 3).trans rfl
         obtain ⟨hcz131_0, hcz131_1, hcz131_2, hcz131_3, -⟩ := c4 BK9018.out
         obtain ⟨Ao132, co132, eo132, _⟩ := Kd.Q_slice HOz0.out
         subst eo132
         go_wp2_with (first | (go_at_call 24; (with_reducible refine (laws_equalImage.calls k2 xz3 xz2 xz1 _ _ xz0 t9011 t9012 t9013 _ _ t9014 t9030 _ ?side1 ?side2 ?side3 ?side4 A124.out).mono ?_); (case side1 => repeat (exact (Kd.Q_reads' HOz0.out).2.2)); (case side2 => exact (Kd.Q_reads' HOz0.out).2.1); (case side3 => repeat (exact (Kd.Q_reads' HOz1.out).2.2)); (case side4 => exact (Kd.Q_reads' HOz1.out).2.1); rintro e w133 ⟨rfl, hb⟩; have n9_ := mk (below_step HB.out hb); clear HO_4; clear HOz3; clear HOz1; clear HOz2; clear HOz0; clear BK9010; clear BK9018; clear BK9026; clear BK9029; clear HB; have HB := n9_; (try clear hb)))
         go_ret
         exact ⟨by rfl, by exact HB.out⟩
        ·rw [if_neg c123] at H
         have c123b0 : (t9017 == (t9007.length : Int)) = false := beq_eq_false_iff_ne.mpr c123
         have c123b1 : (t9017 != (t9007.length : Int)) = true := bne_iff_ne.mpr c123
         obtain rfl := Option.some.inj H
         go_wp2
         go_ret
         exact ⟨by rfl, by exact HB.out⟩

def laws_FnRunSteps.Pure : Prop := ∀ (l0 : List Int), l0.length ≤ maxLen → l0.length * 1 ≤ 140737488351232 → (∀ x ∈ l0, (Lit.int .u8 x).wf = true) → ∃ k, laws_FnRunSteps.f k l0 = some true
theorem laws_FnRunSteps.walk (P : laws_FnRunSteps.Pure) (a0 : Option Addr) (len0 cap0 : Nat) (z0 : List Int) (w : World) (w0 : (a0 = none ∧ len0 = 0 ∧ cap0 = 0 ∧ z0 = []) ∨ ∃ x, a0 = some x ∧ len0 ≤ cap0 ∧ cap0 ≤ maxLen ∧ z0.length = cap0 ∧ (∀ i, i < z0.length → w.cell? (x.add i) = some (.int .u8 (z0.getD i 0))) ∧ ∀ n ∈ z0, (Lit.int .u8 n).wf = true) (y0 : len0 * 1 ≤ 140737488351232) :
  Calls Try.prog 8 #[.slice a0 len0 cap0] w fun e w' => e = .returned (.bool true) ∧ Below w.heap.size w w' := by
 obtain ⟨l0, rfl, hr0, hm0, hw0, hc0⟩ := ReadsInt.ofRowC w0
 obtain ⟨k, h⟩ := P l0 hm0 y0 hw0
 refine (laws_FnRunSteps.calls k _ _ l0 true w (Kd.C_of_reads (d := (0 : Int)) (h1 := fun _ => rfl) hr0) hc0 h rfl).mono ?_
 rintro e w' ⟨rfl, hd⟩
 exact ⟨rfl, hd⟩

end Go.Proofs.Ytgccpcnakkioiaa.Q

/- Images as pixels: lists of numbers cut into equal parts. -/
namespace Go.Proofs.Ytgccpcnakkioiaa.Pure
open Go.RowKit Go.Proofs.Ytgccpcnakkioiaa.Q Go.Proofs.YtgccpcnakkioiaaW.PrintWords Go.Proofs.YtgccpcnakkioiaaW.PrintLast Go.Proofs.YtgccpcnakkioiaaW.PrintMore
set_option linter.unusedVariables false
set_option linter.unusedSimpArgs false

def nx (n : Nat) (d : List Int) (i : Nat) : List Int := (d.drop (i * n)).take n
theorem nx_length {n m : Nat} {d : List Int} (hd : d.length = m * n) {i : Nat} (hi : i < m) : (nx n d i).length = n := by
 unfold nx
 have h : (i + 1) * n ≤ m * n := Nat.mul_le_mul_right n hi
 rw [Nat.add_mul, Nat.one_mul] at h
 rw [List.length_take, List.length_drop, hd]
 omega
theorem fm_length (f : Nat → List Int) (n : Nat) : ∀ m, (∀ i, i < m → (f i).length = n) → ((List.range m).flatMap f).length = m * n := by
 intro m
 induction m with
 | zero => intro _; simp
 | succ m ih =>
  intro h
  rw [List.range_succ, List.flatMap_append, List.length_append, ih (fun i hi => h i (by omega))]
  simp [h m (by omega), Nat.add_mul]
theorem fm_get (f : Nat → List Int) (n : Nat) : ∀ m, (∀ i, i < m → (f i).length = n) → ∀ i, i < m → nx n ((List.range m).flatMap f) i = f i := by
 intro m
 induction m with
 | zero => intro _ i hi; omega
 | succ m ih =>
  intro h i hi
  have hl := fm_length f n m (fun i hi => h i (by omega))
  rw [List.range_succ, List.flatMap_append]
  unfold nx
  by_cases c : i < m
  ·have h1 : (i + 1) * n ≤ m * n := Nat.mul_le_mul_right n c
   rw [Nat.add_mul, Nat.one_mul] at h1
   rw [List.drop_append_of_le_length (by omega), List.take_append_of_le_length (by rw [List.length_drop]; omega)]
   exact ih (fun i hi => h i (by omega)) i c
  ·have : i = m := by omega
   subst this
   rw [← hl, List.drop_left]
   simp only [List.flatMap_cons, List.flatMap_nil, List.append_nil]
   exact List.take_of_length_le (by rw [h i (by omega)]; exact Nat.le_refl _)
theorem fm_cut (n : Nat) : ∀ (m : Nat) (d : List Int), d.length = m * n → (List.range m).flatMap (nx n d) = d := by
 intro m
 induction m with
 | zero => intro d hd; simp at hd; simp [hd]
 | succ m ih =>
  intro d hd
  rw [Nat.add_mul, Nat.one_mul] at hd
  have h1 : (List.range m).flatMap (nx n d) = (List.range m).flatMap (nx n (d.take (m * n))) := by
   rw [List.flatMap_def, List.flatMap_def]
   congr 1
   refine List.map_congr_left (fun i hi => ?_)
   have hi' := List.mem_range.1 hi
   have h1 : (i + 1) * n ≤ m * n := Nat.mul_le_mul_right n hi'
   rw [Nat.add_mul, Nat.one_mul] at h1
   unfold nx
   rw [List.drop_take, List.take_take, Nat.min_eq_left (by omega)]
  rw [List.range_succ, List.flatMap_append, h1, ih _ (by rw [List.length_take]; omega)]
  simp only [List.flatMap_cons, List.flatMap_nil, List.append_nil]
  unfold nx
  rw [List.take_of_length_le (l := d.drop (m * n)) (by rw [List.length_drop]; omega), List.take_append_drop]
theorem ext_nx {n m : Nat} {d e : List Int} (hd : d.length = m * n) (he : e.length = m * n) (h : ∀ i, i < m → nx n d i = nx n e i) : d = e := by
 rw [← fm_cut n m d hd, ← fm_cut n m e he, List.flatMap_def, List.flatMap_def]
 congr 1
 exact List.map_congr_left (fun i hi => h i (List.mem_range.1 hi))
theorem imgD_congr {f g : Nat → Nat → List Int} {a b : Nat} (h : ∀ x y, x < a → y < b → f x y = g x y) : imgD f a b = imgD g a b := by
 unfold imgD rowD
 rw [List.flatMap_def, List.flatMap_def]
 congr 1
 refine List.map_congr_left (fun y hy => ?_)
 rw [List.flatMap_def, List.flatMap_def]
 congr 1
 exact List.map_congr_left (fun x hx => h x y (List.mem_range.1 hx) (List.mem_range.1 hy))
theorem rowD_length {px : Nat → Nat → List Int} {a n y : Nat} (h : ∀ x, x < a → (px x y).length = n) : (rowD px a y).length = a * n := fm_length _ n a h
theorem imgD_length {px : Nat → Nat → List Int} {a b n : Nat} (h : ∀ x y, x < a → y < b → (px x y).length = n) : (imgD px a b).length = (b * a) * n := by
 rw [Nat.mul_assoc]
 exact fm_length _ (a * n) b (fun y hy => rowD_length (fun x hx => h x y hx hy))
theorem nx_imgD {px : Nat → Nat → List Int} {a b n : Nat} (h : ∀ x y, x < a → y < b → (px x y).length = n) {x y : Nat} (hx : x < a) (hy : y < b) : nx n (imgD px a b) (y * a + x) = px x y := by
 have h1 := fm_get (rowD px a) (a * n) b (fun y hy => rowD_length (fun x hx => h x y hx hy)) y hy
 have h2 := fm_get (fun x => px x y) n a (fun x hx => h x y hx hy) x hx
 have h3 : (x + 1) * n ≤ a * n := Nat.mul_le_mul_right n hx
 rw [Nat.add_mul, Nat.one_mul] at h3
 show nx n ((List.range b).flatMap (rowD px a)) (y * a + x) = px x y
 rw [← h2]
 show _ = nx n (rowD px a y) x
 rw [← h1]
 unfold nx
 rw [List.drop_take, List.take_take, Nat.min_eq_left (by omega), List.drop_drop, Nat.add_mul, Nat.mul_assoc]
theorem lin_lt {a b x y : Nat} (hx : x < a) (hy : y < b) : y * a + x < b * a := by
 have : (y + 1) * a ≤ b * a := Nat.mul_le_mul_right a hy
 rw [Nat.add_mul, Nat.one_mul] at this
 omega
theorem lin_ne {a x y x' y' : Nat} (hx : x < a) (hx' : x' < a) (h : y * a + x = y' * a + x') : x = x' ∧ y = y' := by
 have ha : 0 < a := by omega
 have e1 := congrArg (· % a) h
 have e2 := congrArg (· / a) h
 simp only [Nat.mul_comm _ a, Nat.mul_add_mod, Nat.mul_add_div ha, Nat.mod_eq_of_lt hx, Nat.mod_eq_of_lt hx', Nat.div_eq_of_lt hx, Nat.div_eq_of_lt hx', Nat.add_zero] at e1 e2
 exact ⟨e1, e2⟩
theorem lin_of {a b i : Nat} (h : i < b * a) : i % a < a ∧ i / a < b ∧ (i / a) * a + i % a = i := by
 have ha : 0 < a := by
  rcases Nat.eq_zero_or_pos a with rfl | h'
  ·simp at h
  ·exact h'
 refine ⟨Nat.mod_lt _ ha, (Nat.div_lt_iff_lt_mul ha).2 h, ?_⟩
 rw [Nat.mul_comm]; exact Nat.div_add_mod i a
theorem ext_img {n a b : Nat} {d e : List Int} (hd : d.length = (b * a) * n) (he : e.length = (b * a) * n) (h : ∀ x y, x < a → y < b → nx n d (y * a + x) = nx n e (y * a + x)) : d = e := by
 refine ext_nx hd he (fun i hi => ?_)
 obtain ⟨h1, h2, h3⟩ := lin_of hi
 rw [← h3]
 exact h _ _ h1 h2
theorem nx_laid {n m : Nat} {d ys : List Int} (hd : d.length = m * n) (hy : ys.length = n) {j : Nat} (hj : j < m) {i : Nat} (hi : i < m) : nx n (laidOver d (j * n) ys) i = if i = j then ys else nx n d i := by
 have hj1 : (j + 1) * n ≤ m * n := Nat.mul_le_mul_right n hj
 have hi1 : (i + 1) * n ≤ m * n := Nat.mul_le_mul_right n hi
 rw [Nat.add_mul, Nat.one_mul] at hj1 hi1
 unfold nx laidOver
 have hlt : (d.take (j * n)).length = j * n := by rw [List.length_take]; omega
 by_cases c : i = j
 ·subst c
  rw [if_pos rfl]
  have e1 : (d.take (i * n) ++ (ys ++ d.drop (i * n + ys.length))).drop (i * n) = ys ++ d.drop (i * n + ys.length) := by
   rw [List.drop_append, List.drop_eq_nil_of_le (by omega), hlt, Nat.sub_self, List.drop_zero, List.nil_append]
  rw [e1, ← hy, List.take_left]
 ·rw [if_neg c]
  by_cases c2 : i < j
  ·have h1 : (i + 1) * n ≤ j * n := Nat.mul_le_mul_right n c2
   rw [Nat.add_mul, Nat.one_mul] at h1
   rw [List.drop_append_of_le_length (by omega), List.take_append_of_le_length (by rw [List.length_drop]; omega), List.drop_take, List.take_take, Nat.min_eq_left (by omega)]
  ·have h1 : (j + 1) * n ≤ i * n := Nat.mul_le_mul_right n (by omega)
   rw [Nat.add_mul, Nat.one_mul] at h1
   rw [← List.append_assoc, List.drop_append, List.drop_eq_nil_of_le (by rw [List.length_append, hlt, hy]; omega), List.nil_append, List.drop_drop, List.length_append, hlt, hy]
   congr 2
   omega
theorem nat_of {a b p : Int} {d : List Int} (hv : validI a b p d = true) : ∃ an bn pn : Nat, a = an ∧ b = bn ∧ p = pn ∧ 1 ≤ an ∧ an ≤ 16 ∧ 1 ≤ bn ∧ bn ≤ 16 ∧ 1 ≤ pn ∧ pn ≤ 4 ∧ d.length = (bn * an) * pn := by
 obtain ⟨hs, hl, _⟩ := (validI_iff a b p d).1 hv
 obtain ⟨an, rfl⟩ := Int.eq_ofNat_of_zero_le (show 0 ≤ a by omega)
 obtain ⟨bn, rfl⟩ := Int.eq_ofNat_of_zero_le (show 0 ≤ b by omega)
 obtain ⟨pn, rfl⟩ := Int.eq_ofNat_of_zero_le (show 0 ≤ p by omega)
 refine ⟨an, bn, pn, rfl, rfl, rfl, by omega, by omega, by omega, by omega, by omega, by omega, ?_⟩
 have : (d.length : Int) = ((an * bn * pn : Nat) : Int) := by rw [hl]; push_cast; rfl
 rw [Nat.mul_comm bn an]
 exact Int.ofNat.inj this
theorem small {an bn pn : Nat} (h1 : an ≤ 16) (h2 : bn ≤ 16) (h3 : pn ≤ 4) : (bn * an) * pn ≤ 1024 := by
 have := Nat.mul_le_mul (Nat.mul_le_mul h2 h1) h3
 omega
theorem pixJ_nat {an bn pn x y : Nat} (h1 : an ≤ 16) (h2 : bn ≤ 16) (h3 : pn ≤ 4) (hx : x < an) (hy : y < bn) : pixJ an pn x y = (((y * an + x) * pn : Nat) : Int) ∧ (y * an + x) * pn + pn ≤ (bn * an) * pn := by
 have hl := lin_lt hx hy
 have hm : (y * an + x + 1) * pn ≤ (bn * an) * pn := Nat.mul_le_mul_right pn hl
 rw [Nat.add_mul, Nat.one_mul] at hm
 have hs := small h1 h2 h3
 have hya : y * an ≤ 16 * 16 := Nat.mul_le_mul (by omega) (by omega)
 refine ⟨?_, hm⟩
 unfold pixJ
 have e1 : ((y : Int) * (an : Int)) = ((y * an : Nat) : Int) := by push_cast; rfl
 rw [e1, w64 (x := ((y * an : Nat) : Int)) (by omega) (by omega)]
 have e2 : ((y * an : Nat) : Int) + (x : Int) = ((y * an + x : Nat) : Int) := by push_cast; rfl
 rw [e2, w64 (x := ((y * an + x : Nat) : Int)) (by omega) (by omega)]
 have e3 : ((y * an + x : Nat) : Int) * (pn : Int) = (((y * an + x) * pn : Nat) : Int) := by push_cast; rfl
 rw [e3, w64 (by omega) (by omega)]
theorem pxAt_nat {an bn pn x y : Nat} (h1 : an ≤ 16) (h2 : bn ≤ 16) (h3 : pn ≤ 4) (hx : x < an) (hy : y < bn) (d : List Int) : pxAt an pn d x y = nx pn d (y * an + x) := by
 obtain ⟨hj, hm⟩ := pixJ_nat h1 h2 h3 hx hy
 have hs := small h1 h2 h3
 unfold pxAt pixT nx
 rw [hj, w64 (by omega) (by omega)]
 have : ((((y * an + x) * pn : Nat) : Int) + (pn : Int)).toNat = (y * an + x) * pn + pn := by omega
 rw [this, Int.toNat_natCast, List.drop_take]
 congr 1
 omega

/- What the reference does with pixels: reads, writes, parts and pastes. -/

theorem ev_run {σ ρ : Type} (n : Nat) (L : Nat → Nat → σ → Option ρ) (E : σ → Nat → Option ρ) (Inv : Nat → σ → Prop)
  (step : ∀ i s, i < n → Inv i s → ∃ s', Inv (i + 1) s' ∧ ∀ r, Ev (fun k => L k (i + 1) s') r → Ev (fun k => L k i s) r)
  (last : ∀ s, Inv n s → ∀ r, Ev (E s) r → Ev (fun k => L k n s) r) :
  ∀ d i s, i + d = n → Inv i s → ∃ s', Inv n s' ∧ ∀ r, Ev (E s') r → Ev (fun k => L k i s) r := by
 intro d
 induction d with
 | zero =>
  intro i s hi hinv
  have : i = n := by omega
  subst this
  exact ⟨s, hinv, last s hinv⟩
 | succ d ih =>
  intro i s hi hinv
  obtain ⟨s1, h1, h2⟩ := step i s (by omega) hinv
  obtain ⟨s2, h3, h4⟩ := ih (i + 1) s1 (by omega) h1
  exact ⟨s2, h3, fun r hr => h2 r (h4 r hr)⟩
theorem copyInts_px (l : List Int) (hl : l.length ≤ 1000000) : spec_copyInts.f l = some l := by
 unfold spec_copyInts.f
 simp only [Option.bind_some]
 rw [if_pos (by simp; omega)]
 simp
theorem laid_set (d ys : List Int) (j i : Nat) (hi : i < ys.length) (hj : j + ys.length ≤ d.length) : (laidOver d j (ys.take i)).set (j + i) ys[i] = laidOver d j (ys.take (i + 1)) := by
 have h1 : (ys.take i).length = i := by rw [List.length_take]; omega
 have h2 : (ys.take (i + 1)).length = i + 1 := by rw [List.length_take]; omega
 have h3 : (d.take j).length = j := by rw [List.length_take]; omega
 unfold laidOver
 rw [h1, h2, List.set_append_right _ _ (by omega), h3, Nat.add_sub_cancel_left, List.set_append_right _ _ (by omega), h1, Nat.sub_self, List.drop_eq_getElem_cons (show j + i < d.length by omega), List.set_cons_zero, List.take_succ_eq_append_getElem hi, List.append_assoc]
 rfl
theorem setPixel_ev {an bn pn x y : Nat} (h1 : an ≤ 16) (h2 : bn ≤ 16) (h3 : pn ≤ 4) (hx : x < an) (hy : y < bn) (d ys : List Int) (hd : d.length = (bn * an) * pn) (hys : ys.length = pn) :
  Ev (fun k => spec_setPixel.f k an bn pn d x y ys) (laidOver d ((y * an + x) * pn) ys) := by
 obtain ⟨hj, hm⟩ := pixJ_nat h1 h2 h3 hx hy
 have hs := small h1 h2 h3
 have hJ : wrap64 ((wrap64 ((wrap64 ((y : Int) * (an : Int))) + (x : Int))) * (pn : Int)) = (((y * an + x) * pn : Nat) : Int) := hj
 generalize hjj : (y * an + x) * pn = j at *
 have HJ := Aside0.mk hJ
 clear hJ hj hjj
 have key := ev_up pn (fun k i s => spec_setPixel.l0 k (x : Int) (y : Int) ys (i : Int) an bn pn s) (fun i s => s = laidOver d j (ys.take i)) (fun _ _ => laidOver d j ys)
  (by
   intro i s hi hinv
   subst hinv
   right
   refine ⟨_, fun k => ?_, laid_set d ys j i (by omega) (by omega), rfl⟩
   simp only [spec_setPixel.l0]
   have e : (((j : Nat) : Int) + (i : Int)) = ((j + i : Nat) : Int) := by push_cast; rfl
   have hl : (laidOver d j (ys.take i)).length = d.length := laidOver_length d j _ (by rw [List.length_take]; omega)
   rw [HJ.out, e, w64 (x := ((j + i : Nat) : Int)) (by omega) (by omega), hl, if_pos (by omega), if_pos (by omega), if_pos (by omega), if_pos (by omega), if_pos (by omega), rd_nat ys i (by omega), w64n i (by omega), Int.toNat_natCast])
  (by
   intro s hinv
   subst hinv
   refine Ev.step (f := fun _ => some (laidOver d j ys)) (fun k => ?_) (Ev.now _)
   simp only [spec_setPixel.l0]
   rw [if_neg (by omega), List.take_of_length_le (by omega)])
  pn 0 d (by omega) (by unfold laidOver; simp)
 unfold spec_setPixel.f
 exact key
theorem pixelAt_eq {an bn pn x y : Nat} (h1 : an ≤ 16) (h2 : bn ≤ 16) (h3 : pn ≤ 4) (hx : x < an) (hy : y < bn) (d : List Int) (hd : d.length = (bn * an) * pn) : spec_pixelAt.f an bn pn d x y = some (nx pn d (y * an + x)) := by
 obtain ⟨hj, hm⟩ := pixJ_nat h1 h2 h3 hx hy
 have hs := small h1 h2 h3
 have hJ : wrap64 ((wrap64 ((wrap64 ((y : Int) * (an : Int))) + (x : Int))) * (pn : Int)) = (((y * an + x) * pn : Nat) : Int) := hj
 have e : ((((y * an + x) * pn : Nat) : Int) + (pn : Int)) = (((y * an + x) * pn + pn : Nat) : Int) := by push_cast; rfl
 have HJ := Aside0.mk hJ
 clear hJ hj
 unfold spec_pixelAt.f nx
 generalize (y * an + x) * pn = j at *
 rw [HJ.out, e, w64 (x := ((j + pn : Nat) : Int)) (by omega) (by omega), if_pos (by omega), if_pos (by omega), if_pos (by omega), Int.toNat_natCast, Int.toNat_natCast, copyInts_px _ (by rw [List.length_drop, List.length_take]; omega)]
 simp only [Option.bind_some]
 congr 1
 rw [List.drop_take]
 congr 1
 omega
theorem newImg_eq {wn hn pn : Nat} (h1 : wn ≤ 16) (h2 : hn ≤ 16) (h3 : pn ≤ 4) : spec_newImage.f wn hn pn = some ((wn : Int), (hn : Int), (pn : Int), List.replicate ((hn * wn) * pn) 0) := by
 have hs := small h1 h2 h3
 have hw : hn * wn ≤ 16 * 16 := Nat.mul_le_mul h2 h1
 have e1 : (wn : Int) * (hn : Int) = ((hn * wn : Nat) : Int) := by rw [Nat.mul_comm]; push_cast; rfl
 have e2 : ((hn * wn : Nat) : Int) * (pn : Int) = (((hn * wn) * pn : Nat) : Int) := by push_cast; rfl
 unfold spec_newImage.f
 rw [e1, w64 (x := ((hn * wn : Nat) : Int)) (by omega) (by omega), e2, w64 (by omega) (by omega), if_pos (by omega), Int.toNat_natCast, if_pos (by omega)]
def cropD (an pn : Nat) (d : List Int) (X Y wn hn : Nat) : List Int := imgD (fun x y => nx pn d ((Y + y) * an + (X + x))) wn hn
theorem cropD_len {an bn pn X Y wn hn : Nat} {d : List Int} (hd : d.length = (bn * an) * pn) (hX : X + wn ≤ an) (hY : Y + hn ≤ bn) : ∀ x y, x < wn → y < hn → (nx pn d ((Y + y) * an + (X + x))).length = pn := fun x y hx hy => nx_length hd (lin_lt (by omega) (by omega))
theorem crop_ev {an bn pn X Y wn hn : Nat} (h1 : an ≤ 16) (h2 : bn ≤ 16) (h3 : pn ≤ 4) (hX : X + wn ≤ an) (hY : Y + hn ≤ bn) (d : List Int) (hd : d.length = (bn * an) * pn) :
  Ev (fun k => spec_crop.f k an bn pn d X Y wn hn) ((wn : Int), (hn : Int), (pn : Int), cropD an pn d X Y wn hn) := by
 unfold spec_crop.f
 refine ev_now (newImg_eq (by omega) (by omega) h3) ?_
 have hlen := cropD_len hd hX hY
 have hfl : (cropD an pn d X Y wn hn).length = (hn * wn) * pn := imgD_length hlen
 have inner : ∀ (r : Nat), r < hn → ∀ s : List Int, (s.length = (hn * wn) * pn ∧ ∀ x y, x < wn → y < r → nx pn s (y * wn + x) = nx pn d ((Y + y) * an + (X + x))) →
   ∃ s' : List Int, (s'.length = (hn * wn) * pn ∧ ∀ x y, x < wn → y < r + 1 → nx pn s' (y * wn + x) = nx pn d ((Y + y) * an + (X + x))) ∧
    ∀ res, Ev (fun k => spec_crop.l0 k X Y wn hn ((r + 1 : Nat) : Int) an bn pn d wn hn pn s') res → Ev (fun k => spec_crop.l1 k X Y wn hn (r : Int) 0 an bn pn d wn hn pn s) res := by
  intro r hr s hs
  obtain ⟨s', h4, h5⟩ := ev_run wn (fun k c s => spec_crop.l1 k X Y wn hn (r : Int) (c : Int) an bn pn d wn hn pn s) (fun s k => spec_crop.l0 k X Y wn hn ((r + 1 : Nat) : Int) an bn pn d wn hn pn s)
   (fun c s => s.length = (hn * wn) * pn ∧ (∀ x y, x < wn → y < r → nx pn s (y * wn + x) = nx pn d ((Y + y) * an + (X + x))) ∧ ∀ x, x < c → nx pn s (r * wn + x) = nx pn d ((Y + r) * an + (X + x)))
   (by
    intro c s hc ⟨hsl, i1, i2⟩
    have hyl : (nx pn d ((Y + r) * an + (X + c))).length = pn := hlen c r hc hr
    have hlin := lin_lt hc hr
    have hm : (r * wn + c + 1) * pn ≤ (hn * wn) * pn := Nat.mul_le_mul_right pn hlin
    rw [Nat.add_mul, Nat.one_mul] at hm
    refine ⟨laidOver s ((r * wn + c) * pn) (nx pn d ((Y + r) * an + (X + c))), ⟨by rw [laidOver_length _ _ _ (by rw [hyl, hsl]; exact hm)]; exact hsl, ?_, ?_⟩, ?_⟩
    ·intro x y hx hy
     rw [nx_laid hsl hyl hlin (lin_lt hx (by omega)), if_neg (fun e => by have := (lin_ne hx hc e).2; omega)]
     exact i1 x y hx hy
    ·intro x hx
     rw [nx_laid hsl hyl hlin (lin_lt (by omega) hr)]
     by_cases e : x = c
     ·subst e; rw [if_pos rfl]
     ·rw [if_neg (by omega)]; exact i2 x (by omega)
    ·intro res hres
     refine Ev.step (f := fun k => (spec_pixelAt.f an bn pn d ((X + c : Nat) : Int) ((Y + r : Nat) : Int)).bind fun t => (spec_setPixel.f k wn hn pn s (c : Int) (r : Int) t).bind fun u => spec_crop.l1 k X Y wn hn (r : Int) ((c + 1 : Nat) : Int) an bn pn d wn hn pn u) (fun k => ?_) (ev_now (pixelAt_eq h1 h2 h3 (by omega) (by omega) d hd) (ev_bind (setPixel_ev (by omega) (by omega) h3 hc hr s _ hsl hyl) hres))
     simp only [spec_crop.l1]
     rw [if_pos (by omega), w64 (x := (X : Int) + (c : Int)) (by omega) (by omega), w64 (x := (Y : Int) + (r : Int)) (by omega) (by omega), w64n c (by omega)]
     push_cast
     rfl)
   (by
    intro s _ res hres
    refine Ev.step (fun k => ?_) hres
    simp only [spec_crop.l1]
    rw [if_neg (by omega), w64n r (by omega)])
   wn 0 s (by omega) ⟨hs.1, hs.2, fun x hx => by omega⟩
  refine ⟨s', ⟨h4.1, fun x y hx hy => ?_⟩, h5⟩
  by_cases e : y = r
  ·subst e; exact h4.2.2 x hx
  ·exact h4.2.1 x y hx (by omega)
 obtain ⟨s', h4, h5⟩ := ev_run hn (fun k r s => spec_crop.l0 k X Y wn hn (r : Int) an bn pn d wn hn pn s) (fun s _ => some ((wn : Int), (hn : Int), (pn : Int), s))
  (fun r s => s.length = (hn * wn) * pn ∧ ∀ x y, x < wn → y < r → nx pn s (y * wn + x) = nx pn d ((Y + y) * an + (X + x)))
  (by
   intro r s hr hs
   obtain ⟨s', i1, i2⟩ := inner r hr s hs
   refine ⟨s', i1, fun res hres => Ev.step (fun k => ?_) (i2 res hres)⟩
   simp only [spec_crop.l0]
   rw [if_pos (by omega)])
  (by
   intro s _ res hres
   refine Ev.step (fun k => ?_) hres
   simp only [spec_crop.l0]
   rw [if_neg (by omega)])
  hn 0 (List.replicate ((hn * wn) * pn) 0) (by omega) ⟨by simp, fun x y hx hy => by omega⟩
 have e : s' = cropD an pn d X Y wn hn := ext_img h4.1 hfl (fun x y hx hy => by rw [h4.2 x y hx hy]; unfold cropD; rw [nx_imgD hlen hx hy])
 subst e
 exact h5 _ (Ev.now _)
def pastePx (an pn : Nat) (d : List Int) (X Y : Int) (wn hn : Nat) (e : List Int) (x y : Nat) : List Int :=
 if X ≤ (x : Int) ∧ (x : Int) < X + wn ∧ Y ≤ (y : Int) ∧ (y : Int) < Y + hn then nx pn e (((y : Int) - Y).toNat * wn + ((x : Int) - X).toNat) else nx pn d (y * an + x)
theorem pastePx_len {an bn pn wn hn : Nat} {d e : List Int} {X Y : Int} (hd : d.length = (bn * an) * pn) (he : e.length = (hn * wn) * pn) : ∀ x y, x < an → y < bn → (pastePx an pn d X Y wn hn e x y).length = pn := by
 intro x y hx hy
 unfold pastePx
 split
 ·exact nx_length he (lin_lt (by omega) (by omega))
 ·exact nx_length hd (lin_lt hx hy)
theorem onImage_eq {an bn : Nat} (h1 : 1 ≤ an ∧ an ≤ 16) (h2 : 1 ≤ bn ∧ bn ≤ 16) (p : Int) (d : List Int) (x y : Int) : spec_onImage.f an bn p d x y = some (decide (0 ≤ x ∧ x < an ∧ 0 ≤ y ∧ y < bn)) := by
 unfold spec_onImage.f
 rw [w64 (x := (an : Int) - 1) (by omega) (by omega), w64 (x := (bn : Int) - 1) (by omega) (by omega), spec_inRangeI_eq, spec_inRangeI_eq]
 simp only [Option.bind_some]
 by_cases c : 0 ≤ x ∧ x ≤ (an : Int) - 1
 ·rw [if_pos (by simpa using c)]; congr 1; rw [Bool.eq_iff_iff]; simp; omega
 ·rw [if_neg (by simpa using c), decide_eq_false (by omega)]
theorem paste_ev {an bn pn wn hn : Nat} {X Y : Int} (h1 : 1 ≤ an ∧ an ≤ 16) (h2 : 1 ≤ bn ∧ bn ≤ 16) (h3 : pn ≤ 4) (h4 : wn ≤ 16) (h5 : hn ≤ 16) (hX : -16 ≤ X ∧ X ≤ 16) (hY : -16 ≤ Y ∧ Y ≤ 16) (d e : List Int) (hd : d.length = (bn * an) * pn) (he : e.length = (hn * wn) * pn) :
  Ev (fun k => spec_paste.f k an bn pn d X Y wn hn pn e) (imgD (pastePx an pn d X Y wn hn e) an bn) := by
 unfold spec_paste.f
 have hlen := pastePx_len (X := X) (Y := Y) hd he
 let I : Nat → Nat → List Int → Prop := fun r c s => s.length = (bn * an) * pn ∧ ∀ x y : Nat, x < an → y < bn → nx pn s (y * an + x) = if X ≤ (x : Int) ∧ (x : Int) < X + wn ∧ Y ≤ (y : Int) ∧ (y : Int) < Y + hn ∧ ((y : Int) < Y + r ∨ ((y : Int) = Y + r ∧ (x : Int) < X + c)) then nx pn e (((y : Int) - Y).toNat * wn + ((x : Int) - X).toNat) else nx pn d (y * an + x)
 have inner : ∀ (r : Nat), r < hn → ∀ s : List Int, I r 0 s → ∃ s' : List Int, I (r + 1) 0 s' ∧
    ∀ res, Ev (fun k => spec_paste.l0 k X Y ((r + 1 : Nat) : Int) an bn pn s' wn hn pn e) res → Ev (fun k => spec_paste.l1 k X Y (r : Int) 0 an bn pn s wn hn pn e) res := by
  intro r hr s hs
  obtain ⟨s', i4, i5⟩ := ev_run wn (fun k c s => spec_paste.l1 k X Y (r : Int) (c : Int) an bn pn s wn hn pn e) (fun s k => spec_paste.l0 k X Y ((r + 1 : Nat) : Int) an bn pn s wn hn pn e) (fun c s => I r c s)
   (by
    intro c s hc ⟨hsl, i1⟩
    have w1 := w64 (x := X + (c : Int)) (by omega) (by omega)
    have w2 := w64 (x := Y + (r : Int)) (by omega) (by omega)
    by_cases on : 0 ≤ X + (c : Int) ∧ X + (c : Int) < an ∧ 0 ≤ Y + (r : Int) ∧ Y + (r : Int) < bn
    ·obtain ⟨x0, hx0⟩ := Int.eq_ofNat_of_zero_le on.1
     obtain ⟨y0, hy0⟩ := Int.eq_ofNat_of_zero_le on.2.2.1
     have hx0a : x0 < an := by omega
     have hy0b : y0 < bn := by omega
     have hyl : (nx pn e (r * wn + c)).length = pn := nx_length he (lin_lt hc hr)
     have hlin := lin_lt hx0a hy0b
     have hm : (y0 * an + x0 + 1) * pn ≤ (bn * an) * pn := Nat.mul_le_mul_right pn hlin
     rw [Nat.add_mul, Nat.one_mul] at hm
     refine ⟨laidOver s ((y0 * an + x0) * pn) (nx pn e (r * wn + c)), ⟨by rw [laidOver_length _ _ _ (by rw [hyl, hsl]; exact hm)]; exact hsl, ?_⟩, ?_⟩
     ·intro x y hx hy
      rw [nx_laid hsl hyl hlin (lin_lt hx hy)]
      by_cases q : x = x0 ∧ y = y0
      ·obtain ⟨rfl, rfl⟩ := q
       rw [if_pos rfl, if_pos (by omega), show ((y : Int) - Y).toNat = r by omega, show ((x : Int) - X).toNat = c by omega]
      ·rw [if_neg (fun z => q (lin_ne hx hx0a z)), i1 x y hx hy]
       by_cases z : X ≤ (x : Int) ∧ (x : Int) < X + wn ∧ Y ≤ (y : Int) ∧ (y : Int) < Y + hn ∧ ((y : Int) < Y + r ∨ ((y : Int) = Y + r ∧ (x : Int) < X + c))
       ·rw [if_pos z, if_pos (by omega)]
       ·rw [if_neg z, if_neg (by omega)]
     ·intro res hres
      refine Ev.step (f := fun k => (spec_onImage.f an bn pn s (X + (c : Int)) (Y + (r : Int))).bind fun u => if u = true then ((spec_pixelAt.f wn hn pn e (c : Int) (r : Int)).bind fun t => (spec_setPixel.f k an bn pn s (X + (c : Int)) (Y + (r : Int)) t).bind fun v => spec_paste.l1 k X Y (r : Int) ((c + 1 : Nat) : Int) an bn pn v wn hn pn e) else spec_paste.l1 k X Y (r : Int) ((c + 1 : Nat) : Int) an bn pn s wn hn pn e) (fun k => ?_) (ev_now (onImage_eq h1 h2 _ _ _ _) (ev_pos (decide_eq_true on) (ev_now (pixelAt_eq h4 h5 h3 hc hr e he) (ev_bind ?_ hres))))
      ·simp only [spec_paste.l1]
       rw [if_pos (by omega), w1, w2, w64n c (by omega)]
      ·rw [hx0, hy0]
       exact setPixel_ev h1.2 h2.2 h3 hx0a hy0b s _ hsl hyl
    ·refine ⟨s, ⟨hsl, fun x y hx hy => ?_⟩, ?_⟩
     ·rw [i1 x y hx hy]
      by_cases z : X ≤ (x : Int) ∧ (x : Int) < X + wn ∧ Y ≤ (y : Int) ∧ (y : Int) < Y + hn ∧ ((y : Int) < Y + r ∨ ((y : Int) = Y + r ∧ (x : Int) < X + c))
      ·rw [if_pos z, if_pos (by omega)]
      ·rw [if_neg z, if_neg (by omega)]
     ·intro res hres
      refine Ev.step (f := fun k => (spec_onImage.f an bn pn s (X + (c : Int)) (Y + (r : Int))).bind fun u => if u = true then ((spec_pixelAt.f wn hn pn e (c : Int) (r : Int)).bind fun t => (spec_setPixel.f k an bn pn s (X + (c : Int)) (Y + (r : Int)) t).bind fun v => spec_paste.l1 k X Y (r : Int) ((c + 1 : Nat) : Int) an bn pn v wn hn pn e) else spec_paste.l1 k X Y (r : Int) ((c + 1 : Nat) : Int) an bn pn s wn hn pn e) (fun k => ?_) (ev_now (onImage_eq h1 h2 _ _ _ _) (ev_neg (by simpa using on) hres))
      simp only [spec_paste.l1]
      rw [if_pos (by omega), w1, w2, w64n c (by omega)])
   (by
    intro s _ res hres
    refine Ev.step (fun k => ?_) hres
    simp only [spec_paste.l1]
    rw [if_neg (by omega), w64n r (by omega)])
   wn 0 s (by omega) hs
  refine ⟨s', ⟨i4.1, fun x y hx hy => ?_⟩, i5⟩
  rw [i4.2 x y hx hy]
  by_cases z : X ≤ (x : Int) ∧ (x : Int) < X + wn ∧ Y ≤ (y : Int) ∧ (y : Int) < Y + hn ∧ ((y : Int) < Y + r ∨ ((y : Int) = Y + r ∧ (x : Int) < X + wn))
  ·rw [if_pos z, if_pos (by omega)]
  ·rw [if_neg z, if_neg (by omega)]
 obtain ⟨s', i4, i5⟩ := ev_run hn (fun k r s => spec_paste.l0 k X Y (r : Int) an bn pn s wn hn pn e) (fun s _ => some s) (fun r s => I r 0 s)
  (by
   intro r s hr hs
   obtain ⟨s', i1, i2⟩ := inner r hr s hs
   refine ⟨s', i1, fun res hres => Ev.step (fun k => ?_) (i2 res hres)⟩
   simp only [spec_paste.l0]
   rw [if_pos (by omega)])
  (by
   intro s _ res hres
   refine Ev.step (fun k => ?_) hres
   simp only [spec_paste.l0]
   rw [if_neg (by omega)])
  hn 0 d (by omega) ⟨hd, fun x y hx hy => by rw [if_neg (by omega)]⟩
 have q : s' = imgD (pastePx an pn d X Y wn hn e) an bn := ext_img i4.1 (imgD_length hlen) (fun x y hx hy => by
  rw [i4.2 x y hx hy, nx_imgD hlen hx hy]
  unfold pastePx
  by_cases z : X ≤ (x : Int) ∧ (x : Int) < X + wn ∧ Y ≤ (y : Int) ∧ (y : Int) < Y + hn
  ·rw [if_pos z, if_pos (by omega)]
  ·rw [if_neg z, if_neg (by omega)])
 subst q
 exact i5 _ (Ev.now _)

/- One step, as the program and the reference have it. -/

theorem copyImage_px (a b p : Int) (d : List Int) (hl : d.length ≤ 1000000) : spec_copyImage.f a b p d = some (a, b, p, d) := by
 unfold spec_copyImage.f
 rw [copyInts_px d hl]
 rfl
def mirD (an bn pn : Nat) (d : List Int) : List Int := imgD (fun x y => nx pn d (y * an + (an - 1 - x))) an bn
theorem mirD_len {an bn pn : Nat} {d : List Int} (h1 : 1 ≤ an) (h2 : 1 ≤ bn) (hd : d.length = (bn * an) * pn) : ∀ x y, x < an → y < bn → (nx pn d (y * an + (an - 1 - x))).length = pn := fun x y hx hy => nx_length hd (lin_lt (by omega) (by omega))
theorem mirror_ev {an bn pn : Nat} (h1 : 1 ≤ an ∧ an ≤ 16) (h2 : 1 ≤ bn ∧ bn ≤ 16) (h3 : pn ≤ 4) (d : List Int) (hd : d.length = (bn * an) * pn) : Ev (fun k => spec_mirror.f k an bn pn d) ((an : Int), (bn : Int), (pn : Int), mirD an bn pn d) := by
 have sm := small h1.2 h2.2 h3
 unfold spec_mirror.f
 refine ev_now (copyImage_px _ _ _ d (by omega)) ?_
 have hlen := mirD_len h1.1 h2.1 hd
 let I : Nat → Nat → List Int → Prop := fun r c s => s.length = (bn * an) * pn ∧ ∀ x y : Nat, x < an → y < bn → (y < r ∨ (y = r ∧ x < c)) → nx pn s (y * an + (an - 1 - x)) = nx pn d (y * an + x)
 have inner : ∀ (r : Nat), r < bn → ∀ s : List Int, I r 0 s → ∃ s' : List Int, I (r + 1) 0 s' ∧
    ∀ res, Ev (fun k => spec_mirror.l0 k ((r + 1 : Nat) : Int) an bn pn d an bn pn s') res → Ev (fun k => spec_mirror.l1 k (r : Int) 0 an bn pn d an bn pn s) res := by
  intro r hr s hs
  obtain ⟨s', i4, i5⟩ := ev_run an (fun k c s => spec_mirror.l1 k (r : Int) (c : Int) an bn pn d an bn pn s) (fun s k => spec_mirror.l0 k ((r + 1 : Nat) : Int) an bn pn d an bn pn s) (fun c s => I r c s)
   (by
    intro c s hc ⟨hsl, i1⟩
    have hyl : (nx pn d (r * an + c)).length = pn := nx_length hd (lin_lt hc hr)
    have htx : an - 1 - c < an := by omega
    have hty : r < bn := by omega
    have hlin := lin_lt htx hty
    have hm : (r * an + (an - 1 - c) + 1) * pn ≤ (bn * an) * pn := Nat.mul_le_mul_right pn hlin
    rw [Nat.add_mul, Nat.one_mul] at hm
    refine ⟨laidOver s ((r * an + (an - 1 - c)) * pn) (nx pn d (r * an + c)), ⟨by rw [laidOver_length _ _ _ (by rw [hyl, hsl]; exact hm)]; exact hsl, ?_⟩, ?_⟩
    ·intro x y hx hy hdn
     have hxy : an - 1 - x < an := by omega
     rw [nx_laid hsl hyl hlin (lin_lt hxy (by omega))]
     by_cases q : x = c ∧ y = r
     ·obtain ⟨rfl, rfl⟩ := q
      rw [if_pos rfl]
     ·rw [if_neg (fun z => q (by have t := lin_ne hxy htx z; omega))]
      exact i1 x y hx hy (by omega)
    ·intro res hres
     clear hm hlin i1
     refine Ev.step (f := fun k => (spec_pixelAt.f an bn pn d (c : Int) (r : Int)).bind fun t => (spec_setPixel.f k an bn pn s ((an - 1 - c : Nat) : Int) ((r : Nat) : Int) t).bind fun u => spec_mirror.l1 k (r : Int) ((c + 1 : Nat) : Int) an bn pn d an bn pn u) (fun k => ?_) (ev_now (pixelAt_eq h1.2 h2.2 h3 hc hr d hd) (ev_bind (setPixel_ev (by omega) (by omega) h3 htx hty s _ hsl hyl) hres))
     simp only [spec_mirror.l1]
     rw [if_pos (by omega), w64 (x := (an : Int) - 1) (by omega) (by omega), w64 (x := (an : Int) - 1 - (c : Int)) (by omega) (by omega), show (an : Int) - 1 - (c : Int) = ((an - 1 - c : Nat) : Int) by omega, w64n c (by omega)])
   (by
    intro s _ res hres
    refine Ev.step (fun k => ?_) hres
    simp only [spec_mirror.l1]
    rw [if_neg (by omega), w64n r (by omega)])
   an 0 s (by omega) hs
  exact ⟨s', ⟨i4.1, fun x y hx hy hdn => i4.2 x y hx hy (by omega)⟩, i5⟩
 obtain ⟨s', i4, i5⟩ := ev_run bn (fun k r s => spec_mirror.l0 k (r : Int) an bn pn d an bn pn s) (fun s _ => some ((an : Int), (bn : Int), (pn : Int), s)) (fun r s => I r 0 s)
  (by
   intro r s hr hs
   obtain ⟨s', i1, i2⟩ := inner r hr s hs
   refine ⟨s', i1, fun res hres => Ev.step (fun k => ?_) (i2 res hres)⟩
   simp only [spec_mirror.l0]
   rw [if_pos (by omega)])
  (by
   intro s _ res hres
   refine Ev.step (fun k => ?_) hres
   simp only [spec_mirror.l0]
   rw [if_neg (by omega)])
  bn 0 (d) (by omega) ⟨by first | exact hd | simp, fun x y hx hy hdn => by omega⟩
 have q : s' = mirD an bn pn d := ext_img i4.1 (imgD_length hlen) (fun x y hx hy => by
  rw [show mirD an bn pn d = imgD (fun x y => nx pn d (y * an + (an - 1 - x))) an bn from rfl, nx_imgD hlen hx hy]
  have z := i4.2 (an - 1 - x) y (by omega) hy (by omega)
  rw [show an - 1 - (an - 1 - x) = x by omega] at z
  exact z)
 subst q
 exact i5 _ (Ev.now _)
def turnD (an bn pn : Nat) (d : List Int) : List Int := imgD (fun x y => nx pn d ((bn - 1 - x) * an + y)) bn an
theorem turnD_len {an bn pn : Nat} {d : List Int} (h1 : 1 ≤ an) (h2 : 1 ≤ bn) (hd : d.length = (bn * an) * pn) : ∀ x y, x < bn → y < an → (nx pn d ((bn - 1 - x) * an + y)).length = pn := fun x y hx hy => nx_length hd (lin_lt (by omega) (by omega))
theorem turn_ev {an bn pn : Nat} (h1 : 1 ≤ an ∧ an ≤ 16) (h2 : 1 ≤ bn ∧ bn ≤ 16) (h3 : pn ≤ 4) (d : List Int) (hd : d.length = (bn * an) * pn) : Ev (fun k => spec_turn.f k an bn pn d) ((bn : Int), (an : Int), (pn : Int), turnD an bn pn d) := by
 have sm := small h1.2 h2.2 h3
 unfold spec_turn.f
 refine ev_now (newImg_eq h2.2 h1.2 h3) ?_
 have hlen := turnD_len h1.1 h2.1 hd
 let I : Nat → Nat → List Int → Prop := fun r c s => s.length = (an * bn) * pn ∧ ∀ x y : Nat, x < an → y < bn → (y < r ∨ (y = r ∧ x < c)) → nx pn s (x * bn + (bn - 1 - y)) = nx pn d (y * an + x)
 have inner : ∀ (r : Nat), r < bn → ∀ s : List Int, I r 0 s → ∃ s' : List Int, I (r + 1) 0 s' ∧
    ∀ res, Ev (fun k => spec_turn.l0 k ((r + 1 : Nat) : Int) an bn pn d bn an pn s') res → Ev (fun k => spec_turn.l1 k (r : Int) 0 an bn pn d bn an pn s) res := by
  intro r hr s hs
  obtain ⟨s', i4, i5⟩ := ev_run an (fun k c s => spec_turn.l1 k (r : Int) (c : Int) an bn pn d bn an pn s) (fun s k => spec_turn.l0 k ((r + 1 : Nat) : Int) an bn pn d bn an pn s) (fun c s => I r c s)
   (by
    intro c s hc ⟨hsl, i1⟩
    have hyl : (nx pn d (r * an + c)).length = pn := nx_length hd (lin_lt hc hr)
    have htx : bn - 1 - r < bn := by omega
    have hty : c < an := by omega
    have hlin := lin_lt htx hty
    have hm : (c * bn + (bn - 1 - r) + 1) * pn ≤ (an * bn) * pn := Nat.mul_le_mul_right pn hlin
    rw [Nat.add_mul, Nat.one_mul] at hm
    refine ⟨laidOver s ((c * bn + (bn - 1 - r)) * pn) (nx pn d (r * an + c)), ⟨by rw [laidOver_length _ _ _ (by rw [hyl, hsl]; exact hm)]; exact hsl, ?_⟩, ?_⟩
    ·intro x y hx hy hdn
     have hxy : bn - 1 - y < bn := by omega
     rw [nx_laid hsl hyl hlin (lin_lt hxy (by omega))]
     by_cases q : x = c ∧ y = r
     ·obtain ⟨rfl, rfl⟩ := q
      rw [if_pos rfl]
     ·rw [if_neg (fun z => q (by have t := lin_ne hxy htx z; omega))]
      exact i1 x y hx hy (by omega)
    ·intro res hres
     clear hm hlin i1
     refine Ev.step (f := fun k => (spec_pixelAt.f an bn pn d (c : Int) (r : Int)).bind fun t => (spec_setPixel.f k bn an pn s ((bn - 1 - r : Nat) : Int) ((c : Nat) : Int) t).bind fun u => spec_turn.l1 k (r : Int) ((c + 1 : Nat) : Int) an bn pn d bn an pn u) (fun k => ?_) (ev_now (pixelAt_eq h1.2 h2.2 h3 hc hr d hd) (ev_bind (setPixel_ev (by omega) (by omega) h3 htx hty s _ hsl hyl) hres))
     simp only [spec_turn.l1]
     rw [if_pos (by omega), w64 (x := (bn : Int) - 1) (by omega) (by omega), w64 (x := (bn : Int) - 1 - (r : Int)) (by omega) (by omega), show (bn : Int) - 1 - (r : Int) = ((bn - 1 - r : Nat) : Int) by omega, w64n c (by omega)])
   (by
    intro s _ res hres
    refine Ev.step (fun k => ?_) hres
    simp only [spec_turn.l1]
    rw [if_neg (by omega), w64n r (by omega)])
   an 0 s (by omega) hs
  exact ⟨s', ⟨i4.1, fun x y hx hy hdn => i4.2 x y hx hy (by omega)⟩, i5⟩
 obtain ⟨s', i4, i5⟩ := ev_run bn (fun k r s => spec_turn.l0 k (r : Int) an bn pn d bn an pn s) (fun s _ => some ((bn : Int), (an : Int), (pn : Int), s)) (fun r s => I r 0 s)
  (by
   intro r s hr hs
   obtain ⟨s', i1, i2⟩ := inner r hr s hs
   refine ⟨s', i1, fun res hres => Ev.step (fun k => ?_) (i2 res hres)⟩
   simp only [spec_turn.l0]
   rw [if_pos (by omega)])
  (by
   intro s _ res hres
   refine Ev.step (fun k => ?_) hres
   simp only [spec_turn.l0]
   rw [if_neg (by omega)])
  bn 0 (List.replicate ((an * bn) * pn) 0) (by omega) ⟨by first | exact hd | simp, fun x y hx hy hdn => by omega⟩
 have q : s' = turnD an bn pn d := ext_img i4.1 (imgD_length hlen) (fun x y hx hy => by
  rw [show turnD an bn pn d = imgD (fun x y => nx pn d ((bn - 1 - x) * an + y)) bn an from rfl, nx_imgD hlen hx hy]
  have z := i4.2 y (bn - 1 - x) hy (by omega) (by omega)
  rw [show bn - 1 - (bn - 1 - x) = x by omega] at z
  exact z)
 subst q
 exact i5 _ (Ev.now _)
theorem set_map (f : Int → Int) (d : List Int) (i : Nat) (hi : i < d.length) : ((d.take i).map f ++ d.drop i).set i (f d[i]) = (d.take (i + 1)).map f ++ d.drop (i + 1) := by
 have h1 : ((d.take i).map f).length = i := by rw [List.length_map, List.length_take]; omega
 rw [List.set_append_right _ _ (by omega), h1, Nat.sub_self, List.drop_eq_getElem_cons hi, List.set_cons_zero, List.take_succ_eq_append_getElem hi, List.map_append, List.append_assoc]
 rfl
theorem invert_ev (a b p : Int) (d : List Int) (hv : validI a b p d = true) (hl : d.length ≤ 1000000) : Ev (fun k => spec_InvertImage.f k a b p d) (a, b, p, invD d) := by
 unfold spec_InvertImage.f
 have hv0 := spec_validImage_ev a b p d (by omega)
 rw [hv] at hv0
 refine ev_bind hv0 (ev_pos rfl (ev_now (copyImage_px a b p d hl) ?_))
 refine ev_up d.length (fun k i s => spec_InvertImage.l0 k (i : Int) a b p d a b p s) (fun i s => s = (d.take i).map (fun n => wrap64 (255 - n)) ++ d.drop i) (fun _ _ => (a, b, p, invD d))
  (by
   intro i s hi hinv
   right
   refine ⟨(d.take (i + 1)).map (fun n => wrap64 (255 - n)) ++ d.drop (i + 1), fun k => ?_, rfl, rfl⟩
   have hsl : s.length = d.length := by rw [hinv, List.length_append, List.length_map, List.length_take, List.length_drop]; omega
   simp only [spec_InvertImage.l0]
   rw [if_pos (by rw [hsl]; omega), if_pos (by omega), if_pos (by omega), rd_nat d i hi, w64n i (by omega), Int.toNat_natCast, hinv, set_map (fun n => wrap64 (255 - n)) d i hi])
  (by
   intro s hinv
   have hsl : s.length = d.length := by rw [hinv, List.length_append, List.length_map, List.length_take, List.length_drop]; omega
   refine Ev.step (f := fun _ => some (a, b, p, invD d)) (fun k => ?_) (Ev.now _)
   simp only [spec_InvertImage.l0]
   rw [if_neg (by rw [hsl]; omega), hinv, List.take_length, List.drop_length, List.append_nil]
   rfl)
  d.length 0 d (by omega) (by simp)
theorem validBox_on {a b p : Int} {d : List Int} (hs : 1 ≤ a ∧ a ≤ 16 ∧ 1 ≤ b ∧ b ≤ 16) (x y wd hg : Int) : spec_validBox.f a b p d x y wd hg = some (boxOn a b x y wd hg) := by
 unfold spec_validBox.f boxOn
 simp only [spec_inRangeI_eq, Option.bind_some]
 rw [w64 (x := a - 1) (by omega) (by omega), w64 (x := b - 1) (by omega) (by omega)]
 by_cases c1 : 0 ≤ x ∧ x ≤ a - 1
 ·rw [if_pos (by simpa using c1), w64 (x := a - x) (by omega) (by omega)]
  by_cases c2 : 0 ≤ y ∧ y ≤ b - 1
  ·rw [if_pos (by simpa using c2), w64 (x := b - y) (by omega) (by omega)]
   by_cases c3 : 1 ≤ wd ∧ wd ≤ a - x
   ·rw [if_pos (by simpa using c3)]
    congr 1; rw [Bool.eq_iff_iff]; simp; omega
   ·rw [if_neg (by simpa using c3), decide_eq_false (by omega)]
  ·rw [if_neg (by simpa using c2), decide_eq_false (by omega)]
 ·rw [if_neg (by simpa using c1), decide_eq_false (by omega)]
theorem fill_ev {wn hn pn : Nat} (h1 : 1 ≤ wn ∧ wn ≤ 16) (h2 : 1 ≤ hn ∧ hn ≤ 16) (h3 : 1 ≤ pn ∧ pn ≤ 4) (pix : List Int) (hp : pix.length = pn) (hb : pix.all byteI = true) :
  ∃ e : List Int, e.length = (hn * wn) * pn ∧ (∀ x y, x < wn → y < hn → nx pn e (y * wn + x) = pix) ∧ Ev (fun k => spec_FillImage.f k wn hn pix) ((wn : Int), (hn : Int), (pn : Int), e) := by
 have sm := small h1.2 h2.2 h3.2
 obtain ⟨s', i4, i5⟩ := ev_run ((hn * wn) * pn) (fun k i s => spec_FillImage.l0 k pix (i : Int) wn hn pn s) (fun s _ => some ((wn : Int), (hn : Int), (pn : Int), s)) (fun i s => s.length = (hn * wn) * pn ∧ ∀ q, q < i → s.getD q 0 = pix.getD (q % pn) 0)
  (by
   intro i s hi ⟨hsl, i1⟩
   have hmod : i % pn < pn := Nat.mod_lt _ (by omega)
   have htm : Int.tmod (i : Int) (pix.length : Int) = ((i % pn : Nat) : Int) := by rw [hp]; rfl
   refine ⟨s.set i (pix.getD (i % pn) 0), ⟨by rw [List.length_set]; exact hsl, fun q hq => ?_⟩, fun res hres => Ev.step (fun k => ?_) hres⟩
   ·by_cases e : q = i
    ·subst e
     rw [List.getD_eq_getElem?_getD, List.getElem?_set_self (by omega)]
     rfl
    ·rw [List.getD_eq_getElem?_getD, List.getElem?_set_ne (by omega), ← List.getD_eq_getElem?_getD]
     exact i1 q (by omega)
   ·simp only [spec_FillImage.l0]
    rw [htm, if_pos (by omega), if_neg (by omega), if_pos (by omega), if_pos (by omega), if_pos (by omega), w64n i (by omega), Int.toNat_natCast]
    rfl)
  (by
   intro s ⟨hsl, _⟩ res hres
   refine Ev.step (fun k => ?_) hres
   simp only [spec_FillImage.l0]
   rw [if_neg (by omega)])
  ((hn * wn) * pn) 0 (List.replicate ((hn * wn) * pn) 0) (by omega) ⟨by simp, fun q hq => by omega⟩
 refine ⟨s', i4.1, fun x y hx hy => ?_, ?_⟩
 ·have hl := lin_lt hx hy
  have hn1 : (nx pn s' (y * wn + x)).length = pn := nx_length i4.1 hl
  have hm : (y * wn + x + 1) * pn ≤ (hn * wn) * pn := Nat.mul_le_mul_right pn hl
  rw [Nat.add_mul, Nat.one_mul] at hm
  refine List.ext_getElem (by rw [hn1, hp]) (fun q hq1 hq2 => ?_)
  have z := i4.2 ((y * wn + x) * pn + q) (by omega)
  rw [Nat.mul_comm (y * wn + x) pn, Nat.mul_add_mod, Nat.mod_eq_of_lt (show q < pn by omega), Nat.mul_comm pn (y * wn + x)] at z
  have z1 : (nx pn s' (y * wn + x)).getD q 0 = pix.getD q 0 := by
   rw [← z]
   unfold nx
   rw [List.getD_eq_getElem?_getD, List.getElem?_take, if_pos (by omega), List.getElem?_drop, List.getD_eq_getElem?_getD]
  rw [List.getD_eq_getElem?_getD, List.getElem?_eq_getElem hq1, List.getD_eq_getElem?_getD, List.getElem?_eq_getElem hq2] at z1
  exact z1
 ·unfold spec_FillImage.f
  have hsh : shapeI wn hn (pix.length : Int) = true := (shapeI_iff _ _ _).2 (by omega)
  have hb0 := spec_allInI_ev pix (by omega)
  rw [hb] at hb0
  refine ev_now ((spec_validShape_eq wn hn (pix.length : Int)).trans (by rw [hsh])) (ev_pos rfl (ev_bind hb0 ?_))
  refine Ev.step (f := fun k => (spec_newImage.f wn hn (pix.length : Int)).bind fun t => spec_FillImage.l0 k pix 0 t.1 t.2.1 t.2.2.1 t.2.2.2) (fun k => ?_) (ev_now (by rw [hp]; exact newImg_eq h1.2 h2.2 h3.2) (i5 _ (Ev.now _)))
  simp only [spec_FillImage.j0, Bool.not_true]
  rw [if_neg (by simp)]
theorem spec_doStep_ev (a b p : Int) (d : List Int) (kind x y wd hg : Int) (pix : List Int) (hv : validI a b p d = true) (hpl : pix.length ≤ 1000000000) : Ev (fun k => spec_doStep.f k a b p d kind x y wd hg pix) (doStepV a b p d kind x y wd hg pix) := by
 have hs := ((validI_iff a b p d).1 hv).1
 have hs' : 1 ≤ a ∧ a ≤ 16 ∧ 1 ≤ b ∧ b ≤ 16 := by omega
 have hvb := fun x y wd hg => validBox_on (p := p) (d := d) hs' x y wd hg
 have hv1 := hv
 obtain ⟨an, bn, pn, ea, eb, ep, q1, q2, q3, q4, q5, q6, q7⟩ := nat_of hv
 have sm := small q2 q4 q6
 unfold spec_doStep.f doStepV
 by_cases k0 : kind = 0
 ·rw [if_pos k0]
  refine ev_pos k0 ?_
  subst ea eb ep
  rw [show imgD (mirPx an pn d) (an : Int).toNat (bn : Int).toNat = mirD an bn pn d from imgD_congr (fun x y hx hy => by
   simp only [Int.toNat_natCast] at hx hy
   unfold mirPx
   rw [show ((an : Int) - 1 - (x : Int)).toNat = an - 1 - x by omega, pxAt_nat q2 q4 q6 (by omega) hy])]
  exact ev_bind (mirror_ev ⟨q1, q2⟩ ⟨q3, q4⟩ q6 d q7) (Ev.now _)
 ·rw [if_neg k0]
  refine ev_neg k0 ?_
  by_cases k1 : kind = 1
  ·rw [if_pos k1]
   refine ev_pos k1 ?_
   subst ea eb ep
   rw [show imgD (turnPx an bn pn d) (bn : Int).toNat (an : Int).toNat = turnD an bn pn d from imgD_congr (fun x y hx hy => by
    simp only [Int.toNat_natCast] at hx hy
    unfold turnPx
    rw [show ((bn : Int) - 1 - (x : Int)).toNat = bn - 1 - x by omega, pxAt_nat q2 q4 q6 hy (by omega)])]
   exact ev_bind (turn_ev ⟨q1, q2⟩ ⟨q3, q4⟩ q6 d q7) (Ev.now _)
  ·rw [if_neg k1]
   refine ev_neg k1 ?_
   by_cases k2 : kind = 2
   ·rw [if_pos k2]
    exact ev_pos k2 (ev_bind (invert_ev a b p d hv (by omega)) (Ev.now _))
   ·rw [if_neg k2]
    refine ev_neg k2 ?_
    by_cases k3 : kind = 3
    ·rw [if_pos k3]
     refine ev_pos k3 ?_
     unfold spec_CropImage.f
     have hv0 := spec_validImage_ev a b p d (by omega)
     rw [hv] at hv0
     by_cases c : boxOn a b x y wd hg = true
     ·rw [if_pos c]
      obtain ⟨b1, b2, b3, b4, b5, b6, b7, b8⟩ := (boxOn_iff _ _ _ _ _ _).1 c
      obtain ⟨X, eX⟩ := Int.eq_ofNat_of_zero_le b1
      obtain ⟨Y, eY⟩ := Int.eq_ofNat_of_zero_le b3
      obtain ⟨wn, ew⟩ := Int.eq_ofNat_of_zero_le (show 0 ≤ wd by omega)
      obtain ⟨hn, eh⟩ := Int.eq_ofNat_of_zero_le (show 0 ≤ hg by omega)
      subst ea eb ep eX eY ew eh
      rw [show imgD (cropPx an pn d (X : Int).toNat (Y : Int).toNat) (wn : Int).toNat (hn : Int).toNat = cropD an pn d X Y wn hn from imgD_congr (fun x y hx hy => by
       simp only [Int.toNat_natCast] at hx hy ⊢
       unfold cropPx
       rw [pxAt_nat q2 q4 q6 (by omega) (by omega)])]
      exact ev_bind (ev_bind hv0 (ev_pos rfl (ev_now (hvb _ _ _ _) (ev_pos c (ev_bind (crop_ev q2 q4 q6 (by omega) (by omega) d q7) (Ev.now _)))))) (Ev.now _)
     ·rw [if_neg c]
      exact ev_bind (ev_bind hv0 (ev_pos rfl (ev_now (hvb _ _ _ _) (ev_neg c (Ev.now _))))) (Ev.now _)
    ·rw [if_neg k3]
     refine ev_neg k3 ?_
     by_cases k4 : kind = 4
     ·rw [if_pos k4]
      refine ev_pos k4 ?_
      have stop : ∀ q, ¬ (boxOn a b x y wd hg = true ∧ (pix.length : Int) = p ∧ pix.all byteI = true) → q = true → Ev (fun k => spec_doStep.j0 k q a b p d kind x y wd hg pix) (if boxOn a b x y wd hg = true ∧ (pix.length : Int) = p ∧ pix.all byteI = true then (a, b, p, imgD (fillPx a p d x.toNat y.toNat wd.toNat hg.toNat pix) a.toNat b.toNat, true) else (0, 0, 0, [], false)) := by
       intro q hn hq
       subst hq
       rw [if_neg hn]
       refine Ev.step (f := fun _ => some (0, 0, 0, [], false)) (fun k => ?_) (Ev.now _)
       simp only [spec_doStep.j0]
       rw [if_pos trivial]
      refine ev_now (hvb _ _ _ _) ?_
      by_cases c : boxOn a b x y wd hg = true
      ·refine ev_pos c ?_
       by_cases c2 : (pix.length : Int) = p
       ·refine ev_pos c2 (ev_bind (spec_allInI_ev pix (by omega)) ?_)
        by_cases c3 : pix.all byteI = true
        ·rw [c3, if_pos ⟨c, c2, rfl⟩]
         obtain ⟨b1, b2, b3, b4, b5, b6, b7, b8⟩ := (boxOn_iff _ _ _ _ _ _).1 c
         obtain ⟨X, eX⟩ := Int.eq_ofNat_of_zero_le b1
         obtain ⟨Y, eY⟩ := Int.eq_ofNat_of_zero_le b3
         obtain ⟨wn, ew⟩ := Int.eq_ofNat_of_zero_le (show 0 ≤ wd by omega)
         obtain ⟨hn, eh⟩ := Int.eq_ofNat_of_zero_le (show 0 ≤ hg by omega)
         subst ea eb ep eX eY ew eh
         have c2 := Int.ofNat.inj c2
         obtain ⟨e, e1, e2, e3⟩ := fill_ev (wn := wn) (hn := hn) ⟨by omega, by omega⟩ ⟨by omega, by omega⟩ ⟨q5, q6⟩ pix c2 c3
         rw [show imgD (fillPx an pn d (X : Int).toNat (Y : Int).toNat (wn : Int).toNat (hn : Int).toNat pix) (an : Int).toNat (bn : Int).toNat = imgD (pastePx an pn d X Y wn hn e) an bn from imgD_congr (fun x y hx hy => by
          simp only [Int.toNat_natCast] at hx hy ⊢
          unfold fillPx inBox pastePx
          by_cases z : X ≤ x ∧ x < X + wn ∧ Y ≤ y ∧ y < Y + hn
          ·rw [if_pos (decide_eq_true z), if_pos (by omega), e2 _ _ (by omega) (by omega)]
          ·rw [if_neg (by simpa using z), if_neg (by omega), pxAt_nat q2 q4 q6 hx hy])]
         refine Ev.step (f := fun k => (spec_copyImage.f an bn pn d).bind fun t => (spec_FillImage.f k wn hn pix).bind fun u => (spec_paste.f k t.1 t.2.1 t.2.2.1 t.2.2.2 X Y u.1 u.2.1 u.2.2.1 u.2.2.2).bind fun v => some (t.1, t.2.1, t.2.2.1, v, true)) (fun k => ?_) (ev_now (copyImage_px _ _ _ d (by omega)) (ev_bind e3 (ev_bind (paste_ev ⟨q1, q2⟩ ⟨q3, q4⟩ q6 (by omega) (by omega) ⟨by omega, by omega⟩ ⟨by omega, by omega⟩ d e q7 e1) (Ev.now _))))
         simp only [spec_doStep.j0, Bool.not_true]
         rw [if_neg (by simp)]
        ·rw [Bool.eq_false_iff.2 c3]
         have z := stop true (fun h => c3 h.2.2) rfl
         rw [Bool.eq_false_iff.2 c3] at z
         exact z
       ·exact ev_neg c2 (stop _ (fun h => c2 h.2.1) rfl)
      ·exact ev_neg c (stop _ (fun h => c h.1) rfl)
     ·rw [if_neg k4]
      exact ev_neg k4 (Ev.now _)
def doneV (a b p : Int) (d : List Int) (kind x y wd hg : Int) (pix : List Int) : Int × Int × Int × List Int × Bool := if validI a b p d = true then doStepV a b p d kind x y wd hg pix else (0, 0, 0, [], false)
theorem impl_DoStep_eq (a b p : Int) (d : List Int) (kind x y wd hg : Int) (pix : List Int) : impl_DoStep.f a b p d kind x y wd hg pix = some (doneV a b p d kind x y wd hg pix) := by
 unfold impl_DoStep.f doneV
 rw [impl_isImage_eq]
 simp only [Option.bind_some]
 by_cases c : validI a b p d = true
 ·rw [if_pos c, if_pos c]
  unfold impl_doStep.f
  rw [if_pos c]
  rfl
 ·rw [if_neg c, if_neg c]

/- Steps, one after the other: what the program and the reference make of an image. -/

def AllBy (l : List Int) : Prop := ∀ n ∈ l, 0 ≤ n ∧ n ≤ 255
theorem allBy_nx {d : List Int} (h : AllBy d) (n i : Nat) : AllBy (nx n d i) := fun x hx => h x (List.mem_of_mem_drop (List.mem_of_mem_take hx))
theorem valid_img {an bn pn : Nat} {px : Nat → Nat → List Int} (h1 : 1 ≤ an ∧ an ≤ 16) (h2 : 1 ≤ bn ∧ bn ≤ 16) (h3 : 1 ≤ pn ∧ pn ≤ 4) (hl : ∀ x y, x < an → y < bn → (px x y).length = pn) (hb : ∀ x y, x < an → y < bn → AllBy (px x y)) : validI an bn pn (imgD px an bn) = true := by
 refine (validI_iff _ _ _ _).2 ⟨by omega, by rw [imgD_length hl, Nat.mul_comm bn an]; push_cast; rfl, fun n hn => ?_⟩
 unfold imgD rowD at hn
 obtain ⟨y, hy, hn⟩ := List.mem_flatMap.1 hn
 obtain ⟨x, hx, hn⟩ := List.mem_flatMap.1 hn
 exact hb x y (List.mem_range.1 hx) (List.mem_range.1 hy) n hn
theorem done_valid {a b p : Int} {d : List Int} {kind x y wd hg : Int} {pix : List Int} (h : (doneV a b p d kind x y wd hg pix).2.2.2.2 = true) : validI a b p d = true ∧ validI (doneV a b p d kind x y wd hg pix).1 (doneV a b p d kind x y wd hg pix).2.1 (doneV a b p d kind x y wd hg pix).2.2.1 (doneV a b p d kind x y wd hg pix).2.2.2.1 = true := by
 unfold doneV at h ⊢
 by_cases c : validI a b p d = true
 ·rw [if_pos c] at h ⊢
  refine ⟨c, ?_⟩
  have hb := ((validI_iff _ _ _ _).1 c).2.2
  obtain ⟨an, bn, pn, ea, eb, ep, q1, q2, q3, q4, q5, q6, q7⟩ := nat_of c
  subst ea eb ep
  unfold doStepV at h ⊢
  by_cases k0 : kind = 0
  ·rw [if_pos k0]
   refine valid_img ⟨q1, q2⟩ ⟨q3, q4⟩ ⟨q5, q6⟩ (fun i j hi hj => ?_) (fun i j hi hj => ?_)
   all_goals
    unfold mirPx
    try simp only [Int.toNat_natCast] at hi hj
    rw [pxAt_nat q2 q4 q6 (by omega) hj]
   ·exact nx_length q7 (lin_lt (by omega) hj)
   ·exact allBy_nx hb _ _
  ·rw [if_neg k0] at h ⊢
   by_cases k1 : kind = 1
   ·rw [if_pos k1]
    refine valid_img ⟨q3, q4⟩ ⟨q1, q2⟩ ⟨q5, q6⟩ (fun i j hi hj => ?_) (fun i j hi hj => ?_)
    all_goals
     unfold turnPx
     try simp only [Int.toNat_natCast] at hi hj
     rw [pxAt_nat q2 q4 q6 hj (by omega)]
    ·exact nx_length q7 (lin_lt hj (by omega))
    ·exact allBy_nx hb _ _
   ·rw [if_neg k1] at h ⊢
    by_cases k2 : kind = 2
    ·rw [if_pos k2]
     refine (validI_iff _ _ _ _).2 ⟨((validI_iff _ _ _ _).1 c).1, by show ((invD d).length : Int) = _; unfold invD; rw [List.length_map]; exact ((validI_iff _ _ _ _).1 c).2.1, fun n hn => ?_⟩
     have hn : n ∈ invD d := hn
     unfold invD at hn
     obtain ⟨m, hm, rfl⟩ := List.mem_map.1 hn
     have := hb m hm
     rw [w64 (by omega) (by omega)]
     omega
    ·rw [if_neg k2] at h ⊢
     by_cases k3 : kind = 3
     ·rw [if_pos k3] at h ⊢
      by_cases cb : boxOn an bn x y wd hg = true
      ·rw [if_pos cb]
       obtain ⟨b1, b2, b3, b4, b5, b6, b7, b8⟩ := (boxOn_iff _ _ _ _ _ _).1 cb
       obtain ⟨X, eX⟩ := Int.eq_ofNat_of_zero_le b1
       obtain ⟨Y, eY⟩ := Int.eq_ofNat_of_zero_le b3
       obtain ⟨wn, ew⟩ := Int.eq_ofNat_of_zero_le (show 0 ≤ wd by omega)
       obtain ⟨hn, eh⟩ := Int.eq_ofNat_of_zero_le (show 0 ≤ hg by omega)
       subst eX eY ew eh
       refine valid_img (an := wn) (bn := hn) ⟨by omega, by omega⟩ ⟨by omega, by omega⟩ ⟨q5, q6⟩ (fun i j hi hj => ?_) (fun i j hi hj => ?_)
       all_goals
        unfold cropPx
        try simp only [Int.toNat_natCast] at hi hj ⊢
        rw [pxAt_nat q2 q4 q6 (by omega) (by omega)]
       ·exact nx_length q7 (lin_lt (by omega) (by omega))
       ·exact allBy_nx hb _ _
      ·rw [if_neg cb] at h; cases h
     ·rw [if_neg k3] at h ⊢
      by_cases k4 : kind = 4
      ·rw [if_pos k4] at h ⊢
       by_cases cb : boxOn an bn x y wd hg = true ∧ (pix.length : Int) = pn ∧ pix.all byteI = true
       ·rw [if_pos cb]
        obtain ⟨cb, cl, ca⟩ := cb
        have cl := Int.ofNat.inj cl
        refine valid_img ⟨q1, q2⟩ ⟨q3, q4⟩ ⟨q5, q6⟩ (fun i j hi hj => ?_) (fun i j hi hj => ?_)
        all_goals
         unfold fillPx
         try simp only [Int.toNat_natCast] at hi hj
         split
        ·exact cl
        ·rw [pxAt_nat q2 q4 q6 hi hj]
         exact nx_length q7 (lin_lt hi hj)
        ·exact fun n hn => (byteI_iff n).1 (List.all_eq_true.1 ca n hn)
        ·rw [pxAt_nat q2 q4 q6 hi hj]
         exact allBy_nx hb _ _
       ·rw [if_neg cb] at h; cases h
      ·rw [if_neg k4] at h; cases h
 ·rw [if_neg c] at h; cases h
abbrev Step := S43
def stepV (a b p : Int) (d : List Int) (s : Step) : Int × Int × Int × List Int × Bool := doStepV a b p d s.f0 s.f1.f0 s.f1.f1 s.f1.f2 s.f1.f3 s.f2
def runV : Int → Int → Int → List Int → List Step → Int → Int × Int × Int × List Int × Int
 | a, b, p, d, [], n => (a, b, p, d, n)
 | a, b, p, d, s :: l, n => if (stepV a b p d s).2.2.2.2 = true then runV (stepV a b p d s).1 (stepV a b p d s).2.1 (stepV a b p d s).2.2.1 (stepV a b p d s).2.2.2.1 l (n + 1) else (a, b, p, d, n)
def runsV (a b p : Int) (d : List Int) (l : List Step) : Int × Int × Int × List Int × Int := if validI a b p d = true ∧ l.length ≤ 12 then runV a b p d l 0 else (0, 0, 0, [], -1)
theorem done_step {a b p : Int} {d : List Int} (hv : validI a b p d = true) (s : Step) : doneV a b p d s.f0 s.f1.f0 s.f1.f1 s.f1.f2 s.f1.f3 s.f2 = stepV a b p d s := by unfold doneV stepV; rw [if_pos hv]
theorem step_valid {a b p : Int} {d : List Int} {s : Step} (hv : validI a b p d = true) (h : (stepV a b p d s).2.2.2.2 = true) : validI (stepV a b p d s).1 (stepV a b p d s).2.1 (stepV a b p d s).2.2.1 (stepV a b p d s).2.2.2.1 = true := by
 rw [← done_step hv] at h ⊢
 exact (done_valid h).2
theorem impl_step {a b p : Int} {d : List Int} (hv : validI a b p d = true) (s : Step) : impl_doStep.f a b p d s.f0 s.f1.f0 s.f1.f1 s.f1.f2 s.f1.f3 s.f2 = some (stepV a b p d s) := by unfold impl_doStep.f stepV; rw [if_pos hv]
theorem spec_step {a b p : Int} {d : List Int} (hv : validI a b p d = true) (s : Step) (hl : s.f2.length ≤ 1000000000) : Ev (fun k => spec_doStep.f k a b p d s.f0 s.f1.f0 s.f1.f1 s.f1.f2 s.f1.f3 s.f2) (stepV a b p d s) := spec_doStep_ev _ _ _ _ _ _ _ _ _ _ hv hl
theorem rdS_nat (l : List Step) (i : Nat) (h : i < l.length) : rd_T43 l (i : Int) = l[i] := by simp [rd_T43, h]
theorem drop_at (l : List Step) (i : Nat) (h : i < l.length) : l.drop i = l[i] :: l.drop (i + 1) := List.drop_eq_getElem_cons h
theorem valid_len {a b p : Int} {d : List Int} (hv : validI a b p d = true) : d.length ≤ 1024 := by
 obtain ⟨an, bn, pn, _, _, _, q1, q2, q3, q4, q5, q6, q7⟩ := nat_of hv
 rw [q7]
 exact Nat.mul_le_mul (Nat.mul_le_mul q4 q2) q6
theorem impl_copyImage_px (a b p : Int) (d : List Int) (hl : d.length ≤ 1000000) : impl_copyImage.f a b p d = some (a, b, p, d) := by
 unfold impl_copyImage.f
 simp only [Option.bind_some]
 rw [if_pos (by simp; omega)]
 simp
theorem specRun_loop (l : List Step) (hs : ∀ s ∈ l, s.f2.length ≤ 1000000000) (hl : l.length ≤ 1000000000) : ∀ (n i : Nat) (a b p : Int) (d : List Int), i + n = l.length → validI a b p d = true →
  Ev (fun k => spec_RunSteps.l0 k l (i : Int) a b p d) (runV a b p d (l.drop i) i)
 | 0, i, a, b, p, d, hi, hv => by
  rw [List.drop_of_length_le (by omega)]
  refine Ev.step (f := fun _ => some (a, b, p, d, (l.length : Int))) (fun k => by simp only [spec_RunSteps.l0]; rw [if_neg (by omega)]) (ev_val (Ev.now _) ?_)
  unfold runV
  rw [show i = l.length by omega]
 | n + 1, i, a, b, p, d, hi, hv => by
  have hlt : i < l.length := by omega
  have hS := spec_step hv l[i] (hs _ (List.getElem_mem hlt))
  rw [drop_at l i hlt, runV]
  by_cases c : (stepV a b p d l[i]).2.2.2.2 = true
  ·rw [if_pos c]
   have ih := specRun_loop l hs hl n (i + 1) _ _ _ _ (by omega) (step_valid hv c)
   refine Ev.step (f := fun k => (spec_doStep.f k a b p d l[i].f0 l[i].f1.f0 l[i].f1.f1 l[i].f1.f2 l[i].f1.f3 l[i].f2).bind fun t => if t.2.2.2.2 = true then spec_RunSteps.l0 k l ((i + 1 : Nat) : Int) t.1 t.2.1 t.2.2.1 t.2.2.2.1 else some (a, b, p, d, (i : Int))) (fun k => ?_) (ev_bind hS (ev_pos c ih))
   simp only [spec_RunSteps.l0]
   rw [if_pos (by omega), if_pos (by omega), rdS_nat l i hlt, w64n i (by omega)]
  ·rw [if_neg c]
   refine Ev.step (f := fun k => (spec_doStep.f k a b p d l[i].f0 l[i].f1.f0 l[i].f1.f1 l[i].f1.f2 l[i].f1.f3 l[i].f2).bind fun t => if t.2.2.2.2 = true then spec_RunSteps.l0 k l ((i + 1 : Nat) : Int) t.1 t.2.1 t.2.2.1 t.2.2.2.1 else some (a, b, p, d, (i : Int))) (fun k => ?_) (ev_bind hS (ev_neg c (Ev.now _)))
   simp only [spec_RunSteps.l0]
   rw [if_pos (by omega), if_pos (by omega), rdS_nat l i hlt, w64n i (by omega)]
theorem spec_RunSteps_ev (a b p : Int) (d : List Int) (l : List Step) (hd : d.length ≤ 2000000) (hs : ∀ s ∈ l, s.f2.length ≤ 1000000000) : Ev (fun k => spec_RunSteps.f k a b p d l) (runsV a b p d l) := by
 unfold spec_RunSteps.f runsV
 refine ev_bind (spec_validImage_ev a b p d (by omega)) ?_
 by_cases c : validI a b p d = true
 ·refine ev_pos c ?_
  by_cases c2 : l.length ≤ 12
  ·rw [if_pos ⟨c, c2⟩]
   have h := specRun_loop l hs (by omega) l.length 0 a b p d (by omega) c
   rw [List.drop_zero] at h
   refine Ev.step (f := fun k => (spec_copyImage.f a b p d).bind fun t => spec_RunSteps.l0 k l 0 t.1 t.2.1 t.2.2.1 t.2.2.2) (fun k => ?_) (ev_now (copyImage_px a b p d (by have := valid_len c; omega)) h)
   simp only [spec_RunSteps.j0]
   rw [if_neg (by simp; omega)]
  ·rw [if_neg (fun h => c2 h.2)]
   refine Ev.step (f := fun _ => some (0, 0, 0, [], -1)) (fun k => ?_) (Ev.now _)
   simp only [spec_RunSteps.j0]
   rw [if_pos (by simp; omega)]
 ·rw [if_neg (fun h => c h.1)]
  refine ev_neg c (Ev.step (f := fun _ => some (0, 0, 0, [], -1)) (fun k => ?_) (Ev.now _))
  simp only [spec_RunSteps.j0]
  rw [if_pos trivial]
theorem implRun_loop (l : List Step) (hl : l.length ≤ 1000000000) : ∀ (n i : Nat) (a b p : Int) (d : List Int), i + n = l.length → validI a b p d = true →
  Ev (fun k => impl_RunSteps.l0 k l l (l.length : Int) (i : Int) a b p d) (runV a b p d (l.drop i) i)
 | 0, i, a, b, p, d, hi, hv => by
  rw [List.drop_of_length_le (by omega)]
  refine Ev.step (f := fun _ => some (a, b, p, d, (l.length : Int))) (fun k => by simp only [impl_RunSteps.l0]; rw [if_neg (by omega)]) (ev_val (Ev.now _) ?_)
  unfold runV
  rw [show i = l.length by omega]
 | n + 1, i, a, b, p, d, hi, hv => by
  have hlt : i < l.length := by omega
  have hS := impl_step hv l[i]
  rw [drop_at l i hlt, runV]
  by_cases c : (stepV a b p d l[i]).2.2.2.2 = true
  ·rw [if_pos c]
   have ih := implRun_loop l hl n (i + 1) _ _ _ _ (by omega) (step_valid hv c)
   refine Ev.step (f := fun k => (impl_doStep.f a b p d l[i].f0 l[i].f1.f0 l[i].f1.f1 l[i].f1.f2 l[i].f1.f3 l[i].f2).bind fun t => if t.2.2.2.2 = true then impl_RunSteps.l0 k l l (l.length : Int) ((i + 1 : Nat) : Int) t.1 t.2.1 t.2.2.1 t.2.2.2.1 else some (a, b, p, d, (i : Int))) (fun k => ?_) (ev_now hS (ev_pos c ih))
   simp only [impl_RunSteps.l0]
   rw [if_pos (by omega), if_pos (by omega), if_pos (by omega), rdS_nat l i hlt, w64n i (by omega)]
  ·rw [if_neg c]
   refine Ev.step (f := fun k => (impl_doStep.f a b p d l[i].f0 l[i].f1.f0 l[i].f1.f1 l[i].f1.f2 l[i].f1.f3 l[i].f2).bind fun t => if t.2.2.2.2 = true then impl_RunSteps.l0 k l l (l.length : Int) ((i + 1 : Nat) : Int) t.1 t.2.1 t.2.2.1 t.2.2.2.1 else some (a, b, p, d, (i : Int))) (fun k => ?_) (ev_now hS (ev_neg c (Ev.now _)))
   simp only [impl_RunSteps.l0]
   rw [if_pos (by omega), if_pos (by omega), if_pos (by omega), rdS_nat l i hlt, w64n i (by omega)]
theorem impl_RunSteps_ev (a b p : Int) (d : List Int) (l : List Step) : Ev (fun k => impl_RunSteps.f k a b p d l) (runsV a b p d l) := by
 unfold impl_RunSteps.f runsV
 refine ev_now (impl_isImage_eq a b p d) ?_
 by_cases c : validI a b p d = true
 ·refine ev_pos c ?_
  by_cases c2 : l.length ≤ 12
  ·rw [if_pos ⟨c, c2⟩]
   have h := implRun_loop l (by omega) l.length 0 a b p d (by omega) c
   rw [List.drop_zero] at h
   refine Ev.step (f := fun k => (impl_copyImage.f a b p d).bind fun t => impl_RunSteps.l0 k l l (l.length : Int) 0 t.1 t.2.1 t.2.2.1 t.2.2.2) (fun k => ?_) (ev_now (impl_copyImage_px a b p d (by have := valid_len c; omega)) h)
   simp only [impl_RunSteps.j0]
   rw [if_neg (by simp; omega)]
  ·rw [if_neg (fun h => c2 h.2)]
   refine Ev.step (f := fun _ => some (0, 0, 0, [], -1)) (fun k => ?_) (Ev.now _)
   simp only [impl_RunSteps.j0]
   rw [if_pos (by simp; omega)]
 ·rw [if_neg (fun h => c h.1)]
  refine ev_neg c (Ev.step (f := fun _ => some (0, 0, 0, [], -1)) (fun k => ?_) (Ev.now _))
  simp only [impl_RunSteps.j0]
  rw [if_pos trivial]

/- The reader of draws: whatever the code's bytes are, it answers, in range. -/

/-- What a reader reads from: at most 2000 bytes. -/
def Bytes (b : List Int) : Prop := b.length ≤ 2000 ∧ ∀ x ∈ b, 0 ≤ x ∧ x ≤ 255
theorem Bytes.rd_ {b : List Int} (h : Bytes b) (i : Int) : 0 ≤ rd b i ∧ rd b i ≤ 255 := by
  unfold rd
  by_cases c : i.toNat < b.length
  · rw [List.getD_eq_getElem?_getD, List.getElem?_eq_getElem c]; exact h.2 _ (List.getElem_mem c)
  · rw [List.getD_eq_getElem?_getD, List.getElem?_eq_none (by omega)]; simp
theorem xor_nn (a b : Int) (ha : 0 ≤ a) (ha' : a < 4611686018427387904) (hb : 0 ≤ b) (hb' : b < 4611686018427387904) : 0 ≤ Go.bits .xor .i64 a b := by
  obtain ⟨a, rfl⟩ := Int.eq_ofNat_of_zero_le ha
  obtain ⟨b, rfl⟩ := Int.eq_ofNat_of_zero_le hb
  have ha2 : a < 2 ^ 62 := by have : (2 : Nat) ^ 62 = 4611686018427387904 := by decide +kernel
                              omega
  have hb2 : b < 2 ^ 62 := by have : (2 : Nat) ^ 62 = 4611686018427387904 := by decide +kernel
                              omega
  have e64 : IntKind.bits .i64 = 64 := rfl
  have hx := Nat.xor_lt_two_pow ha2 hb2
  have h62 : (2 : Nat) ^ 62 = 4611686018427387904 := by decide +kernel
  have h64 : (2 : Nat) ^ 64 = 18446744073709551616 := by decide +kernel
  simp only [Go.bits, BitVec.ofInt_natCast, BitVec.toNat_xor, BitVec.toNat_ofNat, e64]
  rw [Nat.mod_eq_of_lt (by omega), Nat.mod_eq_of_lt (by omega), IntKind.wrap_i64]
  generalize a ^^^ b = z at *
  omega
theorem tmod_range (x n : Int) (hx : 0 ≤ x) (hn : 1 ≤ n) : 0 ≤ Int.tmod x n ∧ Int.tmod x n < n := by
  rw [tmod_nn _ _ hx]
  exact ⟨Int.emod_nonneg _ (by omega), Int.emod_lt_of_pos _ (by omega)⟩
theorem pick_at (b : List Int) (p n : Int) (hb : Bytes b) (hp0 : 0 ≤ p) (hp : p ≤ 1000000000000) :
    ∃ v, (∀ k, 0 < k → spec_reader_pick.f k b p n = some (v, p + 1)) ∧ 0 ≤ v ∧ (1 ≤ n → v < n) ∧ (n < 1 → v = 0) := by
  by_cases hn : n < 1
  · refine ⟨0, fun k hk => ?_, by omega, by omega, fun _ => rfl⟩
    obtain ⟨k, rfl⟩ : ∃ m, k = m + 1 := ⟨k - 1, by omega⟩
    unfold spec_reader_pick.f
    rw [if_pos hn, w64 (by omega) (by omega)]
    simp only [spec_reader_pick.j0, if_true]
  by_cases he : b.length = 0
  · refine ⟨0, fun k hk => ?_, by omega, by omega, fun _ => rfl⟩
    obtain ⟨k, rfl⟩ : ∃ m, k = m + 1 := ⟨k - 1, by omega⟩
    unfold spec_reader_pick.f
    rw [if_neg hn, w64 (by omega) (by omega)]
    simp only [spec_reader_pick.j0, he]; simp
  have hlen := hb.1
  by_cases hlt : p < (b.length : Int)
  · have hr := hb.rd_ p
    have ht := tmod_range (rd b p) n hr.1 (by omega)
    refine ⟨Int.tmod (rd b p) n, fun k hk => ?_, ht.1, fun _ => ht.2, by omega⟩
    obtain ⟨k, rfl⟩ : ∃ m, k = m + 1 := ⟨k - 1, by omega⟩
    unfold spec_reader_pick.f
    rw [if_neg hn, w64 (x := p + 1) (by omega) (by omega)]
    simp only [spec_reader_pick.j0]
    rw [if_neg (by simp only [beq_iff_eq]; omega), w64 (x := p + 1 - 1) (by omega) (by omega), show p + 1 - 1 = p by omega, if_pos hlt, if_pos hp0, if_neg (by omega), w64 (x := rd b p) (by omega) (by omega)]
  · have h1 := tmod_range p (b.length : Int) hp0 (by omega)
    have h2 := tmod_range (p * 7 + 3) (b.length : Int) (by omega) (by omega)
    have r1 := hb.rd_ (Int.tmod p (b.length : Int))
    have r2 := hb.rd_ (Int.tmod (p * 7 + 3) (b.length : Int))
    have hd : 0 ≤ Int.tdiv p (b.length : Int) ∧ Int.tdiv p (b.length : Int) ≤ p := by
      rw [tdiv_nn _ _ hp0]
      exact ⟨Int.ediv_nonneg hp0 (by omega), Int.ediv_le_self _ hp0⟩
    generalize h1e : Int.tmod p (b.length : Int) = t1 at *
    generalize h2e : Int.tmod (p * 7 + 3) (b.length : Int) = t2 at *
    generalize hde : Int.tdiv p (b.length : Int) = d at *
    generalize hr1e : rd b t1 = x1 at *
    generalize hr2e : rd b t2 = x2 at *
    have hx := xor_nn (x1 * 131 + x2 * 1117 + p * 29 + d * 53) ((x1 * 131 + x2 * 1117 + p * 29 + d * 53) / 64) (by omega) (by omega) (by omega) (by omega)
    have ht := tmod_range _ n hx (by omega)
    refine ⟨Int.tmod (Go.bits .xor .i64 (x1 * 131 + x2 * 1117 + p * 29 + d * 53) ((x1 * 131 + x2 * 1117 + p * 29 + d * 53) / 64)) n, fun k hk => ?_, ht.1, fun _ => ht.2, by omega⟩
    obtain ⟨k, rfl⟩ : ∃ m, k = m + 1 := ⟨k - 1, by omega⟩
    unfold spec_reader_pick.f
    rw [if_neg hn, w64 (x := p + 1) (by omega) (by omega)]
    simp only [spec_reader_pick.j0]
    rw [if_neg (by simp only [beq_iff_eq]; omega), w64 (x := p + 1 - 1) (by omega) (by omega), show p + 1 - 1 = p by omega, if_neg hlt, if_neg (by omega),
      w64 (x := p * 7) (by omega) (by omega), w64 (x := p * 7 + 3) (by omega) (by omega), h1e, h2e, hde, hr1e, hr2e, if_pos (by omega), if_pos (by omega), if_pos (by omega), if_pos (by omega), if_neg (by omega),
      w64 (x := x1) (by omega) (by omega), w64 (x := x2) (by omega) (by omega), w64 (x := d) (by omega) (by omega), w64 (x := x1 * 131) (by omega) (by omega), w64 (x := x2 * 1117) (by omega) (by omega), w64 (x := p * 29) (by omega) (by omega), w64 (x := d * 53) (by omega) (by omega),
      w64 (x := x1 * 131 + x2 * 1117) (by omega) (by omega), w64 (x := x1 * 131 + x2 * 1117 + p * 29) (by omega) (by omega), w64 (x := x1 * 131 + x2 * 1117 + p * 29 + d * 53) (by omega) (by omega), tdiv_nn _ 64 (by omega),
      w64 (x := (x1 * 131 + x2 * 1117 + p * 29 + d * 53) / 64) (by omega) (by omega)]
theorem one_at (b : List Int) (p : Int) (l : List Int) (hl : 0 < l.length) (hl' : l.length ≤ 1000) (hb : Bytes b) (hp0 : 0 ≤ p) (hp : p ≤ 1000000000000) :
    ∃ v, (∀ k, 0 < k → spec_reader_one.f k b p l = some (v, p + 1)) ∧ v ∈ l := by
  obtain ⟨v, hv, h0, h1, _⟩ := pick_at b p (l.length : Int) hb hp0 hp
  have h1' := h1 (by omega)
  obtain ⟨v, rfl⟩ := Int.eq_ofNat_of_zero_le h0
  refine ⟨l[v]'(by omega), fun k hk => ?_, List.getElem_mem _⟩
  unfold spec_reader_one.f
  rw [hv k hk]
  simp only [Option.bind_some]
  rw [if_pos (by omega), if_pos (by omega), rd_nat l v (by omega)]
theorem newReader_at (l : List Int) (h : ∀ x ∈ l, 0 ≤ x ∧ x ≤ 255) : ∃ b, spec_newReader.f l = some (b, 0) ∧ Bytes b := by
  unfold spec_newReader.f
  by_cases c : (l.length : Int) > 2000
  · rw [if_pos c, if_pos (by omega)]
    exact ⟨_, rfl, by rw [List.length_take]; omega, fun x hx => h x (List.mem_of_mem_take hx)⟩
  · rw [if_neg c]
    exact ⟨_, rfl, by omega, h⟩
/-- What a law is told of its code: bytes. -/
theorem code_bytes (l : List Int) (h : ∀ x ∈ l, (Lit.int .u8 x).wf = true) : ∀ x ∈ l, 0 ≤ x ∧ x ≤ 255 := by
  intro x hx
  have := h x hx
  simp only [Lit.wf, Bool.and_eq_true, decide_eq_true_eq] at this
  have e1 : IntKind.min .u8 = 0 := by decide
  have e2 : IntKind.max .u8 = 255 := by decide
  omega

/- Images that are drawn from bytes. -/

theorem one_in (b : List Int) (p : Int) (l : List Int) (hl : 0 < l.length) (hl' : l.length ≤ 1000) (hb : Bytes b) (hp0 : 0 ≤ p) (hp : p ≤ 1000000000000) : ∃ v, Ev (fun k => spec_reader_one.f k b p l) (v, p + 1) ∧ v ∈ l := by
 obtain ⟨v, h, hv⟩ := one_at b p l hl hl' hb hp0 hp
 exact ⟨v, ev_of 0 h, hv⟩
theorem pick_in (b : List Int) (p n : Int) (hn : 1 ≤ n) (hb : Bytes b) (hp0 : 0 ≤ p) (hp : p ≤ 1000000000000) : ∃ v, Ev (fun k => spec_reader_pick.f k b p n) (v, p + 1) ∧ 0 ≤ v ∧ v < n := by
 obtain ⟨v, h, h0, h1, _⟩ := pick_at b p n hb hp0 hp
 exact ⟨v, ev_of 0 h, h0, h1 hn⟩
theorem newImage_eq (w h p : Int) (hs : 1 ≤ w ∧ w ≤ 16 ∧ 1 ≤ h ∧ h ≤ 16 ∧ 1 ≤ p ∧ p ≤ 4) : spec_newImage.f w h p = some (w, h, p, List.replicate (w * h * p).toNat 0) := by
 have := shape_prod hs
 unfold spec_newImage.f
 rw [shape_wrap hs, if_pos (by omega), if_pos (by omega)]
theorem randomLoop (b : List Int) (hb : Bytes b) (m : Int) (w h p : Int) : ∀ (n i : Nat) (x pos : Int) (d : List Int), i + n = d.length → 0 ≤ pos → pos + n ≤ 1000000000000 → d.length ≤ 1000000 →
  ∃ (d' : List Int) (q : Int), d'.length = d.length ∧ pos ≤ q ∧ q ≤ pos + n ∧ Ev (fun k => spec_randomImage.l0 k m x (i : Int) b pos w h p d) (w, h, p, d', q) := by
 intro n
 induction n with
 | zero =>
  intro i x pos d hi h0 h1 h2
  refine ⟨d, pos, rfl, by omega, by omega, ?_⟩
  refine Ev.step (f := fun _ => some (w, h, p, d, pos)) (fun k => ?_) (Ev.now _)
  simp only [spec_randomImage.l0]
  rw [if_neg (by omega)]
 | succ n ih =>
  intro i x pos d hi h0 h1 h2
  have go : ∀ (v x' pos' : Int), pos ≤ pos' → pos' ≤ pos + 1 → ∃ (d' : List Int) (q : Int), d'.length = d.length ∧ pos ≤ q ∧ q ≤ pos + ((n + 1 : Nat) : Int) ∧ Ev (fun k => spec_randomImage.l0 k m x' ((i + 1 : Nat) : Int) b pos' w h p (d.set i v)) (w, h, p, d', q) := by
   intro v x' pos' a1 a2
   obtain ⟨d', q, e1, e2, e3, e4⟩ := ih (i + 1) x' pos' (d.set i v) (by rw [List.length_set]; omega) (by omega) (by omega) (by rw [List.length_set]; omega)
   exact ⟨d', q, by rw [e1, List.length_set], by omega, by omega, e4⟩
  by_cases c0 : m = 0
  ·obtain ⟨v, hv, _, _⟩ := pick_in b pos 256 (by omega) hb h0 (by omega)
   obtain ⟨d', q, e1, e2, e3, e4⟩ := go v v (pos + 1) (by omega) (by omega)
   refine ⟨d', q, e1, e2, e3, ?_⟩
   refine Ev.step (f := fun k => (spec_reader_pick.f k b pos 256).bind fun bt => if 0 ≤ (i : Int) then spec_randomImage.l0 k m bt.1 (wrap64 ((i : Int) + 1)) b bt.2 w h p (d.set (i : Int).toNat bt.1) else none) (fun k => ?_) ?_
   ·simp only [spec_randomImage.l0]
    rw [if_pos (by omega), if_pos c0]
   ·refine ev_bind hv (ev_pos (by omega) ?_)
    simp only [Int.toNat_natCast, w64n i (by omega)]
    exact e4
  ·by_cases c1 : m = 1
   ·obtain ⟨v, hv, _, _⟩ := pick_in b pos 5 (by omega) hb h0 (by omega)
    obtain ⟨d', q, e1, e2, e3, e4⟩ := go (Int.tmod (wrap64 ((wrap64 (x + v)) + 254)) 256) (Int.tmod (wrap64 ((wrap64 (x + v)) + 254)) 256) (pos + 1) (by omega) (by omega)
    refine ⟨d', q, e1, e2, e3, ?_⟩
    refine Ev.step (f := fun k => (spec_reader_pick.f k b pos 5).bind fun bt => if 0 ≤ (i : Int) then spec_randomImage.l0 k m (Int.tmod (wrap64 ((wrap64 (x + bt.1)) + 254)) 256) (wrap64 ((i : Int) + 1)) b bt.2 w h p (d.set (i : Int).toNat (Int.tmod (wrap64 ((wrap64 (x + bt.1)) + 254)) 256)) else none) (fun k => ?_) ?_
    ·simp only [spec_randomImage.l0]
     rw [if_pos (by omega), if_neg c0, if_pos c1]
    ·refine ev_bind hv (ev_pos (by omega) ?_)
     simp only [Int.toNat_natCast, w64n i (by omega)]
     exact e4
   ·by_cases c2 : m = 2
    ·obtain ⟨v, hv, _, _⟩ := pick_in b pos 4 (by omega) hb h0 (by omega)
     obtain ⟨d', q, e1, e2, e3, e4⟩ := go (wrap64 (60 * v)) (wrap64 (60 * v)) (pos + 1) (by omega) (by omega)
     refine ⟨d', q, e1, e2, e3, ?_⟩
     refine Ev.step (f := fun k => (spec_reader_pick.f k b pos 4).bind fun bt => if 0 ≤ (i : Int) then spec_randomImage.l0 k m (wrap64 (60 * bt.1)) (wrap64 ((i : Int) + 1)) b bt.2 w h p (d.set (i : Int).toNat (wrap64 (60 * bt.1))) else none) (fun k => ?_) ?_
     ·simp only [spec_randomImage.l0]
      rw [if_pos (by omega), if_neg c0, if_neg c1, if_pos c2]
     ·refine ev_bind hv (ev_pos (by omega) ?_)
      simp only [Int.toNat_natCast, w64n i (by omega)]
      exact e4
    ·obtain ⟨d', q, e1, e2, e3, e4⟩ := go x x pos (by omega) (by omega)
     refine ⟨d', q, e1, e2, e3, Ev.step (fun k => ?_) e4⟩
     simp only [spec_randomImage.l0]
     rw [if_pos (by omega), if_neg c0, if_neg c1, if_neg c2, if_pos (by omega), Int.toNat_natCast, w64n i (by omega)]
theorem randomImage_ev (b : List Int) (pos p : Int) (hb : Bytes b) (h0 : 0 ≤ pos) (h1 : pos ≤ 100000000) (hp : 1 ≤ p ∧ p ≤ 4) :
  ∃ (w h : Int) (d : List Int) (q : Int), 1 ≤ w ∧ w ≤ 8 ∧ 1 ≤ h ∧ h ≤ 8 ∧ (d.length : Int) = w * h * p ∧ 1 ≤ d.length ∧ d.length ≤ 1024 ∧ pos ≤ q ∧ q ≤ pos + 2000 ∧ Ev (fun k => spec_randomImage.f k b pos p) (w, h, p, d, q) := by
 obtain ⟨w, hw, mw⟩ := one_in b pos [3, 4, 2, 5, 1, 8, 6] (by simp) (by simp) hb h0 (by omega)
 obtain ⟨h, hh, mh⟩ := one_in b (pos + 1) [3, 2, 4, 1, 5, 8] (by simp) (by simp) hb (by omega) (by omega)
 obtain ⟨m, hm, _, _⟩ := pick_in b (pos + 1 + 1) 4 (by omega) hb (by omega) (by omega)
 obtain ⟨x, hx, _, _⟩ := pick_in b (pos + 1 + 1 + 1) 256 (by omega) hb (by omega) (by omega)
 have bw : 1 ≤ w ∧ w ≤ 8 := by simp only [List.mem_cons, List.not_mem_nil, or_false] at mw; omega
 have bh : 1 ≤ h ∧ h ≤ 8 := by simp only [List.mem_cons, List.not_mem_nil, or_false] at mh; omega
 have hs : 1 ≤ w ∧ w ≤ 16 ∧ 1 ≤ h ∧ h ≤ 16 ∧ 1 ≤ p ∧ p ≤ 4 := by omega
 have hpr := shape_prod hs
 have hpos : 1 ≤ w * h * p := by
  have e1 : 1 * 1 ≤ w * h := Int.mul_le_mul (by omega) (by omega) (by omega) (by omega)
  have e2 : 1 * 1 ≤ w * h * p := Int.mul_le_mul (by omega) (by omega) (by omega) (by omega)
  omega
 have hlen : (List.replicate (w * h * p).toNat (0 : Int)).length = (w * h * p).toNat := List.length_replicate
 obtain ⟨d', q, e1, e2, e3, e4⟩ := randomLoop b hb m w h p (w * h * p).toNat 0 x (pos + 1 + 1 + 1 + 1) (List.replicate (w * h * p).toNat 0) (by omega) (by omega) (by omega) (by omega)
 refine ⟨w, h, d', q, bw.1, bw.2, bh.1, bh.2, by omega, by omega, by omega, by omega, by omega, ?_⟩
 unfold spec_randomImage.f
 exact ev_bind hw (ev_bind hh (ev_now (newImage_eq w h p hs) (ev_bind hm (ev_bind hx e4))))
theorem anyPlanes_ev (b : List Int) (pos : Int) (hb : Bytes b) (h0 : 0 ≤ pos) (h1 : pos ≤ 100000000) : ∃ p, 1 ≤ p ∧ p ≤ 4 ∧ Ev (fun k => spec_anyPlanes.f k b pos) (p, pos + 1) := by
 obtain ⟨p, hp, mp⟩ := one_in b pos [1, 3, 1, 4, 2] (by simp) (by simp) hb h0 (by omega)
 simp only [List.mem_cons, List.not_mem_nil, or_false] at mp
 refine ⟨p, by omega, by omega, ?_⟩
 unfold spec_anyPlanes.f
 exact ev_bind hp (Ev.now _)

/- A box that is drawn from bytes. -/

theorem anyBox_any (b : List Int) (pos : Int) (hB : Bytes b) (h0 : 0 ≤ pos) (h1 : pos ≤ 1000000) : ∃ (X Y W H : Int), Ev (fun k => spec_anyBox.f k b pos) (X, Y, W, H, pos + 1 + 1 + 1 + 1) := by
 obtain ⟨x0, g0, _⟩ := one_at b pos [0, 1, 2, (-1), 0, 4] (by simp) (by simp) hB (by omega) (by omega)
 obtain ⟨x1, g1, _⟩ := one_at b (pos + 1) [0, 1, 0, 2, (-1)] (by simp) (by simp) hB (by omega) (by omega)
 obtain ⟨x2, g2, _⟩ := one_at b (pos + 1 + 1) [1, 2, 3, 1, 0, 16] (by simp) (by simp) hB (by omega) (by omega)
 obtain ⟨x3, g3, _⟩ := one_at b (pos + 1 + 1 + 1) [1, 2, 1, 3, 0] (by simp) (by simp) hB (by omega) (by omega)
 refine ⟨x0, x1, x2, x3, ?_⟩
 unfold spec_anyBox.f
 exact ev_bind (ev_of 0 g0) (ev_bind (ev_of 0 g1) (ev_bind (ev_of 0 g2) (ev_bind (ev_of 0 g3) (Ev.now _))))

/- Steps that are drawn from bytes. -/

theorem copyI_px (l : List Int) (hl : l.length ≤ 1000000) : spec_copyInts.f l = some l := by
 unfold spec_copyInts.f
 simp only [Option.bind_some]
 rw [if_pos (by simp; omega)]
 simp
theorem spoilImage_p (b : List Int) (pos : Int) (w h p : Int) (d : List Int) (hb : Bytes b) (h0 : 0 ≤ pos) (h1 : pos ≤ 100000000) (hd : 1 ≤ d.length) (hp : 0 ≤ p ∧ p ≤ 5) :
  ∃ (w' h' p' : Int) (d' : List Int) (q : Int), d'.length ≤ d.length ∧ 0 ≤ p' ∧ p' ≤ 5 ∧ pos ≤ q ∧ q ≤ pos + 2 ∧ Ev (fun k => spec_spoilImage.f k b pos w h p d) (w', h', p', d', q) := by
 obtain ⟨v, hv, _, _⟩ := pick_in b pos 40 (by omega) hb h0 (by omega)
 unfold spec_spoilImage.f
 by_cases c0 : v = 0
 ·obtain ⟨x, hx, _⟩ := one_in b (pos + 1) [0, 17, wrap64 (w + 1)] (by simp) (by simp) hb (by omega) (by omega)
  exact ⟨x, h, p, d, pos + 1 + 1, by omega, hp.1, hp.2, by omega, by omega, ev_bind hv (ev_pos c0 (ev_bind hx (Ev.now _)))⟩
 ·by_cases c1 : v = 1
  ·exact ⟨w, h, p, d.drop (1 : Int).toNat, pos + 1, by rw [List.length_drop]; omega, hp.1, hp.2, by omega, by omega, ev_bind hv (ev_neg c0 (ev_pos c1 (ev_pos (by omega) (Ev.now _))))⟩
  ·by_cases c2 : v = 2
   ·obtain ⟨x, hx, _⟩ := one_in b (pos + 1) [(-1), 256] (by simp) (by simp) hb (by omega) (by omega)
    exact ⟨w, h, p, d.set (0 : Int).toNat x, pos + 1 + 1, by rw [List.length_set]; omega, hp.1, hp.2, by omega, by omega, ev_bind hv (ev_neg c0 (ev_neg c1 (ev_pos c2 (ev_bind hx (ev_pos (by omega) (Ev.now _))))))⟩
   ·by_cases c3 : v = 3
    ·obtain ⟨x, hx, mx⟩ := one_in b (pos + 1) [0, 5] (by simp) (by simp) hb (by omega) (by omega)
     have bx : 0 ≤ x ∧ x ≤ 5 := by simp only [List.mem_cons, List.not_mem_nil, or_false] at mx; omega
     exact ⟨w, h, x, d, pos + 1 + 1, by omega, bx.1, bx.2, by omega, by omega, ev_bind hv (ev_neg c0 (ev_neg c1 (ev_neg c2 (ev_pos c3 (ev_bind hx (Ev.now _))))))⟩
    ·exact ⟨w, h, p, d, pos + 1, by omega, hp.1, hp.2, by omega, by omega, ev_bind hv (ev_neg c0 (ev_neg c1 (ev_neg c2 (ev_neg c3 (Ev.now _)))))⟩
theorem anyImage_p (b : List Int) (pos : Int) (hb : Bytes b) (h0 : 0 ≤ pos) (h1 : pos ≤ 90000000) :
  ∃ (w h p : Int) (d : List Int) (q : Int), d.length ≤ 1024 ∧ 0 ≤ p ∧ p ≤ 5 ∧ pos ≤ q ∧ q ≤ pos + 3000 ∧ Ev (fun k => spec_anyImage.f k b pos) (w, h, p, d, q) := by
 obtain ⟨p, p1, p2, hp⟩ := anyPlanes_ev b pos hb h0 (by omega)
 obtain ⟨w, h, d, q, _, _, _, _, _, d1, d2, q1, q2, hr⟩ := randomImage_ev b (pos + 1) p hb (by omega) (by omega) ⟨p1, p2⟩
 obtain ⟨w', h', p', d', q', d3, p3, p4, q3, q4, hs⟩ := spoilImage_p b q w h p d hb (by omega) (by omega) d1 (by omega)
 refine ⟨w', h', p', d', q', by omega, p3, p4, by omega, by omega, ?_⟩
 unfold spec_anyImage.f
 exact ev_bind hp (ev_bind hr (ev_bind hs (Ev.now _)))
theorem spoil_ev (b : List Int) (pos z : Int) (l : List Int) (hb : Bytes b) (h0 : 0 ≤ pos) (h1 : pos ≤ 100000000) (hl : l.length ≤ 1000) :
  ∃ (l' : List Int) (q : Int), l'.length ≤ l.length + 1 ∧ pos ≤ q ∧ q ≤ pos + 3 ∧ Ev (fun k => spec_reader_spoil.f k b pos l z) (l', q) := by
 obtain ⟨v, hv, _, _⟩ := pick_in b pos 20 (by omega) hb h0 (by omega)
 unfold spec_reader_spoil.f
 have hc := copyI_px l (by omega)
 by_cases c0 : v = 0
 ·exact ⟨l ++ [z], pos + 1, by simp, by omega, by omega, ev_now hc (ev_bind hv (ev_pos c0 (ev_pos (by omega) (Ev.now _))))⟩
 ·by_cases c1 : v = 1
  ·by_cases c2 : (l.length : Int) > 0
   ·exact ⟨l.drop (1 : Int).toNat, pos + 1, by rw [List.length_drop]; omega, by omega, by omega, ev_now hc (ev_bind hv (ev_neg c0 (ev_pos c1 (ev_pos c2 (ev_pos (by omega) (Ev.now _))))))⟩
   ·exact ⟨l, pos + 1, by omega, by omega, by omega, ev_now hc (ev_bind hv (ev_neg c0 (ev_pos c1 (ev_neg c2 (Ev.now _)))))⟩
  ·by_cases c2 : v = 2
   ·by_cases c3 : (l.length : Int) > 0
    ·obtain ⟨i, hi, i0, i1⟩ := pick_in b (pos + 1) (l.length : Int) (by omega) hb (by omega) (by omega)
     obtain ⟨x, hx, _⟩ := one_in b (pos + 1 + 1) [(-1), z, 0, 1] (by simp) (by simp) hb (by omega) (by omega)
     exact ⟨l.set i.toNat x, pos + 1 + 1 + 1, by rw [List.length_set]; omega, by omega, by omega, ev_now hc (ev_bind hv (ev_neg c0 (ev_neg c1 (ev_pos c2 (ev_pos c3 (ev_bind hi (ev_bind hx (ev_pos i0 (ev_pos i1 (Ev.now _))))))))))⟩
    ·exact ⟨l, pos + 1, by omega, by omega, by omega, ev_now hc (ev_bind hv (ev_neg c0 (ev_neg c1 (ev_pos c2 (ev_neg c3 (Ev.now _))))))⟩
   ·exact ⟨l, pos + 1, by omega, by omega, by omega, ev_now hc (ev_bind hv (ev_neg c0 (ev_neg c1 (ev_neg c2 (Ev.now _)))))⟩
theorem anyPixelLoop (b : List Int) (p : Int) (hb : Bytes b) : ∀ (n i : Nat) (pos : Int) (l : List Int), (i : Int) + n = p → i + n ≤ 5 → l.length = i → 0 ≤ pos → pos + n ≤ 90000010 →
  ∃ (l' : List Int) (q : Int), l'.length ≤ 100 ∧ pos ≤ q ∧ q ≤ pos + n + 3 ∧ Ev (fun k => spec_anyPixel.l0 k p l (i : Int) b pos) (l', q) := by
 intro n
 induction n with
 | zero =>
  intro i pos l hi h5 hl h0 h1
  obtain ⟨l', q, e1, e2, e3, e4⟩ := spoil_ev b pos 256 l hb h0 (by omega) (by omega)
  refine ⟨l', q, by omega, e2, by omega, Ev.step (f := fun k => (spec_reader_spoil.f k b pos l 256).bind fun t => some (t.1, t.2)) (fun k => ?_) (ev_bind e4 (Ev.now _))⟩
  simp only [spec_anyPixel.l0]
  rw [if_neg (by omega)]
 | succ n ih =>
  intro i pos l hi h5 hl h0 h1
  obtain ⟨v, hv, _, _⟩ := pick_in b pos 256 (by omega) hb h0 (by omega)
  obtain ⟨l', q, e1, e2, e3, e4⟩ := ih (i + 1) (pos + 1) (l ++ [v]) (by omega) (by omega) (by simp [hl]) (by omega) (by omega)
  refine ⟨l', q, e1, by omega, by omega, Ev.step (f := fun k => (spec_reader_pick.f k b pos 256).bind fun t => if l.length < 17592186044416 then spec_anyPixel.l0 k p (l ++ [t.1]) ((i + 1 : Nat) : Int) b t.2 else none) (fun k => ?_) (ev_bind hv (ev_pos (by omega) e4))⟩
  simp only [spec_anyPixel.l0]
  rw [if_pos (by omega), w64n i (by omega)]
theorem anyPixel_ev (b : List Int) (pos p : Int) (hb : Bytes b) (h0 : 0 ≤ pos) (h1 : pos ≤ 90000000) (hp : 0 ≤ p ∧ p ≤ 5) :
  ∃ (l' : List Int) (q : Int), l'.length ≤ 100 ∧ pos ≤ q ∧ q ≤ pos + 8 ∧ Ev (fun k => spec_anyPixel.f k b pos p) (l', q) := by
 obtain ⟨n, rfl⟩ := Int.eq_ofNat_of_zero_le hp.1
 obtain ⟨l', q, e1, e2, e3, e4⟩ := anyPixelLoop b n hb n 0 pos [] (by omega) (by omega) rfl h0 (by omega)
 exact ⟨l', q, e1, e2, by omega, e4⟩

/- Rows of steps that are drawn from bytes. -/

theorem anyStep_q (b : List Int) (pos p : Int) (hb : Bytes b) (h0 : 0 ≤ pos) (h1 : pos ≤ 900000) (hp : 0 ≤ p ∧ p ≤ 5) :
  ∃ (kind X Y W H : Int) (pix : List Int) (q : Int), pix.length ≤ 100 ∧ pos ≤ q ∧ q ≤ pos + 50 ∧ Ev (fun k => spec_anyStep.f k b pos p) (kind, X, Y, W, H, pix, q) := by
 obtain ⟨kind, hk, _⟩ := one_in b pos [0, 1, 2, 3, 4, 0, 1, 2, 5, (-1)] (by simp) (by simp) hb h0 (by omega)
 have key : ∀ t : Bool, ∃ (X Y W H : Int) (pix : List Int) (q : Int), pix.length ≤ 100 ∧ pos ≤ q ∧ q ≤ pos + 50 ∧ Ev (fun k => spec_anyStep.j0 k p t b (pos + 1) kind 0 0 0 0) (kind, X, Y, W, H, pix, q) := by
  intro t
  cases t with
  | true =>
   obtain ⟨X, Y, W, H, hB⟩ := anyBox_any b (pos + 1) hb (by omega) (by omega)
   by_cases c : kind = 4
   ·obtain ⟨l, q, e1, e2, e3, e4⟩ := anyPixel_ev b (pos + 1 + 1 + 1 + 1 + 1) p hb (by omega) (by omega) hp
    refine ⟨X, Y, W, H, l, q, e1, by omega, by omega, Ev.step (f := fun k => (spec_anyBox.f k b (pos + 1)).bind fun t => if kind = 4 then ((spec_anyPixel.f k b t.2.2.2.2 p).bind fun u => some (kind, t.1, t.2.1, t.2.2.1, t.2.2.2.1, u.1, u.2)) else some (kind, t.1, t.2.1, t.2.2.1, t.2.2.2.1, [], t.2.2.2.2)) (fun k => ?_) (ev_bind hB (ev_pos c (ev_bind e4 (Ev.now _))))⟩
    simp only [spec_anyStep.j0]
    rw [if_pos trivial]
   ·refine ⟨X, Y, W, H, [], pos + 1 + 1 + 1 + 1 + 1, by simp, by omega, by omega, Ev.step (f := fun k => (spec_anyBox.f k b (pos + 1)).bind fun t => if kind = 4 then ((spec_anyPixel.f k b t.2.2.2.2 p).bind fun u => some (kind, t.1, t.2.1, t.2.2.1, t.2.2.2.1, u.1, u.2)) else some (kind, t.1, t.2.1, t.2.2.1, t.2.2.2.1, [], t.2.2.2.2)) (fun k => ?_) (ev_bind hB (ev_neg c (Ev.now _)))⟩
    simp only [spec_anyStep.j0]
    rw [if_pos trivial]
  | false =>
   by_cases c : kind = 4
   ·obtain ⟨l, q, e1, e2, e3, e4⟩ := anyPixel_ev b (pos + 1) p hb (by omega) (by omega) hp
    refine ⟨0, 0, 0, 0, l, q, e1, by omega, by omega, Ev.step (f := fun k => if kind = 4 then ((spec_anyPixel.f k b (pos + 1) p).bind fun u => some (kind, (0 : Int), (0 : Int), (0 : Int), (0 : Int), u.1, u.2)) else some (kind, 0, 0, 0, 0, [], pos + 1)) (fun k => ?_) (ev_pos c (ev_bind e4 (Ev.now _)))⟩
    simp only [spec_anyStep.j0]
    rw [if_neg (by simp)]
   ·refine ⟨0, 0, 0, 0, [], pos + 1, by simp, by omega, by omega, Ev.step (f := fun k => if kind = 4 then ((spec_anyPixel.f k b (pos + 1) p).bind fun u => some (kind, (0 : Int), (0 : Int), (0 : Int), (0 : Int), u.1, u.2)) else some (kind, 0, 0, 0, 0, [], pos + 1)) (fun k => ?_) (ev_neg c (Ev.now _))⟩
    simp only [spec_anyStep.j0]
    rw [if_neg (by simp)]
 unfold spec_anyStep.f
 by_cases c : kind = 3
 ·obtain ⟨X, Y, W, H, pix, q, e1, e2, e3, e4⟩ := key true
  exact ⟨kind, X, Y, W, H, pix, q, e1, e2, e3, ev_bind hk (ev_pos c e4)⟩
 ·obtain ⟨X, Y, W, H, pix, q, e1, e2, e3, e4⟩ := key (kind == 4)
  exact ⟨kind, X, Y, W, H, pix, q, e1, e2, e3, ev_bind hk (ev_neg c e4)⟩

abbrev StepD := S43
theorem anySteps_loop (b : List Int) (hb : Bytes b) (p : Int) (hp : 0 ≤ p ∧ p ≤ 5) : ∀ (n : Nat) (l : List StepD) (pos : Int), n ≤ 13 → 0 ≤ pos → pos ≤ 700000 - 60 * n → l.length + n ≤ 13 → (∀ s ∈ l, s.f2.length ≤ 100) →
  ∃ (l' : List StepD) (q : Int), l'.length ≤ 13 ∧ (∀ s ∈ l', s.f2.length ≤ 100) ∧ Ev (fun k => spec_anySteps.l0 k p l (n : Int) b pos) (l', q) := by
 intro n
 induction n with
 | zero => exact fun l pos _ h0 h1 hl hs => ⟨l, pos, by omega, hs, Ev.step (f := fun _ => some (l, pos)) (fun k => by simp only [spec_anySteps.l0]; rw [if_neg (by simp)]) (Ev.now _)⟩
 | succ n ih =>
  intro l pos hn h0 h1 hl hs
  obtain ⟨v, hv, v0, v1⟩ := pick_in b pos 3 (by omega) hb h0 (by omega)
  have e1 : wrap64 (((n + 1 : Nat) : Int) - 1) = (n : Int) := by rw [w64 (by omega) (by omega)]; omega
  by_cases c : v > 0
  ·obtain ⟨u, hu, u0, u1⟩ := pick_in b (pos + 1) 3 (by omega) hb (by omega) (by omega)
   obtain ⟨l', q, r1, r2, r3⟩ := ih (l ++ [(⟨u, ⟨0, 0, 0, 0⟩, []⟩ : StepD)]) (pos + 1 + 1) (by omega) (by omega) (by omega) (by simp; omega) (fun s h => by
    rcases List.mem_append.1 h with h | h
    ·exact hs s h
    ·rw [List.mem_singleton.1 h]; simp)
   refine ⟨l', q, r1, r2, Ev.step (f := fun k => (spec_reader_pick.f k b pos 3).bind fun t => if t.1 > 0 then ((spec_reader_pick.f k b t.2 3).bind fun u => if l.length < 2199023255552 then spec_anySteps.l0 k p (l ++ [(⟨u.1, ⟨0, 0, 0, 0⟩, []⟩ : StepD)]) (n : Int) b u.2 else none) else ((spec_anyStep.f k b t.2 p).bind fun u => if l.length < 2199023255552 then spec_anySteps.l0 k p (l ++ [(⟨u.1, ⟨u.2.1, u.2.2.1, u.2.2.2.1, u.2.2.2.2.1⟩, u.2.2.2.2.2.1⟩ : StepD)]) (n : Int) b u.2.2.2.2.2.2 else none)) (fun k => ?_) (ev_bind hv (ev_pos c (ev_bind hu (ev_pos (by omega) r3))))⟩
   simp only [spec_anySteps.l0]
   rw [if_pos (by omega), e1]
  ·obtain ⟨kind, X, Y, W, H, pix, q0, p1, p2, p3, hu⟩ := anyStep_q b (pos + 1) p hb (by omega) (by omega) hp
   obtain ⟨l', q, r1, r2, r3⟩ := ih (l ++ [(⟨kind, ⟨X, Y, W, H⟩, pix⟩ : StepD)]) q0 (by omega) (by omega) (by omega) (by simp; omega) (fun s h => by
    rcases List.mem_append.1 h with h | h
    ·exact hs s h
    ·rw [List.mem_singleton.1 h]; exact p1)
   refine ⟨l', q, r1, r2, Ev.step (f := fun k => (spec_reader_pick.f k b pos 3).bind fun t => if t.1 > 0 then ((spec_reader_pick.f k b t.2 3).bind fun u => if l.length < 2199023255552 then spec_anySteps.l0 k p (l ++ [(⟨u.1, ⟨0, 0, 0, 0⟩, []⟩ : StepD)]) (n : Int) b u.2 else none) else ((spec_anyStep.f k b t.2 p).bind fun u => if l.length < 2199023255552 then spec_anySteps.l0 k p (l ++ [(⟨u.1, ⟨u.2.1, u.2.2.1, u.2.2.2.1, u.2.2.2.2.1⟩, u.2.2.2.2.2.1⟩ : StepD)]) (n : Int) b u.2.2.2.2.2.2 else none)) (fun k => ?_) (ev_bind hv (ev_neg c (ev_bind hu (ev_pos (by omega) r3))))⟩
   simp only [spec_anySteps.l0]
   rw [if_pos (by omega), e1]
theorem drawSteps (code : List Int) (hw : ∀ x ∈ code, (Lit.int .u8 x).wf = true) : ∃ (w h p : Int) (d : List Int) (l : List StepD), d.length ≤ 1024 ∧ l.length ≤ 13 ∧ (∀ s ∈ l, s.f2.length ≤ 100) ∧ Ev (fun k => spec_DrawRunSteps.f k code) (w, h, p, d, l) := by
 obtain ⟨b, hb, hB⟩ := newReader_at code (code_bytes code hw)
 obtain ⟨w, h, p, d, q, hd, p1, p2, q1, q2, he⟩ := anyImage_p b 0 hB (by omega) (by omega)
 obtain ⟨v, hv, hm⟩ := one_in b q [2, 4, 6, 8, 1, 0, 12, 13] (by simp) (by simp) hB (by omega) (by omega)
 have hn : 0 ≤ v ∧ v ≤ 13 := by simp at hm; omega
 obtain ⟨n, rfl⟩ := Int.eq_ofNat_of_zero_le hn.1
 obtain ⟨l', q', r1, r2, r3⟩ := anySteps_loop b hB p ⟨p1, p2⟩ n [] (q + 1) (by omega) (by omega) (by omega) (by simp; omega) (fun s h => by simp at h)
 refine ⟨w, h, p, d, l', hd, r1, r2, ?_⟩
 unfold spec_DrawRunSteps.f spec_anySteps.f
 exact ev_now hb (ev_bind he (ev_bind (ev_bind hv r3) (Ev.now _)))

/- Lists of numbers and images, compared one by one. -/

theorem equalIntsC (l m : List Int) (hl : l.length ≤ 1000000) : Ev (fun k => laws_equalInts.f k l m) (decide (l = m)) := by
 unfold laws_equalInts.f
 by_cases hn : l.length = m.length
 ·have key := ev_up l.length (fun k i (_ : Unit) => laws_equalInts.l0 k l m (i : Int)) (fun _ _ => True) (fun i _ => decide (l.drop i = m.drop i))
   (by
    intro i s hi _
    have e1 := List.drop_eq_getElem_cons hi
    have e2 := List.drop_eq_getElem_cons (show i < m.length by omega)
    by_cases c : l[i] = m[i]'(by omega)
    ·refine .inr ⟨(), fun k => ?_, trivial, ?_⟩
     ·simp only [laws_equalInts.l0]
      rw [if_pos (by omega), if_pos (by omega), if_pos (by omega), rd_nat l i hi, rd_nat m i (by omega), if_pos c, w64n i (by omega)]
     ·rw [e1, e2, decide_eq_decide, List.cons.injEq]
      exact ⟨fun h => ⟨c, h⟩, fun h => h.2⟩
    ·left
     rw [e1, e2, decide_eq_false (by rw [List.cons.injEq]; exact fun h => c h.1)]
     refine Ev.step (f := fun _ => some false) (fun k => ?_) (Ev.now _)
     simp only [laws_equalInts.l0]
     rw [if_pos (by omega), if_pos (by omega), if_pos (by omega), rd_nat l i hi, rd_nat m i (by omega), if_neg c])
   (by
    intro s _
    refine Ev.step (f := fun _ => some true) (fun k => ?_) (ev_const (by rw [List.drop_length, hn, List.drop_length]; rfl))
    simp only [laws_equalInts.l0]
    rw [if_neg (by omega)])
   l.length 0 () (by omega) trivial
  exact ev_pos (by omega) (by simpa using key)
 ·refine ev_neg (by omega) ?_
  rw [decide_eq_false (fun h => hn (by rw [h]))]
  exact Ev.now _
theorem equalImage_ev (a b p : Int) (d : List Int) (a' b' p' : Int) (d' : List Int) (hl : d.length ≤ 1000000) : Ev (fun k => laws_equalImage.f k a b p d a' b' p' d') (decide (a = a' ∧ b = b' ∧ p = p' ∧ d = d')) := by
 unfold laws_equalImage.f
 by_cases c1 : a = a'
 ·refine ev_pos c1 ?_
  by_cases c2 : b = b'
  ·refine ev_pos c2 ?_
   by_cases c3 : p = p'
   ·refine ev_pos c3 ?_
    rw [decide_eq_decide.2 (show (a = a' ∧ b = b' ∧ p = p' ∧ d = d') ↔ d = d' from ⟨fun h => h.2.2.2, fun h => ⟨c1, c2, c3, h⟩⟩)]
    exact ev_bind (equalIntsC d d' hl) (Ev.now _)
   ·refine ev_neg c3 ?_
    rw [decide_eq_false (fun h => c3 h.2.2.1)]
    exact Ev.now _
  ·refine ev_neg c2 ?_
   rw [decide_eq_false (fun h => c2 h.2.1)]
   exact Ev.now _
 ·refine ev_neg c1 ?_
  rw [decide_eq_false (fun h => c1 h.1)]
  exact Ev.now _

/- Steps are performed one by one: the law FnRunSteps over lists of numbers alone. -/

theorem runV_n : ∀ (l : List Step) (a b p : Int) (d : List Int) (n : Int), n ≤ (runV a b p d l n).2.2.2.2 ∧ (runV a b p d l n).2.2.2.2 ≤ n + l.length
 | [], a, b, p, d, n => by unfold runV; simp
 | s :: l, a, b, p, d, n => by
  unfold runV
  split
  ·have h := runV_n l (stepV a b p d s).1 (stepV a b p d s).2.1 (stepV a b p d s).2.2.1 (stepV a b p d s).2.2.2.1 (n + 1)
   simp only [List.length_cons]
   omega
  ·simp only [List.length_cons]; omega
theorem runV_valid : ∀ (l : List Step) (a b p : Int) (d : List Int) (n : Int), validI a b p d = true → validI (runV a b p d l n).1 (runV a b p d l n).2.1 (runV a b p d l n).2.2.1 (runV a b p d l n).2.2.2.1 = true
 | [], a, b, p, d, n, hv => by unfold runV; exact hv
 | s :: l, a, b, p, d, n, hv => by
  unfold runV
  split
  ·rename_i c
   exact runV_valid l _ _ _ _ _ (step_valid hv c)
  ·exact hv
theorem law_loop (l : List Step) (hl : l.length ≤ 1000000000) (r0 r1 r2 : Int) (r3 : List Int) (m : Int) : ∀ (n i : Nat) (a b p : Int) (d : List Int), i + n = l.length → validI a b p d = true → runV a b p d (l.drop i) i = (r0, r1, r2, r3, m) →
  Ev (fun k => laws_FnRunSteps.l0 k l m (i : Int) r0 r1 r2 r3 a b p d) true
 | 0, i, a, b, p, d, hi, hv, hr => by
  rw [List.drop_of_length_le (by omega)] at hr
  unfold runV at hr
  obtain ⟨rfl, rfl, rfl, rfl, rfl⟩ : a = r0 ∧ b = r1 ∧ p = r2 ∧ d = r3 ∧ (i : Int) = m := by simpa [Prod.mk.injEq] using hr
  have heq := ev_val (equalImage_ev a b p d a b p d (by have := valid_len hv; omega)) (decide_eq_true ⟨rfl, rfl, rfl, rfl⟩)
  refine Ev.step (f := fun k => (laws_equalImage.f k a b p d a b p d).bind fun t => some t) (fun k => ?_) (ev_bind heq (Ev.now _))
  simp only [laws_FnRunSteps.l0]
  rw [if_neg (by omega), if_pos (by omega)]
 | n + 1, i, a, b, p, d, hi, hv, hr => by
  have hlt : i < l.length := by omega
  have hS := impl_DoStep_eq a b p d l[i].f0 l[i].f1.f0 l[i].f1.f1 l[i].f1.f2 l[i].f1.f3 l[i].f2
  rw [done_step hv] at hS
  rw [drop_at l i hlt, runV] at hr
  by_cases c : (stepV a b p d l[i]).2.2.2.2 = true
  ·rw [if_pos c] at hr
   have ih := law_loop l hl r0 r1 r2 r3 m n (i + 1) _ _ _ _ (by omega) (step_valid hv c) (by simpa using hr)
   refine Ev.step (f := fun k => (impl_DoStep.f a b p d l[i].f0 l[i].f1.f0 l[i].f1.f1 l[i].f1.f2 l[i].f1.f3 l[i].f2).bind fun t => if t.2.2.2.2 = true then laws_FnRunSteps.l0 k l m ((i + 1 : Nat) : Int) r0 r1 r2 r3 t.1 t.2.1 t.2.2.1 t.2.2.2.1 else if m = (i : Int) then ((laws_equalImage.f k a b p d r0 r1 r2 r3).bind fun t => some t) else some false) (fun k => ?_) (ev_now hS (ev_pos c ih))
   simp only [laws_FnRunSteps.l0]
   rw [if_pos (by omega), if_pos (by omega), rdS_nat l i hlt, w64n i (by omega)]
  ·rw [if_neg c] at hr
   obtain ⟨rfl, rfl, rfl, rfl, rfl⟩ : a = r0 ∧ b = r1 ∧ p = r2 ∧ d = r3 ∧ (i : Int) = m := by simpa [Prod.mk.injEq] using hr
   have heq := ev_val (equalImage_ev a b p d a b p d (by have := valid_len hv; omega)) (decide_eq_true ⟨rfl, rfl, rfl, rfl⟩)
   refine Ev.step (f := fun k => (impl_DoStep.f a b p d l[i].f0 l[i].f1.f0 l[i].f1.f1 l[i].f1.f2 l[i].f1.f3 l[i].f2).bind fun t => if t.2.2.2.2 = true then laws_FnRunSteps.l0 k l (i : Int) ((i + 1 : Nat) : Int) a b p d t.1 t.2.1 t.2.2.1 t.2.2.2.1 else if (i : Int) = (i : Int) then ((laws_equalImage.f k a b p d a b p d).bind fun t => some t) else some false) (fun k => ?_) (ev_now hS (ev_neg c (ev_pos rfl (ev_bind heq (Ev.now _)))))
   simp only [laws_FnRunSteps.l0]
   rw [if_pos (by omega), if_pos (by omega), rdS_nat l i hlt, w64n i (by omega)]
theorem FnRunSteps : laws_FnRunSteps.Pure := by
 intro code _ _ hw
 apply Ev.rounds
 unfold laws_FnRunSteps.f
 by_cases c : (code.length : Int) > 1048576
 ·exact ev_pos c (Ev.now true)
 refine ev_neg c ?_
 obtain ⟨w, h, p, d, l, hdl, hll, hpl, hd⟩ := drawSteps code hw
 have hI := impl_RunSteps_ev w h p d l
 have hS := spec_RunSteps_ev w h p d l (by omega) (fun s hs => by have := hpl s hs; omega)
 by_cases hg : validI w h p d = true ∧ l.length ≤ 12
 ·have hn := (runV_n l w h p d 0).1
  have hvr := valid_len (runV_valid l w h p d 0 hg.1)
  have hlaw := law_loop l (by omega) (runV w h p d l 0).1 (runV w h p d l 0).2.1 (runV w h p d l 0).2.2.1 (runV w h p d l 0).2.2.2.1 (runV w h p d l 0).2.2.2.2 l.length 0 w h p d (by omega) hg.1 (by rw [List.drop_zero]; rfl)
  unfold runsV at hI hS
  rw [if_pos hg] at hI hS
  generalize runV w h p d l 0 = V at hI hS hn hvr hlaw
  obtain ⟨v0, v1, v2, v3, vn⟩ := V
  have hvr : v3.length ≤ 1024 := hvr
  have hn : 0 ≤ vn := hn
  have heq := ev_val (equalImage_ev v0 v1 v2 v3 v0 v1 v2 v3 (by omega)) (decide_eq_true ⟨rfl, rfl, rfl, rfl⟩)
  refine ev_bind hd (ev_bind hI (ev_bind hS (ev_bind heq (ev_pos rfl (ev_pos rfl ?_)))))
  refine Ev.step (f := fun k => laws_FnRunSteps.l0 k l vn 0 v0 v1 v2 v3 w h p d) (fun k => ?_) hlaw
  simp only [laws_FnRunSteps.j0]
  rw [if_neg (by simp; omega)]
 ·unfold runsV at hI hS
  rw [if_neg hg] at hI hS
  have heq := ev_val (equalImage_ev 0 0 0 [] 0 0 0 [] (by simp)) (decide_eq_true ⟨rfl, rfl, rfl, rfl⟩)
  refine ev_bind hd (ev_bind hI (ev_bind hS (ev_bind heq (ev_pos rfl (ev_pos rfl ?_)))))
  refine Ev.step (f := fun k => (laws_equalImage.f k 0 0 0 [] 0 0 0 []).bind fun t => if t = true then some ((-1 : Int) == -1) else some false) (fun k => ?_) (ev_bind heq (ev_pos rfl (ev_const rfl)))
  simp only [laws_FnRunSteps.j0]
  rw [if_pos (by simp)]
end Go.Proofs.Ytgccpcnakkioiaa.Pure

/- The head of the translation reads as a plain cut. -/
namespace Go.Proofs.Ytgccpcnakkioiaa.Head
set_option maxRecDepth 100000
theorem wordsSigns_word (w r : List Char) (h : w.all (fun c => !(c == Char.ofNat 32)) = true) : wordsSigns (w ++ Char.ofNat 32 :: r) = w :: wordsSigns r := by
  induction w with
  | nil => rfl
  | cons c w ih =>
    simp only [List.all_cons, Bool.and_eq_true, Bool.not_eq_true', beq_eq_false_iff_ne, ne_eq] at h
    have h1 := ih (by simpa using h.2)
    rw [List.cons_append, wordsSigns.eq_3 c _ h.1, h1]
def w1 : List Char := [104, 97, 114, 110, 101, 115, 115].map Char.ofNat
def w2 : List Char := [52, 49, 100, 48, 51, 48, 57, 101, 54, 52, 50, 98, 53, 55, 98, 54, 49, 99, 54, 49, 56, 48, 55, 53, 48, 48, 51, 50, 51, 98, 100, 52, 101, 99, 48, 51, 97, 52, 49, 54, 56, 100, 48, 98, 55, 54, 100, 54, 97, 97, 98, 98, 100, 98, 51, 102, 53, 102, 100, 102, 101, 51, 100, 56].map Char.ofNat
def w3 : List Char := [99, 117, 116].map Char.ofNat
def w4 : List Char := [97, 116, 32, 108, 111, 111, 112, 46, 101, 120, 97, 109, 112, 108, 101, 47, 112, 105, 120, 101, 108, 119, 111, 114, 107, 115, 47, 108, 97, 119, 115, 46, 70, 110, 69, 120, 97, 99, 116, 82, 117, 110, 83, 116, 101, 112, 115, 32, 108, 111, 111, 112, 46, 101, 120, 97, 109, 112, 108, 101, 47, 112, 105, 120, 101, 108, 119, 111, 114, 107, 115, 47, 108, 97, 119, 115, 46, 70, 110, 68, 111, 83, 116, 101, 112, 32, 108, 111, 111, 112, 46, 101, 120, 97, 109, 112, 108, 101, 47, 112, 105, 120, 101, 108, 119, 111, 114, 107, 115, 47, 108, 97, 119, 115, 46, 70, 110, 68, 111, 83, 116, 101, 112, 70, 105, 108, 108, 32, 108, 111, 111, 112, 46, 101, 120, 97, 109, 112, 108, 101, 47, 112, 105, 120, 101, 108, 119, 111, 114, 107, 115, 47, 108, 97, 119, 115, 46, 70, 110, 69, 120, 97, 99, 116, 68, 111, 83, 116, 101, 112, 32, 108, 111, 111, 112, 46, 101, 120, 97, 109, 112, 108, 101, 47, 112, 105, 120, 101, 108, 119, 111, 114, 107, 115, 47, 108, 97, 119, 115, 46, 70, 110, 82, 117, 110, 83, 116, 101, 112, 115, 80, 97, 114, 116, 115, 32, 108, 111, 111, 112, 46, 101, 120, 97, 109, 112, 108, 101, 47, 112, 105, 120, 101, 108, 119, 111, 114, 107, 115, 47, 108, 97, 119, 115, 46, 70, 110, 82, 117, 110, 83, 116, 101, 112, 115, 32, 108, 111, 111, 112, 46, 101, 120, 97, 109, 112, 108, 101, 47, 112, 105, 120, 101, 108, 119, 111, 114, 107, 115, 47, 108, 97, 119, 115, 46, 70, 110, 83, 105, 109, 112, 108, 105, 102, 121, 83, 116, 101, 112, 115].map Char.ofNat
theorem signs0 : Try.prog.initOrder = String.ofList (w1 ++ Char.ofNat 32 :: (w2 ++ Char.ofNat 32 :: (w3 ++ Char.ofNat 32 :: w4))) := by kernel_rfl
theorem behind : behindMainWord (wordsSigns Try.prog.initOrder.toList) = w3 :: wordsSigns w4 := by
  rw [signs0, String.toList_ofList, wordsSigns_word w1 _ (by kernel_rfl), wordsSigns_word w2 _ (by kernel_rfl), wordsSigns_word w3 _ (by kernel_rfl)]
  unfold behindMainWord
  dsimp only
  rw [if_pos (by kernel_rfl)]
theorem strip_cut (R : List (List Char)) : stripLifts liftWords (w3 :: R) = ([], w3 :: R) := by kernel_rfl
theorem mayEnter_of (P : Program) (R : List (List Char)) (h : behindMainWord (wordsSigns P.initOrder.toList) = w3 :: R) (h1 : P.laysLater = false) (h2 : P.bearsReflect = false) (h3 : P.doorFits [] = true) : P.mayEnter = true := by
  unfold Program.mayEnter
  rw [h]
  dsimp only
  rw [strip_cut, h1, h2, h3]
  kernel_rfl
theorem liftsFinal_of (P : Program) (R : List (List Char)) (h : behindMainWord (wordsSigns P.initOrder.toList) = w3 :: R) : P.liftsFinal = false := by
  unfold Program.liftsFinal Program.headLifts
  rw [h]
  dsimp only
  rw [strip_cut]
  kernel_rfl
theorem make_of (P : Program) (R : List (List Char)) (h : behindMainWord (wordsSigns P.initOrder.toList) = w3 :: R) : P.make = some .cut := by
  unfold Program.make
  rw [h]
  kernel_rfl
theorem mayEnter : Try.prog.mayEnter = true := mayEnter_of _ _ behind (by kernel_rfl) (by kernel_rfl) (by kernel_rfl)
theorem liftsFinal : Try.prog.liftsFinal = false := liftsFinal_of _ _ behind
theorem make : Try.prog.make = some .cut := make_of _ _ behind
end Go.Proofs.Ytgccpcnakkioiaa.Head

-- PRINTED by print.py: the row of the law laws_FnRunSteps, out of its Pure (the session's) and the printed walk. Not trusted: Lean checks it.
namespace Go.Proofs.Ytgccpcnakkioiaa.fnRunSteps
open Go.ChangeShapes Go.WideShapes Go.ChangeAt Go.RowKit
open Go.ChangeMaps (open_string shut_string)
set_option linter.unusedVariables false
theorem own : ownKnob Try.prog.godebug = none := by kernel_rfl
theorem laidOut : laidOutB Try.prog = true := by kernel_rfl
def IsRow (k : IntKind) (w : World) (a : Option Addr) (len cap : Nat) (zs : List Int) : Prop :=
  (a = none ∧ len = 0 ∧ cap = 0 ∧ zs = []) ∨
  ∃ x, a = some x ∧ len ≤ cap ∧ cap ≤ maxLen ∧ zs.length = cap ∧ (∀ i, i < zs.length → w.cell? (x.add i) = some (.int k (zs.getD i 0))) ∧ ∀ n ∈ zs, (Lit.int k n).wf = true
set_option maxRecDepth 100000 in
theorem lifted (os : Os) (started : os.Started) (H : Type) (enc : TypeId × Value → H) :
    ReturnsInHanded {} Try.checked os 8 .any (Rows.fnRunStepsSpec.pre6 enc Try.prog Try.f8 Rows.fnRunStepsRow.domain false) (Rows.fnRunStepsSpec.post enc Try.prog Try.f8 false true false false) := by
  refine returnsInHanded_of_change_sized (C := Try.checked) own started (by kernel_rfl) Try.func8
    (ChangeSpec.witness6 (enc := enc) (C := Try.checked) false ⟨#[], #[.slice none 0 0], []⟩ 8 (by kernel_rfl) (by kernel_rfl) (by kernel_rfl) (by kernel_rfl)) ?_
  intro W base args ds gs before hval0 hW hcnd hsz0 _
  have hsz : (DataW.weightsEach Try.prog (Try.f8.params.toList ++ Rows.fnRunStepsSpec.plain.varTypes Try.prog) (ds ++ gs)).all (· ≤ reachBytes) = true := hsz0
  have hval : ∀ (j : Nat) t v, Try.f8.params[j]? = some t → args[j]? = some v → Value.okWide Try.prog W .any base t v := hval0
  have hW' := hW
  obtain ⟨p, q, hA0, hV, rfl, hfz, hnd⟩ := hW
  have hA : DataW.TrodAll enc Try.prog W 0 (fun _ => true) true Try.f8.params.toList args.toList ds p := hA0
  rw [Try.params8] at hA hval hsz
  obtain ⟨v0, vs0, d0, ds0, p0, q0, hargs, rfl, rfl, h0, r0⟩ := trodAll_cons hA
  obtain ⟨rfl, rfl, rfl⟩ := trodAll_nil r0
  obtain rfl : args = #[v0] := by cases args; simp_all
  obtain ⟨rfl, rfl⟩ := trodVars_none hV
  obtain ⟨a0, len0, cap0, rfl⟩ := okWide_slice Try.underlying39 (hval 0 39 v0 rfl rfl)
  have k0 := h0
  have lt0 : ∀ x ∈ p0, x.block < W.heap.size := by obtain ⟨m, hm⟩ := k0; exact DataW.trod_lt m _ _ _ hm
  obtain ⟨z0, w0⟩ : ∃ zs, IsRow .u8 W a0 len0 cap0 zs := by
    obtain ⟨fuel, hf⟩ := h0
    rcases open_ints Try.underlying39 Try.underlying5 (by kernel_rfl) hf with ⟨hcs, _⟩ | ⟨x, l, c, zs, hcs, _, hl, hm, hz, _, hcell, hwz⟩
    · simp [Value.cells] at hcs
      obtain ⟨rfl, rfl, rfl⟩ := hcs
      exact ⟨[], .inl ⟨rfl, rfl, rfl, rfl⟩⟩
    · simp [Value.cells] at hcs
      obtain ⟨rfl, rfl, rfl⟩ := hcs
      exact ⟨zs, .inr ⟨_, rfl, hl, hm, by simpa using hz, hcell, hwz⟩⟩
  have y0 : len0 * 1 ≤ 140737488351232 := Go.Proofs.YtgccpcnakkioiaaW.PrintWords.sized_ints hsz (j := 0) (t := 39) rfl rfl Try.underlying39 Try.underlying5 (by kernel_rfl) (by kernel_rfl) h0
  clear hA0 hval0 hsz0 hsz
  refine (Q.laws_FnRunSteps.walk Pure.FnRunSteps a0 len0 cap0 z0 W w0 y0).mono fun e W' ⟨he, bel⟩ => ?_
  subst he
  exact ⟨_, rfl, _, _, _, [], _, [], hW', trodAll_mk1 (shut_bool Try.underlying4 _), (trodAll_cons_mk (Below.trod laidOut (by kernel_rfl) (of_decide_eq_true (by kernel_rfl)) k0 bel lt0) trodAll_mk0), rfl, bel.frame _, fun h => by cases h⟩
set_option maxHeartbeats 4000000 in
theorem closed : joinedFacts Try.prog 8 Try.f8 Rows.fnRunStepsSpec Rows.fnRunStepsRow = true := by
  unfold joinedFacts
  rw [Head.mayEnter, Head.liftsFinal, Head.make]
  simp only [Bool.and_eq_true]
  repeat' apply And.intro
  all_goals first | exact True.intro | (as_aux_lemma => kernel_rfl)
theorem over : Rows.fnRunStepsRow.holds Try.pinned (OpenSpec.ofChange Rows.fnRunStepsSpec) :=
  OpenClaim.holds_of_wide 8 Try.f8 rfl rfl rfl rfl rfl rfl rfl ⟨rfl, rfl, rfl, rfl, rfl⟩ rfl rfl rfl rfl rfl (by kernel_rfl) Try.func8 closed
    (of_decide_eq_true (by kernel_rfl)) (by unfold Func.isWrapper; first | (rw [if_pos (by decide +kernel)]; kernel_rfl) | (rw [if_neg (by decide +kernel)]; exact ⟨rfl, rfl⟩))
    (fun os started H enc _ => lifted os started H enc)
theorem proved : Rows.FnRunStepsSaid := over
#print axioms proved
end Go.Proofs.Ytgccpcnakkioiaa.fnRunSteps
namespace Go.Proofs.Ytgccpcnakkioiaa
/-- The row, under a short name, for the claim. -/
theorem fnRunSteps_holds : Rows.FnRunStepsSaid := fnRunSteps.proved
end Go.Proofs.Ytgccpcnakkioiaa
