/- A part of the proof that the statement FnSimplifyStepsSaid holds, under no condition of its own: Steps that cancel each other are left out, and the image stays what it was: the law FnSimplifySteps over lists of numbers alone. -/
import Derived.Test.YtgccpcnakkioiaaCFnSimplifySteps1
import Derived.Shelf.Abstract
import Derived.Deep.WholeRow
import Derived.Deep.RegionWith
import Derived.OrdersHeld
import Derived.Deep.RegionHeld
import Derived.RegionTactic
namespace Go.Proofs.Ytgccpcnakkioiaa.Q
open Go.RowKit Go.Proofs.YtgccpcnakkioiaaW.PrintWords Go.Proofs.YtgccpcnakkioiaaW.PrintLast Go.Proofs.YtgccpcnakkioiaaW.PrintMore
attribute [local go_sem] max2_int min2_int max_two min_two max_three min_three max_four min_four
set_option linter.unusedVariables false
set_option linter.unusedSimpArgs false
open Go.Proofs.YtgccpcnakkioiaaW.PrintWords.Aside0 (mk)
set_option maxHeartbeats 12000000
set_option maxRecDepth 100000
def spec_doStep.j0 : Nat → Bool → Int → Int → Int → List Int → Int → Int → Int → Int → Int → List Int → Option (Int × Int × Int × List Int × Bool)
 | 0, _, _, _, _, _, _, _, _, _, _, _ => none
 | k + 1, x49, xz0, xz1, xz2, xz3, xz9, xz4, xz5, xz6, xz7, xz8 => if x49 = true then (some (0, 0, 0, ([] : List Int), false)) else ((spec_copyImage.f xz0 xz1 xz2 xz3).bind fun btz0 => ((spec_FillImage.f k xz6 xz7 xz8).bind fun btz1 => ((spec_paste.f k btz0.1 btz0.2.1 btz0.2.2.1 btz0.2.2.2 xz4 xz5 btz1.1 btz1.2.1 btz1.2.2.1 btz1.2.2.2).bind fun tz5 => (some (btz0.1, btz0.2.1, btz0.2.2.1, tz5, true)))))
def spec_doStep.f (k : Nat) (a0_0 : Int) (a0_1 : Int) (a0_2 : Int) (l0_3 : List Int) (a1_0 : Int) (a1_1 : Int) (a1_2 : Int) (a1_3 : Int) (a1_4 : Int) (l1_5 : List Int) : Option (Int × Int × Int × List Int × Bool) := if a1_0 = 0 then ((spec_mirror.f k a0_0 a0_1 a0_2 l0_3).bind fun btz3 => (some (btz3.1, btz3.2.1, btz3.2.2.1, btz3.2.2.2, true))) else (if a1_0 = 1 then ((spec_turn.f k a0_0 a0_1 a0_2 l0_3).bind fun btz4 => (some (btz4.1, btz4.2.1, btz4.2.2.1, btz4.2.2.2, true))) else (if a1_0 = 2 then ((spec_InvertImage.f k a0_0 a0_1 a0_2 l0_3).bind fun btz5 => (some (btz5.1, btz5.2.1, btz5.2.2.1, btz5.2.2.2, true))) else (if a1_0 = 3 then ((spec_CropImage.f k a0_0 a0_1 a0_2 l0_3 a1_1 a1_2 a1_3 a1_4).bind fun btz2 => (some (btz2.1, btz2.2.1, btz2.2.2.1, btz2.2.2.2.1, btz2.2.2.2.2))) else (if a1_0 = 4 then ((spec_validBox.f a0_0 a0_1 a0_2 l0_3 a1_1 a1_2 a1_3 a1_4).bind fun tz10 => (if tz10 = true then (if (l1_5.length : Int) = a0_2 then ((spec_allIn.f k l1_5 0 255).bind fun tz4 => (spec_doStep.j0 k (!tz4) a0_0 a0_1 a0_2 l0_3 a1_0 a1_1 a1_2 a1_3 a1_4 l1_5)) else (spec_doStep.j0 k true a0_0 a0_1 a0_2 l0_3 a1_0 a1_1 a1_2 a1_3 a1_4 l1_5)) else (spec_doStep.j0 k true a0_0 a0_1 a0_2 l0_3 a1_0 a1_1 a1_2 a1_3 a1_4 l1_5))) else (some (0, 0, 0, ([] : List Int), false))))))
def spec_doStep.T14 : Bool × List (List Nat × List Nat) := (true, [([], []), ([], []), ([1], [1]), ([2], [2]), ([], []), ([4], [4]), ([5], [5]), ([], []), ([7], [7]), ([8], [8]), ([], []), ([10], [10]), ([11], [11]), ([], []), ([13], [13]), ([9, 12, 14], [9, 12, 14]), ([0, 3, 6, 15, 15], [0, 3, 6, 15])])
def spec_doStep.B14 : List Nat := [0, 0, 2, 6, 0, 16, 48, 0, 128, 384, 0, 1024, 3072, 0, 8192, 32640, 65535]
theorem spec_doStep.tab14 : rtab .any (opsOf Try.f41 14) = spec_doStep.T14 := by kernel_rfl
theorem spec_doStep.bits14 : waitsOk spec_doStep.T14.2 spec_doStep.B14 = true := by kernel_rfl
theorem spec_doStep.calls (k : Nat) (a0_0 : Int) (a0_1 : Int) (a0_2 : Int) (A0_3 : Option Addr) (c0_3 : Nat) (l0_3 : List Int) (a1_0 : Int) (a1_1 : Int) (a1_2 : Int) (a1_3 : Int) (a1_4 : Int) (A1_5 : Option Addr) (c1_5 : Nat) (l1_5 : List Int) (r1 : Int) (r2 : Int) (r3 : Int) (r4 : List Int) (r5 : Bool) (w : World) (hr0_3 : Kd.C (Kd.int .i64) w A0_3 l0_3.length l0_3) (hc0_3 : l0_3.length ≤ c0_3) (hr1_5 : Kd.C (Kd.int .i64) w A1_5 l1_5.length l1_5) (hc1_5 : l1_5.length ≤ c1_5) (h : spec_doStep.f k a0_0 a0_1 a0_2 l0_3 a1_0 a1_1 a1_2 a1_3 a1_4 l1_5 = some (r1, r2, r3, r4, r5)) :
  Calls Try.prog 41 #[.agg #[.int .i64 a0_0, .int .i64 a0_1, .int .i64 a0_2, .slice A0_3 l0_3.length c0_3], .agg #[.int .i64 a1_0, .int .i64 a1_1, .int .i64 a1_2, .int .i64 a1_3, .int .i64 a1_4, .slice A1_5 l1_5.length c1_5]] w fun e w' => ∃ v3_ : Value, e = .returned (.tuple #[.agg #[.int .i64 r1, .int .i64 r2, .int .i64 r3, v3_], .bool r5]) ∧ Kd.R (Kd.int .i64) 3 w' w.heap.size (fun _ => True) v3_ r4 ∧ Below w.heap.size w w' := by
 have HR0_3 := mk hr0_3
 have HC0_3 := mk hc0_3
 clear hr0_3 hc0_3
 have HR1_5 := mk hr1_5
 have HC1_5 := mk hc1_5
 clear hr1_5 hc1_5
 have HB := mk (Below.refl w.heap.size w)
 have H : (if a1_0 = 0 then ((spec_mirror.f k a0_0 a0_1 a0_2 l0_3).bind fun btz3 => (some (btz3.1, btz3.2.1, btz3.2.2.1, btz3.2.2.2, true))) else (if a1_0 = 1 then ((spec_turn.f k a0_0 a0_1 a0_2 l0_3).bind fun btz4 => (some (btz4.1, btz4.2.1, btz4.2.2.1, btz4.2.2.2, true))) else (if a1_0 = 2 then ((spec_InvertImage.f k a0_0 a0_1 a0_2 l0_3).bind fun btz5 => (some (btz5.1, btz5.2.1, btz5.2.2.1, btz5.2.2.2, true))) else (if a1_0 = 3 then ((spec_CropImage.f k a0_0 a0_1 a0_2 l0_3 a1_1 a1_2 a1_3 a1_4).bind fun btz2 => (some (btz2.1, btz2.2.1, btz2.2.2.1, btz2.2.2.2.1, btz2.2.2.2.2))) else (if a1_0 = 4 then ((spec_validBox.f a0_0 a0_1 a0_2 l0_3 a1_1 a1_2 a1_3 a1_4).bind fun tz10 => (if tz10 = true then (if (l1_5.length : Int) = a0_2 then ((spec_allIn.f k l1_5 0 255).bind fun tz4 => (spec_doStep.j0 k (!tz4) a0_0 a0_1 a0_2 l0_3 a1_0 a1_1 a1_2 a1_3 a1_4 l1_5)) else (spec_doStep.j0 k true a0_0 a0_1 a0_2 l0_3 a1_0 a1_1 a1_2 a1_3 a1_4 l1_5)) else (spec_doStep.j0 k true a0_0 a0_1 a0_2 l0_3 a1_0 a1_1 a1_2 a1_3 a1_4 l1_5))) else (some (0, 0, 0, ([] : List Int), false))))))) = some (r1, r2, r3, r4, r5) := h
 clear h
 by_cases c3 : a1_0 = 0
 ·rw [if_pos c3] at H
  have c3b0 : (a1_0 == 0) = true := beq_iff_eq.mpr c3
  clear c3
  replace H := Option.bind_eq_some_iff.mp H
  obtain ⟨⟨tz6, tz11, tz15, tz19⟩, A40, H⟩ := H
  replace H : (some (tz6, tz11, tz15, tz19, true)) = some (r1, r2, r3, r4, r5) := H
  have A4 := mk A40
  clear A40
  simp only [Option.some.injEq, Prod.mk.injEq] at H
  obtain ⟨rfl, rfl, rfl, rfl, rfl⟩ := H
  go_enter Try.func41, Try.ntmps41
  go_wp2_with (first | ((with_reducible refine gate_dst (N := 2) rfl ?_); (try (refine gate_guard (by rfl) ?_; dsimp only)); refine box_event (by rfl) (N := 2) (by rfl) (cs := #[.int .i64 a0_0, .int .i64 a0_1, .int .i64 a0_2, .slice A0_3 l0_3.length c0_3]) (t := 28) (by go_simp; done) ?_; intro gbz2 hg w5 hbox hb; replace HB := mk (below_step HB.out hb); have BKz1 := mk (hbox); clear hb hbox hg) | ((with_reducible refine gate_dst (N := 3) rfl ?_); (try (refine gate_guard (by rfl) ?_; dsimp only)); refine box_event (by rfl) (N := 3) (by rfl) (cs := #[.int .i64 a1_0, .int .i64 a1_1, .int .i64 a1_2, .int .i64 a1_3, .int .i64 a1_4, .slice A1_5 l1_5.length c1_5]) (t := 43) (by go_simp; done) ?_; intro gbz3 hg w6 hbox hb; replace BKz1 := mk (blk_below BKz1.out hb); replace HB := mk (below_step HB.out hb); have BKz2 := mk (hbox); clear hb hbox hg) | ((with_reducible refine gate_dst (N := 4) rfl ?_); (try (refine gate_guard (by rfl) ?_; dsimp only)); refine box_event (by rfl) (N := 4) (by rfl) (cs := #[.int .i64 0, .int .i64 0, .int .i64 0, .slice none 0 0]) (t := 28) (by go_simp; done) ?_; intro gbz0 hg w7 hbox hb; replace BKz1 := mk (blk_below BKz1.out hb); replace BKz2 := mk (blk_below BKz2.out hb); have BKz0 := mk (hbox); have GEz0 := mk ((by rw [hg]; exact (below_size HB.out) : w.heap.size ≤ gbz0)); replace HB := mk (below_step HB.out hb); clear hb hbox hg; have hcz10_0 : w7.cell? ⟨gbz3, 0, none⟩ = some (.int .i64 a1_0) := (blk_cell BKz2.out 0).trans rfl; obtain ⟨hcz12_0, hcz12_1, hcz12_2, -⟩ := c4 BKz1.out; have hcz12_3 : w7.cell? ⟨gbz2, 3, none⟩ = some (.slice A0_3 l0_3.length c0_3) := (blk_cell BKz1.out 3).trans rfl) | ((with_reducible refine gate_callee (f := 72) rfl ?_); refine goesL_ (some 12) rfl rfl Try.func72 (by kernel_rfl) rfl #[.agg #[.int .i64 a0_0, .int .i64 a0_1, .int .i64 a0_2, .slice A0_3 l0_3.length c0_3]] rfl (by (try simp only [List.map_toArray, List.map_cons, List.map_nil]); rfl) ?_; (with_reducible refine (spec_mirror.calls k a0_0 a0_1 a0_2 _ _ l0_3 tz6 tz11 tz15 tz19 _ ?side1 ?side2 A4.out).mono ?_); (case side1 => repeat (exact (Kd.C_below HR0_3.out HB.out))); (case side2 => exact HC0_3.out); rintro e w13 ⟨vz0, rfl, ho0, hb⟩; refine ⟨_, rfl, ?_⟩; have n0_ := mk (Kd.R_lower ho0 (below_size HB.out)); have n3_ := mk (blk_below BKz0.out hb); have n4_ := mk (below_step HB.out hb); clear BKz1; clear BKz2; clear BKz0; clear HB; have HOz2 := n0_; have BKz0 := n3_; have HB := n4_; (try clear hb); (try clear ho0); obtain ⟨hcz14_0, hcz14_1, hcz14_2, hcz14_3, hfz14_0, hfz14_1, hfz14_2, hfz14_3⟩ := c4 BKz0.out; obtain ⟨Ao15, co15, eo15⟩ := Kd.R_slice HOz2.out; subst eo15))
  refine bodyPost_ret (results_ct rfl _ _ gbz0 28 #[.int .i64 tz6, .int .i64 tz11, .int .i64 tz15, .slice Ao15 tz19.length co15] (0, 0) _ rfl (by refine blk_put (cs := #[.int .i64 tz6, .int .i64 tz11, .int .i64 tz15, .slice none 0 0]) ?_ 3 _ rfl; refine blk_put (cs := #[.int .i64 tz6, .int .i64 tz11, .int .i64 0, .slice none 0 0]) ?_ 2 _ rfl; refine blk_put (cs := #[.int .i64 tz6, .int .i64 0, .int .i64 0, .slice none 0 0]) ?_ 1 _ rfl; refine blk_put (cs := #[.int .i64 0, .int .i64 0, .int .i64 0, .slice none 0 0]) ?_ 0 _ rfl; exact BKz0.out) Try.underlying28 rfl (by kernel_rfl)) rfl ?_
  exact ⟨_, by rfl, by exact Kd.R_mono (Kd.R_far (p := ⟨gbz0, 3, none⟩) (Kd.R_far (p := ⟨gbz0, 2, none⟩) (Kd.R_far (p := ⟨gbz0, 1, none⟩) (Kd.R_far (p := ⟨gbz0, 0, none⟩) (Kd.R_types HOz2.out BKz0.out (by decide)) (fun _ hk => hk.2) (.int .i64 tz6)) (fun _ hk => hk.2) (.int .i64 tz11)) (fun _ hk => hk.2) (.int .i64 tz15)) (fun _ hk => hk.2) (.slice Ao15 tz19.length co15)) (fun _ hk => trivial), by repeat (with_reducible first | exact HB.out | refine below_set ?_ GEz0.out)⟩
 rw [if_neg c3] at H
 have c3b0 : (a1_0 == 0) = false := beq_eq_false_iff_ne.mpr c3
 have c3b1 : (a1_0 != 0) = true := bne_iff_ne.mpr c3
 by_cases c16 : a1_0 = 1
 ·rw [if_pos c16] at H
  have c16b0 : (a1_0 == 1) = true := beq_iff_eq.mpr c16
  clear c16
  replace H := Option.bind_eq_some_iff.mp H
  obtain ⟨⟨tz7, tz12, tz16, tz20⟩, A170, H⟩ := H
  replace H : (some (tz7, tz12, tz16, tz20, true)) = some (r1, r2, r3, r4, r5) := H
  have A17 := mk A170
  clear A170
  simp only [Option.some.injEq, Prod.mk.injEq] at H
  obtain ⟨rfl, rfl, rfl, rfl, rfl⟩ := H
  go_enter Try.func41, Try.ntmps41
  go_wp2_with (first | ((with_reducible refine gate_dst (N := 2) rfl ?_); (try (refine gate_guard (by rfl) ?_; dsimp only)); refine box_event (by rfl) (N := 2) (by rfl) (cs := #[.int .i64 a0_0, .int .i64 a0_1, .int .i64 a0_2, .slice A0_3 l0_3.length c0_3]) (t := 28) (by go_simp; done) ?_; intro gbz2 hg w18 hbox hb; replace HB := mk (below_step HB.out hb); have BKz1 := mk (hbox); clear hb hbox hg) | ((with_reducible refine gate_dst (N := 3) rfl ?_); (try (refine gate_guard (by rfl) ?_; dsimp only)); refine box_event (by rfl) (N := 3) (by rfl) (cs := #[.int .i64 a1_0, .int .i64 a1_1, .int .i64 a1_2, .int .i64 a1_3, .int .i64 a1_4, .slice A1_5 l1_5.length c1_5]) (t := 43) (by go_simp; done) ?_; intro gbz3 hg w19 hbox hb; replace BKz1 := mk (blk_below BKz1.out hb); replace HB := mk (below_step HB.out hb); have BKz2 := mk (hbox); clear hb hbox hg) | ((with_reducible refine gate_dst (N := 4) rfl ?_); (try (refine gate_guard (by rfl) ?_; dsimp only)); refine box_event (by rfl) (N := 4) (by rfl) (cs := #[.int .i64 0, .int .i64 0, .int .i64 0, .slice none 0 0]) (t := 28) (by go_simp; done) ?_; intro gbz0 hg w20 hbox hb; replace BKz1 := mk (blk_below BKz1.out hb); replace BKz2 := mk (blk_below BKz2.out hb); have BKz0 := mk (hbox); have GEz0 := mk ((by rw [hg]; exact (below_size HB.out) : w.heap.size ≤ gbz0)); replace HB := mk (below_step HB.out hb); clear hb hbox hg; have hcz23_0 : w20.cell? ⟨gbz3, 0, none⟩ = some (.int .i64 a1_0) := (blk_cell BKz2.out 0).trans rfl; obtain ⟨hcz25_0, hcz25_1, hcz25_2, -⟩ := c4 BKz1.out; have hcz25_3 : w20.cell? ⟨gbz2, 3, none⟩ = some (.slice A0_3 l0_3.length c0_3) := (blk_cell BKz1.out 3).trans rfl) | ((with_reducible refine gate_callee (f := 73) rfl ?_); refine goesL_ (some 16) rfl rfl Try.func73 (by kernel_rfl) rfl #[.agg #[.int .i64 a0_0, .int .i64 a0_1, .int .i64 a0_2, .slice A0_3 l0_3.length c0_3]] rfl (by (try simp only [List.map_toArray, List.map_cons, List.map_nil]); rfl) ?_; (with_reducible refine (spec_turn.calls k a0_0 a0_1 a0_2 _ _ l0_3 tz7 tz12 tz16 tz20 _ ?side1 ?side2 A17.out).mono ?_); (case side1 => repeat (exact (Kd.C_below HR0_3.out HB.out))); (case side2 => exact HC0_3.out); rintro e w26 ⟨vz1, rfl, ho0, hb⟩; refine ⟨_, rfl, ?_⟩; have n0_ := mk (Kd.R_lower ho0 (below_size HB.out)); have n3_ := mk (blk_below BKz0.out hb); have n4_ := mk (below_step HB.out hb); clear BKz1; clear BKz2; clear BKz0; clear HB; have HOz3 := n0_; have BKz0 := n3_; have HB := n4_; (try clear hb); (try clear ho0); obtain ⟨hcz27_0, hcz27_1, hcz27_2, hcz27_3, hfz27_0, hfz27_1, hfz27_2, hfz27_3⟩ := c4 BKz0.out; obtain ⟨Ao28, co28, eo28⟩ := Kd.R_slice HOz3.out; subst eo28))
  refine bodyPost_ret (results_ct rfl _ _ gbz0 28 #[.int .i64 tz7, .int .i64 tz12, .int .i64 tz16, .slice Ao28 tz20.length co28] (0, 0) _ rfl (by refine blk_put (cs := #[.int .i64 tz7, .int .i64 tz12, .int .i64 tz16, .slice none 0 0]) ?_ 3 _ rfl; refine blk_put (cs := #[.int .i64 tz7, .int .i64 tz12, .int .i64 0, .slice none 0 0]) ?_ 2 _ rfl; refine blk_put (cs := #[.int .i64 tz7, .int .i64 0, .int .i64 0, .slice none 0 0]) ?_ 1 _ rfl; refine blk_put (cs := #[.int .i64 0, .int .i64 0, .int .i64 0, .slice none 0 0]) ?_ 0 _ rfl; exact BKz0.out) Try.underlying28 rfl (by kernel_rfl)) rfl ?_
  exact ⟨_, by rfl, by exact Kd.R_mono (Kd.R_far (p := ⟨gbz0, 3, none⟩) (Kd.R_far (p := ⟨gbz0, 2, none⟩) (Kd.R_far (p := ⟨gbz0, 1, none⟩) (Kd.R_far (p := ⟨gbz0, 0, none⟩) (Kd.R_types HOz3.out BKz0.out (by decide)) (fun _ hk => hk.2) (.int .i64 tz7)) (fun _ hk => hk.2) (.int .i64 tz12)) (fun _ hk => hk.2) (.int .i64 tz16)) (fun _ hk => hk.2) (.slice Ao28 tz20.length co28)) (fun _ hk => trivial), by repeat (with_reducible first | exact HB.out | refine below_set ?_ GEz0.out)⟩
 rw [if_neg c16] at H
 have c16b0 : (a1_0 == 1) = false := beq_eq_false_iff_ne.mpr c16
 have c16b1 : (a1_0 != 1) = true := bne_iff_ne.mpr c16
 by_cases c29 : a1_0 = 2
 ·rw [if_pos c29] at H
  have c29b0 : (a1_0 == 2) = true := beq_iff_eq.mpr c29
  clear c29
  replace H := Option.bind_eq_some_iff.mp H
  obtain ⟨⟨tz8, tz13, tz17, tz21⟩, A300, H⟩ := H
  replace H : (some (tz8, tz13, tz17, tz21, true)) = some (r1, r2, r3, r4, r5) := H
  have A30 := mk A300
  clear A300
  simp only [Option.some.injEq, Prod.mk.injEq] at H
  obtain ⟨rfl, rfl, rfl, rfl, rfl⟩ := H
  go_enter Try.func41, Try.ntmps41
  go_wp2_with (first | ((with_reducible refine gate_dst (N := 2) rfl ?_); (try (refine gate_guard (by rfl) ?_; dsimp only)); refine box_event (by rfl) (N := 2) (by rfl) (cs := #[.int .i64 a0_0, .int .i64 a0_1, .int .i64 a0_2, .slice A0_3 l0_3.length c0_3]) (t := 28) (by go_simp; done) ?_; intro gbz2 hg w31 hbox hb; replace HB := mk (below_step HB.out hb); have BKz1 := mk (hbox); clear hb hbox hg) | ((with_reducible refine gate_dst (N := 3) rfl ?_); (try (refine gate_guard (by rfl) ?_; dsimp only)); refine box_event (by rfl) (N := 3) (by rfl) (cs := #[.int .i64 a1_0, .int .i64 a1_1, .int .i64 a1_2, .int .i64 a1_3, .int .i64 a1_4, .slice A1_5 l1_5.length c1_5]) (t := 43) (by go_simp; done) ?_; intro gbz3 hg w32 hbox hb; replace BKz1 := mk (blk_below BKz1.out hb); replace HB := mk (below_step HB.out hb); have BKz2 := mk (hbox); clear hb hbox hg) | ((with_reducible refine gate_dst (N := 4) rfl ?_); (try (refine gate_guard (by rfl) ?_; dsimp only)); refine box_event (by rfl) (N := 4) (by rfl) (cs := #[.int .i64 0, .int .i64 0, .int .i64 0, .slice none 0 0]) (t := 28) (by go_simp; done) ?_; intro gbz0 hg w33 hbox hb; replace BKz1 := mk (blk_below BKz1.out hb); replace BKz2 := mk (blk_below BKz2.out hb); have BKz0 := mk (hbox); have GEz0 := mk ((by rw [hg]; exact (below_size HB.out) : w.heap.size ≤ gbz0)); replace HB := mk (below_step HB.out hb); clear hb hbox hg; have hcz36_0 : w33.cell? ⟨gbz3, 0, none⟩ = some (.int .i64 a1_0) := (blk_cell BKz2.out 0).trans rfl; obtain ⟨hcz38_0, hcz38_1, hcz38_2, -⟩ := c4 BKz1.out; have hcz38_3 : w33.cell? ⟨gbz2, 3, none⟩ = some (.slice A0_3 l0_3.length c0_3) := (blk_cell BKz1.out 3).trans rfl) | ((with_reducible refine gate_callee (f := 74) rfl ?_); refine goesL_ (some 20) rfl rfl Try.func74 (by kernel_rfl) rfl #[.agg #[.int .i64 a0_0, .int .i64 a0_1, .int .i64 a0_2, .slice A0_3 l0_3.length c0_3]] rfl (by (try simp only [List.map_toArray, List.map_cons, List.map_nil]); rfl) ?_; (with_reducible refine (spec_InvertImage.calls k a0_0 a0_1 a0_2 _ _ l0_3 tz8 tz13 tz17 tz21 _ ?side1 ?side2 A30.out).mono ?_); (case side1 => repeat (exact (Kd.C_below HR0_3.out HB.out))); (case side2 => exact HC0_3.out); rintro e w39 ⟨vz2, rfl, ho0, hb⟩; refine ⟨_, rfl, ?_⟩; have n0_ := mk (Kd.R_lower ho0 (below_size HB.out)); have n3_ := mk (blk_below BKz0.out hb); have n4_ := mk (below_step HB.out hb); clear BKz1; clear BKz2; clear BKz0; clear HB; have HOz4 := n0_; have BKz0 := n3_; have HB := n4_; (try clear hb); (try clear ho0); obtain ⟨hcz40_0, hcz40_1, hcz40_2, hcz40_3, hfz40_0, hfz40_1, hfz40_2, hfz40_3⟩ := c4 BKz0.out; obtain ⟨Ao41, co41, eo41⟩ := Kd.R_slice HOz4.out; subst eo41))
  refine bodyPost_ret (results_ct rfl _ _ gbz0 28 #[.int .i64 tz8, .int .i64 tz13, .int .i64 tz17, .slice Ao41 tz21.length co41] (0, 0) _ rfl (by refine blk_put (cs := #[.int .i64 tz8, .int .i64 tz13, .int .i64 tz17, .slice none 0 0]) ?_ 3 _ rfl; refine blk_put (cs := #[.int .i64 tz8, .int .i64 tz13, .int .i64 0, .slice none 0 0]) ?_ 2 _ rfl; refine blk_put (cs := #[.int .i64 tz8, .int .i64 0, .int .i64 0, .slice none 0 0]) ?_ 1 _ rfl; refine blk_put (cs := #[.int .i64 0, .int .i64 0, .int .i64 0, .slice none 0 0]) ?_ 0 _ rfl; exact BKz0.out) Try.underlying28 rfl (by kernel_rfl)) rfl ?_
  exact ⟨_, by rfl, by exact Kd.R_mono (Kd.R_far (p := ⟨gbz0, 3, none⟩) (Kd.R_far (p := ⟨gbz0, 2, none⟩) (Kd.R_far (p := ⟨gbz0, 1, none⟩) (Kd.R_far (p := ⟨gbz0, 0, none⟩) (Kd.R_types HOz4.out BKz0.out (by decide)) (fun _ hk => hk.2) (.int .i64 tz8)) (fun _ hk => hk.2) (.int .i64 tz13)) (fun _ hk => hk.2) (.int .i64 tz17)) (fun _ hk => hk.2) (.slice Ao41 tz21.length co41)) (fun _ hk => trivial), by repeat (with_reducible first | exact HB.out | refine below_set ?_ GEz0.out)⟩
 rw [if_neg c29] at H
 have c29b0 : (a1_0 == 2) = false := beq_eq_false_iff_ne.mpr c29
 have c29b1 : (a1_0 != 2) = true := bne_iff_ne.mpr c29
 by_cases c42 : a1_0 = 3
 ·rw [if_pos c42] at H
  have c42b0 : (a1_0 == 3) = true := beq_iff_eq.mpr c42
  clear c42
  replace H := Option.bind_eq_some_iff.mp H
  obtain ⟨⟨tz9, tz14, tz18, tz22, tz27⟩, A430, H⟩ := H
  replace H : (some (tz9, tz14, tz18, tz22, tz27)) = some (r1, r2, r3, r4, r5) := H
  have A43 := mk A430
  clear A430
  simp only [Option.some.injEq, Prod.mk.injEq] at H
  obtain ⟨rfl, rfl, rfl, rfl, rfl⟩ := H
  go_enter Try.func41, Try.ntmps41
  go_wp2_with (first | ((with_reducible refine gate_dst (N := 2) rfl ?_); (try (refine gate_guard (by rfl) ?_; dsimp only)); refine box_event (by rfl) (N := 2) (by rfl) (cs := #[.int .i64 a0_0, .int .i64 a0_1, .int .i64 a0_2, .slice A0_3 l0_3.length c0_3]) (t := 28) (by go_simp; done) ?_; intro gbz2 hg w44 hbox hb; replace HB := mk (below_step HB.out hb); have BKz1 := mk (hbox); clear hb hbox hg) | ((with_reducible refine gate_dst (N := 3) rfl ?_); (try (refine gate_guard (by rfl) ?_; dsimp only)); refine box_event (by rfl) (N := 3) (by rfl) (cs := #[.int .i64 a1_0, .int .i64 a1_1, .int .i64 a1_2, .int .i64 a1_3, .int .i64 a1_4, .slice A1_5 l1_5.length c1_5]) (t := 43) (by go_simp; done) ?_; intro gbz3 hg w45 hbox hb; replace BKz1 := mk (blk_below BKz1.out hb); replace HB := mk (below_step HB.out hb); have BKz2 := mk (hbox); clear hb hbox hg) | ((with_reducible refine gate_dst (N := 4) rfl ?_); (try (refine gate_guard (by rfl) ?_; dsimp only)); refine box_event (by rfl) (N := 4) (by rfl) (cs := #[.int .i64 0, .int .i64 0, .int .i64 0, .slice none 0 0]) (t := 28) (by go_simp; done) ?_; intro gbz0 hg w46 hbox hb; replace BKz1 := mk (blk_below BKz1.out hb); replace BKz2 := mk (blk_below BKz2.out hb); have BKz0 := mk (hbox); have GEz0 := mk ((by rw [hg]; exact (below_size HB.out) : w.heap.size ≤ gbz0)); replace HB := mk (below_step HB.out hb); clear hb hbox hg; obtain ⟨hcz49_0, hcz49_1, hcz49_2, hcz49_3, hcz49_4, -⟩ := c6 BKz2.out; obtain ⟨hcz51_0, hcz51_1, hcz51_2, -⟩ := c4 BKz1.out; have hcz51_3 : w46.cell? ⟨gbz2, 3, none⟩ = some (.slice A0_3 l0_3.length c0_3) := (blk_cell BKz1.out 3).trans rfl) | ((with_reducible refine gate_callee (f := 75) rfl ?_); refine goesL_ (some 26) rfl rfl Try.func75 (by kernel_rfl) rfl #[.agg #[.int .i64 a0_0, .int .i64 a0_1, .int .i64 a0_2, .slice A0_3 l0_3.length c0_3], .agg #[.int .i64 a1_1, .int .i64 a1_2, .int .i64 a1_3, .int .i64 a1_4]] rfl (by (try simp only [List.map_toArray, List.map_cons, List.map_nil]); rfl) ?_; (with_reducible refine (spec_CropImage.calls k a0_0 a0_1 a0_2 _ _ l0_3 a1_1 a1_2 a1_3 a1_4 tz9 tz14 tz18 tz22 tz27 _ ?side1 ?side2 A43.out).mono ?_); (case side1 => repeat (exact (Kd.C_below HR0_3.out HB.out))); (case side2 => exact HC0_3.out); rintro e w52 ⟨vz3, rfl, ho0, hb⟩; refine ⟨_, rfl, ?_⟩; have n0_ := mk (Kd.R_lower ho0 (below_size HB.out)); have n3_ := mk (blk_below BKz0.out hb); have n4_ := mk (below_step HB.out hb); clear BKz1; clear BKz2; clear BKz0; clear HB; have HOz5 := n0_; have BKz0 := n3_; have HB := n4_; (try clear hb); (try clear ho0); obtain ⟨hcz53_0, hcz53_1, hcz53_2, hcz53_3, hfz53_0, hfz53_1, hfz53_2, hfz53_3⟩ := c4 BKz0.out; obtain ⟨Ao54, co54, eo54⟩ := Kd.R_slice HOz5.out; subst eo54))
  refine bodyPost_ret (results_ct rfl _ _ gbz0 28 #[.int .i64 tz9, .int .i64 tz14, .int .i64 tz18, .slice Ao54 tz22.length co54] (0, 0) _ rfl (by refine blk_put (cs := #[.int .i64 tz9, .int .i64 tz14, .int .i64 tz18, .slice none 0 0]) ?_ 3 _ rfl; refine blk_put (cs := #[.int .i64 tz9, .int .i64 tz14, .int .i64 0, .slice none 0 0]) ?_ 2 _ rfl; refine blk_put (cs := #[.int .i64 tz9, .int .i64 0, .int .i64 0, .slice none 0 0]) ?_ 1 _ rfl; refine blk_put (cs := #[.int .i64 0, .int .i64 0, .int .i64 0, .slice none 0 0]) ?_ 0 _ rfl; exact BKz0.out) Try.underlying28 rfl (by kernel_rfl)) rfl ?_
  exact ⟨_, by rfl, by exact Kd.R_mono (Kd.R_far (p := ⟨gbz0, 3, none⟩) (Kd.R_far (p := ⟨gbz0, 2, none⟩) (Kd.R_far (p := ⟨gbz0, 1, none⟩) (Kd.R_far (p := ⟨gbz0, 0, none⟩) (Kd.R_types HOz5.out BKz0.out (by decide)) (fun _ hk => hk.2) (.int .i64 tz9)) (fun _ hk => hk.2) (.int .i64 tz14)) (fun _ hk => hk.2) (.int .i64 tz18)) (fun _ hk => hk.2) (.slice Ao54 tz22.length co54)) (fun _ hk => trivial), by repeat (with_reducible first | exact HB.out | refine below_set ?_ GEz0.out)⟩
 rw [if_neg c42] at H
 have c42b0 : (a1_0 == 3) = false := beq_eq_false_iff_ne.mpr c42
 have c42b1 : (a1_0 != 3) = true := bne_iff_ne.mpr c42
 by_cases c55 : a1_0 = 4
 ·rw [if_pos c55] at H
  have c55b0 : (a1_0 == 4) = true := beq_iff_eq.mpr c55
  have c55b1 : (a1_0 != 4) = false := bne_eq_false_iff_eq.mpr c55
  clear c55
  have HC56 := mk H
  clear H
  go_enter Try.func41, Try.ntmps41
  go_upto_region 11 with (first | ((with_reducible refine gate_dst (N := 2) rfl ?_); (try (refine gate_guard (by rfl) ?_; dsimp only)); refine box_event (by rfl) (N := 2) (by rfl) (cs := #[.int .i64 a0_0, .int .i64 a0_1, .int .i64 a0_2, .slice A0_3 l0_3.length c0_3]) (t := 28) (by go_simp; done) ?_; intro gbz2 hg w57 hbox hb; replace HB := mk (below_step HB.out hb); have BKz1 := mk (hbox); clear hb hbox hg) | ((with_reducible refine gate_dst (N := 3) rfl ?_); (try (refine gate_guard (by rfl) ?_; dsimp only)); refine box_event (by rfl) (N := 3) (by rfl) (cs := #[.int .i64 a1_0, .int .i64 a1_1, .int .i64 a1_2, .int .i64 a1_3, .int .i64 a1_4, .slice A1_5 l1_5.length c1_5]) (t := 43) (by go_simp; done) ?_; intro gbz3 hg w58 hbox hb; replace BKz1 := mk (blk_below BKz1.out hb); replace HB := mk (below_step HB.out hb); have BKz2 := mk (hbox); clear hb hbox hg) | ((with_reducible refine gate_dst (N := 4) rfl ?_); (try (refine gate_guard (by rfl) ?_; dsimp only)); refine box_event (by rfl) (N := 4) (by rfl) (cs := #[.int .i64 0, .int .i64 0, .int .i64 0, .slice none 0 0]) (t := 28) (by go_simp; done) ?_; intro gbz0 hg w59 hbox hb; replace BKz1 := mk (blk_below BKz1.out hb); replace BKz2 := mk (blk_below BKz2.out hb); have BKz0 := mk (hbox); have GEz0 := mk ((by rw [hg]; exact (below_size HB.out) : w.heap.size ≤ gbz0)); replace HB := mk (below_step HB.out hb); clear hb hbox hg; obtain ⟨hcz62_0, hcz62_1, hcz62_2, hcz62_3, hcz62_4, hcz62_5, hfz62_0, hfz62_1, hfz62_2, hfz62_3, hfz62_4, hfz62_5⟩ := c6 BKz2.out))
  go_cut [49] (fun v49 wc => ∃ (kq : Nat) (x49_55 : Bool), v49 = .bool x49_55 ∧ Aside0 (spec_doStep.j0 kq x49_55 a0_0 a0_1 a0_2 l0_3 a1_0 a1_1 a1_2 a1_3 a1_4 l1_5 = some (r1, r2, r3, r4, r5)) ∧ Aside0 (kq ≤ k) ∧ Aside0 (wc.heap[gbz2]? = some (.cells #[.int .i64 a0_0, .int .i64 a0_1, .int .i64 a0_2, (.slice A0_3 l0_3.length c0_3)] 28 (0, 0))) ∧ Aside0 (wc.heap[gbz3]? = some (.cells #[.int .i64 a1_0, .int .i64 a1_1, .int .i64 a1_2, .int .i64 a1_3, .int .i64 a1_4, (.slice A1_5 l1_5.length c1_5)] 43 (0, 0))) ∧ Aside0 (wc.heap[gbz0]? = some (.cells #[.int .i64 0, .int .i64 0, .int .i64 0, (.slice none 0 0)] 28 (0, 0))) ∧ Aside0 (Below w.heap.size w wc))
  case first =>
   have H := HC56.out
   clear HC56
   replace H := Option.bind_eq_some_iff.mp H
   obtain ⟨tz10, A630, H⟩ := H
   replace H : (if tz10 = true then (if (l1_5.length : Int) = a0_2 then ((spec_allIn.f k l1_5 0 255).bind fun tz4 => (spec_doStep.j0 k (!tz4) a0_0 a0_1 a0_2 l0_3 a1_0 a1_1 a1_2 a1_3 a1_4 l1_5)) else (spec_doStep.j0 k true a0_0 a0_1 a0_2 l0_3 a1_0 a1_1 a1_2 a1_3 a1_4 l1_5)) else (spec_doStep.j0 k true a0_0 a0_1 a0_2 l0_3 a1_0 a1_1 a1_2 a1_3 a1_4 l1_5)) = some (r1, r2, r3, r4, r5) := H
   have A63 := mk A630
   clear A630
   by_cases c64 : tz10 = true
   ·subst c64
    have H1 : (if (l1_5.length : Int) = a0_2 then ((spec_allIn.f k l1_5 0 255).bind fun tz4 => (spec_doStep.j0 k (!tz4) a0_0 a0_1 a0_2 l0_3 a1_0 a1_1 a1_2 a1_3 a1_4 l1_5)) else (spec_doStep.j0 k true a0_0 a0_1 a0_2 l0_3 a1_0 a1_1 a1_2 a1_3 a1_4 l1_5)) = some (r1, r2, r3, r4, r5) := by rw [if_pos rfl] at H; exact H
    clear H
    have H := H1
    clear H1
    by_cases c65 : (l1_5.length : Int) = a0_2
    ·rw [if_pos c65] at H
     have c65b1 : ((l1_5.length : Int) != a0_2) = false := bne_eq_false_iff_eq.mpr c65
     clear c65
     (skip)
     replace H := Option.bind_eq_some_iff.mp H
     obtain ⟨tz4, A660, H⟩ := H
     replace H : (spec_doStep.j0 k (!tz4) a0_0 a0_1 a0_2 l0_3 a1_0 a1_1 a1_2 a1_3 a1_4 l1_5) = some (r1, r2, r3, r4, r5) := H
     have A66 := mk A660
     clear A660
     have H' := mk H
     clear H
     obtain ⟨hcz69_0, hcz69_1, hcz69_2, hcz69_3, -⟩ := c4 BKz1.out
     go_wp2_with (first | ((with_reducible refine gate_callee (f := 76) rfl ?_); refine goesL_ (some 34) rfl rfl Try.func76 (by kernel_rfl) rfl #[.agg #[.int .i64 a0_0, .int .i64 a0_1, .int .i64 a0_2, .slice A0_3 l0_3.length c0_3], .agg #[.int .i64 a1_1, .int .i64 a1_2, .int .i64 a1_3, .int .i64 a1_4]] rfl (by (try simp only [List.map_toArray, List.map_cons, List.map_nil]); rfl) ?_; (with_reducible refine (spec_validBox.calls a0_0 a0_1 a0_2 _ _ l0_3 a1_1 a1_2 a1_3 a1_4 true _ ?side1 ?side2 A63.out).mono ?_); (case side1 => repeat (exact (Kd.C_below HR0_3.out HB.out))); (case side2 => exact HC0_3.out); rintro e w72 ⟨rfl, hb⟩; refine ⟨_, rfl, ?_⟩; replace BKz1 := mk (blk_below BKz1.out hb); replace BKz2 := mk (blk_below BKz2.out hb); replace BKz0 := mk (blk_below BKz0.out hb); replace HB := mk (below_step HB.out hb); (try clear hb); have hcz73_5 : w72.cell? ⟨gbz3, 5, none⟩ = some (.slice A1_5 l1_5.length c1_5) := (blk_cell BKz2.out 5).trans rfl; have hcz74_2 : w72.cell? ⟨gbz2, 2, none⟩ = some (.int .i64 a0_2) := (blk_cell BKz1.out 2).trans rfl) | (go_at_call 70; (with_reducible refine (spec_allIn.calls k _ _ l1_5 0 255 tz4 _ ?side1 ?side2 A66.out).mono ?_); (case side1 => repeat (exact (Kd.C_below HR1_5.out HB.out))); (case side2 => exact HC1_5.out); rintro e w' ⟨rfl, ⟨nd, rfl⟩⟩))
     go_meet
     case rel => exact ⟨_, (!tz4), (by rfl), H', ⟨by omega⟩, ⟨by (with_reducible repeat (refine blk_drewN ?_ _)); exact BKz1.out⟩, ⟨by (with_reducible repeat (refine blk_drewN ?_ _)); exact BKz2.out⟩, ⟨by (with_reducible repeat (refine blk_drewN ?_ _)); exact BKz0.out⟩, ⟨by repeat (with_reducible first | exact HB.out | apply pw_below_drewN)⟩⟩
    rw [if_neg c65] at H
    have c65b1 : ((l1_5.length : Int) != a0_2) = true := bne_iff_ne.mpr c65
    (skip)
    have H' := mk H
    clear H
    obtain ⟨hcz77_0, hcz77_1, hcz77_2, hcz77_3, -⟩ := c4 BKz1.out
    go_wp2_with (first | ((with_reducible refine gate_callee (f := 76) rfl ?_); refine goesL_ (some 34) rfl rfl Try.func76 (by kernel_rfl) rfl #[.agg #[.int .i64 a0_0, .int .i64 a0_1, .int .i64 a0_2, .slice A0_3 l0_3.length c0_3], .agg #[.int .i64 a1_1, .int .i64 a1_2, .int .i64 a1_3, .int .i64 a1_4]] rfl (by (try simp only [List.map_toArray, List.map_cons, List.map_nil]); rfl) ?_; (with_reducible refine (spec_validBox.calls a0_0 a0_1 a0_2 _ _ l0_3 a1_1 a1_2 a1_3 a1_4 true _ ?side1 ?side2 A63.out).mono ?_); (case side1 => repeat (exact (Kd.C_below HR0_3.out HB.out))); (case side2 => exact HC0_3.out); rintro e w80 ⟨rfl, hb⟩; refine ⟨_, rfl, ?_⟩; replace BKz1 := mk (blk_below BKz1.out hb); replace BKz2 := mk (blk_below BKz2.out hb); replace BKz0 := mk (blk_below BKz0.out hb); replace HB := mk (below_step HB.out hb); (try clear hb); have hcz81_5 : w80.cell? ⟨gbz3, 5, none⟩ = some (.slice A1_5 l1_5.length c1_5) := (blk_cell BKz2.out 5).trans rfl; have hcz82_2 : w80.cell? ⟨gbz2, 2, none⟩ = some (.int .i64 a0_2) := (blk_cell BKz1.out 2).trans rfl))
    go_meet
    case rel => exact ⟨_, (true), (by rfl), H', ⟨by omega⟩, BKz1, BKz2, BKz0, HB⟩
   replace c64 := Bool.eq_false_iff.mpr c64
   subst c64
   have H1 : (spec_doStep.j0 k true a0_0 a0_1 a0_2 l0_3 a1_0 a1_1 a1_2 a1_3 a1_4 l1_5) = some (r1, r2, r3, r4, r5) := by rw [if_neg (show ¬ (false = true) by decide)] at H; exact H
   clear H
   have H := H1
   clear H1
   have H' := mk H
   clear H
   obtain ⟨hcz85_0, hcz85_1, hcz85_2, hcz85_3, -⟩ := c4 BKz1.out
   go_wp2_with (first | ((with_reducible refine gate_callee (f := 76) rfl ?_); refine goesL_ (some 34) rfl rfl Try.func76 (by kernel_rfl) rfl #[.agg #[.int .i64 a0_0, .int .i64 a0_1, .int .i64 a0_2, .slice A0_3 l0_3.length c0_3], .agg #[.int .i64 a1_1, .int .i64 a1_2, .int .i64 a1_3, .int .i64 a1_4]] rfl (by (try simp only [List.map_toArray, List.map_cons, List.map_nil]); rfl) ?_; (with_reducible refine (spec_validBox.calls a0_0 a0_1 a0_2 _ _ l0_3 a1_1 a1_2 a1_3 a1_4 false _ ?side1 ?side2 A63.out).mono ?_); (case side1 => repeat (exact (Kd.C_below HR0_3.out HB.out))); (case side2 => exact HC0_3.out); rintro e w88 ⟨rfl, hb⟩; refine ⟨_, rfl, ?_⟩; replace BKz1 := mk (blk_below BKz1.out hb); replace BKz2 := mk (blk_below BKz2.out hb); replace BKz0 := mk (blk_below BKz0.out hb); replace HB := mk (below_step HB.out hb); (try clear hb)))
   go_meet
   case rel => exact ⟨_, (true), (by rfl), H', ⟨by omega⟩, BKz1, BKz2, BKz0, HB⟩
  case rest =>
   clear HC56
   obtain ⟨kq, x49_55, rfl, HA, HJ55, BKz1, BKz2, BKz0, HB⟩ := hcut
   cases kq with
   | zero => exact absurd HA.out (by simp [spec_doStep.j0])
   | succ kj55 =>
    have H := HA.out
    clear HA
    simp only [spec_doStep.j0] at H
    by_cases c89 : x49_55 = true
    ·subst c89
     have H1 : (some (0, 0, 0, ([] : List Int), false)) = some (r1, r2, r3, r4, r5) := by rw [if_pos rfl] at H; exact H
     clear H
     have H := H1
     clear H1
     simp only [Option.some.injEq, Prod.mk.injEq] at H
     obtain ⟨rfl, rfl, rfl, rfl, rfl⟩ := H
     obtain ⟨hcz92_0, hcz92_1, hcz92_2, hcz92_3, hfz92_0, hfz92_1, hfz92_2, hfz92_3⟩ := c4 BKz0.out
     go_wp2
     refine bodyPost_ret (results_ct rfl _ _ gbz0 28 #[.int .i64 0, .int .i64 0, .int .i64 0, .slice none 0 0] (0, 0) _ rfl (by refine blk_put (cs := #[.int .i64 0, .int .i64 0, .int .i64 0, .slice none 0 0]) ?_ 3 _ rfl; refine blk_put (cs := #[.int .i64 0, .int .i64 0, .int .i64 0, .slice none 0 0]) ?_ 2 _ rfl; refine blk_put (cs := #[.int .i64 0, .int .i64 0, .int .i64 0, .slice none 0 0]) ?_ 1 _ rfl; refine blk_put (cs := #[.int .i64 0, .int .i64 0, .int .i64 0, .slice none 0 0]) ?_ 0 _ rfl; exact BKz0.out) Try.underlying28 rfl (by kernel_rfl)) rfl ?_
     exact ⟨_, by rfl, by exact Kd.R_nil _ _ _ _ _, by repeat (with_reducible first | exact HB.out | refine below_set ?_ GEz0.out)⟩
    replace c89 := Bool.eq_false_iff.mpr c89
    subst c89
    have H1 : ((spec_copyImage.f a0_0 a0_1 a0_2 l0_3).bind fun btz0 => ((spec_FillImage.f kj55 a1_3 a1_4 l1_5).bind fun btz1 => ((spec_paste.f kj55 btz0.1 btz0.2.1 btz0.2.2.1 btz0.2.2.2 a1_1 a1_2 btz1.1 btz1.2.1 btz1.2.2.1 btz1.2.2.2).bind fun tz5 => (some (btz0.1, btz0.2.1, btz0.2.2.1, tz5, true))))) = some (r1, r2, r3, r4, r5) := by rw [if_neg (show ¬ (false = true) by decide)] at H; exact H
    clear H
    have H := H1
    clear H1
    replace H := Option.bind_eq_some_iff.mp H
    obtain ⟨⟨tz0, tz1, tz2, tz3⟩, A930, H⟩ := H
    replace H : ((spec_FillImage.f kj55 a1_3 a1_4 l1_5).bind fun btz1 => ((spec_paste.f kj55 tz0 tz1 tz2 tz3 a1_1 a1_2 btz1.1 btz1.2.1 btz1.2.2.1 btz1.2.2.2).bind fun tz5 => (some (tz0, tz1, tz2, tz5, true)))) = some (r1, r2, r3, r4, r5) := H
    have A93 := mk A930
    clear A930
    replace H := Option.bind_eq_some_iff.mp H
    obtain ⟨⟨tz23, tz24, tz25, tz26⟩, A940, H⟩ := H
    replace H : ((spec_paste.f kj55 tz0 tz1 tz2 tz3 a1_1 a1_2 tz23 tz24 tz25 tz26).bind fun tz5 => (some (tz0, tz1, tz2, tz5, true))) = some (r1, r2, r3, r4, r5) := H
    have A94 := mk A940
    clear A940
    replace H := Option.bind_eq_some_iff.mp H
    obtain ⟨tz5, A950, H⟩ := H
    replace H : (some (tz0, tz1, tz2, tz5, true)) = some (r1, r2, r3, r4, r5) := H
    have A95 := mk A950
    clear A950
    simp only [Option.some.injEq, Prod.mk.injEq] at H
    obtain ⟨rfl, rfl, rfl, rfl, rfl⟩ := H
    obtain ⟨hcz98_0, hcz98_1, hcz98_2, hcz98_3, -⟩ := c4 BKz1.out
    try go_wp2_with (first | ((with_reducible refine gate_callee (f := 40) rfl ?_); refine goesL_ (some 52) rfl rfl Try.func40 (by kernel_rfl) rfl #[.agg #[.int .i64 a0_0, .int .i64 a0_1, .int .i64 a0_2, .slice A0_3 l0_3.length c0_3]] rfl (by (try simp only [List.map_toArray, List.map_cons, List.map_nil]); rfl) ?_; (with_reducible refine (spec_copyImage.calls a0_0 a0_1 a0_2 _ _ l0_3 tz0 tz1 tz2 tz3 _ ?side1 ?side2 A93.out).mono ?_); (case side1 => repeat (exact (Kd.C_below HR0_3.out HB.out))); (case side2 => exact HC0_3.out); rintro e w99 ⟨vz4, rfl, ho0, hb⟩; refine ⟨_, rfl, ?_⟩; have HOz0 := mk (Kd.R_lower ho0 (below_size HB.out)); replace BKz1 := mk (blk_below BKz1.out hb); replace BKz2 := mk (blk_below BKz2.out hb); replace BKz0 := mk (blk_below BKz0.out hb); replace HB := mk (below_step HB.out hb); (try clear hb); (try clear ho0)) | ((with_reducible refine gate_dst (N := 6) rfl ?_); (try (refine gate_guard (by rfl) ?_; dsimp only)); refine box_event (by rfl) (N := 6) (by rfl) (cs := #[.int .i64 0, .int .i64 0, .int .i64 0, .slice none 0 0]) (t := 28) (by go_simp; done) ?_; intro gbz1 hg w100 hbox hb; replace HOz0 := mk (Kd.R_below HOz0.out hb); have BKz3 := mk (hbox); have GEz1 := mk ((by rw [hg]; exact (below_size HB.out) : w.heap.size ≤ gbz1)); replace HB := mk (below_step HB.out hb); have NBz0 := mk ((by rw [hg]; exact Nat.ne_of_lt (blk_lt BKz1.out) : gbz2 ≠ gbz1)); replace BKz1 := mk (blk_below BKz1.out hb); have NBz1 := mk ((by rw [hg]; exact Nat.ne_of_lt (blk_lt BKz2.out) : gbz3 ≠ gbz1)); replace BKz2 := mk (blk_below BKz2.out hb); have NBz2 := mk ((by rw [hg]; exact Nat.ne_of_lt (blk_lt BKz0.out) : gbz0 ≠ gbz1)); replace BKz0 := mk (blk_below BKz0.out hb); clear hb hbox hg; obtain ⟨hcz104_0, hcz104_1, hcz104_2, hcz104_3, hfz104_0, hfz104_1, hfz104_2, hfz104_3⟩ := c4 BKz3.out; obtain ⟨Ao105, co105, eo105⟩ := Kd.R_slice HOz0.out; subst eo105))
    have n0_ : Aside0 (Kd.R (Kd.int .i64) 3 ((((w100.setCell ⟨gbz1, 0, none⟩ (.int .i64 tz0)).setCell ⟨gbz1, 1, none⟩ (.int .i64 tz1)).setCell ⟨gbz1, 2, none⟩ (.int .i64 tz2)).setCell ⟨gbz1, 3, none⟩ (.slice Ao105 tz3.length co105)) w.heap.size (fun _ => True) (.slice Ao105 tz3.length co105) tz3) := ⟨by exact Kd.R_mono (Kd.R_far (p := ⟨gbz1, 3, none⟩) (Kd.R_far (p := ⟨gbz1, 2, none⟩) (Kd.R_far (p := ⟨gbz1, 1, none⟩) (Kd.R_far (p := ⟨gbz1, 0, none⟩) (Kd.R_types HOz0.out BKz3.out (by decide)) (fun _ hk => hk.2) (.int .i64 tz0)) (fun _ hk => hk.2) (.int .i64 tz1)) (fun _ hk => hk.2) (.int .i64 tz2)) (fun _ hk => hk.2) (.slice Ao105 tz3.length co105)) (fun _ hk => trivial)⟩
    have n1_ : Aside0 (((((w100.setCell ⟨gbz1, 0, none⟩ (.int .i64 tz0)).setCell ⟨gbz1, 1, none⟩ (.int .i64 tz1)).setCell ⟨gbz1, 2, none⟩ (.int .i64 tz2)).setCell ⟨gbz1, 3, none⟩ (.slice Ao105 tz3.length co105)).heap[gbz2]? = some (.cells #[.int .i64 a0_0, .int .i64 a0_1, .int .i64 a0_2, .slice A0_3 l0_3.length c0_3] 28 (0, 0))) := ⟨by refine blk_far ?_ NBz0.out _; refine blk_far ?_ NBz0.out _; refine blk_far ?_ NBz0.out _; refine blk_far ?_ NBz0.out _; exact BKz1.out⟩
    have n2_ : Aside0 (((((w100.setCell ⟨gbz1, 0, none⟩ (.int .i64 tz0)).setCell ⟨gbz1, 1, none⟩ (.int .i64 tz1)).setCell ⟨gbz1, 2, none⟩ (.int .i64 tz2)).setCell ⟨gbz1, 3, none⟩ (.slice Ao105 tz3.length co105)).heap[gbz3]? = some (.cells #[.int .i64 a1_0, .int .i64 a1_1, .int .i64 a1_2, .int .i64 a1_3, .int .i64 a1_4, .slice A1_5 l1_5.length c1_5] 43 (0, 0))) := ⟨by refine blk_far ?_ NBz1.out _; refine blk_far ?_ NBz1.out _; refine blk_far ?_ NBz1.out _; refine blk_far ?_ NBz1.out _; exact BKz2.out⟩
    have n3_ : Aside0 (((((w100.setCell ⟨gbz1, 0, none⟩ (.int .i64 tz0)).setCell ⟨gbz1, 1, none⟩ (.int .i64 tz1)).setCell ⟨gbz1, 2, none⟩ (.int .i64 tz2)).setCell ⟨gbz1, 3, none⟩ (.slice Ao105 tz3.length co105)).heap[gbz0]? = some (.cells #[.int .i64 0, .int .i64 0, .int .i64 0, .slice none 0 0] 28 (0, 0))) := ⟨by refine blk_far ?_ NBz2.out _; refine blk_far ?_ NBz2.out _; refine blk_far ?_ NBz2.out _; refine blk_far ?_ NBz2.out _; exact BKz0.out⟩
    have n4_ : Aside0 (((((w100.setCell ⟨gbz1, 0, none⟩ (.int .i64 tz0)).setCell ⟨gbz1, 1, none⟩ (.int .i64 tz1)).setCell ⟨gbz1, 2, none⟩ (.int .i64 tz2)).setCell ⟨gbz1, 3, none⟩ (.slice Ao105 tz3.length co105)).heap[gbz1]? = some (.cells #[.int .i64 tz0, .int .i64 tz1, .int .i64 tz2, .slice Ao105 tz3.length co105] 28 (0, 0))) := ⟨by refine blk_put (cs := #[.int .i64 tz0, .int .i64 tz1, .int .i64 tz2, .slice none 0 0]) ?_ 3 _ rfl; refine blk_put (cs := #[.int .i64 tz0, .int .i64 tz1, .int .i64 0, .slice none 0 0]) ?_ 2 _ rfl; refine blk_put (cs := #[.int .i64 tz0, .int .i64 0, .int .i64 0, .slice none 0 0]) ?_ 1 _ rfl; refine blk_put (cs := #[.int .i64 0, .int .i64 0, .int .i64 0, .slice none 0 0]) ?_ 0 _ rfl; exact BKz3.out⟩
    have n5_ : Aside0 (Below w.heap.size w ((((w100.setCell ⟨gbz1, 0, none⟩ (.int .i64 tz0)).setCell ⟨gbz1, 1, none⟩ (.int .i64 tz1)).setCell ⟨gbz1, 2, none⟩ (.int .i64 tz2)).setCell ⟨gbz1, 3, none⟩ (.slice Ao105 tz3.length co105))) := ⟨by repeat (with_reducible first | exact HB.out | refine below_set ?_ GEz1.out)⟩
    (try clear HOz0)
    (try clear BKz1)
    (try clear BKz2)
    (try clear BKz0)
    (try clear BKz3)
    (try clear HB)
    generalize ((((w100.setCell ⟨gbz1, 0, none⟩ (.int .i64 tz0)).setCell ⟨gbz1, 1, none⟩ (.int .i64 tz1)).setCell ⟨gbz1, 2, none⟩ (.int .i64 tz2)).setCell ⟨gbz1, 3, none⟩ (.slice Ao105 tz3.length co105)) = w106 at n0_ n1_ n2_ n3_ n4_ n5_ ⊢
    revert n0_ n1_ n2_ n3_ n4_ n5_; intro HOz0 BKz1 BKz2 BKz0 BKz3 HB
    replace HOz0 := mk (Kd.R_drew HOz0.out)
    replace BKz1 := mk (blk_drew BKz1.out)
    replace BKz2 := mk (blk_drew BKz2.out)
    replace BKz0 := mk (blk_drew BKz0.out)
    replace BKz3 := mk (blk_drew BKz3.out)
    replace HB := mk (below_drew1 HB.out)
    refine start_ (n := 17) (S := fun w' => w'.cell? ⟨gbz1, 0, none⟩ = some (.int .i64 tz0) ∧ w'.cell? ⟨gbz1, 1, none⟩ = some (.int .i64 tz1) ∧ w'.cell? ⟨gbz1, 2, none⟩ = some (.int .i64 tz2) ∧ w'.cell? ⟨gbz1, 3, none⟩ = some (.slice Ao105 tz3.length co105) ∧ w'.cell? ⟨gbz3, 0, none⟩ = some (.int .i64 a1_0) ∧ w'.cell? ⟨gbz3, 1, none⟩ = some (.int .i64 a1_1) ∧ w'.cell? ⟨gbz3, 2, none⟩ = some (.int .i64 a1_2) ∧ w'.cell? ⟨gbz3, 3, none⟩ = some (.int .i64 a1_3) ∧ w'.cell? ⟨gbz3, 4, none⟩ = some (.int .i64 a1_4) ∧ w'.cell? ⟨gbz3, 5, none⟩ = some (.slice A1_5 l1_5.length c1_5)) (ds := []) #[false, false, false, false, false, false, false, false, false, false, false, false, false, false, false, false, false] (by kernel_rfl) rfl rfl ⟨blk_cell BKz3.out 0, blk_cell BKz3.out 1, blk_cell BKz3.out 2, blk_cell BKz3.out 3, blk_cell BKz2.out 0, blk_cell BKz2.out 1, blk_cell BKz2.out 2, blk_cell BKz2.out 3, blk_cell BKz2.out 4, blk_cell BKz2.out 5⟩ (fun hHeld => ?_); refine with_tabW spec_doStep.tab14 spec_doStep.bits14 (fun HT_ HW_ => ?_)
    generalize w106.drew = w107 at HOz0 BKz1 BKz2 BKz0 BKz3 HB hHeld ⊢
    refine pure_ (i := 1) (N := some 54) (v := ?_) (a' := ?_) #[false, true, false, false, false, false, false, false, false, false, false, false, false, false, false, false, false] rfl rfl (any_of HT_.out (by kernel_rfl)) (fun _ _ _ h => h) (Or.inl ⟨by rfl, ?_⟩) ?_ ?_
    rotate_left
    ·intro w'
     go_simp
     with_reducible rfl
    rotate_left
    ·simp only [Act.put, List.setIfInBounds_toArray, List.set_cons_zero, List.set_cons_succ, i64_w, i32_w]
     rfl
    refine pure_ (i := 2) (N := some 55) (v := ?_) (a' := ?_) #[false, true, true, false, false, false, false, false, false, false, false, false, false, false, false, false, false] rfl rfl (any_of HT_.out (by kernel_rfl)) (fun _ _ _ h => h) (Or.inl ⟨by rfl, ?_⟩) ?_ ?_
    rotate_left
    ·intro w'
     go_simp
     with_reducible rfl
    rotate_left
    ·simp only [Act.put, List.setIfInBounds_toArray, List.set_cons_zero, List.set_cons_succ, i64_w, i32_w]
     rfl
    refine pure_ (i := 4) (N := some 57) (v := ?_) (a' := ?_) #[false, true, true, false, true, false, false, false, false, false, false, false, false, false, false, false, false] rfl rfl (any_of HT_.out (by kernel_rfl)) (fun _ _ _ h => h) (Or.inl ⟨by rfl, ?_⟩) ?_ ?_
    rotate_left
    ·intro w'
     go_simp
     with_reducible rfl
    rotate_left
    ·simp only [Act.put, List.setIfInBounds_toArray, List.set_cons_zero, List.set_cons_succ, i64_w, i32_w]
     rfl
    refine pure_ (i := 5) (N := some 58) (v := ?_) (a' := ?_) #[false, true, true, false, true, true, false, false, false, false, false, false, false, false, false, false, false] rfl rfl (any_of HT_.out (by kernel_rfl)) (fun _ _ _ h => h) (Or.inl ⟨by rfl, ?_⟩) ?_ ?_
    rotate_left
    ·intro w'
     go_simp
     with_reducible rfl
    rotate_left
    ·simp only [Act.put, List.setIfInBounds_toArray, List.set_cons_zero, List.set_cons_succ, i64_w, i32_w]
     rfl
    refine pure_ (i := 7) (N := some 60) (v := ?_) (a' := ?_) #[false, true, true, false, true, true, false, true, false, false, false, false, false, false, false, false, false] rfl rfl (any_of HT_.out (by kernel_rfl)) (fun _ _ _ h => h) (Or.inl ⟨by rfl, ?_⟩) ?_ ?_
    rotate_left
    ·intro w'
     go_simp
     with_reducible rfl
    rotate_left
    ·simp only [Act.put, List.setIfInBounds_toArray, List.set_cons_zero, List.set_cons_succ, i64_w, i32_w]
     rfl
    refine pure_ (i := 8) (N := some 61) (v := ?_) (a' := ?_) #[false, true, true, false, true, true, false, true, true, false, false, false, false, false, false, false, false] rfl rfl (any_of HT_.out (by kernel_rfl)) (fun _ _ _ h => h) (Or.inl ⟨by rfl, ?_⟩) ?_ ?_
    rotate_left
    ·intro w'
     go_simp
     with_reducible rfl
    rotate_left
    ·simp only [Act.put, List.setIfInBounds_toArray, List.set_cons_zero, List.set_cons_succ, i64_w, i32_w]
     rfl
    refine pure_ (i := 10) (N := some 63) (v := ?_) (a' := ?_) #[false, true, true, false, true, true, false, true, true, false, true, false, false, false, false, false, false] rfl rfl (any_of HT_.out (by kernel_rfl)) (fun _ _ _ h => h) (Or.inl ⟨by rfl, ?_⟩) ?_ ?_
    rotate_left
    ·intro w'
     go_simp
     with_reducible rfl
    rotate_left
    ·simp only [Act.put, List.setIfInBounds_toArray, List.set_cons_zero, List.set_cons_succ, i64_w, i32_w]
     rfl
    refine pure_ (i := 11) (N := some 64) (v := ?_) (a' := ?_) #[false, true, true, false, true, true, false, true, true, false, true, true, false, false, false, false, false] rfl rfl (any_of HT_.out (by kernel_rfl)) (fun _ _ _ h => h) (Or.inl ⟨by rfl, ?_⟩) ?_ ?_
    rotate_left
    ·intro w'
     go_simp
     with_reducible rfl
    rotate_left
    ·simp only [Act.put, List.setIfInBounds_toArray, List.set_cons_zero, List.set_cons_succ, i64_w, i32_w]
     rfl
    refine pure_ (i := 13) (N := some 66) (v := ?_) (a' := ?_) #[false, true, true, false, true, true, false, true, true, false, true, true, false, true, false, false, false] rfl rfl (any_of HT_.out (by kernel_rfl)) (fun _ _ _ h => h) (Or.inl ⟨by rfl, ?_⟩) ?_ ?_
    rotate_left
    ·intro w'
     go_simp
     with_reducible rfl
    rotate_left
    ·simp only [Act.put, List.setIfInBounds_toArray, List.set_cons_zero, List.set_cons_succ, i64_w, i32_w]
     rfl
    refine take_ (i := 0) (N := some 53) (v := ?_) (a' := ?_) #[true, true, true, false, true, true, false, true, true, false, true, true, false, true, false, false, false] rfl rfl (take_ofW HT_.out HW_.out (by kernel_rfl)) (fun _ _ _ h => h) (Or.inl ⟨by rfl, ?_⟩) hHeld ?_ ?_
    rotate_left
    ·rintro w' ⟨s0, s1, s2, s3, s4, s5, s6, s7, s8, s9⟩
     go_simp
     with_reducible rfl
    rotate_left
    ·simp only [Act.put, List.setIfInBounds_toArray, List.set_cons_zero, List.set_cons_succ, i64_w, i32_w]
     rfl
    refine take_ (i := 3) (N := some 56) (v := ?_) (a' := ?_) #[true, true, true, true, true, true, false, true, true, false, true, true, false, true, false, false, false] rfl rfl (take_ofW HT_.out HW_.out (by kernel_rfl)) (fun _ _ _ h => h) (Or.inl ⟨by rfl, ?_⟩) hHeld ?_ ?_
    rotate_left
    ·rintro w' ⟨s0, s1, s2, s3, s4, s5, s6, s7, s8, s9⟩
     go_simp
     with_reducible rfl
    rotate_left
    ·simp only [Act.put, List.setIfInBounds_toArray, List.set_cons_zero, List.set_cons_succ, i64_w, i32_w]
     rfl
    refine take_ (i := 6) (N := some 59) (v := ?_) (a' := ?_) #[true, true, true, true, true, true, true, true, true, false, true, true, false, true, false, false, false] rfl rfl (take_ofW HT_.out HW_.out (by kernel_rfl)) (fun _ _ _ h => h) (Or.inl ⟨by rfl, ?_⟩) hHeld ?_ ?_
    rotate_left
    ·rintro w' ⟨s0, s1, s2, s3, s4, s5, s6, s7, s8, s9⟩
     go_simp
     with_reducible rfl
    rotate_left
    ·simp only [Act.put, List.setIfInBounds_toArray, List.set_cons_zero, List.set_cons_succ, i64_w, i32_w]
     rfl
    refine take_ (i := 9) (N := some 62) (v := ?_) (a' := ?_) #[true, true, true, true, true, true, true, true, true, true, true, true, false, true, false, false, false] rfl rfl (take_ofW HT_.out HW_.out (by kernel_rfl)) (fun _ _ _ h => h) (Or.inl ⟨by rfl, ?_⟩) hHeld ?_ ?_
    rotate_left
    ·rintro w' ⟨s0, s1, s2, s3, s4, s5, s6, s7, s8, s9⟩
     go_simp
     with_reducible rfl
    rotate_left
    ·simp only [Act.put, List.setIfInBounds_toArray, List.set_cons_zero, List.set_cons_succ, i64_w, i32_w]
     rfl
    refine take_ (i := 12) (N := some 65) (v := ?_) (a' := ?_) #[true, true, true, true, true, true, true, true, true, true, true, true, true, true, false, false, false] rfl rfl (take_ofW HT_.out HW_.out (by kernel_rfl)) (fun _ _ _ h => h) (Or.inl ⟨by rfl, ?_⟩) hHeld ?_ ?_
    rotate_left
    ·rintro w' ⟨s0, s1, s2, s3, s4, s5, s6, s7, s8, s9⟩
     go_simp
     with_reducible rfl
    rotate_left
    ·simp only [Act.put, List.setIfInBounds_toArray, List.set_cons_zero, List.set_cons_succ, i64_w, i32_w]
     rfl
    refine take_ (i := 14) (N := some 67) (v := ?_) (a' := ?_) #[true, true, true, true, true, true, true, true, true, true, true, true, true, true, true, false, false] rfl rfl (take_ofW HT_.out HW_.out (by kernel_rfl)) (fun _ _ _ h => h) (Or.inl ⟨by rfl, ?_⟩) hHeld ?_ ?_
    rotate_left
    ·rintro w' ⟨s0, s1, s2, s3, s4, s5, s6, s7, s8, s9⟩
     go_simp
     with_reducible rfl
    rotate_left
    ·simp only [Act.put, List.setIfInBounds_toArray, List.set_cons_zero, List.set_cons_succ, i64_w, i32_w]
     rfl
    refine one_ (i := 15) (N := some 68) #[true, true, true, true, true, true, true, true, true, true, true, true, true, true, true, true, false] rfl rfl (one_of HT_.out (by kernel_rfl)) (by decide) (fun K hK => ?_)
    refine goes_ Try.func78 (by kernel_rfl) rfl #[.int .i64 a1_3, .int .i64 a1_4, .slice A1_5 l1_5.length c1_5] (by rfl) rfl rfl (by (try simp only [List.map_toArray, List.map_cons, List.map_nil]); rfl) ?_
    with_reducible refine (spec_FillImage.calls kj55 a1_3 a1_4 _ _ l1_5 tz23 tz24 tz25 tz26 _ ?side1 ?side2 A94.out).mono ?_
    (case side1 => repeat (exact (Kd.C_below HR1_5.out HB.out)))
    (case side2 => exact HC1_5.out)
    rintro e w108 ⟨vz5, rfl, ho0, hb⟩
    refine ⟨_, rfl, ?_⟩
    have HOz1 := mk (Kd.R_lower (Kd.R_new' ho0 (Kd.R_lt HOz0.out)) (below_size HB.out))
    replace HOz0 := mk (Kd.R_elder' HOz0.out (Kd.R_base ho0) hb)
    replace BKz1 := mk (blk_below BKz1.out hb)
    replace BKz2 := mk (blk_below BKz2.out hb)
    replace BKz0 := mk (blk_below BKz0.out hb)
    replace BKz3 := mk (blk_below BKz3.out hb)
    replace HB := mk (below_step HB.out hb)
    (try clear hb)
    (try clear ho0)
    obtain ⟨Ao109, co109, eo109⟩ := Kd.R_slice HOz1.out
    (subst eo109)
    refine hK.out _ _ ⟨blk_cell BKz3.out 0, blk_cell BKz3.out 1, blk_cell BKz3.out 2, blk_cell BKz3.out 3, blk_cell BKz2.out 0, blk_cell BKz2.out 1, blk_cell BKz2.out 2, blk_cell BKz2.out 3, blk_cell BKz2.out 4, blk_cell BKz2.out 5⟩ (fun hHeld => ?_)
    clear hK K
    refine norm_ (a' := ?_) ?_ ?_
    rotate_left
    ·show Act.put _ (some 68) _ = _
     simp only [Act.put, List.setIfInBounds_toArray, List.set_cons_zero, List.set_cons_succ, i64_w, i32_w]
     rfl
    refine one_ (i := 16) (N := some 69) #[true, true, true, true, true, true, true, true, true, true, true, true, true, true, true, true, true] rfl rfl (one_of HT_.out (by kernel_rfl)) (by decide) (fun K hK => ?_)
    refine goes_ Try.func77 (by kernel_rfl) rfl #[.agg #[.int .i64 tz0, .int .i64 tz1, .int .i64 tz2, .slice Ao105 tz3.length co105], .int .i64 a1_1, .int .i64 a1_2, .agg #[.int .i64 tz23, .int .i64 tz24, .int .i64 tz25, .slice Ao109 tz26.length co109]] (by rfl) rfl rfl (by (try simp only [List.map_toArray, List.map_cons, List.map_nil]); rfl) ?_
    with_reducible refine (spec_paste.calls kj55 tz0 tz1 tz2 (fun k_ => some k_ = (.slice Ao105 tz3.length co105 : Value).ownBlock) (.slice Ao105 tz3.length co105) tz3 a1_1 a1_2 tz23 tz24 tz25 _ _ tz26 tz5 w _ ?side1 ?side2 ?side3 ?side4 A95.out).mono ?_
    (case side1 => repeat (with_reducible exact HB.out))
    (case side2 => exact Kd.R_tight rfl HOz0.out)
    (case side3 => exact Kd.C_kept_own HOz1.out (fun k_ hk_ hs_ => hk_.2 hs_))
    (case side4 => exact (Kd.R_reads' HOz1.out).2.1)
    rintro e w110 ⟨rfl, hy0, hb, hkp⟩
    refine ⟨_, rfl, ?_⟩
    replace BKz1 := mk (blk_kept BKz1.out hkp (fun hs_ => (fun e_ => (Kd.R_ne HOz0.out BKz1.out (by decide)) e_) hs_))
    replace BKz2 := mk (blk_kept BKz2.out hkp (fun hs_ => (fun e_ => (Kd.R_ne HOz0.out BKz2.out (by decide)) e_) hs_))
    replace BKz0 := mk (blk_kept BKz0.out hkp (fun hs_ => (fun e_ => (Kd.R_ne HOz0.out BKz0.out (by decide)) e_) hs_))
    replace BKz3 := mk (blk_kept BKz3.out hkp (fun hs_ => (fun e_ => (Kd.R_ne HOz0.out BKz3.out (by decide)) e_) hs_))
    replace HOz0 := mk (Kd.R_reok rfl hy0 (fun k_ e_ => HOz0.out.1 k_ e_))
    replace HOz1 := mk (Kd.R_mono (ok' := fun k_ => some k_ ≠ (.slice Ao105 tz3.length co105 : Value).ownBlock) (Kd.R_keptB HOz1.out hkp (fun k_ hk_ hs_ => hk_.2 hs_)) (fun k_ hk_ => hk_.1.2))
    replace HB := mk (hb)
    (try clear hb)
    (try clear hkp)
    (try clear hy0)
    refine hK.out _ _ ⟨blk_cell BKz3.out 0, blk_cell BKz3.out 1, blk_cell BKz3.out 2, blk_cell BKz3.out 3, blk_cell BKz2.out 0, blk_cell BKz2.out 1, blk_cell BKz2.out 2, blk_cell BKz2.out 3, blk_cell BKz2.out 4, blk_cell BKz2.out 5⟩ (fun hHeld => ?_)
    clear hK K
    refine norm_ (a' := ?_) ?_ ?_
    rotate_left
    ·show Act.put _ (some 69) _ = _
     simp only [Act.put, List.setIfInBounds_toArray, List.set_cons_zero, List.set_cons_succ, i64_w, i32_w]
     rfl
    refine done_ (done_of HT_.out (by kernel_rfl)) ?_
    obtain ⟨hcz113_0, hcz113_1, hcz113_2, hcz113_3, hfz113_0, hfz113_1, hfz113_2, hfz113_3⟩ := c4 BKz0.out
    try go_wp2
    refine bodyPost_ret (results_ct rfl _ _ gbz0 28 #[.int .i64 tz0, .int .i64 tz1, .int .i64 tz2, .slice Ao105 tz3.length co105] (0, 0) _ rfl (by refine blk_put (cs := #[.int .i64 tz0, .int .i64 tz1, .int .i64 tz2, .slice none 0 0]) ?_ 3 _ rfl; refine blk_put (cs := #[.int .i64 tz0, .int .i64 tz1, .int .i64 0, .slice none 0 0]) ?_ 2 _ rfl; refine blk_put (cs := #[.int .i64 tz0, .int .i64 0, .int .i64 0, .slice none 0 0]) ?_ 1 _ rfl; refine blk_put (cs := #[.int .i64 0, .int .i64 0, .int .i64 0, .slice none 0 0]) ?_ 0 _ rfl; exact BKz0.out) Try.underlying28 rfl (by kernel_rfl)) rfl ?_
    exact ⟨_, by rfl, by exact Kd.R_mono (Kd.R_far (p := ⟨gbz0, 3, none⟩) (Kd.R_far (p := ⟨gbz0, 2, none⟩) (Kd.R_far (p := ⟨gbz0, 1, none⟩) (Kd.R_far (p := ⟨gbz0, 0, none⟩) (Kd.R_types HOz0.out BKz0.out (by decide)) (fun _ hk => hk.2) (.int .i64 tz0)) (fun _ hk => hk.2) (.int .i64 tz1)) (fun _ hk => hk.2) (.int .i64 tz2)) (fun _ hk => hk.2) (.slice Ao105 tz3.length co105)) (fun _ hk => trivial), by repeat (with_reducible first | exact HB.out | refine below_set ?_ GEz0.out)⟩
 rw [if_neg c55] at H
 have c55b0 : (a1_0 == 4) = false := beq_eq_false_iff_ne.mpr c55
 simp only [Option.some.injEq, Prod.mk.injEq] at H
 obtain ⟨rfl, rfl, rfl, rfl, rfl⟩ := H
 go_enter Try.func41, Try.ntmps41
 go_wp2_with (first | ((with_reducible refine gate_dst (N := 2) rfl ?_); (try (refine gate_guard (by rfl) ?_; dsimp only)); refine box_event (by rfl) (N := 2) (by rfl) (cs := #[.int .i64 a0_0, .int .i64 a0_1, .int .i64 a0_2, .slice A0_3 l0_3.length c0_3]) (t := 28) (by go_simp; done) ?_; intro gbz2 hg w114 hbox hb; replace HB := mk (below_step HB.out hb); have BKz1 := mk (hbox); clear hb hbox hg) | ((with_reducible refine gate_dst (N := 3) rfl ?_); (try (refine gate_guard (by rfl) ?_; dsimp only)); refine box_event (by rfl) (N := 3) (by rfl) (cs := #[.int .i64 a1_0, .int .i64 a1_1, .int .i64 a1_2, .int .i64 a1_3, .int .i64 a1_4, .slice A1_5 l1_5.length c1_5]) (t := 43) (by go_simp; done) ?_; intro gbz3 hg w115 hbox hb; replace BKz1 := mk (blk_below BKz1.out hb); replace HB := mk (below_step HB.out hb); have BKz2 := mk (hbox); clear hb hbox hg) | ((with_reducible refine gate_dst (N := 4) rfl ?_); (try (refine gate_guard (by rfl) ?_; dsimp only)); refine box_event (by rfl) (N := 4) (by rfl) (cs := #[.int .i64 0, .int .i64 0, .int .i64 0, .slice none 0 0]) (t := 28) (by go_simp; done) ?_; intro gbz0 hg w116 hbox hb; have n1_ := mk (blk_below BKz2.out hb); have n2_ := mk (below_step HB.out hb); have n3_ := mk (hbox); have n5_ := mk ((by rw [hg]; exact (below_size HB.out) : w.heap.size ≤ gbz0)); clear BKz1; clear BKz2; clear HB; have BKz2 := n1_; have HB := n2_; have BKz0 := n3_; have GEz0 := n5_; clear hb hbox hg; have hcz119_0 : w116.cell? ⟨gbz3, 0, none⟩ = some (.int .i64 a1_0) := (blk_cell BKz2.out 0).trans rfl; obtain ⟨hcz121_0, hcz121_1, hcz121_2, hcz121_3, hfz121_0, hfz121_1, hfz121_2, hfz121_3⟩ := c4 BKz0.out))
 refine bodyPost_ret (results_ct rfl _ _ gbz0 28 #[.int .i64 0, .int .i64 0, .int .i64 0, .slice none 0 0] (0, 0) _ rfl (by refine blk_put (cs := #[.int .i64 0, .int .i64 0, .int .i64 0, .slice none 0 0]) ?_ 3 _ rfl; refine blk_put (cs := #[.int .i64 0, .int .i64 0, .int .i64 0, .slice none 0 0]) ?_ 2 _ rfl; refine blk_put (cs := #[.int .i64 0, .int .i64 0, .int .i64 0, .slice none 0 0]) ?_ 1 _ rfl; refine blk_put (cs := #[.int .i64 0, .int .i64 0, .int .i64 0, .slice none 0 0]) ?_ 0 _ rfl; exact BKz0.out) Try.underlying28 rfl (by kernel_rfl)) rfl ?_
 exact ⟨_, by rfl, by exact Kd.R_nil _ _ _ _ _, by repeat (with_reducible first | exact HB.out | refine below_set ?_ GEz0.out)⟩


mutual
def spec_RunSteps.j0 : Nat → List S43 → Bool → Int → Int → Int → List Int → Option (Int × Int × Int × List Int × Int)
 | 0, _, _, _, _, _, _ => none
 | k + 1, x1, x17, xz11, xz12, xz13, xz14 => if x17 = true then (some (0, 0, 0, ([] : List Int), (-1))) else ((spec_copyImage.f xz11 xz12 xz13 xz14).bind fun btz0 => (spec_RunSteps.l0 k x1 0 btz0.1 btz0.2.1 btz0.2.2.1 btz0.2.2.2))
def spec_RunSteps.l0 : Nat → List S43 → Int → Int → Int → Int → List Int → Option (Int × Int × Int × List Int × Int)
 | 0, _, _, _, _, _, _ => none
 | k + 1, x1, x7, xz7, xz8, xz9, xz10 => if x7 < (x1.length : Int) then (if 0 ≤ x7 then ((spec_doStep.f k xz7 xz8 xz9 xz10 ((rd_T43 x1 x7).f0) ((rd_T43 x1 x7).f1.f0) ((rd_T43 x1 x7).f1.f1) ((rd_T43 x1 x7).f1.f2) ((rd_T43 x1 x7).f1.f3) ((rd_T43 x1 x7).f2)).bind fun btz1 => (if btz1.2.2.2.2 = true then (spec_RunSteps.l0 k x1 (wrap64 (x7 + 1)) btz1.1 btz1.2.1 btz1.2.2.1 btz1.2.2.2.1) else (some (xz7, xz8, xz9, xz10, x7)))) else none) else (some (xz7, xz8, xz9, xz10, (x1.length : Int)))
end
def spec_RunSteps.f (k : Nat) (a0_0 : Int) (a0_1 : Int) (a0_2 : Int) (l0_3 : List Int) (l1 : List S43) : Option (Int × Int × Int × List Int × Int) := (spec_validImage.f k a0_0 a0_1 a0_2 l0_3).bind fun tz5 => (if tz5 = true then (spec_RunSteps.j0 k l1 (decide ((l1.length : Int) > 12)) a0_0 a0_1 a0_2 l0_3) else (spec_RunSteps.j0 k l1 true a0_0 a0_1 a0_2 l0_3))
def spec_RunSteps.T7 : Bool × List (List Nat × List Nat) := (true, [([], []), ([], []), ([], []), ([1, 2], [1, 2]), ([3], [3]), ([0, 4], [0, 4]), ([5], [5]), ([6], [6]), ([6], [6]), ([], []), ([9, 7, 5, 0, 1, 2, 3, 4, 5, 6, 7, 9], [7, 9]), ([8, 10, 0, 1, 2, 3, 4, 5, 6, 7, 8, 9, 10], [8])])
def spec_RunSteps.B7 : List Nat := [0, 0, 0, 6, 14, 31, 63, 127, 127, 0, 767, 2047]
theorem spec_RunSteps.tab7 : rtab .any (opsOf Try.f12 7) = spec_RunSteps.T7 := by kernel_rfl
theorem spec_RunSteps.bits7 : waitsOk spec_RunSteps.T7.2 spec_RunSteps.B7 = true := by kernel_rfl
theorem spec_RunSteps.calls (k : Nat) (a0_0 : Int) (a0_1 : Int) (a0_2 : Int) (A0_3 : Option Addr) (c0_3 : Nat) (l0_3 : List Int) (A1 : Option Addr) (c1 : Nat) (l1 : List S43) (r1 : Int) (r2 : Int) (r3 : Int) (r4 : List Int) (r5 : Int) (w : World) (hr0_3 : Kd.C (Kd.int .i64) w A0_3 l0_3.length l0_3) (hc0_3 : l0_3.length ≤ c0_3) (hr1 : Kd.C k43 w A1 l1.length l1) (hc1 : l1.length ≤ c1) (h : spec_RunSteps.f k a0_0 a0_1 a0_2 l0_3 l1 = some (r1, r2, r3, r4, r5)) :
  Calls Try.prog 12 #[.agg #[.int .i64 a0_0, .int .i64 a0_1, .int .i64 a0_2, .slice A0_3 l0_3.length c0_3], .slice A1 l1.length c1] w fun e w' => ∃ v3_ : Value, e = .returned (.tuple #[.agg #[.int .i64 r1, .int .i64 r2, .int .i64 r3, v3_], .int .i64 r5]) ∧ Kd.R (Kd.int .i64) 3 w' w.heap.size (fun _ => True) v3_ r4 ∧ Below w.heap.size w w' := by
 have hu28 := Try.underlying28
 have hu43 := Try.underlying43
 have HR0_3 := mk hr0_3
 have HC0_3 := mk hc0_3
 clear hr0_3 hc0_3
 have HR1 := mk hr1
 have HC1 := mk hc1
 clear hr1 hc1
 have HB := mk (Below.refl w.heap.size w)
 have H : ((spec_validImage.f k a0_0 a0_1 a0_2 l0_3).bind fun tz5 => (if tz5 = true then (spec_RunSteps.j0 k l1 (decide ((l1.length : Int) > 12)) a0_0 a0_1 a0_2 l0_3) else (spec_RunSteps.j0 k l1 true a0_0 a0_1 a0_2 l0_3))) = some (r1, r2, r3, r4, r5) := h
 clear h
 have HC3 := mk H
 clear H
 go_enter Try.func12, Try.ntmps12
 go_upto_region 1 with (first | ((with_reducible refine gate_dst (N := 2) rfl ?_); (try (refine gate_guard (by rfl) ?_; dsimp only)); refine box_event (by rfl) (N := 2) (by rfl) (cs := #[.int .i64 a0_0, .int .i64 a0_1, .int .i64 a0_2, .slice A0_3 l0_3.length c0_3]) (t := 28) (by go_simp; done) ?_; intro gbz3 hg w4 hbox hb; replace HB := mk (below_step HB.out hb); have BKz2 := mk (hbox); clear hb hbox hg) | ((with_reducible refine gate_dst (N := 4) rfl ?_); (try (refine gate_guard (by rfl) ?_; dsimp only)); refine box_event (by rfl) (N := 4) (by rfl) (cs := #[.int .i64 0, .int .i64 0, .int .i64 0, .slice none 0 0]) (t := 28) (by go_simp; done) ?_; intro gbz2 hg w5 hbox hb; replace BKz2 := mk (blk_below BKz2.out hb); have BKz1 := mk (hbox); have GEz1 := mk ((by rw [hg]; exact (below_size HB.out) : w.heap.size ≤ gbz2)); replace HB := mk (below_step HB.out hb); clear hb hbox hg))
 go_cut [17] (fun v17 wc => ∃ (kq : Nat) (x17_2 : Bool), v17 = .bool x17_2 ∧ Aside0 (spec_RunSteps.j0 kq l1 x17_2 a0_0 a0_1 a0_2 l0_3 = some (r1, r2, r3, r4, r5)) ∧ Aside0 (kq ≤ k) ∧ Aside0 (wc.heap[gbz3]? = some (.cells #[.int .i64 a0_0, .int .i64 a0_1, .int .i64 a0_2, (.slice A0_3 l0_3.length c0_3)] 28 (0, 0))) ∧ Aside0 (wc.heap[gbz2]? = some (.cells #[.int .i64 0, .int .i64 0, .int .i64 0, (.slice none 0 0)] 28 (0, 0))) ∧ Aside0 (Below w.heap.size w wc))
 case first =>
  have H := HC3.out
  clear HC3
  replace H := Option.bind_eq_some_iff.mp H
  obtain ⟨tz5, A60, H⟩ := H
  replace H : (if tz5 = true then (spec_RunSteps.j0 k l1 (decide ((l1.length : Int) > 12)) a0_0 a0_1 a0_2 l0_3) else (spec_RunSteps.j0 k l1 true a0_0 a0_1 a0_2 l0_3)) = some (r1, r2, r3, r4, r5) := H
  have A6 := mk A60
  clear A60
  by_cases c7 : tz5 = true
  ·subst c7
   have H1 : (spec_RunSteps.j0 k l1 (decide ((l1.length : Int) > 12)) a0_0 a0_1 a0_2 l0_3) = some (r1, r2, r3, r4, r5) := by rw [if_pos rfl] at H; exact H
   clear H
   have H := H1
   clear H1
   have H' := mk H
   clear H
   obtain ⟨hcz9_0, hcz9_1, hcz9_2, hcz9_3, -⟩ := c4 BKz2.out
   go_wp2_with (first | ((with_reducible refine gate_callee (f := 39) rfl ?_); refine goesL_ (some 11) rfl rfl Try.func39 (by kernel_rfl) rfl #[.agg #[.int .i64 a0_0, .int .i64 a0_1, .int .i64 a0_2, .slice A0_3 l0_3.length c0_3]] rfl (by (try simp only [List.map_toArray, List.map_cons, List.map_nil]); rfl) ?_; (with_reducible refine (spec_validImage.calls k a0_0 a0_1 a0_2 _ _ l0_3 true _ ?side1 ?side2 A6.out).mono ?_); (case side1 => repeat (exact (Kd.C_below HR0_3.out HB.out))); (case side2 => exact HC0_3.out); rintro e w10 ⟨rfl, hb⟩; refine ⟨_, rfl, ?_⟩; replace BKz2 := mk (blk_below BKz2.out hb); replace BKz1 := mk (blk_below BKz1.out hb); replace HB := mk (below_step HB.out hb); (try clear hb)))
   go_meet
   case rel => exact ⟨_, (decide ((l1.length : Int) > 12)), (by rfl), H', ⟨by omega⟩, BKz2, BKz1, HB⟩
  replace c7 := Bool.eq_false_iff.mpr c7
  subst c7
  have H1 : (spec_RunSteps.j0 k l1 true a0_0 a0_1 a0_2 l0_3) = some (r1, r2, r3, r4, r5) := by rw [if_neg (show ¬ (false = true) by decide)] at H; exact H
  clear H
  have H := H1
  clear H1
  have H' := mk H
  clear H
  obtain ⟨hcz12_0, hcz12_1, hcz12_2, hcz12_3, -⟩ := c4 BKz2.out
  go_wp2_with (first | ((with_reducible refine gate_callee (f := 39) rfl ?_); refine goesL_ (some 11) rfl rfl Try.func39 (by kernel_rfl) rfl #[.agg #[.int .i64 a0_0, .int .i64 a0_1, .int .i64 a0_2, .slice A0_3 l0_3.length c0_3]] rfl (by (try simp only [List.map_toArray, List.map_cons, List.map_nil]); rfl) ?_; (with_reducible refine (spec_validImage.calls k a0_0 a0_1 a0_2 _ _ l0_3 false _ ?side1 ?side2 A6.out).mono ?_); (case side1 => repeat (exact (Kd.C_below HR0_3.out HB.out))); (case side2 => exact HC0_3.out); rintro e w13 ⟨rfl, hb⟩; refine ⟨_, rfl, ?_⟩; replace BKz2 := mk (blk_below BKz2.out hb); replace BKz1 := mk (blk_below BKz1.out hb); replace HB := mk (below_step HB.out hb); (try clear hb)))
  go_meet
  case rel => exact ⟨_, (true), (by rfl), H', ⟨by omega⟩, BKz2, BKz1, HB⟩
 case rest =>
  clear HC3
  obtain ⟨kq, x17_2, rfl, HA, HJ2, BKz2, BKz1, HB⟩ := hcut
  cases kq with
  | zero => exact absurd HA.out (by simp [spec_RunSteps.j0])
  | succ kj2 =>
   have H := HA.out
   clear HA
   simp only [spec_RunSteps.j0] at H
   by_cases c14 : x17_2 = true
   ·subst c14
    have H1 : (some (0, 0, 0, ([] : List Int), (-1))) = some (r1, r2, r3, r4, r5) := by rw [if_pos rfl] at H; exact H
    clear H
    have H := H1
    clear H1
    simp only [Option.some.injEq, Prod.mk.injEq] at H
    obtain ⟨rfl, rfl, rfl, rfl, rfl⟩ := H
    obtain ⟨hcz16_0, hcz16_1, hcz16_2, hcz16_3, hfz16_0, hfz16_1, hfz16_2, hfz16_3⟩ := c4 BKz1.out
    go_wp2
    refine bodyPost_ret (results_ct rfl _ _ gbz2 28 #[.int .i64 0, .int .i64 0, .int .i64 0, .slice none 0 0] (0, 0) _ rfl (by refine blk_put (cs := #[.int .i64 0, .int .i64 0, .int .i64 0, .slice none 0 0]) ?_ 3 _ rfl; refine blk_put (cs := #[.int .i64 0, .int .i64 0, .int .i64 0, .slice none 0 0]) ?_ 2 _ rfl; refine blk_put (cs := #[.int .i64 0, .int .i64 0, .int .i64 0, .slice none 0 0]) ?_ 1 _ rfl; refine blk_put (cs := #[.int .i64 0, .int .i64 0, .int .i64 0, .slice none 0 0]) ?_ 0 _ rfl; exact BKz1.out) Try.underlying28 rfl (by kernel_rfl)) rfl ?_
    exact ⟨_, by rfl, by exact Kd.R_nil _ _ _ _ _, by repeat (with_reducible first | exact HB.out | refine below_set ?_ GEz1.out)⟩
   replace c14 := Bool.eq_false_iff.mpr c14
   subst c14
   have H1 : ((spec_copyImage.f a0_0 a0_1 a0_2 l0_3).bind fun btz0 => (spec_RunSteps.l0 kj2 l1 0 btz0.1 btz0.2.1 btz0.2.2.1 btz0.2.2.2)) = some (r1, r2, r3, r4, r5) := by rw [if_neg (show ¬ (false = true) by decide)] at H; exact H
   clear H
   have H := H1
   clear H1
   replace H := Option.bind_eq_some_iff.mp H
   obtain ⟨⟨tz4, tz6, tz7, tz8⟩, A170, H⟩ := H
   replace H : (spec_RunSteps.l0 kj2 l1 0 tz4 tz6 tz7 tz8) = some (r1, r2, r3, r4, r5) := H
   have A17 := mk A170
   clear A170
   have H' := mk H
   clear H
   obtain ⟨hcz19_0, hcz19_1, hcz19_2, hcz19_3, hfz19_0, hfz19_1, hfz19_2, hfz19_3⟩ := c4 BKz2.out
   go_wp2_with (first | ((with_reducible refine gate_callee (f := 40) rfl ?_); refine goesL_ (some 20) rfl rfl Try.func40 (by kernel_rfl) rfl #[.agg #[.int .i64 a0_0, .int .i64 a0_1, .int .i64 a0_2, .slice A0_3 l0_3.length c0_3]] rfl (by (try simp only [List.map_toArray, List.map_cons, List.map_nil]); rfl) ?_; (with_reducible refine (spec_copyImage.calls a0_0 a0_1 a0_2 _ _ l0_3 tz4 tz6 tz7 tz8 _ ?side1 ?side2 A17.out).mono ?_); (case side1 => repeat (exact (Kd.C_below HR0_3.out HB.out))); (case side2 => exact HC0_3.out); rintro e w20 ⟨vz1, rfl, ho0, hb⟩; refine ⟨_, rfl, ?_⟩; have HOz2 := mk (Kd.R_lower ho0 (below_size HB.out)); replace BKz2 := mk (blk_below BKz2.out hb); replace BKz1 := mk (blk_below BKz1.out hb); replace HB := mk (below_step HB.out hb); (try clear hb); (try clear ho0)) | ((with_reducible refine gate_dst (N := 6) rfl ?_); (try (refine gate_guard (by rfl) ?_; dsimp only)); refine box_event (by rfl) (N := 6) (by rfl) (cs := #[.int .i64 0, .int .i64 0, .int .i64 0, .slice none 0 0]) (t := 28) (by go_simp; done) ?_; intro gbz1 hg w21 hbox hb; replace HOz2 := mk (Kd.R_below HOz2.out hb); have BKz0 := mk (hbox); have GEz2 := mk ((by rw [hg]; exact (below_size HB.out) : w.heap.size ≤ gbz1)); replace HB := mk (below_step HB.out hb); have NBz6 := mk ((by rw [hg]; exact Nat.ne_of_lt (blk_lt BKz2.out) : gbz3 ≠ gbz1)); replace BKz2 := mk (blk_below BKz2.out hb); have NBz7 := mk ((by rw [hg]; exact Nat.ne_of_lt (blk_lt BKz1.out) : gbz2 ≠ gbz1)); replace BKz1 := mk (blk_below BKz1.out hb); clear hb hbox hg; obtain ⟨hcz24_0, hcz24_1, hcz24_2, hcz24_3, hfz24_0, hfz24_1, hfz24_2, hfz24_3⟩ := c4 BKz0.out; obtain ⟨Ao25, co25, eo25⟩ := Kd.R_slice HOz2.out; subst eo25))
   go_loopg [7] kj2 (fun kq v7 w' => ∃ (x7_2 : Int) (xz6 : Int) (xz5 : Int) (xz4 : Int) (xz1 : Int) (xz2 : Int) (xz3 : Int) (xz0 : List Int) (u13011003 : Value), v7 = .int .i64 x7_2 ∧ Aside0 (spec_RunSteps.l0 kq l1 x7_2 xz1 xz2 xz3 xz0 = some (r1, r2, r3, r4, r5)) ∧ Aside0 (kq ≤ kj2) ∧ Aside0 (Kd.R (Kd.int .i64) 3 w' w.heap.size (fun _ => True) u13011003 xz0) ∧ Aside0 (w'.heap[gbz3]? = some (.cells #[.int .i64 a0_0, .int .i64 a0_1, .int .i64 a0_2, (.slice A0_3 l0_3.length c0_3)] 28 (0, 0))) ∧ Aside0 (w'.heap[gbz2]? = some (.cells #[.int .i64 xz6, .int .i64 xz5, .int .i64 xz4, (.slice none 0 0)] 28 (0, 0))) ∧ Aside0 (w'.heap[gbz1]? = some (.cells #[.int .i64 xz1, .int .i64 xz2, .int .i64 xz3, u13011003] 28 (0, 0))) ∧ Aside0 (Below w.heap.size w w'))
   case atStart => exact ⟨(0), (0), (0), (0), (tz4), (tz6), (tz7), (tz8), (.slice Ao25 tz8.length co25), (by rfl), H', ⟨Nat.le_refl _⟩, ⟨by exact Kd.R_mono (Kd.R_far (p := ⟨gbz1, 3, none⟩) (Kd.R_far (p := ⟨gbz1, 2, none⟩) (Kd.R_far (p := ⟨gbz1, 1, none⟩) (Kd.R_far (p := ⟨gbz1, 0, none⟩) (Kd.R_types HOz2.out BKz0.out (by decide)) (fun _ hk => hk.2) (.int .i64 tz4)) (fun _ hk => hk.2) (.int .i64 tz6)) (fun _ hk => hk.2) (.int .i64 tz7)) (fun _ hk => hk.2) (.slice Ao25 tz8.length co25)) (fun _ hk => trivial)⟩, ⟨by refine blk_far ?_ NBz6.out _; refine blk_far ?_ NBz6.out _; refine blk_far ?_ NBz6.out _; refine blk_far ?_ NBz6.out _; exact BKz2.out⟩, ⟨by refine blk_far ?_ NBz7.out _; refine blk_far ?_ NBz7.out _; refine blk_far ?_ NBz7.out _; refine blk_far ?_ NBz7.out _; exact BKz1.out⟩, ⟨by refine blk_put (cs := #[.int .i64 tz4, .int .i64 tz6, .int .i64 tz7, .slice none 0 0]) ?_ 3 _ rfl; refine blk_put (cs := #[.int .i64 tz4, .int .i64 tz6, .int .i64 0, .slice none 0 0]) ?_ 2 _ rfl; refine blk_put (cs := #[.int .i64 tz4, .int .i64 0, .int .i64 0, .slice none 0 0]) ?_ 1 _ rfl; refine blk_put (cs := #[.int .i64 0, .int .i64 0, .int .i64 0, .slice none 0 0]) ?_ 0 _ rfl; exact BKz0.out⟩, ⟨by repeat (with_reducible first | exact HB.out | refine below_set ?_ GEz2.out)⟩⟩
   case round =>
    clear H'
    obtain ⟨x7_2, xz6, xz5, xz4, xz1, xz2, xz3, xz0, u13011003, rfl, HA, HK2, HOz0, BKz2, BKz1, BKz0, HB⟩ := hrel
    cases gk with
    | zero => exact absurd HA.out (by simp [spec_RunSteps.l0])
    | succ k2 =>
     have H := HA.out
     clear HA
     simp only [spec_RunSteps.l0] at H
     by_cases c26 : x7_2 < (l1.length : Int)
     ·rw [if_pos c26] at H
      have c26b0 : decide (x7_2 < (l1.length : Int)) = true := decide_eq_true c26
      clear c26
      by_cases c27 : 0 ≤ x7_2
      ·rw [if_pos c27] at H
       have c27b0 : decide (0 ≤ x7_2) = true := decide_eq_true c27
       clear c27
       replace H := Option.bind_eq_some_iff.mp H
       obtain ⟨⟨tz0, tz1, tz2, tz3, tz9⟩, A280, H⟩ := H
       replace H : (if tz9 = true then (spec_RunSteps.l0 k2 l1 (wrap64 (x7_2 + 1)) tz0 tz1 tz2 tz3) else (some (xz1, xz2, xz3, xz0, x7_2))) = some (r1, r2, r3, r4, r5) := H
       have A28 := mk A280
       clear A280
       by_cases c29 : tz9 = true
       ·subst c29
        have H1 : (spec_RunSteps.l0 k2 l1 (wrap64 (x7_2 + 1)) tz0 tz1 tz2 tz3) = some (r1, r2, r3, r4, r5) := by rw [if_pos rfl] at H; exact H
        clear H
        have H := H1
        clear H1
        have H' := mk H
        clear H
        obtain ⟨Ao30, co30, eo30⟩ := Kd.R_slice HOz0.out
        subst eo30
        try go_wp2
        replace HOz0 := mk (Kd.R_drew HOz0.out)
        replace BKz2 := mk (blk_drew BKz2.out)
        replace BKz1 := mk (blk_drew BKz1.out)
        replace BKz0 := mk (blk_drew BKz0.out)
        replace HB := mk (below_drew1 HB.out)
        have p13011 : 0 ≤ (x7_2 : Int) := of_decide_eq_true (by (with_reducible assumption))
        have q13011 : x7_2 < (l1.length : Int) := of_decide_eq_true (by (with_reducible assumption))
        obtain ⟨ad13011, Az0, cz0, e13011, hx13011_0, hx13011_1, hx13011_2, hx13011_3, hx13011_4, hx13011_5, hl13011_5, hi13011_5⟩ := at_T43 HR1.out x7_2 p13011 q13011
        have hw13011_5 := hx13011_5
        have hw13011_4 := hx13011_4
        have hw13011_3 := hx13011_3
        have hw13011_2 := hx13011_2
        have hw13011_1 := hx13011_1
        have hw13011_0 := hx13011_0
        cases e13011
        replace hx13011_0 := bc HB.out hx13011_0
        replace hx13011_1 := bc HB.out hx13011_1
        replace hx13011_2 := bc HB.out hx13011_2
        replace hx13011_3 := bc HB.out hx13011_3
        replace hx13011_4 := bc HB.out hx13011_4
        replace hx13011_5 := bc HB.out hx13011_5
        have HR13011_5 := mk hi13011_5
        have HC13011_5 := mk hl13011_5
        clear hi13011_5 hl13011_5
        replace p13011 := eq_true p13011
        replace q13011 := eq_true q13011
        refine start_ (n := 12) (S := fun w' => w'.cell? ⟨gbz1, 0, none⟩ = some (.int .i64 xz1) ∧ w'.cell? ⟨gbz1, 1, none⟩ = some (.int .i64 xz2) ∧ w'.cell? ⟨gbz1, 2, none⟩ = some (.int .i64 xz3) ∧ w'.cell? ⟨gbz1, 3, none⟩ = some (.slice Ao30 xz0.length co30) ∧ w'.cell? (ad13011.add ((x7_2).toNat * 6)) = some (.int .i64 ((rd_T43 l1 x7_2).f0)) ∧ w'.cell? ⟨(ad13011.add ((x7_2).toNat * 6)).block, (ad13011.add ((x7_2).toNat * 6)).off + 1, none⟩ = some (.int .i64 ((rd_T43 l1 x7_2).f1.f0)) ∧ w'.cell? ⟨(ad13011.add ((x7_2).toNat * 6)).block, (ad13011.add ((x7_2).toNat * 6)).off + 2, none⟩ = some (.int .i64 ((rd_T43 l1 x7_2).f1.f1)) ∧ w'.cell? ⟨(ad13011.add ((x7_2).toNat * 6)).block, (ad13011.add ((x7_2).toNat * 6)).off + 3, none⟩ = some (.int .i64 ((rd_T43 l1 x7_2).f1.f2)) ∧ w'.cell? ⟨(ad13011.add ((x7_2).toNat * 6)).block, (ad13011.add ((x7_2).toNat * 6)).off + 4, none⟩ = some (.int .i64 ((rd_T43 l1 x7_2).f1.f3)) ∧ w'.cell? ⟨(ad13011.add ((x7_2).toNat * 6)).block, (ad13011.add ((x7_2).toNat * 6)).off + 5, none⟩ = some (.slice Az0 ((rd_T43 l1 x7_2).f2).length cz0)) (ds := []) #[false, false, false, false, false, false, false, false, false, false, false, false] (by kernel_rfl) rfl rfl ⟨blk_cell BKz0.out 0, blk_cell BKz0.out 1, blk_cell BKz0.out 2, blk_cell BKz0.out 3, bc HB.out hw13011_0, bc HB.out hw13011_1, bc HB.out hw13011_2, bc HB.out hw13011_3, bc HB.out hw13011_4, bc HB.out hw13011_5⟩ (fun hHeld => ?_); refine with_tabW spec_RunSteps.tab7 spec_RunSteps.bits7 (fun HT_ HW_ => ?_)
        generalize wr.drew = w31 at HOz0 BKz2 BKz1 BKz0 HB HR13011_5 hx13011_0 hx13011_1 hx13011_2 hx13011_3 hx13011_4 hx13011_5 hHeld ⊢
        refine pure_ (i := 1) (N := some 29) (v := ?_) (a' := ?_) #[false, true, false, false, false, false, false, false, false, false, false, false] rfl rfl (any_of HT_.out (by kernel_rfl)) (fun _ _ _ h => h) (Or.inl ⟨by rfl, ?_⟩) ?_ ?_
        rotate_left
        ·intro w'
         go_simp
         with_reducible rfl
        rotate_left
        ·simp only [Act.put, List.setIfInBounds_toArray, List.set_cons_zero, List.set_cons_succ, i64_w, i32_w]
         rfl
        refine pure_ (i := 2) (N := some 30) (v := ?_) (a' := ?_) #[false, true, true, false, false, false, false, false, false, false, false, false] rfl rfl (any_of HT_.out (by kernel_rfl)) (fun _ _ _ h => h) (Or.inl ⟨by rfl, ?_⟩) ?_ ?_
        rotate_left
        ·intro w'
         go_simp
         with_reducible rfl
        rotate_left
        ·simp only [Act.put, List.setIfInBounds_toArray, List.set_cons_zero, List.set_cons_succ, i64_w, i32_w]
         rfl
        refine pure_ (i := 3) (N := some 31) (v := ?_) (a' := ?_) #[false, true, true, true, false, false, false, false, false, false, false, false] rfl rfl (any_of HT_.out (by kernel_rfl)) (fun _ _ _ h => h) (Or.inl ⟨by rfl, ?_⟩) ?_ ?_
        rotate_left
        ·intro w'
         go_simp
         with_reducible rfl
        rotate_left
        ·simp only [Act.put, List.setIfInBounds_toArray, List.set_cons_zero, List.set_cons_succ, i64_w, i32_w]
         rfl
        refine take_ (i := 0) (N := some 28) (v := ?_) (a' := ?_) #[true, true, true, true, false, false, false, false, false, false, false, false] rfl rfl (take_ofW HT_.out HW_.out (by kernel_rfl)) (fun _ _ _ h => h) (Or.inl ⟨by rfl, ?_⟩) hHeld ?_ ?_
        rotate_left
        ·rintro w' ⟨s0, s1, s2, s3, s4, s5, s6, s7, s8, s9⟩
         go_simp
         with_reducible rfl
        rotate_left
        ·simp only [Act.put, List.setIfInBounds_toArray, List.set_cons_zero, List.set_cons_succ, i64_w, i32_w]
         rfl
        refine take_ (i := 4) (N := some 32) (v := ?_) (a' := ?_) #[true, true, true, true, true, false, false, false, false, false, false, false] rfl rfl (take_ofW HT_.out HW_.out (by kernel_rfl)) (fun _ _ _ h => h) (Or.inl ⟨by rfl, ?_⟩) hHeld ?_ ?_
        rotate_left
        ·rintro w' ⟨s0, s1, s2, s3, s4, s5, s6, s7, s8, s9⟩
         go_simp
         with_reducible rfl
        rotate_left
        ·simp only [Act.put, List.setIfInBounds_toArray, List.set_cons_zero, List.set_cons_succ, i64_w, i32_w]
         rfl
        refine join_ (σ := Value × Nat) 2 #[true, true, true, true, true, true, true, true, true, true, false, false] (fun s_ => [(33, .tuple #[.agg #[.int .i64 tz0, .int .i64 tz1, .int .i64 tz2, s_.1], .bool true]), (8, .pointer (some ⟨s_.2, 0, none⟩)), (27, .tuple #[.agg #[.int .i64 tz0, .int .i64 tz1, .int .i64 tz2, s_.1], .bool true]), (34, .agg #[.int .i64 tz0, .int .i64 tz1, .int .i64 tz2, s_.1]), (35, .bool true)]) (fun s_ w' => (w'.cell? ⟨gbz1, 0, none⟩ = some (.int .i64 xz1) ∧ w'.cell? ⟨gbz1, 1, none⟩ = some (.int .i64 xz2) ∧ w'.cell? ⟨gbz1, 2, none⟩ = some (.int .i64 xz3) ∧ w'.cell? ⟨gbz1, 3, none⟩ = some (.slice Ao30 xz0.length co30) ∧ w'.cell? (ad13011.add ((x7_2).toNat * 6)) = some (.int .i64 ((rd_T43 l1 x7_2).f0)) ∧ w'.cell? ⟨(ad13011.add ((x7_2).toNat * 6)).block, (ad13011.add ((x7_2).toNat * 6)).off + 1, none⟩ = some (.int .i64 ((rd_T43 l1 x7_2).f1.f0)) ∧ w'.cell? ⟨(ad13011.add ((x7_2).toNat * 6)).block, (ad13011.add ((x7_2).toNat * 6)).off + 2, none⟩ = some (.int .i64 ((rd_T43 l1 x7_2).f1.f1)) ∧ w'.cell? ⟨(ad13011.add ((x7_2).toNat * 6)).block, (ad13011.add ((x7_2).toNat * 6)).off + 3, none⟩ = some (.int .i64 ((rd_T43 l1 x7_2).f1.f2)) ∧ w'.cell? ⟨(ad13011.add ((x7_2).toNat * 6)).block, (ad13011.add ((x7_2).toNat * 6)).off + 4, none⟩ = some (.int .i64 ((rd_T43 l1 x7_2).f1.f3)) ∧ w'.cell? ⟨(ad13011.add ((x7_2).toNat * 6)).block, (ad13011.add ((x7_2).toNat * 6)).off + 5, none⟩ = some (.slice Az0 ((rd_T43 l1 x7_2).f2).length cz0)) ∧ (Kd.R (Kd.int .i64) 3 w' w.heap.size (fun k_ => some k_ ≠ (.slice Ao30 xz0.length co30 : Value).ownBlock) s_.1 tz3) ∧ (Kd.R (Kd.int .i64) 3 w' w.heap.size (fun k_ => some k_ ≠ (s_.1 : Value).ownBlock) (.slice Ao30 xz0.length co30) xz0) ∧ (w'.heap[gbz3]? = some (.cells #[.int .i64 a0_0, .int .i64 a0_1, .int .i64 a0_2, .slice A0_3 l0_3.length c0_3] 28 (0, 0))) ∧ (w'.heap[gbz2]? = some (.cells #[.int .i64 xz6, .int .i64 xz5, .int .i64 xz4, .slice none 0 0] 28 (0, 0))) ∧ (w'.heap[gbz1]? = some (.cells #[.int .i64 xz1, .int .i64 xz2, .int .i64 xz3, .slice Ao30 xz0.length co30] 28 (0, 0))) ∧ (w'.heap[s_.2]? = some (.cells #[.int .i64 0, .int .i64 0, .int .i64 0, .slice none 0 0] 28 (0, 0))) ∧ (w.heap.size ≤ s_.2) ∧ (w.heap.size ≤ s_.2) ∧ (gbz3 ≠ s_.2) ∧ (s_.2 ≠ gbz3) ∧ (gbz2 ≠ s_.2) ∧ (s_.2 ≠ gbz2) ∧ (gbz1 ≠ s_.2) ∧ (s_.2 ≠ gbz1) ∧ (Below w.heap.size w w')) ?_ ?_
        rotate_left
        ·intro hCont
         refine two_ (i := 5) (j := 9) (Ni := some 33) (Nj := some 8) #[true, true, true, true, true, true, false, false, false, false, false, false] #[true, true, true, true, true, false, false, false, false, true, false, false] rfl rfl rfl rfl (two_of HT_.out (by kernel_rfl)) (by decide) (by decide) (fun K hK => ?_) (fun K hK => ?_)
         ·skip
          refine goes_ Try.func41 (by kernel_rfl) rfl #[.agg #[.int .i64 xz1, .int .i64 xz2, .int .i64 xz3, .slice Ao30 xz0.length co30], .agg #[.int .i64 ((rd_T43 l1 x7_2).f0), .int .i64 ((rd_T43 l1 x7_2).f1.f0), .int .i64 ((rd_T43 l1 x7_2).f1.f1), .int .i64 ((rd_T43 l1 x7_2).f1.f2), .int .i64 ((rd_T43 l1 x7_2).f1.f3), .slice Az0 ((rd_T43 l1 x7_2).f2).length cz0]] (by rfl) rfl rfl (by (try simp only [List.map_toArray, List.map_cons, List.map_nil]); rfl) ?_
          with_reducible refine (spec_doStep.calls k2 xz1 xz2 xz3 _ _ xz0 ((rd_T43 l1 x7_2).f0) ((rd_T43 l1 x7_2).f1.f0) ((rd_T43 l1 x7_2).f1.f1) ((rd_T43 l1 x7_2).f1.f2) ((rd_T43 l1 x7_2).f1.f3) _ _ ((rd_T43 l1 x7_2).f2) tz0 tz1 tz2 tz3 true _ ?side1 ?side2 ?side3 ?side4 A28.out).mono ?_
          (case side1 => repeat (exact (Kd.R_reads' HOz0.out).2.2))
          (case side2 => exact (Kd.R_reads' HOz0.out).2.1)
          (case side3 => repeat (exact (Kd.C_below HR13011_5.out HB.out)))
          (case side4 => exact HC13011_5.out)
          rintro e w32 ⟨vz0, rfl, ho0, hb⟩
          refine ⟨_, rfl, ?_⟩
          have HOz1 := mk (Kd.R_lower (Kd.R_new' ho0 (Kd.R_lt HOz0.out)) (below_size HB.out))
          replace HOz0 := mk (Kd.R_elder' HOz0.out (Kd.R_base ho0) hb)
          replace BKz2 := mk (blk_below BKz2.out hb)
          replace BKz1 := mk (blk_below BKz1.out hb)
          replace BKz0 := mk (blk_below BKz0.out hb)
          replace HB := mk (below_step HB.out hb)
          (try clear hb)
          (try clear ho0)
          refine hK.out _ _ ⟨blk_cell BKz0.out 0, blk_cell BKz0.out 1, blk_cell BKz0.out 2, blk_cell BKz0.out 3, bc HB.out hw13011_0, bc HB.out hw13011_1, bc HB.out hw13011_2, bc HB.out hw13011_3, bc HB.out hw13011_4, bc HB.out hw13011_5⟩ (fun hHeld => ?_)
          clear hK K
          refine norm_ (a' := ?_) ?_ ?_
          rotate_left
          ·show Act.put _ (some 33) _ = _
           simp only [Act.put, List.setIfInBounds_toArray, List.set_cons_zero, List.set_cons_succ, i64_w, i32_w]
           rfl
          refine pure_ (i := 6) (N := some 27) (v := ?_) (a' := ?_) #[true, true, true, true, true, true, true, false, false, false, false, false] rfl rfl (any_of HT_.out (by kernel_rfl)) (fun _ _ _ h => h) (Or.inl ⟨by rfl, ?_⟩) ?_ ?_
          rotate_left
          ·intro w'
           go_simp
           with_reducible rfl
          rotate_left
          ·simp only [Act.put, List.setIfInBounds_toArray, List.set_cons_zero, List.set_cons_succ, i64_w, i32_w]
           rfl
          refine pure_ (i := 7) (N := some 34) (v := ?_) (a' := ?_) #[true, true, true, true, true, true, true, true, false, false, false, false] rfl rfl (any_of HT_.out (by kernel_rfl)) (fun _ _ _ h => h) (Or.inl ⟨by rfl, ?_⟩) ?_ ?_
          rotate_left
          ·intro w'
           go_simp
           with_reducible rfl
          rotate_left
          ·simp only [Act.put, List.setIfInBounds_toArray, List.set_cons_zero, List.set_cons_succ, i64_w, i32_w]
           rfl
          refine pure_ (i := 8) (N := some 35) (v := ?_) (a' := ?_) #[true, true, true, true, true, true, true, true, true, false, false, false] rfl rfl (any_of HT_.out (by kernel_rfl)) (fun _ _ _ h => h) (Or.inl ⟨by rfl, ?_⟩) ?_ ?_
          rotate_left
          ·intro w'
           go_simp
           with_reducible rfl
          rotate_left
          ·simp only [Act.put, List.setIfInBounds_toArray, List.set_cons_zero, List.set_cons_succ, i64_w, i32_w]
           rfl
          refine one_ (i := 9) (N := some 8) #[true, true, true, true, true, true, true, true, true, true, false, false] rfl rfl (one_of HT_.out (by kernel_rfl)) (by decide) (fun K hK => ?_)
          refine box_step ?hg (N := 8) ?hd (cs := #[.int .i64 0, .int .i64 0, .int .i64 0, .slice none 0 0]) (t := 28) ?hr ?_; (case hd => rfl); (case hg => rfl); (case hr => (go_simp; done))
          intro gbz0 hg w33 hbox hb
          replace HOz0 := mk (Kd.R_below HOz0.out hb)
          replace HOz1 := mk (Kd.R_below HOz1.out hb)
          have BKz3 := mk (hbox)
          have GWz0 := mk ((by rw [hg]; exact (below_size HB.out) : w.heap.size ≤ gbz0))
          have GEz0 := mk ((by rw [hg]; exact (below_size HB.out) : w.heap.size ≤ gbz0))
          replace HB := mk (below_step HB.out hb)
          have NBz2 := mk ((by rw [hg]; exact Nat.ne_of_lt (blk_lt BKz2.out) : gbz3 ≠ gbz0))
          replace BKz2 := mk (blk_below BKz2.out hb)
          have NBz4 := mk NBz2.out.symm
          have NBz1 := mk ((by rw [hg]; exact Nat.ne_of_lt (blk_lt BKz1.out) : gbz2 ≠ gbz0))
          replace BKz1 := mk (blk_below BKz1.out hb)
          have NBz3 := mk NBz1.out.symm
          have NBz0 := mk ((by rw [hg]; exact Nat.ne_of_lt (blk_lt BKz0.out) : gbz1 ≠ gbz0))
          replace BKz0 := mk (blk_below BKz0.out hb)
          have NBz5 := mk NBz0.out.symm
          clear hb hbox hg
          refine hK.out _ _ ⟨blk_cell BKz0.out 0, blk_cell BKz0.out 1, blk_cell BKz0.out 2, blk_cell BKz0.out 3, bc HB.out hw13011_0, bc HB.out hw13011_1, bc HB.out hw13011_2, bc HB.out hw13011_3, bc HB.out hw13011_4, bc HB.out hw13011_5⟩ (fun hHeld => ?_)
          clear hK K
          refine norm_ (a' := ?_) ?_ ?_
          rotate_left
          ·show Act.put _ (some 8) _ = _
           simp only [Act.put, List.setIfInBounds_toArray, List.set_cons_zero, List.set_cons_succ, i64_w, i32_w]
           rfl
          exact norm_ (by simp only [putAll, Act.put, List.setIfInBounds_toArray, List.set_cons_zero, List.set_cons_succ]) (hCont (vz0, gbz0) _ ⟨hHeld, (by exact Kd.R_mono HOz1.out (fun _ hk => hk.2)), (by exact Kd.R_mono HOz0.out (fun _ hk => hk.2)), BKz2.out, BKz1.out, BKz0.out, BKz3.out, GWz0.out, GEz0.out, NBz2.out, NBz4.out, NBz1.out, NBz3.out, NBz0.out, NBz5.out, (HB.out)⟩)
         skip
         refine box_step ?hg (N := 8) ?hd (cs := #[.int .i64 0, .int .i64 0, .int .i64 0, .slice none 0 0]) (t := 28) ?hr ?_; (case hd => rfl); (case hg => rfl); (case hr => (go_simp; done))
         intro gbz0 hg w32 hbox hb
         replace HOz0 := mk (Kd.R_below HOz0.out hb)
         have BKz3 := mk (hbox)
         have GWz0 := mk ((by rw [hg]; exact (below_size HB.out) : w.heap.size ≤ gbz0))
         have GEz0 := mk ((by rw [hg]; exact (below_size HB.out) : w.heap.size ≤ gbz0))
         replace HB := mk (below_step HB.out hb)
         have NBz2 := mk ((by rw [hg]; exact Nat.ne_of_lt (blk_lt BKz2.out) : gbz3 ≠ gbz0))
         replace BKz2 := mk (blk_below BKz2.out hb)
         have NBz4 := mk NBz2.out.symm
         have NBz1 := mk ((by rw [hg]; exact Nat.ne_of_lt (blk_lt BKz1.out) : gbz2 ≠ gbz0))
         replace BKz1 := mk (blk_below BKz1.out hb)
         have NBz3 := mk NBz1.out.symm
         have NBz0 := mk ((by rw [hg]; exact Nat.ne_of_lt (blk_lt BKz0.out) : gbz1 ≠ gbz0))
         replace BKz0 := mk (blk_below BKz0.out hb)
         have NBz5 := mk NBz0.out.symm
         clear hb hbox hg
         refine hK.out _ _ ⟨blk_cell BKz0.out 0, blk_cell BKz0.out 1, blk_cell BKz0.out 2, blk_cell BKz0.out 3, bc HB.out hw13011_0, bc HB.out hw13011_1, bc HB.out hw13011_2, bc HB.out hw13011_3, bc HB.out hw13011_4, bc HB.out hw13011_5⟩ (fun hHeld => ?_)
         clear hK K
         refine norm_ (a' := ?_) ?_ ?_
         rotate_left
         ·show Act.put _ (some 8) _ = _
          simp only [Act.put, List.setIfInBounds_toArray, List.set_cons_zero, List.set_cons_succ, i64_w, i32_w]
          rfl
         refine one_ (i := 5) (N := some 33) #[true, true, true, true, true, true, false, false, false, true, false, false] rfl rfl (one_of HT_.out (by kernel_rfl)) (by decide) (fun K hK => ?_)
         refine goes_ Try.func41 (by kernel_rfl) rfl #[.agg #[.int .i64 xz1, .int .i64 xz2, .int .i64 xz3, .slice Ao30 xz0.length co30], .agg #[.int .i64 ((rd_T43 l1 x7_2).f0), .int .i64 ((rd_T43 l1 x7_2).f1.f0), .int .i64 ((rd_T43 l1 x7_2).f1.f1), .int .i64 ((rd_T43 l1 x7_2).f1.f2), .int .i64 ((rd_T43 l1 x7_2).f1.f3), .slice Az0 ((rd_T43 l1 x7_2).f2).length cz0]] (by rfl) rfl rfl (by (try simp only [List.map_toArray, List.map_cons, List.map_nil]); rfl) ?_
         with_reducible refine (spec_doStep.calls k2 xz1 xz2 xz3 _ _ xz0 ((rd_T43 l1 x7_2).f0) ((rd_T43 l1 x7_2).f1.f0) ((rd_T43 l1 x7_2).f1.f1) ((rd_T43 l1 x7_2).f1.f2) ((rd_T43 l1 x7_2).f1.f3) _ _ ((rd_T43 l1 x7_2).f2) tz0 tz1 tz2 tz3 true _ ?side1 ?side2 ?side3 ?side4 A28.out).mono ?_
         (case side1 => repeat (exact (Kd.R_reads' HOz0.out).2.2))
         (case side2 => exact (Kd.R_reads' HOz0.out).2.1)
         (case side3 => repeat (exact (Kd.C_below HR13011_5.out HB.out)))
         (case side4 => exact HC13011_5.out)
         rintro e w33 ⟨vz0, rfl, ho0, hb⟩
         refine ⟨_, rfl, ?_⟩
         have HOz1 := mk (Kd.R_lower (Kd.R_new' ho0 (Kd.R_lt HOz0.out)) (below_size HB.out))
         replace HOz0 := mk (Kd.R_elder' HOz0.out (Kd.R_base ho0) hb)
         replace BKz2 := mk (blk_below BKz2.out hb)
         replace BKz1 := mk (blk_below BKz1.out hb)
         replace BKz0 := mk (blk_below BKz0.out hb)
         replace BKz3 := mk (blk_below BKz3.out hb)
         replace HB := mk (below_step HB.out hb)
         (try clear hb)
         (try clear ho0)
         refine hK.out _ _ ⟨blk_cell BKz0.out 0, blk_cell BKz0.out 1, blk_cell BKz0.out 2, blk_cell BKz0.out 3, bc HB.out hw13011_0, bc HB.out hw13011_1, bc HB.out hw13011_2, bc HB.out hw13011_3, bc HB.out hw13011_4, bc HB.out hw13011_5⟩ (fun hHeld => ?_)
         clear hK K
         refine norm_ (a' := ?_) ?_ ?_
         rotate_left
         ·show Act.put _ (some 33) _ = _
          simp only [Act.put, List.setIfInBounds_toArray, List.set_cons_zero, List.set_cons_succ, i64_w, i32_w]
          rfl
         refine pure_ (i := 6) (N := some 27) (v := ?_) (a' := ?_) #[true, true, true, true, true, true, true, false, false, true, false, false] rfl rfl (any_of HT_.out (by kernel_rfl)) (fun _ _ _ h => h) (Or.inl ⟨by rfl, ?_⟩) ?_ ?_
         rotate_left
         ·intro w'
          go_simp
          with_reducible rfl
         rotate_left
         ·simp only [Act.put, List.setIfInBounds_toArray, List.set_cons_zero, List.set_cons_succ, i64_w, i32_w]
          rfl
         refine pure_ (i := 7) (N := some 34) (v := ?_) (a' := ?_) #[true, true, true, true, true, true, true, true, false, true, false, false] rfl rfl (any_of HT_.out (by kernel_rfl)) (fun _ _ _ h => h) (Or.inl ⟨by rfl, ?_⟩) ?_ ?_
         rotate_left
         ·intro w'
          go_simp
          with_reducible rfl
         rotate_left
         ·simp only [Act.put, List.setIfInBounds_toArray, List.set_cons_zero, List.set_cons_succ, i64_w, i32_w]
          rfl
         refine pure_ (i := 8) (N := some 35) (v := ?_) (a' := ?_) #[true, true, true, true, true, true, true, true, true, true, false, false] rfl rfl (any_of HT_.out (by kernel_rfl)) (fun _ _ _ h => h) (Or.inl ⟨by rfl, ?_⟩) ?_ ?_
         rotate_left
         ·intro w'
          go_simp
          with_reducible rfl
         rotate_left
         ·simp only [Act.put, List.setIfInBounds_toArray, List.set_cons_zero, List.set_cons_succ, i64_w, i32_w]
          rfl
         exact norm_ (by simp only [putAll, Act.put, List.setIfInBounds_toArray, List.set_cons_zero, List.set_cons_succ]) (hCont (vz0, gbz0) _ ⟨hHeld, (by exact Kd.R_mono HOz1.out (fun _ hk => hk.2)), (by exact Kd.R_mono HOz0.out (fun _ hk => hk.2)), BKz2.out, BKz1.out, BKz0.out, BKz3.out, GWz0.out, GEz0.out, NBz2.out, NBz4.out, NBz1.out, NBz3.out, NBz0.out, NBz5.out, (HB.out)⟩)
        rintro ⟨vz0, gbz0⟩ w34 ⟨hS_, h0_, h1_, h2_, h3_, h4_, h5_, h6_, h7_, h8_, h9_, h10_, h11_, h12_, h13_, h14_⟩
        have n0_ : Aside0 (Kd.R (Kd.int .i64) 3 w34 w.heap.size (fun k_ => some k_ ≠ (.slice Ao30 xz0.length co30 : Value).ownBlock) vz0 tz3) := ⟨h0_⟩
        have n1_ : Aside0 (Kd.R (Kd.int .i64) 3 w34 w.heap.size (fun k_ => some k_ ≠ (vz0 : Value).ownBlock) (.slice Ao30 xz0.length co30) xz0) := ⟨h1_⟩
        have n2_ : Aside0 (w34.heap[gbz3]? = some (.cells #[.int .i64 a0_0, .int .i64 a0_1, .int .i64 a0_2, .slice A0_3 l0_3.length c0_3] 28 (0, 0))) := ⟨h2_⟩
        have n3_ : Aside0 (w34.heap[gbz2]? = some (.cells #[.int .i64 xz6, .int .i64 xz5, .int .i64 xz4, .slice none 0 0] 28 (0, 0))) := ⟨h3_⟩
        have n4_ : Aside0 (w34.heap[gbz1]? = some (.cells #[.int .i64 xz1, .int .i64 xz2, .int .i64 xz3, .slice Ao30 xz0.length co30] 28 (0, 0))) := ⟨h4_⟩
        have n5_ : Aside0 (w34.heap[gbz0]? = some (.cells #[.int .i64 0, .int .i64 0, .int .i64 0, .slice none 0 0] 28 (0, 0))) := ⟨h5_⟩
        have n6_ : Aside0 (w.heap.size ≤ gbz0) := ⟨h6_⟩
        have n7_ : Aside0 (w.heap.size ≤ gbz0) := ⟨h7_⟩
        have n8_ : Aside0 (gbz3 ≠ gbz0) := ⟨h8_⟩
        have n9_ : Aside0 (gbz0 ≠ gbz3) := ⟨h9_⟩
        have n10_ : Aside0 (gbz2 ≠ gbz0) := ⟨h10_⟩
        have n11_ : Aside0 (gbz0 ≠ gbz2) := ⟨h11_⟩
        have n12_ : Aside0 (gbz1 ≠ gbz0) := ⟨h12_⟩
        have n13_ : Aside0 (gbz0 ≠ gbz1) := ⟨h13_⟩
        have n14_ : Aside0 (Below w.heap.size w w34) := ⟨h14_⟩
        clear HOz0 BKz2 BKz1 BKz0 HB h0_ h1_ h2_ h3_ h4_ h5_ h6_ h7_ h8_ h9_ h10_ h11_ h12_ h13_ h14_
        revert n0_ n1_ n2_ n3_ n4_ n5_ n6_ n7_ n8_ n9_ n10_ n11_ n12_ n13_ n14_; intro HOz1 HOz0 BKz2 BKz1 BKz0 BKz3 GWz0 GEz0 NBz2 NBz4 NBz1 NBz3 NBz0 NBz5 HB
        have hHeld : w34.cell? ⟨gbz1, 0, none⟩ = some (.int .i64 xz1) ∧ w34.cell? ⟨gbz1, 1, none⟩ = some (.int .i64 xz2) ∧ w34.cell? ⟨gbz1, 2, none⟩ = some (.int .i64 xz3) ∧ w34.cell? ⟨gbz1, 3, none⟩ = some (.slice Ao30 xz0.length co30) ∧ w34.cell? (ad13011.add ((x7_2).toNat * 6)) = some (.int .i64 ((rd_T43 l1 x7_2).f0)) ∧ w34.cell? ⟨(ad13011.add ((x7_2).toNat * 6)).block, (ad13011.add ((x7_2).toNat * 6)).off + 1, none⟩ = some (.int .i64 ((rd_T43 l1 x7_2).f1.f0)) ∧ w34.cell? ⟨(ad13011.add ((x7_2).toNat * 6)).block, (ad13011.add ((x7_2).toNat * 6)).off + 2, none⟩ = some (.int .i64 ((rd_T43 l1 x7_2).f1.f1)) ∧ w34.cell? ⟨(ad13011.add ((x7_2).toNat * 6)).block, (ad13011.add ((x7_2).toNat * 6)).off + 3, none⟩ = some (.int .i64 ((rd_T43 l1 x7_2).f1.f2)) ∧ w34.cell? ⟨(ad13011.add ((x7_2).toNat * 6)).block, (ad13011.add ((x7_2).toNat * 6)).off + 4, none⟩ = some (.int .i64 ((rd_T43 l1 x7_2).f1.f3)) ∧ w34.cell? ⟨(ad13011.add ((x7_2).toNat * 6)).block, (ad13011.add ((x7_2).toNat * 6)).off + 5, none⟩ = some (.slice Az0 ((rd_T43 l1 x7_2).f2).length cz0) := hS_
        obtain ⟨Ao38, co38, eo38⟩ := Kd.R_slice HOz1.out
        (subst eo38)
        refine norm_ (a' := ?_) ?_ ?_
        rotate_left
        ·simp only [putAll, Act.put, List.setIfInBounds_toArray, List.set_cons_zero, List.set_cons_succ]
         rfl
        refine one_ (i := 10) (N := none) #[true, true, true, true, true, true, true, true, true, true, true, false] rfl rfl (one_of HT_.out (by kernel_rfl)) (by decide) (fun K hK => ?_)
        obtain ⟨hs35, -, -, -, hfs35, -⟩ := c4 BKz3.out
        have hns35_0 := NBz2.out
        have hns35_1 := NBz1.out
        have hns35_2 := NBz0.out
        have hms35_0 := NBz4.out
        have hms35_1 := NBz3.out
        have hms35_2 := NBz5.out
        obtain ⟨-, hs36, -, -, -, hfs36, -⟩ := c4 BKz3.out
        have hns36_0 := NBz2.out
        have hns36_1 := NBz1.out
        have hns36_2 := NBz0.out
        have hms36_0 := NBz4.out
        have hms36_1 := NBz3.out
        have hms36_2 := NBz5.out
        obtain ⟨-, -, hs37, -, -, -, hfs37, -⟩ := c4 BKz3.out
        have hns37_0 := NBz2.out
        have hns37_1 := NBz1.out
        have hns37_2 := NBz0.out
        have hms37_0 := NBz4.out
        have hms37_1 := NBz3.out
        have hms37_2 := NBz5.out
        obtain ⟨-, -, -, hs39, -, -, -, hfs39⟩ := c4 BKz3.out
        have hns39_0 := NBz2.out
        have hns39_1 := NBz1.out
        have hns39_2 := NBz0.out
        have hms39_0 := NBz4.out
        have hms39_1 := NBz3.out
        have hms39_2 := NBz5.out
        refine skip_ (w1 := ?_) (by rfl) rfl ?_ ?_
        rotate_left
        ·go_simp
         rfl
        refine hK.out _ _ ⟨((cell_far (p := ⟨gbz0, _, none⟩) NBz0.out _).trans (((cell_far (p := ⟨gbz0, _, none⟩) NBz0.out _).trans (((cell_far (p := ⟨gbz0, _, none⟩) NBz0.out _).trans (((cell_far (p := ⟨gbz0, _, none⟩) NBz0.out _).trans hHeld.1))))))), ((cell_far (p := ⟨gbz0, _, none⟩) NBz0.out _).trans (((cell_far (p := ⟨gbz0, _, none⟩) NBz0.out _).trans (((cell_far (p := ⟨gbz0, _, none⟩) NBz0.out _).trans (((cell_far (p := ⟨gbz0, _, none⟩) NBz0.out _).trans hHeld.2.1))))))), ((cell_far (p := ⟨gbz0, _, none⟩) NBz0.out _).trans (((cell_far (p := ⟨gbz0, _, none⟩) NBz0.out _).trans (((cell_far (p := ⟨gbz0, _, none⟩) NBz0.out _).trans (((cell_far (p := ⟨gbz0, _, none⟩) NBz0.out _).trans hHeld.2.2.1))))))), ((cell_far (p := ⟨gbz0, _, none⟩) NBz0.out _).trans (((cell_far (p := ⟨gbz0, _, none⟩) NBz0.out _).trans (((cell_far (p := ⟨gbz0, _, none⟩) NBz0.out _).trans (((cell_far (p := ⟨gbz0, _, none⟩) NBz0.out _).trans hHeld.2.2.2.1))))))), ((cell_far (p := ⟨gbz0, _, none⟩) (by exact Nat.ne_of_lt (Nat.lt_of_lt_of_le (by have := World.block_lt_of_cell? _ _ hw13011_0; exact this) GWz0.out)) _).trans (((cell_far (p := ⟨gbz0, _, none⟩) (by exact Nat.ne_of_lt (Nat.lt_of_lt_of_le (by have := World.block_lt_of_cell? _ _ hw13011_0; exact this) GWz0.out)) _).trans (((cell_far (p := ⟨gbz0, _, none⟩) (by exact Nat.ne_of_lt (Nat.lt_of_lt_of_le (by have := World.block_lt_of_cell? _ _ hw13011_0; exact this) GWz0.out)) _).trans (((cell_far (p := ⟨gbz0, _, none⟩) (by exact Nat.ne_of_lt (Nat.lt_of_lt_of_le (by have := World.block_lt_of_cell? _ _ hw13011_0; exact this) GWz0.out)) _).trans hHeld.2.2.2.2.1))))))), ((cell_far (p := ⟨gbz0, _, none⟩) (by exact Nat.ne_of_lt (Nat.lt_of_lt_of_le (by have := World.block_lt_of_cell? _ _ hw13011_1; exact this) GWz0.out)) _).trans (((cell_far (p := ⟨gbz0, _, none⟩) (by exact Nat.ne_of_lt (Nat.lt_of_lt_of_le (by have := World.block_lt_of_cell? _ _ hw13011_1; exact this) GWz0.out)) _).trans (((cell_far (p := ⟨gbz0, _, none⟩) (by exact Nat.ne_of_lt (Nat.lt_of_lt_of_le (by have := World.block_lt_of_cell? _ _ hw13011_1; exact this) GWz0.out)) _).trans (((cell_far (p := ⟨gbz0, _, none⟩) (by exact Nat.ne_of_lt (Nat.lt_of_lt_of_le (by have := World.block_lt_of_cell? _ _ hw13011_1; exact this) GWz0.out)) _).trans hHeld.2.2.2.2.2.1))))))), ((cell_far (p := ⟨gbz0, _, none⟩) (by exact Nat.ne_of_lt (Nat.lt_of_lt_of_le (by have := World.block_lt_of_cell? _ _ hw13011_2; exact this) GWz0.out)) _).trans (((cell_far (p := ⟨gbz0, _, none⟩) (by exact Nat.ne_of_lt (Nat.lt_of_lt_of_le (by have := World.block_lt_of_cell? _ _ hw13011_2; exact this) GWz0.out)) _).trans (((cell_far (p := ⟨gbz0, _, none⟩) (by exact Nat.ne_of_lt (Nat.lt_of_lt_of_le (by have := World.block_lt_of_cell? _ _ hw13011_2; exact this) GWz0.out)) _).trans (((cell_far (p := ⟨gbz0, _, none⟩) (by exact Nat.ne_of_lt (Nat.lt_of_lt_of_le (by have := World.block_lt_of_cell? _ _ hw13011_2; exact this) GWz0.out)) _).trans hHeld.2.2.2.2.2.2.1))))))), ((cell_far (p := ⟨gbz0, _, none⟩) (by exact Nat.ne_of_lt (Nat.lt_of_lt_of_le (by have := World.block_lt_of_cell? _ _ hw13011_3; exact this) GWz0.out)) _).trans (((cell_far (p := ⟨gbz0, _, none⟩) (by exact Nat.ne_of_lt (Nat.lt_of_lt_of_le (by have := World.block_lt_of_cell? _ _ hw13011_3; exact this) GWz0.out)) _).trans (((cell_far (p := ⟨gbz0, _, none⟩) (by exact Nat.ne_of_lt (Nat.lt_of_lt_of_le (by have := World.block_lt_of_cell? _ _ hw13011_3; exact this) GWz0.out)) _).trans (((cell_far (p := ⟨gbz0, _, none⟩) (by exact Nat.ne_of_lt (Nat.lt_of_lt_of_le (by have := World.block_lt_of_cell? _ _ hw13011_3; exact this) GWz0.out)) _).trans hHeld.2.2.2.2.2.2.2.1))))))), ((cell_far (p := ⟨gbz0, _, none⟩) (by exact Nat.ne_of_lt (Nat.lt_of_lt_of_le (by have := World.block_lt_of_cell? _ _ hw13011_4; exact this) GWz0.out)) _).trans (((cell_far (p := ⟨gbz0, _, none⟩) (by exact Nat.ne_of_lt (Nat.lt_of_lt_of_le (by have := World.block_lt_of_cell? _ _ hw13011_4; exact this) GWz0.out)) _).trans (((cell_far (p := ⟨gbz0, _, none⟩) (by exact Nat.ne_of_lt (Nat.lt_of_lt_of_le (by have := World.block_lt_of_cell? _ _ hw13011_4; exact this) GWz0.out)) _).trans (((cell_far (p := ⟨gbz0, _, none⟩) (by exact Nat.ne_of_lt (Nat.lt_of_lt_of_le (by have := World.block_lt_of_cell? _ _ hw13011_4; exact this) GWz0.out)) _).trans hHeld.2.2.2.2.2.2.2.2.1))))))), ((cell_far (p := ⟨gbz0, _, none⟩) (by exact Nat.ne_of_lt (Nat.lt_of_lt_of_le (by have := World.block_lt_of_cell? _ _ hw13011_5; exact this) GWz0.out)) _).trans (((cell_far (p := ⟨gbz0, _, none⟩) (by exact Nat.ne_of_lt (Nat.lt_of_lt_of_le (by have := World.block_lt_of_cell? _ _ hw13011_5; exact this) GWz0.out)) _).trans (((cell_far (p := ⟨gbz0, _, none⟩) (by exact Nat.ne_of_lt (Nat.lt_of_lt_of_le (by have := World.block_lt_of_cell? _ _ hw13011_5; exact this) GWz0.out)) _).trans (((cell_far (p := ⟨gbz0, _, none⟩) (by exact Nat.ne_of_lt (Nat.lt_of_lt_of_le (by have := World.block_lt_of_cell? _ _ hw13011_5; exact this) GWz0.out)) _).trans hHeld.2.2.2.2.2.2.2.2.2)))))))⟩ (fun hHeld => ?_)
        clear hK K
        refine pure_ (i := 11) (N := some 9) (v := ?_) (a' := ?_) #[true, true, true, true, true, true, true, true, true, true, true, true] rfl rfl (any_of HT_.out (by kernel_rfl)) (fun _ _ _ h => h) (Or.inl ⟨by rfl, ?_⟩) ?_ ?_
        rotate_left
        ·intro w'
         go_simp
         with_reducible rfl
        rotate_left
        ·simp only [Act.put, List.setIfInBounds_toArray, List.set_cons_zero, List.set_cons_succ, i64_w, i32_w]
         rfl
        refine done_ (done_of HT_.out (by kernel_rfl)) ?_
        obtain ⟨-, -, -, -, hfz46_0, hfz46_1, hfz46_2, hfz46_3⟩ := c4 BKz0.out
        try go_wp2
        go_roundg k2
        case measure => have := HJ2.out; have := HK2.out; omega
        case rel => exact ⟨(wrap64 (x7_2 + 1)), (xz6), (xz5), (xz4), (tz0), (tz1), (tz2), (tz3), (.slice Ao38 tz3.length co38), (by rfl), H', ⟨by have := HJ2.out; have := HK2.out; omega⟩, ⟨by exact Kd.R_mono (Kd.R_far (p := ⟨gbz1, 3, none⟩) (Kd.R_far (p := ⟨gbz1, 2, none⟩) (Kd.R_far (p := ⟨gbz1, 1, none⟩) (Kd.R_far (p := ⟨gbz1, 0, none⟩) (Kd.R_far (p := ⟨gbz0, 3, none⟩) (Kd.R_far (p := ⟨gbz0, 2, none⟩) (Kd.R_far (p := ⟨gbz0, 1, none⟩) (Kd.R_far (p := ⟨gbz0, 0, none⟩) (Kd.R_types (Kd.R_types HOz1.out BKz3.out (by decide)) BKz0.out (by decide)) (fun _ hk => hk.1.2) (.int .i64 tz0)) (fun _ hk => hk.1.2) (.int .i64 tz1)) (fun _ hk => hk.1.2) (.int .i64 tz2)) (fun _ hk => hk.1.2) (.slice Ao38 tz3.length co38)) (fun _ hk => hk.2) (.int .i64 tz0)) (fun _ hk => hk.2) (.int .i64 tz1)) (fun _ hk => hk.2) (.int .i64 tz2)) (fun _ hk => hk.2) (.slice Ao38 tz3.length co38)) (fun _ hk => trivial)⟩, ⟨by refine blk_far ?_ NBz6.out _; refine blk_far ?_ NBz6.out _; refine blk_far ?_ NBz6.out _; refine blk_far ?_ NBz6.out _; refine blk_far ?_ NBz2.out _; refine blk_far ?_ NBz2.out _; refine blk_far ?_ NBz2.out _; refine blk_far ?_ NBz2.out _; exact BKz2.out⟩, ⟨by refine blk_far ?_ NBz7.out _; refine blk_far ?_ NBz7.out _; refine blk_far ?_ NBz7.out _; refine blk_far ?_ NBz7.out _; refine blk_far ?_ NBz1.out _; refine blk_far ?_ NBz1.out _; refine blk_far ?_ NBz1.out _; refine blk_far ?_ NBz1.out _; exact BKz1.out⟩, ⟨by refine blk_put (cs := #[.int .i64 tz0, .int .i64 tz1, .int .i64 tz2, .slice Ao30 xz0.length co30]) ?_ 3 _ rfl; refine blk_put (cs := #[.int .i64 tz0, .int .i64 tz1, .int .i64 xz3, .slice Ao30 xz0.length co30]) ?_ 2 _ rfl; refine blk_put (cs := #[.int .i64 tz0, .int .i64 xz2, .int .i64 xz3, .slice Ao30 xz0.length co30]) ?_ 1 _ rfl; refine blk_put (cs := #[.int .i64 xz1, .int .i64 xz2, .int .i64 xz3, .slice Ao30 xz0.length co30]) ?_ 0 _ rfl; refine blk_far ?_ NBz0.out _; refine blk_far ?_ NBz0.out _; refine blk_far ?_ NBz0.out _; refine blk_far ?_ NBz0.out _; exact BKz0.out⟩, ⟨by repeat (with_reducible first | exact HB.out | refine below_set ?_ GEz2.out | refine below_set ?_ GEz0.out)⟩⟩
       replace c29 := Bool.eq_false_iff.mpr c29
       subst c29
       have H1 : (some (xz1, xz2, xz3, xz0, x7_2)) = some (r1, r2, r3, r4, r5) := by rw [if_neg (show ¬ (false = true) by decide)] at H; exact H
       clear H
       have H := H1
       clear H1
       simp only [Option.some.injEq, Prod.mk.injEq] at H
       obtain ⟨rfl, rfl, rfl, rfl, rfl⟩ := H
       obtain ⟨Ao47, co47, eo47⟩ := Kd.R_slice HOz0.out
       subst eo47
       try go_wp2
       replace HOz0 := mk (Kd.R_drew HOz0.out)
       replace BKz2 := mk (blk_drew BKz2.out)
       replace BKz1 := mk (blk_drew BKz1.out)
       replace BKz0 := mk (blk_drew BKz0.out)
       replace HB := mk (below_drew1 HB.out)
       have p13011 : 0 ≤ (x7_2 : Int) := of_decide_eq_true (by (with_reducible assumption))
       have q13011 : x7_2 < (l1.length : Int) := of_decide_eq_true (by (with_reducible assumption))
       obtain ⟨ad13011, Az0, cz0, e13011, hx13011_0, hx13011_1, hx13011_2, hx13011_3, hx13011_4, hx13011_5, hl13011_5, hi13011_5⟩ := at_T43 HR1.out x7_2 p13011 q13011
       have hw13011_5 := hx13011_5
       have hw13011_4 := hx13011_4
       have hw13011_3 := hx13011_3
       have hw13011_2 := hx13011_2
       have hw13011_1 := hx13011_1
       have hw13011_0 := hx13011_0
       cases e13011
       replace hx13011_0 := bc HB.out hx13011_0
       replace hx13011_1 := bc HB.out hx13011_1
       replace hx13011_2 := bc HB.out hx13011_2
       replace hx13011_3 := bc HB.out hx13011_3
       replace hx13011_4 := bc HB.out hx13011_4
       replace hx13011_5 := bc HB.out hx13011_5
       have HR13011_5 := mk hi13011_5
       have HC13011_5 := mk hl13011_5
       clear hi13011_5 hl13011_5
       replace p13011 := eq_true p13011
       replace q13011 := eq_true q13011
       refine start_ (n := 12) (S := fun w' => w'.cell? ⟨gbz1, 0, none⟩ = some (.int .i64 xz1) ∧ w'.cell? ⟨gbz1, 1, none⟩ = some (.int .i64 xz2) ∧ w'.cell? ⟨gbz1, 2, none⟩ = some (.int .i64 xz3) ∧ w'.cell? ⟨gbz1, 3, none⟩ = some (.slice Ao47 xz0.length co47) ∧ w'.cell? (ad13011.add ((x7_2).toNat * 6)) = some (.int .i64 ((rd_T43 l1 x7_2).f0)) ∧ w'.cell? ⟨(ad13011.add ((x7_2).toNat * 6)).block, (ad13011.add ((x7_2).toNat * 6)).off + 1, none⟩ = some (.int .i64 ((rd_T43 l1 x7_2).f1.f0)) ∧ w'.cell? ⟨(ad13011.add ((x7_2).toNat * 6)).block, (ad13011.add ((x7_2).toNat * 6)).off + 2, none⟩ = some (.int .i64 ((rd_T43 l1 x7_2).f1.f1)) ∧ w'.cell? ⟨(ad13011.add ((x7_2).toNat * 6)).block, (ad13011.add ((x7_2).toNat * 6)).off + 3, none⟩ = some (.int .i64 ((rd_T43 l1 x7_2).f1.f2)) ∧ w'.cell? ⟨(ad13011.add ((x7_2).toNat * 6)).block, (ad13011.add ((x7_2).toNat * 6)).off + 4, none⟩ = some (.int .i64 ((rd_T43 l1 x7_2).f1.f3)) ∧ w'.cell? ⟨(ad13011.add ((x7_2).toNat * 6)).block, (ad13011.add ((x7_2).toNat * 6)).off + 5, none⟩ = some (.slice Az0 ((rd_T43 l1 x7_2).f2).length cz0)) (ds := []) #[false, false, false, false, false, false, false, false, false, false, false, false] (by kernel_rfl) rfl rfl ⟨blk_cell BKz0.out 0, blk_cell BKz0.out 1, blk_cell BKz0.out 2, blk_cell BKz0.out 3, bc HB.out hw13011_0, bc HB.out hw13011_1, bc HB.out hw13011_2, bc HB.out hw13011_3, bc HB.out hw13011_4, bc HB.out hw13011_5⟩ (fun hHeld => ?_); refine with_tabW spec_RunSteps.tab7 spec_RunSteps.bits7 (fun HT_ HW_ => ?_)
       generalize wr.drew = w48 at HOz0 BKz2 BKz1 BKz0 HB HR13011_5 hx13011_0 hx13011_1 hx13011_2 hx13011_3 hx13011_4 hx13011_5 hHeld ⊢
       refine pure_ (i := 1) (N := some 29) (v := ?_) (a' := ?_) #[false, true, false, false, false, false, false, false, false, false, false, false] rfl rfl (any_of HT_.out (by kernel_rfl)) (fun _ _ _ h => h) (Or.inl ⟨by rfl, ?_⟩) ?_ ?_
       rotate_left
       ·intro w'
        go_simp
        with_reducible rfl
       rotate_left
       ·simp only [Act.put, List.setIfInBounds_toArray, List.set_cons_zero, List.set_cons_succ, i64_w, i32_w]
        rfl
       refine pure_ (i := 2) (N := some 30) (v := ?_) (a' := ?_) #[false, true, true, false, false, false, false, false, false, false, false, false] rfl rfl (any_of HT_.out (by kernel_rfl)) (fun _ _ _ h => h) (Or.inl ⟨by rfl, ?_⟩) ?_ ?_
       rotate_left
       ·intro w'
        go_simp
        with_reducible rfl
       rotate_left
       ·simp only [Act.put, List.setIfInBounds_toArray, List.set_cons_zero, List.set_cons_succ, i64_w, i32_w]
        rfl
       refine pure_ (i := 3) (N := some 31) (v := ?_) (a' := ?_) #[false, true, true, true, false, false, false, false, false, false, false, false] rfl rfl (any_of HT_.out (by kernel_rfl)) (fun _ _ _ h => h) (Or.inl ⟨by rfl, ?_⟩) ?_ ?_
       rotate_left
       ·intro w'
        go_simp
        with_reducible rfl
       rotate_left
       ·simp only [Act.put, List.setIfInBounds_toArray, List.set_cons_zero, List.set_cons_succ, i64_w, i32_w]
        rfl
       refine take_ (i := 0) (N := some 28) (v := ?_) (a' := ?_) #[true, true, true, true, false, false, false, false, false, false, false, false] rfl rfl (take_ofW HT_.out HW_.out (by kernel_rfl)) (fun _ _ _ h => h) (Or.inl ⟨by rfl, ?_⟩) hHeld ?_ ?_
       rotate_left
       ·rintro w' ⟨s0, s1, s2, s3, s4, s5, s6, s7, s8, s9⟩
        go_simp
        with_reducible rfl
       rotate_left
       ·simp only [Act.put, List.setIfInBounds_toArray, List.set_cons_zero, List.set_cons_succ, i64_w, i32_w]
        rfl
       refine take_ (i := 4) (N := some 32) (v := ?_) (a' := ?_) #[true, true, true, true, true, false, false, false, false, false, false, false] rfl rfl (take_ofW HT_.out HW_.out (by kernel_rfl)) (fun _ _ _ h => h) (Or.inl ⟨by rfl, ?_⟩) hHeld ?_ ?_
       rotate_left
       ·rintro w' ⟨s0, s1, s2, s3, s4, s5, s6, s7, s8, s9⟩
        go_simp
        with_reducible rfl
       rotate_left
       ·simp only [Act.put, List.setIfInBounds_toArray, List.set_cons_zero, List.set_cons_succ, i64_w, i32_w]
        rfl
       refine join_ (σ := Value × Nat) 2 #[true, true, true, true, true, true, true, true, true, true, false, false] (fun s_ => [(33, .tuple #[.agg #[.int .i64 tz0, .int .i64 tz1, .int .i64 tz2, s_.1], .bool false]), (8, .pointer (some ⟨s_.2, 0, none⟩)), (27, .tuple #[.agg #[.int .i64 tz0, .int .i64 tz1, .int .i64 tz2, s_.1], .bool false]), (34, .agg #[.int .i64 tz0, .int .i64 tz1, .int .i64 tz2, s_.1]), (35, .bool false)]) (fun s_ w' => (w'.cell? ⟨gbz1, 0, none⟩ = some (.int .i64 xz1) ∧ w'.cell? ⟨gbz1, 1, none⟩ = some (.int .i64 xz2) ∧ w'.cell? ⟨gbz1, 2, none⟩ = some (.int .i64 xz3) ∧ w'.cell? ⟨gbz1, 3, none⟩ = some (.slice Ao47 xz0.length co47) ∧ w'.cell? (ad13011.add ((x7_2).toNat * 6)) = some (.int .i64 ((rd_T43 l1 x7_2).f0)) ∧ w'.cell? ⟨(ad13011.add ((x7_2).toNat * 6)).block, (ad13011.add ((x7_2).toNat * 6)).off + 1, none⟩ = some (.int .i64 ((rd_T43 l1 x7_2).f1.f0)) ∧ w'.cell? ⟨(ad13011.add ((x7_2).toNat * 6)).block, (ad13011.add ((x7_2).toNat * 6)).off + 2, none⟩ = some (.int .i64 ((rd_T43 l1 x7_2).f1.f1)) ∧ w'.cell? ⟨(ad13011.add ((x7_2).toNat * 6)).block, (ad13011.add ((x7_2).toNat * 6)).off + 3, none⟩ = some (.int .i64 ((rd_T43 l1 x7_2).f1.f2)) ∧ w'.cell? ⟨(ad13011.add ((x7_2).toNat * 6)).block, (ad13011.add ((x7_2).toNat * 6)).off + 4, none⟩ = some (.int .i64 ((rd_T43 l1 x7_2).f1.f3)) ∧ w'.cell? ⟨(ad13011.add ((x7_2).toNat * 6)).block, (ad13011.add ((x7_2).toNat * 6)).off + 5, none⟩ = some (.slice Az0 ((rd_T43 l1 x7_2).f2).length cz0)) ∧ (Kd.R (Kd.int .i64) 3 w' w.heap.size (fun k_ => some k_ ≠ (.slice Ao47 xz0.length co47 : Value).ownBlock) s_.1 tz3) ∧ (Kd.R (Kd.int .i64) 3 w' w.heap.size (fun k_ => some k_ ≠ (s_.1 : Value).ownBlock) (.slice Ao47 xz0.length co47) xz0) ∧ (w'.heap[gbz3]? = some (.cells #[.int .i64 a0_0, .int .i64 a0_1, .int .i64 a0_2, .slice A0_3 l0_3.length c0_3] 28 (0, 0))) ∧ (w'.heap[gbz2]? = some (.cells #[.int .i64 xz6, .int .i64 xz5, .int .i64 xz4, .slice none 0 0] 28 (0, 0))) ∧ (w'.heap[gbz1]? = some (.cells #[.int .i64 xz1, .int .i64 xz2, .int .i64 xz3, .slice Ao47 xz0.length co47] 28 (0, 0))) ∧ (w'.heap[s_.2]? = some (.cells #[.int .i64 0, .int .i64 0, .int .i64 0, .slice none 0 0] 28 (0, 0))) ∧ (w.heap.size ≤ s_.2) ∧ (w.heap.size ≤ s_.2) ∧ (gbz3 ≠ s_.2) ∧ (s_.2 ≠ gbz3) ∧ (gbz2 ≠ s_.2) ∧ (s_.2 ≠ gbz2) ∧ (gbz1 ≠ s_.2) ∧ (s_.2 ≠ gbz1) ∧ (Below w.heap.size w w')) ?_ ?_
       rotate_left
       ·intro hCont
        refine two_ (i := 5) (j := 9) (Ni := some 33) (Nj := some 8) #[true, true, true, true, true, true, false, false, false, false, false, false] #[true, true, true, true, true, false, false, false, false, true, false, false] rfl rfl rfl rfl (two_of HT_.out (by kernel_rfl)) (by decide) (by decide) (fun K hK => ?_) (fun K hK => ?_)
        ·skip
         refine goes_ Try.func41 (by kernel_rfl) rfl #[.agg #[.int .i64 xz1, .int .i64 xz2, .int .i64 xz3, .slice Ao47 xz0.length co47], .agg #[.int .i64 ((rd_T43 l1 x7_2).f0), .int .i64 ((rd_T43 l1 x7_2).f1.f0), .int .i64 ((rd_T43 l1 x7_2).f1.f1), .int .i64 ((rd_T43 l1 x7_2).f1.f2), .int .i64 ((rd_T43 l1 x7_2).f1.f3), .slice Az0 ((rd_T43 l1 x7_2).f2).length cz0]] (by rfl) rfl rfl (by (try simp only [List.map_toArray, List.map_cons, List.map_nil]); rfl) ?_
         with_reducible refine (spec_doStep.calls k2 xz1 xz2 xz3 _ _ xz0 ((rd_T43 l1 x7_2).f0) ((rd_T43 l1 x7_2).f1.f0) ((rd_T43 l1 x7_2).f1.f1) ((rd_T43 l1 x7_2).f1.f2) ((rd_T43 l1 x7_2).f1.f3) _ _ ((rd_T43 l1 x7_2).f2) tz0 tz1 tz2 tz3 false _ ?side1 ?side2 ?side3 ?side4 A28.out).mono ?_
         (case side1 => repeat (exact (Kd.R_reads' HOz0.out).2.2))
         (case side2 => exact (Kd.R_reads' HOz0.out).2.1)
         (case side3 => repeat (exact (Kd.C_below HR13011_5.out HB.out)))
         (case side4 => exact HC13011_5.out)
         rintro e w49 ⟨vz0, rfl, ho0, hb⟩
         refine ⟨_, rfl, ?_⟩
         have HOz1 := mk (Kd.R_lower (Kd.R_new' ho0 (Kd.R_lt HOz0.out)) (below_size HB.out))
         replace HOz0 := mk (Kd.R_elder' HOz0.out (Kd.R_base ho0) hb)
         replace BKz2 := mk (blk_below BKz2.out hb)
         replace BKz1 := mk (blk_below BKz1.out hb)
         replace BKz0 := mk (blk_below BKz0.out hb)
         replace HB := mk (below_step HB.out hb)
         (try clear hb)
         (try clear ho0)
         refine hK.out _ _ ⟨blk_cell BKz0.out 0, blk_cell BKz0.out 1, blk_cell BKz0.out 2, blk_cell BKz0.out 3, bc HB.out hw13011_0, bc HB.out hw13011_1, bc HB.out hw13011_2, bc HB.out hw13011_3, bc HB.out hw13011_4, bc HB.out hw13011_5⟩ (fun hHeld => ?_)
         clear hK K
         refine norm_ (a' := ?_) ?_ ?_
         rotate_left
         ·show Act.put _ (some 33) _ = _
          simp only [Act.put, List.setIfInBounds_toArray, List.set_cons_zero, List.set_cons_succ, i64_w, i32_w]
          rfl
         refine pure_ (i := 6) (N := some 27) (v := ?_) (a' := ?_) #[true, true, true, true, true, true, true, false, false, false, false, false] rfl rfl (any_of HT_.out (by kernel_rfl)) (fun _ _ _ h => h) (Or.inl ⟨by rfl, ?_⟩) ?_ ?_
         rotate_left
         ·intro w'
          go_simp
          with_reducible rfl
         rotate_left
         ·simp only [Act.put, List.setIfInBounds_toArray, List.set_cons_zero, List.set_cons_succ, i64_w, i32_w]
          rfl
         refine pure_ (i := 7) (N := some 34) (v := ?_) (a' := ?_) #[true, true, true, true, true, true, true, true, false, false, false, false] rfl rfl (any_of HT_.out (by kernel_rfl)) (fun _ _ _ h => h) (Or.inl ⟨by rfl, ?_⟩) ?_ ?_
         rotate_left
         ·intro w'
          go_simp
          with_reducible rfl
         rotate_left
         ·simp only [Act.put, List.setIfInBounds_toArray, List.set_cons_zero, List.set_cons_succ, i64_w, i32_w]
          rfl
         refine pure_ (i := 8) (N := some 35) (v := ?_) (a' := ?_) #[true, true, true, true, true, true, true, true, true, false, false, false] rfl rfl (any_of HT_.out (by kernel_rfl)) (fun _ _ _ h => h) (Or.inl ⟨by rfl, ?_⟩) ?_ ?_
         rotate_left
         ·intro w'
          go_simp
          with_reducible rfl
         rotate_left
         ·simp only [Act.put, List.setIfInBounds_toArray, List.set_cons_zero, List.set_cons_succ, i64_w, i32_w]
          rfl
         refine one_ (i := 9) (N := some 8) #[true, true, true, true, true, true, true, true, true, true, false, false] rfl rfl (one_of HT_.out (by kernel_rfl)) (by decide) (fun K hK => ?_)
         refine box_step ?hg (N := 8) ?hd (cs := #[.int .i64 0, .int .i64 0, .int .i64 0, .slice none 0 0]) (t := 28) ?hr ?_; (case hd => rfl); (case hg => rfl); (case hr => (go_simp; done))
         intro gbz0 hg w50 hbox hb
         replace HOz0 := mk (Kd.R_below HOz0.out hb)
         replace HOz1 := mk (Kd.R_below HOz1.out hb)
         have BKz3 := mk (hbox)
         have GWz0 := mk ((by rw [hg]; exact (below_size HB.out) : w.heap.size ≤ gbz0))
         have GEz0 := mk ((by rw [hg]; exact (below_size HB.out) : w.heap.size ≤ gbz0))
         replace HB := mk (below_step HB.out hb)
         have NBz2 := mk ((by rw [hg]; exact Nat.ne_of_lt (blk_lt BKz2.out) : gbz3 ≠ gbz0))
         replace BKz2 := mk (blk_below BKz2.out hb)
         have NBz4 := mk NBz2.out.symm
         have NBz1 := mk ((by rw [hg]; exact Nat.ne_of_lt (blk_lt BKz1.out) : gbz2 ≠ gbz0))
         replace BKz1 := mk (blk_below BKz1.out hb)
         have NBz3 := mk NBz1.out.symm
         have NBz0 := mk ((by rw [hg]; exact Nat.ne_of_lt (blk_lt BKz0.out) : gbz1 ≠ gbz0))
         replace BKz0 := mk (blk_below BKz0.out hb)
         have NBz5 := mk NBz0.out.symm
         clear hb hbox hg
         refine hK.out _ _ ⟨blk_cell BKz0.out 0, blk_cell BKz0.out 1, blk_cell BKz0.out 2, blk_cell BKz0.out 3, bc HB.out hw13011_0, bc HB.out hw13011_1, bc HB.out hw13011_2, bc HB.out hw13011_3, bc HB.out hw13011_4, bc HB.out hw13011_5⟩ (fun hHeld => ?_)
         clear hK K
         refine norm_ (a' := ?_) ?_ ?_
         rotate_left
         ·show Act.put _ (some 8) _ = _
          simp only [Act.put, List.setIfInBounds_toArray, List.set_cons_zero, List.set_cons_succ, i64_w, i32_w]
          rfl
         exact norm_ (by simp only [putAll, Act.put, List.setIfInBounds_toArray, List.set_cons_zero, List.set_cons_succ]) (hCont (vz0, gbz0) _ ⟨hHeld, (by exact Kd.R_mono HOz1.out (fun _ hk => hk.2)), (by exact Kd.R_mono HOz0.out (fun _ hk => hk.2)), BKz2.out, BKz1.out, BKz0.out, BKz3.out, GWz0.out, GEz0.out, NBz2.out, NBz4.out, NBz1.out, NBz3.out, NBz0.out, NBz5.out, (HB.out)⟩)
        skip
        refine box_step ?hg (N := 8) ?hd (cs := #[.int .i64 0, .int .i64 0, .int .i64 0, .slice none 0 0]) (t := 28) ?hr ?_; (case hd => rfl); (case hg => rfl); (case hr => (go_simp; done))
        intro gbz0 hg w49 hbox hb
        replace HOz0 := mk (Kd.R_below HOz0.out hb)
        have BKz3 := mk (hbox)
        have GWz0 := mk ((by rw [hg]; exact (below_size HB.out) : w.heap.size ≤ gbz0))
        have GEz0 := mk ((by rw [hg]; exact (below_size HB.out) : w.heap.size ≤ gbz0))
        replace HB := mk (below_step HB.out hb)
        have NBz2 := mk ((by rw [hg]; exact Nat.ne_of_lt (blk_lt BKz2.out) : gbz3 ≠ gbz0))
        replace BKz2 := mk (blk_below BKz2.out hb)
        have NBz4 := mk NBz2.out.symm
        have NBz1 := mk ((by rw [hg]; exact Nat.ne_of_lt (blk_lt BKz1.out) : gbz2 ≠ gbz0))
        replace BKz1 := mk (blk_below BKz1.out hb)
        have NBz3 := mk NBz1.out.symm
        have NBz0 := mk ((by rw [hg]; exact Nat.ne_of_lt (blk_lt BKz0.out) : gbz1 ≠ gbz0))
        replace BKz0 := mk (blk_below BKz0.out hb)
        have NBz5 := mk NBz0.out.symm
        clear hb hbox hg
        refine hK.out _ _ ⟨blk_cell BKz0.out 0, blk_cell BKz0.out 1, blk_cell BKz0.out 2, blk_cell BKz0.out 3, bc HB.out hw13011_0, bc HB.out hw13011_1, bc HB.out hw13011_2, bc HB.out hw13011_3, bc HB.out hw13011_4, bc HB.out hw13011_5⟩ (fun hHeld => ?_)
        clear hK K
        refine norm_ (a' := ?_) ?_ ?_
        rotate_left
        ·show Act.put _ (some 8) _ = _
         simp only [Act.put, List.setIfInBounds_toArray, List.set_cons_zero, List.set_cons_succ, i64_w, i32_w]
         rfl
        refine one_ (i := 5) (N := some 33) #[true, true, true, true, true, true, false, false, false, true, false, false] rfl rfl (one_of HT_.out (by kernel_rfl)) (by decide) (fun K hK => ?_)
        refine goes_ Try.func41 (by kernel_rfl) rfl #[.agg #[.int .i64 xz1, .int .i64 xz2, .int .i64 xz3, .slice Ao47 xz0.length co47], .agg #[.int .i64 ((rd_T43 l1 x7_2).f0), .int .i64 ((rd_T43 l1 x7_2).f1.f0), .int .i64 ((rd_T43 l1 x7_2).f1.f1), .int .i64 ((rd_T43 l1 x7_2).f1.f2), .int .i64 ((rd_T43 l1 x7_2).f1.f3), .slice Az0 ((rd_T43 l1 x7_2).f2).length cz0]] (by rfl) rfl rfl (by (try simp only [List.map_toArray, List.map_cons, List.map_nil]); rfl) ?_
        with_reducible refine (spec_doStep.calls k2 xz1 xz2 xz3 _ _ xz0 ((rd_T43 l1 x7_2).f0) ((rd_T43 l1 x7_2).f1.f0) ((rd_T43 l1 x7_2).f1.f1) ((rd_T43 l1 x7_2).f1.f2) ((rd_T43 l1 x7_2).f1.f3) _ _ ((rd_T43 l1 x7_2).f2) tz0 tz1 tz2 tz3 false _ ?side1 ?side2 ?side3 ?side4 A28.out).mono ?_
        (case side1 => repeat (exact (Kd.R_reads' HOz0.out).2.2))
        (case side2 => exact (Kd.R_reads' HOz0.out).2.1)
        (case side3 => repeat (exact (Kd.C_below HR13011_5.out HB.out)))
        (case side4 => exact HC13011_5.out)
        rintro e w50 ⟨vz0, rfl, ho0, hb⟩
        refine ⟨_, rfl, ?_⟩
        have HOz1 := mk (Kd.R_lower (Kd.R_new' ho0 (Kd.R_lt HOz0.out)) (below_size HB.out))
        replace HOz0 := mk (Kd.R_elder' HOz0.out (Kd.R_base ho0) hb)
        replace BKz2 := mk (blk_below BKz2.out hb)
        replace BKz1 := mk (blk_below BKz1.out hb)
        replace BKz0 := mk (blk_below BKz0.out hb)
        replace BKz3 := mk (blk_below BKz3.out hb)
        replace HB := mk (below_step HB.out hb)
        (try clear hb)
        (try clear ho0)
        refine hK.out _ _ ⟨blk_cell BKz0.out 0, blk_cell BKz0.out 1, blk_cell BKz0.out 2, blk_cell BKz0.out 3, bc HB.out hw13011_0, bc HB.out hw13011_1, bc HB.out hw13011_2, bc HB.out hw13011_3, bc HB.out hw13011_4, bc HB.out hw13011_5⟩ (fun hHeld => ?_)
        clear hK K
        refine norm_ (a' := ?_) ?_ ?_
        rotate_left
        ·show Act.put _ (some 33) _ = _
         simp only [Act.put, List.setIfInBounds_toArray, List.set_cons_zero, List.set_cons_succ, i64_w, i32_w]
         rfl
        refine pure_ (i := 6) (N := some 27) (v := ?_) (a' := ?_) #[true, true, true, true, true, true, true, false, false, true, false, false] rfl rfl (any_of HT_.out (by kernel_rfl)) (fun _ _ _ h => h) (Or.inl ⟨by rfl, ?_⟩) ?_ ?_
        rotate_left
        ·intro w'
         go_simp
         with_reducible rfl
        rotate_left
        ·simp only [Act.put, List.setIfInBounds_toArray, List.set_cons_zero, List.set_cons_succ, i64_w, i32_w]
         rfl
        refine pure_ (i := 7) (N := some 34) (v := ?_) (a' := ?_) #[true, true, true, true, true, true, true, true, false, true, false, false] rfl rfl (any_of HT_.out (by kernel_rfl)) (fun _ _ _ h => h) (Or.inl ⟨by rfl, ?_⟩) ?_ ?_
        rotate_left
        ·intro w'
         go_simp
         with_reducible rfl
        rotate_left
        ·simp only [Act.put, List.setIfInBounds_toArray, List.set_cons_zero, List.set_cons_succ, i64_w, i32_w]
         rfl
        refine pure_ (i := 8) (N := some 35) (v := ?_) (a' := ?_) #[true, true, true, true, true, true, true, true, true, true, false, false] rfl rfl (any_of HT_.out (by kernel_rfl)) (fun _ _ _ h => h) (Or.inl ⟨by rfl, ?_⟩) ?_ ?_
        rotate_left
        ·intro w'
         go_simp
         with_reducible rfl
        rotate_left
        ·simp only [Act.put, List.setIfInBounds_toArray, List.set_cons_zero, List.set_cons_succ, i64_w, i32_w]
         rfl
        exact norm_ (by simp only [putAll, Act.put, List.setIfInBounds_toArray, List.set_cons_zero, List.set_cons_succ]) (hCont (vz0, gbz0) _ ⟨hHeld, (by exact Kd.R_mono HOz1.out (fun _ hk => hk.2)), (by exact Kd.R_mono HOz0.out (fun _ hk => hk.2)), BKz2.out, BKz1.out, BKz0.out, BKz3.out, GWz0.out, GEz0.out, NBz2.out, NBz4.out, NBz1.out, NBz3.out, NBz0.out, NBz5.out, (HB.out)⟩)
       rintro ⟨vz0, gbz0⟩ w51 ⟨hS_, h0_, h1_, h2_, h3_, h4_, h5_, h6_, h7_, h8_, h9_, h10_, h11_, h12_, h13_, h14_⟩
       have n0_ : Aside0 (Kd.R (Kd.int .i64) 3 w51 w.heap.size (fun k_ => some k_ ≠ (.slice Ao47 xz0.length co47 : Value).ownBlock) vz0 tz3) := ⟨h0_⟩
       have n1_ : Aside0 (Kd.R (Kd.int .i64) 3 w51 w.heap.size (fun k_ => some k_ ≠ (vz0 : Value).ownBlock) (.slice Ao47 xz0.length co47) xz0) := ⟨h1_⟩
       have n2_ : Aside0 (w51.heap[gbz3]? = some (.cells #[.int .i64 a0_0, .int .i64 a0_1, .int .i64 a0_2, .slice A0_3 l0_3.length c0_3] 28 (0, 0))) := ⟨h2_⟩
       have n3_ : Aside0 (w51.heap[gbz2]? = some (.cells #[.int .i64 xz6, .int .i64 xz5, .int .i64 xz4, .slice none 0 0] 28 (0, 0))) := ⟨h3_⟩
       have n4_ : Aside0 (w51.heap[gbz1]? = some (.cells #[.int .i64 xz1, .int .i64 xz2, .int .i64 xz3, .slice Ao47 xz0.length co47] 28 (0, 0))) := ⟨h4_⟩
       have n5_ : Aside0 (w51.heap[gbz0]? = some (.cells #[.int .i64 0, .int .i64 0, .int .i64 0, .slice none 0 0] 28 (0, 0))) := ⟨h5_⟩
       have n6_ : Aside0 (w.heap.size ≤ gbz0) := ⟨h6_⟩
       have n7_ : Aside0 (w.heap.size ≤ gbz0) := ⟨h7_⟩
       have n8_ : Aside0 (gbz3 ≠ gbz0) := ⟨h8_⟩
       have n9_ : Aside0 (gbz0 ≠ gbz3) := ⟨h9_⟩
       have n10_ : Aside0 (gbz2 ≠ gbz0) := ⟨h10_⟩
       have n11_ : Aside0 (gbz0 ≠ gbz2) := ⟨h11_⟩
       have n12_ : Aside0 (gbz1 ≠ gbz0) := ⟨h12_⟩
       have n13_ : Aside0 (gbz0 ≠ gbz1) := ⟨h13_⟩
       have n14_ : Aside0 (Below w.heap.size w w51) := ⟨h14_⟩
       clear HOz0 BKz2 BKz1 BKz0 HB h0_ h1_ h2_ h3_ h4_ h5_ h6_ h7_ h8_ h9_ h10_ h11_ h12_ h13_ h14_
       revert n0_ n1_ n2_ n3_ n4_ n5_ n6_ n7_ n8_ n9_ n10_ n11_ n12_ n13_ n14_; intro HOz1 HOz0 BKz2 BKz1 BKz0 BKz3 GWz0 GEz0 NBz2 NBz4 NBz1 NBz3 NBz0 NBz5 HB
       have hHeld : w51.cell? ⟨gbz1, 0, none⟩ = some (.int .i64 xz1) ∧ w51.cell? ⟨gbz1, 1, none⟩ = some (.int .i64 xz2) ∧ w51.cell? ⟨gbz1, 2, none⟩ = some (.int .i64 xz3) ∧ w51.cell? ⟨gbz1, 3, none⟩ = some (.slice Ao47 xz0.length co47) ∧ w51.cell? (ad13011.add ((x7_2).toNat * 6)) = some (.int .i64 ((rd_T43 l1 x7_2).f0)) ∧ w51.cell? ⟨(ad13011.add ((x7_2).toNat * 6)).block, (ad13011.add ((x7_2).toNat * 6)).off + 1, none⟩ = some (.int .i64 ((rd_T43 l1 x7_2).f1.f0)) ∧ w51.cell? ⟨(ad13011.add ((x7_2).toNat * 6)).block, (ad13011.add ((x7_2).toNat * 6)).off + 2, none⟩ = some (.int .i64 ((rd_T43 l1 x7_2).f1.f1)) ∧ w51.cell? ⟨(ad13011.add ((x7_2).toNat * 6)).block, (ad13011.add ((x7_2).toNat * 6)).off + 3, none⟩ = some (.int .i64 ((rd_T43 l1 x7_2).f1.f2)) ∧ w51.cell? ⟨(ad13011.add ((x7_2).toNat * 6)).block, (ad13011.add ((x7_2).toNat * 6)).off + 4, none⟩ = some (.int .i64 ((rd_T43 l1 x7_2).f1.f3)) ∧ w51.cell? ⟨(ad13011.add ((x7_2).toNat * 6)).block, (ad13011.add ((x7_2).toNat * 6)).off + 5, none⟩ = some (.slice Az0 ((rd_T43 l1 x7_2).f2).length cz0) := hS_
       obtain ⟨Ao55, co55, eo55⟩ := Kd.R_slice HOz1.out
       (subst eo55)
       refine norm_ (a' := ?_) ?_ ?_
       rotate_left
       ·simp only [putAll, Act.put, List.setIfInBounds_toArray, List.set_cons_zero, List.set_cons_succ]
        rfl
       refine one_ (i := 10) (N := none) #[true, true, true, true, true, true, true, true, true, true, true, false] rfl rfl (one_of HT_.out (by kernel_rfl)) (by decide) (fun K hK => ?_)
       obtain ⟨hs52, -, -, -, hfs52, -⟩ := c4 BKz3.out
       have hns52_0 := NBz2.out
       have hns52_1 := NBz1.out
       have hns52_2 := NBz0.out
       have hms52_0 := NBz4.out
       have hms52_1 := NBz3.out
       have hms52_2 := NBz5.out
       obtain ⟨-, hs53, -, -, -, hfs53, -⟩ := c4 BKz3.out
       have hns53_0 := NBz2.out
       have hns53_1 := NBz1.out
       have hns53_2 := NBz0.out
       have hms53_0 := NBz4.out
       have hms53_1 := NBz3.out
       have hms53_2 := NBz5.out
       obtain ⟨-, -, hs54, -, -, -, hfs54, -⟩ := c4 BKz3.out
       have hns54_0 := NBz2.out
       have hns54_1 := NBz1.out
       have hns54_2 := NBz0.out
       have hms54_0 := NBz4.out
       have hms54_1 := NBz3.out
       have hms54_2 := NBz5.out
       obtain ⟨-, -, -, hs56, -, -, -, hfs56⟩ := c4 BKz3.out
       have hns56_0 := NBz2.out
       have hns56_1 := NBz1.out
       have hns56_2 := NBz0.out
       have hms56_0 := NBz4.out
       have hms56_1 := NBz3.out
       have hms56_2 := NBz5.out
       refine skip_ (w1 := ?_) (by rfl) rfl ?_ ?_
       rotate_left
       ·go_simp
        rfl
       refine hK.out _ _ ⟨((cell_far (p := ⟨gbz0, _, none⟩) NBz0.out _).trans (((cell_far (p := ⟨gbz0, _, none⟩) NBz0.out _).trans (((cell_far (p := ⟨gbz0, _, none⟩) NBz0.out _).trans (((cell_far (p := ⟨gbz0, _, none⟩) NBz0.out _).trans hHeld.1))))))), ((cell_far (p := ⟨gbz0, _, none⟩) NBz0.out _).trans (((cell_far (p := ⟨gbz0, _, none⟩) NBz0.out _).trans (((cell_far (p := ⟨gbz0, _, none⟩) NBz0.out _).trans (((cell_far (p := ⟨gbz0, _, none⟩) NBz0.out _).trans hHeld.2.1))))))), ((cell_far (p := ⟨gbz0, _, none⟩) NBz0.out _).trans (((cell_far (p := ⟨gbz0, _, none⟩) NBz0.out _).trans (((cell_far (p := ⟨gbz0, _, none⟩) NBz0.out _).trans (((cell_far (p := ⟨gbz0, _, none⟩) NBz0.out _).trans hHeld.2.2.1))))))), ((cell_far (p := ⟨gbz0, _, none⟩) NBz0.out _).trans (((cell_far (p := ⟨gbz0, _, none⟩) NBz0.out _).trans (((cell_far (p := ⟨gbz0, _, none⟩) NBz0.out _).trans (((cell_far (p := ⟨gbz0, _, none⟩) NBz0.out _).trans hHeld.2.2.2.1))))))), ((cell_far (p := ⟨gbz0, _, none⟩) (by exact Nat.ne_of_lt (Nat.lt_of_lt_of_le (by have := World.block_lt_of_cell? _ _ hw13011_0; exact this) GWz0.out)) _).trans (((cell_far (p := ⟨gbz0, _, none⟩) (by exact Nat.ne_of_lt (Nat.lt_of_lt_of_le (by have := World.block_lt_of_cell? _ _ hw13011_0; exact this) GWz0.out)) _).trans (((cell_far (p := ⟨gbz0, _, none⟩) (by exact Nat.ne_of_lt (Nat.lt_of_lt_of_le (by have := World.block_lt_of_cell? _ _ hw13011_0; exact this) GWz0.out)) _).trans (((cell_far (p := ⟨gbz0, _, none⟩) (by exact Nat.ne_of_lt (Nat.lt_of_lt_of_le (by have := World.block_lt_of_cell? _ _ hw13011_0; exact this) GWz0.out)) _).trans hHeld.2.2.2.2.1))))))), ((cell_far (p := ⟨gbz0, _, none⟩) (by exact Nat.ne_of_lt (Nat.lt_of_lt_of_le (by have := World.block_lt_of_cell? _ _ hw13011_1; exact this) GWz0.out)) _).trans (((cell_far (p := ⟨gbz0, _, none⟩) (by exact Nat.ne_of_lt (Nat.lt_of_lt_of_le (by have := World.block_lt_of_cell? _ _ hw13011_1; exact this) GWz0.out)) _).trans (((cell_far (p := ⟨gbz0, _, none⟩) (by exact Nat.ne_of_lt (Nat.lt_of_lt_of_le (by have := World.block_lt_of_cell? _ _ hw13011_1; exact this) GWz0.out)) _).trans (((cell_far (p := ⟨gbz0, _, none⟩) (by exact Nat.ne_of_lt (Nat.lt_of_lt_of_le (by have := World.block_lt_of_cell? _ _ hw13011_1; exact this) GWz0.out)) _).trans hHeld.2.2.2.2.2.1))))))), ((cell_far (p := ⟨gbz0, _, none⟩) (by exact Nat.ne_of_lt (Nat.lt_of_lt_of_le (by have := World.block_lt_of_cell? _ _ hw13011_2; exact this) GWz0.out)) _).trans (((cell_far (p := ⟨gbz0, _, none⟩) (by exact Nat.ne_of_lt (Nat.lt_of_lt_of_le (by have := World.block_lt_of_cell? _ _ hw13011_2; exact this) GWz0.out)) _).trans (((cell_far (p := ⟨gbz0, _, none⟩) (by exact Nat.ne_of_lt (Nat.lt_of_lt_of_le (by have := World.block_lt_of_cell? _ _ hw13011_2; exact this) GWz0.out)) _).trans (((cell_far (p := ⟨gbz0, _, none⟩) (by exact Nat.ne_of_lt (Nat.lt_of_lt_of_le (by have := World.block_lt_of_cell? _ _ hw13011_2; exact this) GWz0.out)) _).trans hHeld.2.2.2.2.2.2.1))))))), ((cell_far (p := ⟨gbz0, _, none⟩) (by exact Nat.ne_of_lt (Nat.lt_of_lt_of_le (by have := World.block_lt_of_cell? _ _ hw13011_3; exact this) GWz0.out)) _).trans (((cell_far (p := ⟨gbz0, _, none⟩) (by exact Nat.ne_of_lt (Nat.lt_of_lt_of_le (by have := World.block_lt_of_cell? _ _ hw13011_3; exact this) GWz0.out)) _).trans (((cell_far (p := ⟨gbz0, _, none⟩) (by exact Nat.ne_of_lt (Nat.lt_of_lt_of_le (by have := World.block_lt_of_cell? _ _ hw13011_3; exact this) GWz0.out)) _).trans (((cell_far (p := ⟨gbz0, _, none⟩) (by exact Nat.ne_of_lt (Nat.lt_of_lt_of_le (by have := World.block_lt_of_cell? _ _ hw13011_3; exact this) GWz0.out)) _).trans hHeld.2.2.2.2.2.2.2.1))))))), ((cell_far (p := ⟨gbz0, _, none⟩) (by exact Nat.ne_of_lt (Nat.lt_of_lt_of_le (by have := World.block_lt_of_cell? _ _ hw13011_4; exact this) GWz0.out)) _).trans (((cell_far (p := ⟨gbz0, _, none⟩) (by exact Nat.ne_of_lt (Nat.lt_of_lt_of_le (by have := World.block_lt_of_cell? _ _ hw13011_4; exact this) GWz0.out)) _).trans (((cell_far (p := ⟨gbz0, _, none⟩) (by exact Nat.ne_of_lt (Nat.lt_of_lt_of_le (by have := World.block_lt_of_cell? _ _ hw13011_4; exact this) GWz0.out)) _).trans (((cell_far (p := ⟨gbz0, _, none⟩) (by exact Nat.ne_of_lt (Nat.lt_of_lt_of_le (by have := World.block_lt_of_cell? _ _ hw13011_4; exact this) GWz0.out)) _).trans hHeld.2.2.2.2.2.2.2.2.1))))))), ((cell_far (p := ⟨gbz0, _, none⟩) (by exact Nat.ne_of_lt (Nat.lt_of_lt_of_le (by have := World.block_lt_of_cell? _ _ hw13011_5; exact this) GWz0.out)) _).trans (((cell_far (p := ⟨gbz0, _, none⟩) (by exact Nat.ne_of_lt (Nat.lt_of_lt_of_le (by have := World.block_lt_of_cell? _ _ hw13011_5; exact this) GWz0.out)) _).trans (((cell_far (p := ⟨gbz0, _, none⟩) (by exact Nat.ne_of_lt (Nat.lt_of_lt_of_le (by have := World.block_lt_of_cell? _ _ hw13011_5; exact this) GWz0.out)) _).trans (((cell_far (p := ⟨gbz0, _, none⟩) (by exact Nat.ne_of_lt (Nat.lt_of_lt_of_le (by have := World.block_lt_of_cell? _ _ hw13011_5; exact this) GWz0.out)) _).trans hHeld.2.2.2.2.2.2.2.2.2)))))))⟩ (fun hHeld => ?_)
       clear hK K
       refine pure_ (i := 11) (N := some 9) (v := ?_) (a' := ?_) #[true, true, true, true, true, true, true, true, true, true, true, true] rfl rfl (any_of HT_.out (by kernel_rfl)) (fun _ _ _ h => h) (Or.inl ⟨by rfl, ?_⟩) ?_ ?_
       rotate_left
       ·intro w'
        go_simp
        with_reducible rfl
       rotate_left
       ·simp only [Act.put, List.setIfInBounds_toArray, List.set_cons_zero, List.set_cons_succ, i64_w, i32_w]
        rfl
       refine done_ (done_of HT_.out (by kernel_rfl)) ?_
       have hnc62 := NBz3.out
       obtain ⟨hcz63_0, hcz63_1, hcz63_2, hcz63_3, hfz63_0, hfz63_1, hfz63_2, hfz63_3⟩ := c4 BKz1.out
       try go_wp2
       refine bodyPost_ret (results_ct rfl _ _ gbz2 28 #[.int .i64 xz1, .int .i64 xz2, .int .i64 xz3, .slice Ao47 xz0.length co47] (0, 0) _ rfl (by refine blk_put (cs := #[.int .i64 xz1, .int .i64 xz2, .int .i64 xz3, .slice none 0 0]) ?_ 3 _ rfl; refine blk_put (cs := #[.int .i64 xz1, .int .i64 xz2, .int .i64 xz4, .slice none 0 0]) ?_ 2 _ rfl; refine blk_put (cs := #[.int .i64 xz1, .int .i64 xz5, .int .i64 xz4, .slice none 0 0]) ?_ 1 _ rfl; refine blk_put (cs := #[.int .i64 xz6, .int .i64 xz5, .int .i64 xz4, .slice none 0 0]) ?_ 0 _ rfl; refine blk_far ?_ NBz1.out _; refine blk_far ?_ NBz1.out _; refine blk_far ?_ NBz1.out _; refine blk_far ?_ NBz1.out _; exact BKz1.out) Try.underlying28 rfl (by kernel_rfl)) rfl ?_
       exact ⟨_, by rfl, by exact Kd.R_mono (Kd.R_far (p := ⟨gbz2, 3, none⟩) (Kd.R_far (p := ⟨gbz2, 2, none⟩) (Kd.R_far (p := ⟨gbz2, 1, none⟩) (Kd.R_far (p := ⟨gbz2, 0, none⟩) (Kd.R_far (p := ⟨gbz0, 3, none⟩) (Kd.R_far (p := ⟨gbz0, 2, none⟩) (Kd.R_far (p := ⟨gbz0, 1, none⟩) (Kd.R_far (p := ⟨gbz0, 0, none⟩) (Kd.R_types (Kd.R_types HOz0.out BKz3.out (by decide)) BKz1.out (by decide)) (fun _ hk => hk.1.2) (.int .i64 tz0)) (fun _ hk => hk.1.2) (.int .i64 tz1)) (fun _ hk => hk.1.2) (.int .i64 tz2)) (fun _ hk => hk.1.2) (.slice Ao55 tz3.length co55)) (fun _ hk => hk.2) (.int .i64 xz1)) (fun _ hk => hk.2) (.int .i64 xz2)) (fun _ hk => hk.2) (.int .i64 xz3)) (fun _ hk => hk.2) (.slice Ao47 xz0.length co47)) (fun _ hk => trivial), by repeat (with_reducible first | exact HB.out | refine below_set ?_ GEz1.out | refine below_set ?_ GEz0.out)⟩
      rw [if_neg c27] at H
      exact absurd H (by simp)
     rw [if_neg c26] at H
     have c26b0 : decide (x7_2 < (l1.length : Int)) = false := decide_eq_false c26
     clear c26
     simp only [Option.some.injEq, Prod.mk.injEq] at H
     obtain ⟨rfl, rfl, rfl, rfl, rfl⟩ := H
     obtain ⟨hcz66_0, hcz66_1, hcz66_2, -⟩ := c4 BKz0.out
     have hcz66_3 : wr.cell? ⟨gbz1, 3, none⟩ = some u13011003 := (blk_cell BKz0.out 3).trans rfl
     obtain ⟨hcz68_0, hcz68_1, hcz68_2, hcz68_3, hfz68_0, hfz68_1, hfz68_2, hfz68_3⟩ := c4 BKz1.out
     obtain ⟨Ao69, co69, eo69⟩ := Kd.R_slice HOz0.out
     subst eo69
     go_wp2
     refine bodyPost_ret (results_ct rfl _ _ gbz2 28 #[.int .i64 xz1, .int .i64 xz2, .int .i64 xz3, .slice Ao69 xz0.length co69] (0, 0) _ rfl (by refine blk_put (cs := #[.int .i64 xz1, .int .i64 xz2, .int .i64 xz3, .slice none 0 0]) ?_ 3 _ rfl; refine blk_put (cs := #[.int .i64 xz1, .int .i64 xz2, .int .i64 xz4, .slice none 0 0]) ?_ 2 _ rfl; refine blk_put (cs := #[.int .i64 xz1, .int .i64 xz5, .int .i64 xz4, .slice none 0 0]) ?_ 1 _ rfl; refine blk_put (cs := #[.int .i64 xz6, .int .i64 xz5, .int .i64 xz4, .slice none 0 0]) ?_ 0 _ rfl; exact BKz1.out) Try.underlying28 rfl (by kernel_rfl)) rfl ?_
     exact ⟨_, by rfl, by exact Kd.R_mono (Kd.R_far (p := ⟨gbz2, 3, none⟩) (Kd.R_far (p := ⟨gbz2, 2, none⟩) (Kd.R_far (p := ⟨gbz2, 1, none⟩) (Kd.R_far (p := ⟨gbz2, 0, none⟩) (Kd.R_types HOz0.out BKz1.out (by decide)) (fun _ hk => hk.2) (.int .i64 xz1)) (fun _ hk => hk.2) (.int .i64 xz2)) (fun _ hk => hk.2) (.int .i64 xz3)) (fun _ hk => hk.2) (.slice Ao69 xz0.length co69)) (fun _ hk => trivial), by repeat (with_reducible first | exact HB.out | refine below_set ?_ GEz1.out)⟩


/- Words of this session's own hand-made walks: where the first element lies for which a test holds; draws that follow each other. -/

theorem dtrans {a b c : World} (h : Drawn0 a b) (k : Drawn0 b c) : Drawn0 a c := by
  obtain ⟨n, rfl⟩ := k
  exact h.step n

/-- where the first element is for which p holds; -1 -/
def idxF {α : Type} (p : α → Bool) : List α → Int
  | [] => -1
  | x :: xs => if p x then 0 else (let r := idxF p xs; if r < 0 then -1 else r + 1)
theorem idxF_any {α : Type} (p : α → Bool) (l : List α) : decide (idxF p l ≥ 0) = l.any p := by
  induction l with
  | nil => simp [idxF]
  | cons x xs ih =>
    unfold idxF
    by_cases h : p x = true
    · simp [h]
    · simp only [h, List.any_cons, Bool.false_or, ← ih]
      simp only [Bool.false_eq_true, if_false]
      split
      · simp; omega
      · simp; omega
/-- p fails at all that lies before k -/
def SawNone {α : Type} (p : α → Bool) (l : List α) (k : Nat) : Prop := ∀ j, j < k → ∀ h : j < l.length, p l[j] = false
theorem SawNone.succ {α : Type} {p : α → Bool} {l : List α} {k : Nat} (h : SawNone p l k) (hk : k < l.length) (hp : p l[k] = false) : SawNone p l (k + 1) := by
  intro j hj hl
  by_cases e : j = k
  · subst e; exact hp
  · exact h j (by omega) hl
theorem idxF_at {α : Type} (p : α → Bool) (l : List α) (k : Nat) (hk : k < l.length) (hs : SawNone p l k) (hp : p l[k] = true) : idxF p l = k := by
  induction l generalizing k with
  | nil => simp at hk
  | cons x xs ih =>
    unfold idxF
    cases k with
    | zero => simp at hp; simp [hp]
    | succ k =>
      have h0 : p x = false := hs 0 (by omega) (by simp)
      have := ih k (by simpa using hk) (fun j hj h => hs (j + 1) (by omega) (by simpa using h)) (by simpa using hp)
      simp [h0, this]; omega
theorem idxF_none {α : Type} (p : α → Bool) (l : List α) (hs : SawNone p l l.length) : idxF p l = -1 := by
  induction l with
  | nil => rfl
  | cons x xs ih =>
    unfold idxF
    have h0 : p x = false := hs 0 (by simp) (by simp)
    have := ih (fun j hj h => hs (j + 1) (by simpa using hj) (by simpa using h))
    simp [h0, this]
theorem rd_get (l : List Int) (k : Nat) (hk : k < l.length) : rd l k = l[k] := by simp [rd, hk]
theorem ret_bool {a b : Bool} (h : a = b) : Ending.returned (.bool a) = .returned (.bool b) := by rw [h]

/- slices.IndexFunc over whole numbers: where the first element lies for which the function value's answer is true. -/

theorem idxFunc_int (g : Nat) (lb : Array Value) (p : Int → Bool) (A : Option Addr) (c : Nat) (l : List Int) (w : World)
  (eg : ∀ args W, (callFunc g args).run Try.prog W = .ok (.enter g args) W)
  (hp : ∀ (W : World) (x : Int), Below w.heap.size w W → Calls Try.prog g (#[.int .i64 x] ++ lb) W fun e W' => e = .returned (.bool (p x)) ∧ Drawn0 W W')
  (hr : Kd.C (Kd.int .i64) w A l.length l) :
  Calls Try.prog 100 #[.slice A l.length c, .func (.func g) #[] lb] w fun e w' => e = .returned (.int .i64 (idxF p l)) ∧ Drawn0 w w' := by
 have hm : l.length ≤ 9223372036854775807 := hr.2.1
 have HP := Aside0.mk hp
 have HR := Aside0.mk hr
 clear hp hr
 go_enter Try.func100, Try.ntmps100
 go_wp2
 go_loopw [8] (fun v8 W => ∃ k : Nat, v8 = .int .i64 k ∧ k ≤ l.length ∧ SawNone p l k ∧ Drawn0 w W) (fun v8 _ => l.length - (intOf v8).toNat)
 case atStart => exact ⟨0, rfl, by omega, fun j hj => by omega, Drawn0.refl _⟩
 case round =>
  obtain ⟨k, rfl, hk, hs, hd⟩ := hrel
  by_cases hlt : k < l.length
  ·obtain ⟨ad, e, hx⟩ := Kd.at_int HR.out (k : Int) (by omega) (by omega)
   cases e
   rw [rd_get l k hlt, Int.toNat_natCast] at hx
   replace hx := (hd.below.cell (World.block_lt_of_cell? w _ hx)).trans hx
   by_cases hv : p l[k] = true
   ·have HV := Aside0.mk hv
    clear hv
    go_wp2_with (first | (go_at_fn g; refine (HP.out _ _ hd.below).mono ?_; rintro e w' ⟨rfl, hd2⟩; rw [HV.out]))
    go_ret
    exact ⟨by rw [idxF_at p l k hlt hs HV.out]; rfl, dtrans hd hd2⟩
   ·replace hv : p l[k] = false := by simpa using hv
    have hs' := hs.succ hlt hv
    have HV := Aside0.mk hv
    clear hv
    go_wp2_with (first | (go_at_fn g; refine (HP.out _ _ hd.below).mono ?_; rintro e w' ⟨rfl, hd2⟩; rw [HV.out]))
    go_roundw
    case rel => exact ⟨k + 1, by go_num, by omega, hs', dtrans hd hd2⟩
    case measure => simp [intOf]; omega
  ·go_wp2
   go_ret
   have : k = l.length := by omega
   subst this
   exact ⟨by rw [idxF_none p l hs]; rfl, hd⟩

/- slices.ContainsFunc over whole numbers. -/

theorem containsFunc_int (g : Nat) (lb : Array Value) (p : Int → Bool) (A : Option Addr) (c : Nat) (l : List Int) (w : World)
  (eg : ∀ args W, (callFunc g args).run Try.prog W = .ok (.enter g args) W)
  (hp : ∀ (W : World) (x : Int), Below w.heap.size w W → Calls Try.prog g (#[.int .i64 x] ++ lb) W fun e W' => e = .returned (.bool (p x)) ∧ Drawn0 W W')
  (hr : Kd.C (Kd.int .i64) w A l.length l) :
  Calls Try.prog 88 #[.slice A l.length c, .func (.func g) #[] lb] w fun e w' => e = .returned (.bool (l.any p)) ∧ Drawn0 w w' := by
 have HP := Aside0.mk hp
 have HR := Aside0.mk hr
 clear hp hr
 go_enter Try.func88, Try.ntmps88
 go_wp2_with (first | (go_at_call 100; refine (idxFunc_int g lb p _ _ _ _ eg HP.out HR.out).mono ?_; rintro e w' ⟨rfl, hd⟩))
 go_ret
 exact ⟨ret_bool (by first | exact idxF_any p l | (rw [← idxF_any p l])), hd⟩

/- impl.areBytes: every number is in 0..255. -/

def notByte (n : Int) : Bool := decide (n < 0) || decide (n > 255)
def impl_areBytes.f (l0 : List Int) : Option Bool := some (!l0.any notByte)

theorem areBytes1 (n : Int) (w : World) : Calls Try.prog 89 #[.int .i64 n] w fun e w' => e = .returned (.bool (notByte n)) ∧ Drawn0 w w' := by
 by_cases h1 : n < 0 <;> by_cases h2 : n > 255
 all_goals
  go_enter Try.func89, Try.ntmps89
  go_wp2
  go_ret
  exact ⟨by simp [notByte, *], Drawn0.refl _⟩

theorem impl_areBytes.calls (A0 : Option Addr) (c0 : Nat) (l0 : List Int) (r : Bool) (w : World) (hr0 : Kd.C (Kd.int .i64) w A0 l0.length l0) (hc0 : l0.length ≤ c0) (h : impl_areBytes.f l0 = some r) :
  Calls Try.prog 63 #[.slice A0 l0.length c0] w fun e w' => e = .returned (.bool r) ∧ Drawn0 w w' := by
 obtain rfl := Option.some.inj h
 clear h
 have HR := Aside0.mk hr0
 clear hr0
 have eg : ∀ args W, (callFunc 89 args).run Try.prog W = .ok (.enter 89 args) W := enters_of Try.func89 (by kernel_rfl) rfl
 go_enter Try.func63, Try.ntmps63
 go_wp2_with (first | (go_at_call 88; refine (containsFunc_int 89 #[] notByte _ _ _ _ eg (fun W x _ => areBytes1 x W) HR.out).mono ?_; rintro e w' ⟨rfl, hd⟩))
 go_ret
 exact ⟨rfl, hd⟩

def impl_isSide.f (a0 : Int) : Option (Bool) := if a0 ≥ 1 then (some (decide (a0 ≤ 16))) else (some false)
theorem impl_isSide.calls (a0 : Int) (r : Bool) (w : World) (h : impl_isSide.f a0 = some r) :
  Calls Try.prog 62 #[.int .i64 a0] w fun e w' => e = .returned (.bool r) ∧ Drawn0 w w' := by
 have H : (if a0 ≥ 1 then (some (decide (a0 ≤ 16))) else (some false)) = some r := h
 clear h
 by_cases c2 : a0 ≥ 1
 ·rw [if_pos c2] at H
  have c2b0 : decide (1 ≤ a0) = true := decide_eq_true c2
  clear c2
  obtain rfl := Option.some.inj H
  go_enter Try.func62, Try.ntmps62
  go_wp2
  go_ret
  exact ⟨by first | rfl | (simp; done) | (simp [*]; done), by repeat (first | exact Drawn0.refl _ | apply Drawn0.step)⟩
 ·rw [if_neg c2] at H
  have c2b0 : decide (1 ≤ a0) = false := decide_eq_false c2
  clear c2
  obtain rfl := Option.some.inj H
  go_enter Try.func62, Try.ntmps62
  go_wp2
  go_ret
  exact ⟨by first | rfl | (simp; done) | (simp [*]; done), by repeat (first | exact Drawn0.refl _ | apply Drawn0.step)⟩


def impl_isShape.f (a0 : Int) (a1 : Int) (a2 : Int) : Option (Bool) := (impl_isSide.f a0).bind fun t80001 => (if t80001 = true then ((impl_isSide.f a1).bind fun t80002 => (if t80002 = true then (if a2 ≥ 1 then (some (decide (a2 ≤ 4))) else (some false)) else (some false))) else (some false))
theorem impl_isShape.calls (a0 : Int) (a1 : Int) (a2 : Int) (r : Bool) (w : World) (h : impl_isShape.f a0 a1 a2 = some r) :
  Calls Try.prog 79 #[.int .i64 a0, .int .i64 a1, .int .i64 a2] w fun e w' => e = .returned (.bool r) ∧ Drawn0 w w' := by
 have H : ((impl_isSide.f a0).bind fun t80001 => (if t80001 = true then ((impl_isSide.f a1).bind fun t80002 => (if t80002 = true then (if a2 ≥ 1 then (some (decide (a2 ≤ 4))) else (some false)) else (some false))) else (some false))) = some r := h
 clear h
 replace H := Option.bind_eq_some_iff.mp H
 obtain ⟨t80001, A40, H⟩ := H
 replace H : (if t80001 = true then ((impl_isSide.f a1).bind fun t80002 => (if t80002 = true then (if a2 ≥ 1 then (some (decide (a2 ≤ 4))) else (some false)) else (some false))) else (some false)) = some r := H
 have A4 := Aside0.mk A40
 clear A40
 by_cases c5 : t80001 = true
 ·subst c5
  have H1 : ((impl_isSide.f a1).bind fun t80002 => (if t80002 = true then (if a2 ≥ 1 then (some (decide (a2 ≤ 4))) else (some false)) else (some false))) = some r := by rw [if_pos rfl] at H; exact H
  clear H
  have H := H1
  clear H1
  replace H := Option.bind_eq_some_iff.mp H
  obtain ⟨t80002, A60, H⟩ := H
  replace H : (if t80002 = true then (if a2 ≥ 1 then (some (decide (a2 ≤ 4))) else (some false)) else (some false)) = some r := H
  have A6 := Aside0.mk A60
  clear A60
  by_cases c7 : t80002 = true
  ·subst c7
   have H1 : (if a2 ≥ 1 then (some (decide (a2 ≤ 4))) else (some false)) = some r := by rw [if_pos rfl] at H; exact H
   clear H
   have H := H1
   clear H1
   by_cases c8 : a2 ≥ 1
   ·rw [if_pos c8] at H
    have c8b0 : decide (1 ≤ a2) = true := decide_eq_true c8
    clear c8
    obtain rfl := Option.some.inj H
    go_enter Try.func79, Try.ntmps79
    go_wp2_with (first | ((with_reducible refine gate_callee (f := 62) rfl ?_); refine goesL_ (some 8) rfl rfl Try.func62 (by kernel_rfl) rfl #[.int .i64 a0] rfl (by (try simp only [List.map_toArray, List.map_cons, List.map_nil]); first | done | rfl | (simp only [List.length_drop, List.length_take]; rfl)) ?_; (with_reducible refine (impl_isSide.calls a0 true _ A4.out).mono ?_); rintro e w' ⟨rfl, ⟨nd, rfl⟩⟩; refine ⟨_, rfl, ?_⟩) | (go_at_call 62; (with_reducible refine (impl_isSide.calls a1 true _ A6.out).mono ?_); rintro e w' ⟨rfl, ⟨nd, rfl⟩⟩))
    go_ret
    exact ⟨by first | rfl | (simp; done) | (simp [*]; done), by repeat (first | exact Drawn0.refl _ | apply Drawn0.step)⟩
   ·rw [if_neg c8] at H
    have c8b0 : decide (1 ≤ a2) = false := decide_eq_false c8
    clear c8
    obtain rfl := Option.some.inj H
    go_enter Try.func79, Try.ntmps79
    go_wp2_with (first | ((with_reducible refine gate_callee (f := 62) rfl ?_); refine goesL_ (some 8) rfl rfl Try.func62 (by kernel_rfl) rfl #[.int .i64 a0] rfl (by (try simp only [List.map_toArray, List.map_cons, List.map_nil]); first | done | rfl | (simp only [List.length_drop, List.length_take]; rfl)) ?_; (with_reducible refine (impl_isSide.calls a0 true _ A4.out).mono ?_); rintro e w' ⟨rfl, ⟨nd, rfl⟩⟩; refine ⟨_, rfl, ?_⟩) | (go_at_call 62; (with_reducible refine (impl_isSide.calls a1 true _ A6.out).mono ?_); rintro e w' ⟨rfl, ⟨nd, rfl⟩⟩))
    go_ret
    exact ⟨by first | rfl | (simp; done) | (simp [*]; done), by repeat (first | exact Drawn0.refl _ | apply Drawn0.step)⟩
  ·replace c7 := Bool.eq_false_iff.mpr c7
   subst c7
   have H1 : (some false) = some r := by rw [if_neg (show ¬ (false = true) by decide)] at H; exact H
   clear H
   have H := H1
   clear H1
   obtain rfl := Option.some.inj H
   go_enter Try.func79, Try.ntmps79
   go_wp2_with (first | ((with_reducible refine gate_callee (f := 62) rfl ?_); refine goesL_ (some 8) rfl rfl Try.func62 (by kernel_rfl) rfl #[.int .i64 a0] rfl (by (try simp only [List.map_toArray, List.map_cons, List.map_nil]); first | done | rfl | (simp only [List.length_drop, List.length_take]; rfl)) ?_; (with_reducible refine (impl_isSide.calls a0 true _ A4.out).mono ?_); rintro e w' ⟨rfl, ⟨nd, rfl⟩⟩; refine ⟨_, rfl, ?_⟩) | (go_at_call 62; (with_reducible refine (impl_isSide.calls a1 false _ A6.out).mono ?_); rintro e w' ⟨rfl, ⟨nd, rfl⟩⟩))
   go_ret
   exact ⟨by first | rfl | (simp; done) | (simp [*]; done), by repeat (first | exact Drawn0.refl _ | apply Drawn0.step)⟩
 ·replace c5 := Bool.eq_false_iff.mpr c5
  subst c5
  have H1 : (some false) = some r := by rw [if_neg (show ¬ (false = true) by decide)] at H; exact H
  clear H
  have H := H1
  clear H1
  obtain rfl := Option.some.inj H
  go_enter Try.func79, Try.ntmps79
  go_wp2_with (first | ((with_reducible refine gate_callee (f := 62) rfl ?_); refine goesL_ (some 8) rfl rfl Try.func62 (by kernel_rfl) rfl #[.int .i64 a0] rfl (by (try simp only [List.map_toArray, List.map_cons, List.map_nil]); first | done | rfl | (simp only [List.length_drop, List.length_take]; rfl)) ?_; (with_reducible refine (impl_isSide.calls a0 false _ A4.out).mono ?_); rintro e w' ⟨rfl, ⟨nd, rfl⟩⟩; refine ⟨_, rfl, ?_⟩))
  go_ret
  exact ⟨by first | rfl | (simp; done) | (simp [*]; done), by repeat (first | exact Drawn0.refl _ | apply Drawn0.step)⟩


def impl_isImage.f (a0_0 : Int) (a0_1 : Int) (a0_2 : Int) (l0_3 : List Int) : Option (Bool) := (impl_isShape.f a0_0 a0_1 a0_2).bind fun tz1 => (if tz1 = true then (if (l0_3.length : Int) = (wrap64 ((wrap64 (a0_0 * a0_1)) * a0_2)) then ((impl_areBytes.f l0_3).bind fun tz0 => (some tz0)) else (some false)) else (some false))
theorem impl_isImage.calls (a0_0 : Int) (a0_1 : Int) (a0_2 : Int) (A0_3 : Option Addr) (c0_3 : Nat) (l0_3 : List Int) (r : Bool) (w : World) (hr0_3 : Kd.C (Kd.int .i64) w A0_3 l0_3.length l0_3) (hc0_3 : l0_3.length ≤ c0_3) (h : impl_isImage.f a0_0 a0_1 a0_2 l0_3 = some r) :
  Calls Try.prog 43 #[.agg #[.int .i64 a0_0, .int .i64 a0_1, .int .i64 a0_2, .slice A0_3 l0_3.length c0_3]] w fun e w' => e = .returned (.bool r) ∧ Below w.heap.size w w' := by
 have hu28 := Try.underlying28
 have HR0_3 := Aside0.mk hr0_3
 have HC0_3 := Aside0.mk hc0_3
 clear hr0_3 hc0_3
 have HB := Aside0.mk (Below.refl w.heap.size w)
 have H : ((impl_isShape.f a0_0 a0_1 a0_2).bind fun tz1 => (if tz1 = true then (if (l0_3.length : Int) = (wrap64 ((wrap64 (a0_0 * a0_1)) * a0_2)) then ((impl_areBytes.f l0_3).bind fun tz0 => (some tz0)) else (some false)) else (some false))) = some r := h
 clear h
 replace H := Option.bind_eq_some_iff.mp H
 obtain ⟨tz1, A20, H⟩ := H
 replace H : (if tz1 = true then (if (l0_3.length : Int) = (wrap64 ((wrap64 (a0_0 * a0_1)) * a0_2)) then ((impl_areBytes.f l0_3).bind fun tz0 => (some tz0)) else (some false)) else (some false)) = some r := H
 have A2 := Aside0.mk A20
 clear A20
 by_cases c3 : tz1 = true
 ·subst c3
  have H1 : (if (l0_3.length : Int) = (wrap64 ((wrap64 (a0_0 * a0_1)) * a0_2)) then ((impl_areBytes.f l0_3).bind fun tz0 => (some tz0)) else (some false)) = some r := by rw [if_pos rfl] at H; exact H
  clear H
  have H := H1
  clear H1
  by_cases c4 : (l0_3.length : Int) = (wrap64 ((wrap64 (a0_0 * a0_1)) * a0_2))
  ·rw [if_pos c4] at H
   have c4b0 : ((l0_3.length : Int) == (wrap64 ((wrap64 (a0_0 * a0_1)) * a0_2))) = true := beq_iff_eq.mpr c4
   have c4b1 : ((l0_3.length : Int) != (wrap64 ((wrap64 (a0_0 * a0_1)) * a0_2))) = false := bne_eq_false_iff_eq.mpr c4
   clear c4
   replace H := Option.bind_eq_some_iff.mp H
   obtain ⟨tz0, A50, H⟩ := H
   replace H : (some tz0) = some r := H
   have A5 := Aside0.mk A50
   clear A50
   obtain rfl := Option.some.inj H
   go_enter Try.func43, Try.ntmps43
   go_wp2_with (first | ((with_reducible refine gate_dst (N := 1) rfl ?_); (try (refine gate_guard (by rfl) ?_; dsimp only)); refine box_event ?hg (N := 1) ?hd (cs := #[.int .i64 a0_0, .int .i64 a0_1, .int .i64 a0_2, .slice A0_3 l0_3.length c0_3]) (t := 28) ?hr ?_; (case hd => rfl); (case hg => rfl); (case hr => first | (go_simp; done) | (go_simp; rfl)); intro gbz0 hg w6 hbox hb; replace HB := Aside0.mk (below_step (by repeat (first | (with_reducible first | exact HB.out | apply below_alloc | apply pw_below_drewN | apply below_drew1) | exact HB.out)) hb); have BKz0 := Aside0.mk (hbox); clear hb hbox hg; obtain ⟨hcz7_0, hcz7_1, hcz7_2, -⟩ := c4 BKz0.out; have hcz7_3 : w6.cell? ⟨gbz0, 3, none⟩ = some (.slice A0_3 l0_3.length c0_3) := (blk_cell BKz0.out 3).trans rfl) | ((with_reducible refine gate_callee (f := 79) rfl ?_); refine goesL_ (some 9) rfl rfl Try.func79 (by kernel_rfl) rfl #[.int .i64 a0_0, .int .i64 a0_1, .int .i64 a0_2] rfl (by (try simp only [List.map_toArray, List.map_cons, List.map_nil]); first | done | rfl | (simp only [List.length_drop, List.length_take]; rfl)) ?_; (with_reducible refine (impl_isShape.calls a0_0 a0_1 a0_2 true _ A2.out).mono ?_); rintro e w' ⟨rfl, ⟨nd, rfl⟩⟩; refine ⟨_, rfl, ?_⟩) | (go_at_call 63; (with_reducible refine (impl_areBytes.calls _ _ l0_3 tz0 _ ?side1 ?side2 A5.out).mono ?_); (case side1 => repeat (first | exact (Kd.C_below HR0_3.out (by repeat (first | (with_reducible first | exact HB.out | apply below_alloc | apply pw_below_drewN | apply below_drew1 | refine below_set ?_ GEz0.out) | exact HB.out))) | (with_reducible refine Kd.C_alloc ?_ _) | (with_reducible refine Kd.C_drewN ?_ _) | (with_reducible refine Kd.C_drew ?_))); (case side2 => exact HC0_3.out); rintro e w' ⟨rfl, ⟨nd, rfl⟩⟩))
   go_ret
   exact ⟨by first | rfl | (simp [errW_none, errW_some] <;> rfl) | (simp [*, errW_none, errW_some] <;> rfl), by repeat (first | (with_reducible first | exact HB.out | apply below_alloc | apply pw_below_drewN | apply below_drew1 | refine below_set ?_ GEz0.out) | exact HB.out)⟩
  rw [if_neg c4] at H
  have c4b0 : ((l0_3.length : Int) == (wrap64 ((wrap64 (a0_0 * a0_1)) * a0_2))) = false := beq_eq_false_iff_ne.mpr c4
  have c4b1 : ((l0_3.length : Int) != (wrap64 ((wrap64 (a0_0 * a0_1)) * a0_2))) = true := bne_iff_ne.mpr c4
  obtain rfl := Option.some.inj H
  go_enter Try.func43, Try.ntmps43
  go_wp2_with (first | ((with_reducible refine gate_dst (N := 1) rfl ?_); (try (refine gate_guard (by rfl) ?_; dsimp only)); refine box_event ?hg (N := 1) ?hd (cs := #[.int .i64 a0_0, .int .i64 a0_1, .int .i64 a0_2, .slice A0_3 l0_3.length c0_3]) (t := 28) ?hr ?_; (case hd => rfl); (case hg => rfl); (case hr => first | (go_simp; done) | (go_simp; rfl)); intro gbz0 hg w8 hbox hb; replace HB := Aside0.mk (below_step (by repeat (first | (with_reducible first | exact HB.out | apply below_alloc | apply pw_below_drewN | apply below_drew1) | exact HB.out)) hb); have BKz0 := Aside0.mk (hbox); clear hb hbox hg; obtain ⟨hcz9_0, hcz9_1, hcz9_2, -⟩ := c4 BKz0.out; have hcz9_3 : w8.cell? ⟨gbz0, 3, none⟩ = some (.slice A0_3 l0_3.length c0_3) := (blk_cell BKz0.out 3).trans rfl) | ((with_reducible refine gate_callee (f := 79) rfl ?_); refine goesL_ (some 9) rfl rfl Try.func79 (by kernel_rfl) rfl #[.int .i64 a0_0, .int .i64 a0_1, .int .i64 a0_2] rfl (by (try simp only [List.map_toArray, List.map_cons, List.map_nil]); first | done | rfl | (simp only [List.length_drop, List.length_take]; rfl)) ?_; (with_reducible refine (impl_isShape.calls a0_0 a0_1 a0_2 true _ A2.out).mono ?_); rintro e w' ⟨rfl, ⟨nd, rfl⟩⟩; refine ⟨_, rfl, ?_⟩))
  go_ret
  exact ⟨by first | rfl | (simp [errW_none, errW_some] <;> rfl) | (simp [*, errW_none, errW_some] <;> rfl), by repeat (first | (with_reducible first | exact HB.out | apply below_alloc | apply pw_below_drewN | apply below_drew1 | refine below_set ?_ GEz0.out) | exact HB.out)⟩
 replace c3 := Bool.eq_false_iff.mpr c3
 subst c3
 have H1 : (some false) = some r := by rw [if_neg (show ¬ (false = true) by decide)] at H; exact H
 clear H
 have H := H1
 clear H1
 obtain rfl := Option.some.inj H
 go_enter Try.func43, Try.ntmps43
 go_wp2_with (first | ((with_reducible refine gate_dst (N := 1) rfl ?_); (try (refine gate_guard (by rfl) ?_; dsimp only)); refine box_event ?hg (N := 1) ?hd (cs := #[.int .i64 a0_0, .int .i64 a0_1, .int .i64 a0_2, .slice A0_3 l0_3.length c0_3]) (t := 28) ?hr ?_; (case hd => rfl); (case hg => rfl); (case hr => first | (go_simp; done) | (go_simp; rfl)); intro gbz0 hg w10 hbox hb; replace HB := Aside0.mk (below_step (by repeat (first | (with_reducible first | exact HB.out | apply below_alloc | apply pw_below_drewN | apply below_drew1) | exact HB.out)) hb); have BKz0 := Aside0.mk (hbox); clear hb hbox hg; obtain ⟨hcz11_0, hcz11_1, -⟩ := c4 BKz0.out; have hcz11_2 : w10.cell? ⟨gbz0, 2, none⟩ = some (.int .i64 a0_2) := (blk_cell BKz0.out 2).trans rfl) | ((with_reducible refine gate_callee (f := 79) rfl ?_); refine goesL_ (some 9) rfl rfl Try.func79 (by kernel_rfl) rfl #[.int .i64 a0_0, .int .i64 a0_1, .int .i64 a0_2] rfl (by (try simp only [List.map_toArray, List.map_cons, List.map_nil]); first | done | rfl | (simp only [List.length_drop, List.length_take]; rfl)) ?_; (with_reducible refine (impl_isShape.calls a0_0 a0_1 a0_2 false _ A2.out).mono ?_); rintro e w' ⟨rfl, ⟨nd, rfl⟩⟩; refine ⟨_, rfl, ?_⟩))
 go_ret
 exact ⟨by first | rfl | (simp [errW_none, errW_some] <;> rfl) | (simp [*, errW_none, errW_some] <;> rfl), by repeat (first | (with_reducible first | exact HB.out | apply below_alloc | apply pw_below_drewN | apply below_drew1 | refine below_set ?_ GEz0.out) | exact HB.out)⟩


def impl_copyImage.f (a0_0 : Int) (a0_1 : Int) (a0_2 : Int) (l0_3 : List Int) : Option (Int × Int × Int × List Int) := (some (([] : List Int) : List Int)).bind fun yz0 => (if yz0.length + l0_3.length < 17592186044416 then (some (a0_0, a0_1, a0_2, (yz0 ++ l0_3))) else none)
theorem impl_copyImage.calls (a0_0 : Int) (a0_1 : Int) (a0_2 : Int) (A0_3 : Option Addr) (c0_3 : Nat) (l0_3 : List Int) (r1 : Int) (r2 : Int) (r3 : Int) (r4 : List Int) (w : World) (hr0_3 : Kd.C (Kd.int .i64) w A0_3 l0_3.length l0_3) (hc0_3 : l0_3.length ≤ c0_3) (h : impl_copyImage.f a0_0 a0_1 a0_2 l0_3 = some (r1, r2, r3, r4)) :
  Calls Try.prog 44 #[.agg #[.int .i64 a0_0, .int .i64 a0_1, .int .i64 a0_2, .slice A0_3 l0_3.length c0_3]] w fun e w' => ∃ v3_ : Value, e = .returned (.agg #[.int .i64 r1, .int .i64 r2, .int .i64 r3, v3_]) ∧ Kd.R (Kd.int .i64) 3 w' w.heap.size (fun _ => True) v3_ r4 ∧ Below w.heap.size w w' := by
 have hu28 := Try.underlying28
 have HR0_3 := mk hr0_3
 have HC0_3 := mk hc0_3
 clear hr0_3 hc0_3
 have HB := mk (Below.refl w.heap.size w)
 have H : ((some (([] : List Int) : List Int)).bind fun yz0 => (if yz0.length + l0_3.length < 17592186044416 then (some (a0_0, a0_1, a0_2, (yz0 ++ l0_3))) else none)) = some (r1, r2, r3, r4) := h
 clear h
 obtain ⟨yz0, hyz0⟩ : ∃ y_ : List Int, y_ = ([] : List Int) := ⟨_, rfl⟩
 replace H : (if yz0.length + l0_3.length < 17592186044416 then (some (a0_0, a0_1, a0_2, (yz0 ++ l0_3))) else none) = some (r1, r2, r3, r4) := by (have H2_ := (Option.bind_some _ _).symm.trans H; rw [hyz0]; with_reducible exact H2_)
 have Nyz0 := mk hyz0
 clear hyz0
 by_cases c2 : yz0.length + l0_3.length < 17592186044416
 ·rw [if_pos c2] at H
  have LMc2 := mk c2
  clear c2
  obtain ⟨yz1, hyz1⟩ : ∃ y_ : List Int, y_ = (yz0 ++ l0_3) := ⟨_, rfl⟩
  replace H : (some (a0_0, a0_1, a0_2, yz1)) = some (r1, r2, r3, r4) := by (rw [hyz1]; with_reducible exact H)
  have Nyz1 := mk hyz1
  clear hyz1
  simp only [Option.some.injEq, Prod.mk.injEq] at H
  obtain ⟨rfl, rfl, rfl, rfl⟩ := H
  go_enter Try.func44, Try.ntmps44
  go_wp2_with (first | ((with_reducible refine gate_dst (N := 1) rfl ?_); refine box_event (by rfl) (N := 1) (by rfl) (cs := #[.int .i64 a0_0, .int .i64 a0_1, .int .i64 a0_2, .slice A0_3 l0_3.length c0_3]) (t := 28) (by go_simp; done) ?_; intro gbz1 hg w3 hbox hb; have BKz0 := mk (hbox); have GEz0 := mk ((by rw [hg]; exact (below_size HB.out) : w.heap.size ≤ gbz1)); replace HB := mk (below_step HB.out hb); clear hb hbox hg) | ((with_reducible refine gate_dst (N := 2) rfl ?_); refine box_event (by rfl) (N := 2) (by rfl) (cs := #[.int .i64 0, .int .i64 0, .int .i64 0, .slice none 0 0]) (t := 28) (by go_simp; done) ?_; intro gbz0 hg w4 hbox hb; have BKz1 := mk (hbox); have GEz1 := mk ((by rw [hg]; exact (below_size HB.out) : w.heap.size ≤ gbz0)); replace HB := mk (below_step HB.out hb); have NBz0 := mk ((by rw [hg]; exact Nat.ne_of_gt (blk_lt BKz0.out) : gbz0 ≠ gbz1)); replace BKz0 := mk (blk_below BKz0.out hb); clear hb hbox hg) | ((with_reducible refine gate_dst (N := 3) rfl ?_); refine Kd.R_lit (Kd.int .i64) _ 3 ?hg (N := 3) ?hd (xs := ([] : List Int)) (inner := []) (ok := fun _ => True) (okp := fun _ => True) ?hr ?hp (fun _ hk => hk) trivial (Below.refl _ _) (Nat.le_refl _) (by simp) ?_; (case hd => rfl); (case hg => rfl); (case hr => (go_simp; done)); (case hp => exact (Reps.none _ _)); intro vz0 w5 ho6 hb hg_ hnew_; clear hg_ hnew_; (rw [← Nyz0.out] at ho6); have HOz0 := mk (Kd.R_lower ho6 (below_size HB.out)); replace BKz0 := mk (blk_below BKz0.out hb); replace BKz1 := mk (blk_below BKz1.out hb); replace HB := mk (below_step HB.out hb); clear hb ho6; have hnc7 := NBz0.out; have hcz8_3 : w5.cell? ⟨gbz1, 3, none⟩ = some (.slice A0_3 l0_3.length c0_3) := (blk_cell BKz0.out 3).trans rfl) | ((with_reducible refine gate_builtin (b := .append) (xs := #[.tmp 3, .tmp 5]) rfl ?_); at_builtin; refine Kd.R_append_rows (Kd.int .i64) (w0 := w) w.heap.size rfl (.tmp 3) (.tmp 5) 22 3 (.int .i64 0) 8 rfl Try.underlying22 info3 rfl (by decide) (by omega) vz0 yz0 l0_3 _ _ _ (fun _ => True) (fun _ => False) rfl rfl ?aO ?aR (fun _ _ h => h) (fun _ h => h.elim) ?aF ?aB ?aS ?aL ?_; (case aR => repeat (exact (Kd.C_below HR0_3.out HB.out))); (case aB => exact HB.out); (case aF => exact (fun _ _ => trivial)); (case aO => exact HOz0.out); (case aS => exact (below_size HB.out)); (case aL => have := LMc2.out; omega); intro vz1 w9 ho hb hg hat; rw [← Nyz1.out] at ho; have n0_ := mk (blk_grown (g := gbz1) (o := .cells #[.int .i64 a0_0, .int .i64 a0_1, .int .i64 a0_2, .slice A0_3 l0_3.length c0_3] 28 (0, 0)) BKz0.out hg (Kd.R_ne HOz0.out BKz0.out (by decide))); have n1_ := mk (blk_grown (g := gbz0) (o := .cells #[.int .i64 0, .int .i64 0, .int .i64 0, .slice none 0 0] 28 (0, 0)) BKz1.out hg (Kd.R_ne HOz0.out BKz1.out (by decide))); have n2_ := mk (hb); have n3_ := mk (ho); clear BKz0; clear BKz1; clear HB; clear HOz0; have BKz0 := n0_; have BKz1 := n1_; have HB := n2_; have HOz1 := n3_; clear ho hb hg hat; obtain ⟨Ao10, co10, eo10⟩ := Kd.R_slice HOz1.out; subst eo10; obtain ⟨hcz11_0, hcz11_1, hcz11_2, hcz11_3, -, -, -, hfz11_3⟩ := c4 BKz0.out; obtain ⟨hcz12_0, hcz12_1, hcz12_2, hcz12_3, hfz12_0, hfz12_1, hfz12_2, hfz12_3⟩ := c4 BKz1.out))
  refine bodyPost_ret (results_cell_row rfl _ _ gbz0 28 #[.int .i64 a0_0, .int .i64 a0_1, .int .i64 a0_2, .slice Ao10 yz1.length co10] (0, 0) _ rfl (by refine blk_put (cs := #[.int .i64 a0_0, .int .i64 a0_1, .int .i64 a0_2, .slice none 0 0]) ?_ 3 _ rfl; refine blk_put (cs := #[.int .i64 a0_0, .int .i64 a0_1, .int .i64 0, .slice none 0 0]) ?_ 2 _ rfl; refine blk_put (cs := #[.int .i64 a0_0, .int .i64 0, .int .i64 0, .slice none 0 0]) ?_ 1 _ rfl; refine blk_put (cs := #[.int .i64 0, .int .i64 0, .int .i64 0, .slice none 0 0]) ?_ 0 _ rfl; refine blk_far ?_ NBz0.out _; exact BKz1.out) Try.underlying28 rfl (by kernel_rfl)) rfl ?_
  exact ⟨_, by rfl, by exact Kd.R_mono (Kd.R_far (p := ⟨gbz0, 3, none⟩) (Kd.R_far (p := ⟨gbz0, 2, none⟩) (Kd.R_far (p := ⟨gbz0, 1, none⟩) (Kd.R_far (p := ⟨gbz0, 0, none⟩) (Kd.R_far (p := ⟨gbz1, 3, none⟩) (Kd.R_types (Kd.R_types HOz1.out BKz0.out (by decide)) BKz1.out (by decide)) (fun _ hk => hk.1.2) (.slice Ao10 yz1.length co10)) (fun _ hk => hk.2) (.int .i64 a0_0)) (fun _ hk => hk.2) (.int .i64 a0_1)) (fun _ hk => hk.2) (.int .i64 a0_2)) (fun _ hk => hk.2) (.slice Ao10 yz1.length co10)) (fun _ hk => trivial), by repeat (with_reducible first | exact HB.out | refine below_set ?_ GEz0.out | refine below_set ?_ GEz1.out)⟩
 rw [if_neg c2] at H
 exact absurd H (by simp)


/- A part of a row of one's own is overwritten by a copy; loads of images and numbers in a region that draws its order. -/

theorem fn_runs {P : Program} {oi : Oper} {a : Act} {w : World} {x : Operand} {ws : Array Operand} {ts : Array TypeId} (q : Nat) (lb : Array Value) (eg : ∀ args W, (callFunc q args).run P W = .ok (.enter q args) W)
    (hop : oi.op = .call { callee := .value x, args := ws, argTypes := ts }) (hx : a.eval x = .func (.func q) #[] lb) (args : Array Value) (hargs : ws.map a.eval ++ lb = args) : (execOp a.eval oi).run P w = .ok (.enter q args) w := by
  unfold execOp
  simp [hop, resolve, hx, Deferred.ofValue, invoke, hargs, eg]
/-- a row of numbers, a part of it overwritten -/
def laidOver (d : List Int) (j : Nat) (ys : List Int) : List Int := d.take j ++ (ys ++ d.drop (j + ys.length))
theorem laidOver_length (d : List Int) (j : Nat) (ys : List Int) (h : j + ys.length ≤ d.length) : (laidOver d j ys).length = d.length := by
  unfold laidOver
  rw [List.length_append, List.length_append, List.length_take, List.length_drop]
  omega
def rowD (px : Nat → Nat → List Int) (a y : Nat) : List Int := (List.range a).flatMap (fun x => px x y)
def imgD (px : Nat → Nat → List Int) (a b : Nat) : List Int := (List.range b).flatMap (fun y => rowD px a y)
theorem rowD_succ (px : Nat → Nat → List Int) (a y : Nat) : rowD px (a + 1) y = rowD px a y ++ px a y := by unfold rowD; rw [List.range_succ, List.flatMap_append]; simp
theorem imgD_succ (px : Nat → Nat → List Int) (a b : Nat) : imgD px a (b + 1) = imgD px a b ++ rowD px a b := by unfold imgD; rw [List.range_succ, List.flatMap_append]; simp

def impl_InvertImage_1.f (a0 : Int) : Option (Int) := some (wrap64 (255 - a0))
theorem impl_InvertImage_1.calls (a0 : Int) (r : Int) (w : World) (h : impl_InvertImage_1.f a0 = some r) :
  Calls Try.prog 58 #[.int .i64 a0] w fun e w' => e = .returned (.int .i64 r) ∧ Drawn0 w w' := by
 have H : (some (wrap64 (255 - a0))) = some r := h
 clear h
 obtain rfl := Option.some.inj H
 go_enter Try.func58, Try.ntmps58
 go_wp2
 go_ret
 exact ⟨by first | rfl | (simp; done) | (simp [*]; done), by repeat (first | exact Drawn0.refl _ | apply Drawn0.step)⟩


def impl_isBoxOn.f (a0_0 : Int) (a0_1 : Int) (a0_2 : Int) (l0_3 : List Int) (a1_0 : Int) (a1_1 : Int) (a1_2 : Int) (a1_3 : Int) : Option Bool := if a1_0 ≥ 0 then (if a1_0 < a0_0 then (if a1_1 ≥ 0 then (if a1_1 < a0_1 then (if a1_2 ≥ 1 then (if a1_2 ≤ (wrap64 (a0_0 - a1_0)) then (if a1_3 ≥ 1 then (some (decide (a1_3 ≤ (wrap64 (a0_1 - a1_1))))) else (some false)) else (some false)) else (some false)) else (some false)) else (some false)) else (some false)) else (some false)
theorem impl_isBoxOn.calls (a0_0 : Int) (a0_1 : Int) (a0_2 : Int) (A0_3 : Option Addr) (c0_3 : Nat) (l0_3 : List Int) (a1_0 : Int) (a1_1 : Int) (a1_2 : Int) (a1_3 : Int) (r : Bool) (w : World) (hr0_3 : Kd.C (Kd.int .i64) w A0_3 l0_3.length l0_3) (hc0_3 : l0_3.length ≤ c0_3) (h : impl_isBoxOn.f a0_0 a0_1 a0_2 l0_3 a1_0 a1_1 a1_2 a1_3 = some r) :
  Calls Try.prog 59 #[.agg #[.int .i64 a0_0, .int .i64 a0_1, .int .i64 a0_2, .slice A0_3 l0_3.length c0_3], .agg #[.int .i64 a1_0, .int .i64 a1_1, .int .i64 a1_2, .int .i64 a1_3]] w fun e w' => e = .returned (.bool r) ∧ Below w.heap.size w w' := by
 have hu28 := Try.underlying28
 have hu41 := Try.underlying41
 have HR0_3 := mk hr0_3
 have HC0_3 := mk hc0_3
 clear hr0_3 hc0_3
 have HB := mk (Below.refl w.heap.size w)
 have H : (if a1_0 ≥ 0 then (if a1_0 < a0_0 then (if a1_1 ≥ 0 then (if a1_1 < a0_1 then (if a1_2 ≥ 1 then (if a1_2 ≤ (wrap64 (a0_0 - a1_0)) then (if a1_3 ≥ 1 then (some (decide (a1_3 ≤ (wrap64 (a0_1 - a1_1))))) else (some false)) else (some false)) else (some false)) else (some false)) else (some false)) else (some false)) else (some false)) = some r := h
 clear h
 by_cases c3 : a1_0 ≥ 0
 ·rw [if_pos c3] at H
  have c3b0 : decide (0 ≤ a1_0) = true := decide_eq_true c3
  clear c3
  by_cases c4 : a1_0 < a0_0
  ·rw [if_pos c4] at H
   have c4b0 : decide (a1_0 < a0_0) = true := decide_eq_true c4
   clear c4
   by_cases c5 : a1_1 ≥ 0
   ·rw [if_pos c5] at H
    have c5b0 : decide (0 ≤ a1_1) = true := decide_eq_true c5
    clear c5
    by_cases c6 : a1_1 < a0_1
    ·rw [if_pos c6] at H
     have c6b0 : decide (a1_1 < a0_1) = true := decide_eq_true c6
     clear c6
     by_cases c7 : a1_2 ≥ 1
     ·rw [if_pos c7] at H
      have c7b0 : decide (1 ≤ a1_2) = true := decide_eq_true c7
      clear c7
      by_cases c8 : a1_2 ≤ (wrap64 (a0_0 - a1_0))
      ·rw [if_pos c8] at H
       have c8b0 : decide (a1_2 ≤ (wrap64 (a0_0 - a1_0))) = true := decide_eq_true c8
       clear c8
       by_cases c9 : a1_3 ≥ 1
       ·rw [if_pos c9] at H
        have c9b0 : decide (1 ≤ a1_3) = true := decide_eq_true c9
        clear c9
        obtain rfl := Option.some.inj H
        go_enter Try.func59, Try.ntmps59
        go_wp2_with (first | ((with_reducible refine gate_dst (N := 2) rfl ?_); refine box_event (by rfl) (N := 2) (by rfl) (cs := #[.int .i64 a0_0, .int .i64 a0_1, .int .i64 a0_2, .slice A0_3 l0_3.length c0_3]) (t := 28) (by go_simp; done) ?_; intro gbz1 hg w10 hbox hb; replace HB := mk (below_step HB.out hb); have BKz0 := mk (hbox); clear hb hbox hg) | ((with_reducible refine gate_dst (N := 3) rfl ?_); refine box_event (by rfl) (N := 3) (by rfl) (cs := #[.int .i64 a1_0, .int .i64 a1_1, .int .i64 a1_2, .int .i64 a1_3]) (t := 41) (by go_simp; done) ?_; intro gbz0 hg w11 hbox hb; replace BKz0 := mk (blk_below BKz0.out hb); replace HB := mk (below_step HB.out hb); have BKz1 := mk (hbox); clear hb hbox hg; obtain ⟨hcz13_0, hcz13_1, hcz13_2, hcz13_3, -⟩ := c4 BKz1.out; obtain ⟨hcz14_0, hcz14_1, -⟩ := c4 BKz0.out))
        go_ret
        exact ⟨by rfl, by exact HB.out⟩
       rw [if_neg c9] at H
       have c9b0 : decide (1 ≤ a1_3) = false := decide_eq_false c9
       clear c9
       obtain rfl := Option.some.inj H
       go_enter Try.func59, Try.ntmps59
       go_wp2_with (first | ((with_reducible refine gate_dst (N := 2) rfl ?_); refine box_event (by rfl) (N := 2) (by rfl) (cs := #[.int .i64 a0_0, .int .i64 a0_1, .int .i64 a0_2, .slice A0_3 l0_3.length c0_3]) (t := 28) (by go_simp; done) ?_; intro gbz1 hg w15 hbox hb; replace HB := mk (below_step HB.out hb); have BKz0 := mk (hbox); clear hb hbox hg) | ((with_reducible refine gate_dst (N := 3) rfl ?_); refine box_event (by rfl) (N := 3) (by rfl) (cs := #[.int .i64 a1_0, .int .i64 a1_1, .int .i64 a1_2, .int .i64 a1_3]) (t := 41) (by go_simp; done) ?_; intro gbz0 hg w16 hbox hb; replace BKz0 := mk (blk_below BKz0.out hb); replace HB := mk (below_step HB.out hb); have BKz1 := mk (hbox); clear hb hbox hg; obtain ⟨hcz18_0, hcz18_1, hcz18_2, hcz18_3, -⟩ := c4 BKz1.out; obtain ⟨hcz19_0, hcz19_1, -⟩ := c4 BKz0.out))
       go_ret
       exact ⟨by rfl, by exact HB.out⟩
      rw [if_neg c8] at H
      have c8b0 : decide (a1_2 ≤ (wrap64 (a0_0 - a1_0))) = false := decide_eq_false c8
      clear c8
      obtain rfl := Option.some.inj H
      go_enter Try.func59, Try.ntmps59
      go_wp2_with (first | ((with_reducible refine gate_dst (N := 2) rfl ?_); refine box_event (by rfl) (N := 2) (by rfl) (cs := #[.int .i64 a0_0, .int .i64 a0_1, .int .i64 a0_2, .slice A0_3 l0_3.length c0_3]) (t := 28) (by go_simp; done) ?_; intro gbz1 hg w20 hbox hb; replace HB := mk (below_step HB.out hb); have BKz0 := mk (hbox); clear hb hbox hg) | ((with_reducible refine gate_dst (N := 3) rfl ?_); refine box_event (by rfl) (N := 3) (by rfl) (cs := #[.int .i64 a1_0, .int .i64 a1_1, .int .i64 a1_2, .int .i64 a1_3]) (t := 41) (by go_simp; done) ?_; intro gbz0 hg w21 hbox hb; replace BKz0 := mk (blk_below BKz0.out hb); replace HB := mk (below_step HB.out hb); have BKz1 := mk (hbox); clear hb hbox hg; obtain ⟨hcz23_0, hcz23_1, hcz23_2, -⟩ := c4 BKz1.out; obtain ⟨hcz24_0, hcz24_1, -⟩ := c4 BKz0.out))
      go_ret
      exact ⟨by rfl, by exact HB.out⟩
     rw [if_neg c7] at H
     have c7b0 : decide (1 ≤ a1_2) = false := decide_eq_false c7
     clear c7
     obtain rfl := Option.some.inj H
     go_enter Try.func59, Try.ntmps59
     go_wp2_with (first | ((with_reducible refine gate_dst (N := 2) rfl ?_); refine box_event (by rfl) (N := 2) (by rfl) (cs := #[.int .i64 a0_0, .int .i64 a0_1, .int .i64 a0_2, .slice A0_3 l0_3.length c0_3]) (t := 28) (by go_simp; done) ?_; intro gbz1 hg w25 hbox hb; replace HB := mk (below_step HB.out hb); have BKz0 := mk (hbox); clear hb hbox hg) | ((with_reducible refine gate_dst (N := 3) rfl ?_); refine box_event (by rfl) (N := 3) (by rfl) (cs := #[.int .i64 a1_0, .int .i64 a1_1, .int .i64 a1_2, .int .i64 a1_3]) (t := 41) (by go_simp; done) ?_; intro gbz0 hg w26 hbox hb; replace BKz0 := mk (blk_below BKz0.out hb); replace HB := mk (below_step HB.out hb); have BKz1 := mk (hbox); clear hb hbox hg; obtain ⟨hcz28_0, hcz28_1, hcz28_2, -⟩ := c4 BKz1.out; obtain ⟨hcz29_0, hcz29_1, -⟩ := c4 BKz0.out))
     go_ret
     exact ⟨by rfl, by exact HB.out⟩
    rw [if_neg c6] at H
    have c6b0 : decide (a1_1 < a0_1) = false := decide_eq_false c6
    clear c6
    obtain rfl := Option.some.inj H
    go_enter Try.func59, Try.ntmps59
    go_wp2_with (first | ((with_reducible refine gate_dst (N := 2) rfl ?_); refine box_event (by rfl) (N := 2) (by rfl) (cs := #[.int .i64 a0_0, .int .i64 a0_1, .int .i64 a0_2, .slice A0_3 l0_3.length c0_3]) (t := 28) (by go_simp; done) ?_; intro gbz1 hg w30 hbox hb; replace HB := mk (below_step HB.out hb); have BKz0 := mk (hbox); clear hb hbox hg) | ((with_reducible refine gate_dst (N := 3) rfl ?_); refine box_event (by rfl) (N := 3) (by rfl) (cs := #[.int .i64 a1_0, .int .i64 a1_1, .int .i64 a1_2, .int .i64 a1_3]) (t := 41) (by go_simp; done) ?_; intro gbz0 hg w31 hbox hb; replace BKz0 := mk (blk_below BKz0.out hb); replace HB := mk (below_step HB.out hb); have BKz1 := mk (hbox); clear hb hbox hg; obtain ⟨hcz33_0, hcz33_1, -⟩ := c4 BKz1.out; obtain ⟨hcz34_0, hcz34_1, -⟩ := c4 BKz0.out))
    go_ret
    exact ⟨by rfl, by exact HB.out⟩
   rw [if_neg c5] at H
   have c5b0 : decide (0 ≤ a1_1) = false := decide_eq_false c5
   clear c5
   obtain rfl := Option.some.inj H
   go_enter Try.func59, Try.ntmps59
   go_wp2_with (first | ((with_reducible refine gate_dst (N := 2) rfl ?_); refine box_event (by rfl) (N := 2) (by rfl) (cs := #[.int .i64 a0_0, .int .i64 a0_1, .int .i64 a0_2, .slice A0_3 l0_3.length c0_3]) (t := 28) (by go_simp; done) ?_; intro gbz1 hg w35 hbox hb; replace HB := mk (below_step HB.out hb); have BKz0 := mk (hbox); clear hb hbox hg) | ((with_reducible refine gate_dst (N := 3) rfl ?_); refine box_event (by rfl) (N := 3) (by rfl) (cs := #[.int .i64 a1_0, .int .i64 a1_1, .int .i64 a1_2, .int .i64 a1_3]) (t := 41) (by go_simp; done) ?_; intro gbz0 hg w36 hbox hb; replace BKz0 := mk (blk_below BKz0.out hb); replace HB := mk (below_step HB.out hb); have BKz1 := mk (hbox); clear hb hbox hg; obtain ⟨hcz38_0, hcz38_1, -⟩ := c4 BKz1.out; have hcz39_0 : w36.cell? ⟨gbz1, 0, none⟩ = some (.int .i64 a0_0) := (blk_cell BKz0.out 0).trans rfl))
   go_ret
   exact ⟨by rfl, by exact HB.out⟩
  rw [if_neg c4] at H
  have c4b0 : decide (a1_0 < a0_0) = false := decide_eq_false c4
  clear c4
  obtain rfl := Option.some.inj H
  go_enter Try.func59, Try.ntmps59
  go_wp2_with (first | ((with_reducible refine gate_dst (N := 2) rfl ?_); refine box_event (by rfl) (N := 2) (by rfl) (cs := #[.int .i64 a0_0, .int .i64 a0_1, .int .i64 a0_2, .slice A0_3 l0_3.length c0_3]) (t := 28) (by go_simp; done) ?_; intro gbz1 hg w40 hbox hb; replace HB := mk (below_step HB.out hb); have BKz0 := mk (hbox); clear hb hbox hg) | ((with_reducible refine gate_dst (N := 3) rfl ?_); refine box_event (by rfl) (N := 3) (by rfl) (cs := #[.int .i64 a1_0, .int .i64 a1_1, .int .i64 a1_2, .int .i64 a1_3]) (t := 41) (by go_simp; done) ?_; intro gbz0 hg w41 hbox hb; replace BKz0 := mk (blk_below BKz0.out hb); replace HB := mk (below_step HB.out hb); have BKz1 := mk (hbox); clear hb hbox hg; have hcz43_0 : w41.cell? ⟨gbz0, 0, none⟩ = some (.int .i64 a1_0) := (blk_cell BKz1.out 0).trans rfl; have hcz44_0 : w41.cell? ⟨gbz1, 0, none⟩ = some (.int .i64 a0_0) := (blk_cell BKz0.out 0).trans rfl))
  go_ret
  exact ⟨by rfl, by exact HB.out⟩
 rw [if_neg c3] at H
 have c3b0 : decide (0 ≤ a1_0) = false := decide_eq_false c3
 clear c3
 obtain rfl := Option.some.inj H
 go_enter Try.func59, Try.ntmps59
 go_wp2_with (first | ((with_reducible refine gate_dst (N := 2) rfl ?_); refine box_event (by rfl) (N := 2) (by rfl) (cs := #[.int .i64 a0_0, .int .i64 a0_1, .int .i64 a0_2, .slice A0_3 l0_3.length c0_3]) (t := 28) (by go_simp; done) ?_; intro gbz1 hg w45 hbox hb; replace HB := mk (below_step HB.out hb); have BKz0 := mk (hbox); clear hb hbox hg) | ((with_reducible refine gate_dst (N := 3) rfl ?_); refine box_event (by rfl) (N := 3) (by rfl) (cs := #[.int .i64 a1_0, .int .i64 a1_1, .int .i64 a1_2, .int .i64 a1_3]) (t := 41) (by go_simp; done) ?_; intro gbz0 hg w46 hbox hb; have n1_ := mk (below_step HB.out hb); have n2_ := mk (hbox); clear BKz0; clear HB; have HB := n1_; have BKz1 := n2_; clear hb hbox hg; have hcz48_0 : w46.cell? ⟨gbz0, 0, none⟩ = some (.int .i64 a1_0) := (blk_cell BKz1.out 0).trans rfl))
 go_ret
 exact ⟨by rfl, by exact HB.out⟩


def impl_Box_has.f (a0_0 : Int) (a0_1 : Int) (a0_2 : Int) (a0_3 : Int) (a1 : Int) (a2 : Int) : Option (Bool) := if a1 ≥ a0_0 then (if a1 < (wrap64 (a0_0 + a0_2)) then (if a2 ≥ a0_1 then (some (decide (a2 < (wrap64 (a0_1 + a0_3))))) else (some false)) else (some false)) else (some false)
theorem impl_Box_has.calls (a0_0 : Int) (a0_1 : Int) (a0_2 : Int) (a0_3 : Int) (a1 : Int) (a2 : Int) (r : Bool) (w : World) (h : impl_Box_has.f a0_0 a0_1 a0_2 a0_3 a1 a2 = some r) :
  Calls Try.prog 81 #[.agg #[.int .i64 a0_0, .int .i64 a0_1, .int .i64 a0_2, .int .i64 a0_3], .int .i64 a1, .int .i64 a2] w fun e w' => e = .returned (.bool r) ∧ Below w.heap.size w w' := by
 have hu41 := Try.underlying41
 have HB := Aside0.mk (Below.refl w.heap.size w)
 have H : (if a1 ≥ a0_0 then (if a1 < (wrap64 (a0_0 + a0_2)) then (if a2 ≥ a0_1 then (some (decide (a2 < (wrap64 (a0_1 + a0_3))))) else (some false)) else (some false)) else (some false)) = some r := h
 clear h
 by_cases c4 : a1 ≥ a0_0
 ·rw [if_pos c4] at H
  have c4b0 : decide (a0_0 ≤ a1) = true := decide_eq_true c4
  clear c4
  by_cases c5 : a1 < (wrap64 (a0_0 + a0_2))
  ·rw [if_pos c5] at H
   have c5b0 : decide (a1 < (wrap64 (a0_0 + a0_2))) = true := decide_eq_true c5
   clear c5
   by_cases c6 : a2 ≥ a0_1
   ·rw [if_pos c6] at H
    have c6b0 : decide (a0_1 ≤ a2) = true := decide_eq_true c6
    clear c6
    obtain rfl := Option.some.inj H
    go_enter Try.func81, Try.ntmps81
    go_wp2_with (first | ((with_reducible refine gate_dst (N := 3) rfl ?_); refine box_event ?hg (N := 3) ?hd (cs := #[.int .i64 a0_0, .int .i64 a0_1, .int .i64 a0_2, .int .i64 a0_3]) (t := 41) ?hr ?_; (case hd => rfl); (case hg => rfl); (case hr => first | (go_simp; done) | (go_simp; rfl)); intro gbz0 hg w7 hbox hb; replace HB := Aside0.mk (below_step (by repeat (first | (with_reducible first | exact HB.out | apply below_alloc | apply pw_below_drewN | apply below_drew1) | exact HB.out)) hb); have BKz0 := Aside0.mk (hbox); clear hb hbox hg; obtain ⟨hcz8_0, hcz8_1, hcz8_2, hcz8_3, -⟩ := c4 BKz0.out))
    go_ret
    exact ⟨by first | rfl | (simp [errW_none, errW_some] <;> rfl) | (simp [*, errW_none, errW_some] <;> rfl), by repeat (first | (with_reducible first | exact HB.out | apply below_alloc | apply pw_below_drewN | apply below_drew1 | refine below_set ?_ GEz0.out) | exact HB.out)⟩
   rw [if_neg c6] at H
   have c6b0 : decide (a0_1 ≤ a2) = false := decide_eq_false c6
   clear c6
   obtain rfl := Option.some.inj H
   go_enter Try.func81, Try.ntmps81
   go_wp2_with (first | ((with_reducible refine gate_dst (N := 3) rfl ?_); refine box_event ?hg (N := 3) ?hd (cs := #[.int .i64 a0_0, .int .i64 a0_1, .int .i64 a0_2, .int .i64 a0_3]) (t := 41) ?hr ?_; (case hd => rfl); (case hg => rfl); (case hr => first | (go_simp; done) | (go_simp; rfl)); intro gbz0 hg w9 hbox hb; replace HB := Aside0.mk (below_step (by repeat (first | (with_reducible first | exact HB.out | apply below_alloc | apply pw_below_drewN | apply below_drew1) | exact HB.out)) hb); have BKz0 := Aside0.mk (hbox); clear hb hbox hg; obtain ⟨hcz10_0, hcz10_1, hcz10_2, -⟩ := c4 BKz0.out))
   go_ret
   exact ⟨by first | rfl | (simp [errW_none, errW_some] <;> rfl) | (simp [*, errW_none, errW_some] <;> rfl), by repeat (first | (with_reducible first | exact HB.out | apply below_alloc | apply pw_below_drewN | apply below_drew1 | refine below_set ?_ GEz0.out) | exact HB.out)⟩
  rw [if_neg c5] at H
  have c5b0 : decide (a1 < (wrap64 (a0_0 + a0_2))) = false := decide_eq_false c5
  clear c5
  obtain rfl := Option.some.inj H
  go_enter Try.func81, Try.ntmps81
  go_wp2_with (first | ((with_reducible refine gate_dst (N := 3) rfl ?_); refine box_event ?hg (N := 3) ?hd (cs := #[.int .i64 a0_0, .int .i64 a0_1, .int .i64 a0_2, .int .i64 a0_3]) (t := 41) ?hr ?_; (case hd => rfl); (case hg => rfl); (case hr => first | (go_simp; done) | (go_simp; rfl)); intro gbz0 hg w11 hbox hb; replace HB := Aside0.mk (below_step (by repeat (first | (with_reducible first | exact HB.out | apply below_alloc | apply pw_below_drewN | apply below_drew1) | exact HB.out)) hb); have BKz0 := Aside0.mk (hbox); clear hb hbox hg; obtain ⟨hcz12_0, -, hcz12_2, -⟩ := c4 BKz0.out))
  go_ret
  exact ⟨by first | rfl | (simp [errW_none, errW_some] <;> rfl) | (simp [*, errW_none, errW_some] <;> rfl), by repeat (first | (with_reducible first | exact HB.out | apply below_alloc | apply pw_below_drewN | apply below_drew1 | refine below_set ?_ GEz0.out) | exact HB.out)⟩
 rw [if_neg c4] at H
 have c4b0 : decide (a0_0 ≤ a1) = false := decide_eq_false c4
 clear c4
 obtain rfl := Option.some.inj H
 go_enter Try.func81, Try.ntmps81
 go_wp2_with (first | ((with_reducible refine gate_dst (N := 3) rfl ?_); refine box_event ?hg (N := 3) ?hd (cs := #[.int .i64 a0_0, .int .i64 a0_1, .int .i64 a0_2, .int .i64 a0_3]) (t := 41) ?hr ?_; (case hd => rfl); (case hg => rfl); (case hr => first | (go_simp; done) | (go_simp; rfl)); intro gbz0 hg w13 hbox hb; replace HB := Aside0.mk (below_step (by repeat (first | (with_reducible first | exact HB.out | apply below_alloc | apply pw_below_drewN | apply below_drew1) | exact HB.out)) hb); have BKz0 := Aside0.mk (hbox); clear hb hbox hg; have hcz14_0 : w13.cell? ⟨gbz0, 0, none⟩ = some (.int .i64 a0_0) := (blk_cell BKz0.out 0).trans rfl))
 go_ret
 exact ⟨by first | rfl | (simp [errW_none, errW_some] <;> rfl) | (simp [*, errW_none, errW_some] <;> rfl), by repeat (first | (with_reducible first | exact HB.out | apply below_alloc | apply pw_below_drewN | apply below_drew1 | refine below_set ?_ GEz0.out) | exact HB.out)⟩


def laws_equalInts.l0 : Nat → List Int → List Int → Int → Option (Bool)
 | 0, _, _, _ => none
 | k + 1, x0, x1, x5 => if x5 < (x0.length : Int) then (if 0 ≤ x5 then (if x5 < (x1.length : Int) then (if (rd x0 x5) = (rd x1 x5) then (laws_equalInts.l0 k x0 x1 (wrap64 (x5 + 1))) else (some false)) else (none)) else (none)) else (some true)
def laws_equalInts.f (k : Nat) (l0 : List Int) (l1 : List Int) : Option (Bool) := if (l0.length : Int) = (l1.length : Int) then (laws_equalInts.l0 k l0 l1 0) else (some false)
theorem laws_equalInts.calls (k : Nat) (A0 : Option Addr) (c0 : Nat) (l0 : List Int) (A1 : Option Addr) (c1 : Nat) (l1 : List Int) (r : Bool) (w : World) (hr0 : Kd.C (Kd.int .i64) w A0 l0.length l0) (hc0 : l0.length ≤ c0) (hr1 : Kd.C (Kd.int .i64) w A1 l1.length l1) (hc1 : l1.length ≤ c1) (h : laws_equalInts.f k l0 l1 = some r) :
  Calls Try.prog 52 #[.slice A0 l0.length c0, .slice A1 l1.length c1] w fun e w' => e = .returned (.bool r) ∧ Drawn0 w w' := by
 have HR0 := Aside0.mk hr0
 have HC0 := Aside0.mk hc0
 clear hr0 hc0
 have HR1 := Aside0.mk hr1
 have HC1 := Aside0.mk hc1
 clear hr1 hc1
 have H : (if (l0.length : Int) = (l1.length : Int) then (laws_equalInts.l0 k l0 l1 0) else (some false)) = some r := h
 clear h
 by_cases c3 : (l0.length : Int) = (l1.length : Int)
 ·rw [if_pos c3] at H
  have c3b0 : ((l0.length : Int) == (l1.length : Int)) = true := beq_iff_eq.mpr c3
  have c3b1 : ((l0.length : Int) != (l1.length : Int)) = false := bne_eq_false_iff_eq.mpr c3
  have c3b2 : (l0.length == l1.length) = true := by first | simpa using c3 | (simp at c3 ⊢; omega)
  clear c3
  have H' := Aside0.mk H
  clear H
  go_enter Try.func52, Try.ntmps52
  go_wp2
  repeat (go_quiet (fail); try go_wp2)
  go_loopg [5] k (fun kq v5 w' => ∃ (x5_1 : Int), v5 = .int .i64 x5_1 ∧ Aside0 (laws_equalInts.l0 kq l0 l1 x5_1 = some r) ∧ Aside0 (kq ≤ k) ∧ Drawn0 w w')
  case atStart => exact ⟨(0), (by first | rfl | (simp; done) | (simp [*]; done)), H', ⟨Nat.le_refl _⟩, by repeat (first | exact Drawn0.refl _ | apply Drawn0.step)⟩
  case round =>
   clear H'
   obtain ⟨x5_1, rfl, HA, HK1, ⟨m1, rfl⟩⟩ := hrel
   cases gk with
   | zero => exact absurd HA.out (by simp [laws_equalInts.l0])
   | succ k1 =>
    have H := HA.out
    clear HA
    simp only [laws_equalInts.l0] at H
    by_cases c4 : x5_1 < (l0.length : Int)
    ·rw [if_pos c4] at H
     have c4b0 : decide (x5_1 < (l0.length : Int)) = true := decide_eq_true c4
     clear c4
     by_cases c5 : 0 ≤ x5_1
     ·rw [if_pos c5] at H
      have c5b0 : decide (0 ≤ x5_1) = true := decide_eq_true c5
      clear c5
      by_cases c6 : x5_1 < (l1.length : Int)
      ·rw [if_pos c6] at H
       have c6b0 : decide (x5_1 < (l1.length : Int)) = true := decide_eq_true c6
       clear c6
       by_cases c7 : (rd l0 x5_1) = (rd l1 x5_1)
       ·rw [if_pos c7] at H
        have c7b0 : ((rd l0 x5_1) == (rd l1 x5_1)) = true := beq_iff_eq.mpr c7
        have c7b1 : ((rd l0 x5_1) != (rd l1 x5_1)) = false := bne_eq_false_iff_eq.mpr c7
        clear c7
        have H' := Aside0.mk H
        clear H
        have p53001 : 0 ≤ (x5_1 : Int) := of_decide_eq_true (by first | (with_reducible assumption) | assumption)
        have q53001 : x5_1 < (l0.length : Int) := of_decide_eq_true (by first | (with_reducible assumption) | assumption)
        obtain ⟨ad53001, e53001, hx53001_0⟩ := Kd.at_int HR0.out x5_1 p53001 q53001
        cases e53001
        replace p53001 := eq_true p53001
        replace q53001 := eq_true q53001
        have p53002 : 0 ≤ (x5_1 : Int) := of_decide_eq_true (by first | (with_reducible assumption) | assumption)
        have q53002 : x5_1 < (l1.length : Int) := of_decide_eq_true (by first | (with_reducible assumption) | assumption)
        obtain ⟨ad53002, e53002, hx53002_0⟩ := Kd.at_int HR1.out x5_1 p53002 q53002
        cases e53002
        replace p53002 := eq_true p53002
        replace q53002 := eq_true q53002
        go_wp2
        repeat (go_quiet (fail); try go_wp2)
        go_roundg k1
        case measure => have := HK1.out; omega
        case rel => exact ⟨(wrap64 (x5_1 + 1)), (by first | rfl | (simp; done) | (simp [*]; done)), H', ⟨by have := HK1.out; omega⟩, by repeat (first | exact Drawn0.refl _ | apply Drawn0.step)⟩
       ·rw [if_neg c7] at H
        have c7b0 : ((rd l0 x5_1) == (rd l1 x5_1)) = false := beq_eq_false_iff_ne.mpr c7
        have c7b1 : ((rd l0 x5_1) != (rd l1 x5_1)) = true := bne_iff_ne.mpr c7
        obtain rfl := Option.some.inj H
        have p53001 : 0 ≤ (x5_1 : Int) := of_decide_eq_true (by first | (with_reducible assumption) | assumption)
        have q53001 : x5_1 < (l0.length : Int) := of_decide_eq_true (by first | (with_reducible assumption) | assumption)
        obtain ⟨ad53001, e53001, hx53001_0⟩ := Kd.at_int HR0.out x5_1 p53001 q53001
        cases e53001
        replace p53001 := eq_true p53001
        replace q53001 := eq_true q53001
        have p53002 : 0 ≤ (x5_1 : Int) := of_decide_eq_true (by first | (with_reducible assumption) | assumption)
        have q53002 : x5_1 < (l1.length : Int) := of_decide_eq_true (by first | (with_reducible assumption) | assumption)
        obtain ⟨ad53002, e53002, hx53002_0⟩ := Kd.at_int HR1.out x5_1 p53002 q53002
        cases e53002
        replace p53002 := eq_true p53002
        replace q53002 := eq_true q53002
        go_wp2
        repeat (go_quiet (fail); try go_wp2)
        go_ret
        exact ⟨by first | rfl | (simp; done) | (simp [*]; done), by repeat (first | exact Drawn0.refl _ | apply Drawn0.step)⟩
      ·rw [if_neg c6] at H
       exact absurd H (by simp)
     ·rw [if_neg c5] at H
      exact absurd H (by simp)
    ·rw [if_neg c4] at H
     have c4b0 : decide (x5_1 < (l0.length : Int)) = false := decide_eq_false c4
     clear c4
     obtain rfl := Option.some.inj H
     go_wp2
     repeat (go_quiet (fail); try go_wp2)
     go_ret
     exact ⟨by first | rfl | (simp; done) | (simp [*]; done), by repeat (first | exact Drawn0.refl _ | apply Drawn0.step)⟩
 ·rw [if_neg c3] at H
  have c3b0 : ((l0.length : Int) == (l1.length : Int)) = false := beq_eq_false_iff_ne.mpr c3
  have c3b1 : ((l0.length : Int) != (l1.length : Int)) = true := bne_iff_ne.mpr c3
  have c3b2 : (l0.length == l1.length) = false := by first | simpa using c3 | (simp at c3 ⊢; omega)
  obtain rfl := Option.some.inj H
  go_enter Try.func52, Try.ntmps52
  go_wp2
  repeat (go_quiet (fail); try go_wp2)
  go_ret
  exact ⟨by first | rfl | (simp; done) | (simp [*]; done), by repeat (first | exact Drawn0.refl _ | apply Drawn0.step)⟩


def laws_equalImage.f (k : Nat) (a0_0 : Int) (a0_1 : Int) (a0_2 : Int) (l0_3 : List Int) (a1_0 : Int) (a1_1 : Int) (a1_2 : Int) (l1_3 : List Int) : Option Bool := if a0_0 = a1_0 then (if a0_1 = a1_1 then (if a0_2 = a1_2 then ((laws_equalInts.f k l0_3 l1_3).bind fun tz0 => (some tz0)) else (some false)) else (some false)) else (some false)
theorem laws_equalImage.calls (k : Nat) (a0_0 : Int) (a0_1 : Int) (a0_2 : Int) (A0_3 : Option Addr) (c0_3 : Nat) (l0_3 : List Int) (a1_0 : Int) (a1_1 : Int) (a1_2 : Int) (A1_3 : Option Addr) (c1_3 : Nat) (l1_3 : List Int) (r : Bool) (w : World) (hr0_3 : Kd.C (Kd.int .i64) w A0_3 l0_3.length l0_3) (hc0_3 : l0_3.length ≤ c0_3) (hr1_3 : Kd.C (Kd.int .i64) w A1_3 l1_3.length l1_3) (hc1_3 : l1_3.length ≤ c1_3) (h : laws_equalImage.f k a0_0 a0_1 a0_2 l0_3 a1_0 a1_1 a1_2 l1_3 = some r) :
  Calls Try.prog 24 #[.agg #[.int .i64 a0_0, .int .i64 a0_1, .int .i64 a0_2, .slice A0_3 l0_3.length c0_3], .agg #[.int .i64 a1_0, .int .i64 a1_1, .int .i64 a1_2, .slice A1_3 l1_3.length c1_3]] w fun e w' => e = .returned (.bool r) ∧ Below w.heap.size w w' := by
 have hu28 := Try.underlying28
 have HR0_3 := mk hr0_3
 have HC0_3 := mk hc0_3
 clear hr0_3 hc0_3
 have HR1_3 := mk hr1_3
 have HC1_3 := mk hc1_3
 clear hr1_3 hc1_3
 have HB := mk (Below.refl w.heap.size w)
 have H : (if a0_0 = a1_0 then (if a0_1 = a1_1 then (if a0_2 = a1_2 then ((laws_equalInts.f k l0_3 l1_3).bind fun tz0 => (some tz0)) else (some false)) else (some false)) else (some false)) = some r := h
 clear h
 by_cases c3 : a0_0 = a1_0
 ·rw [if_pos c3] at H
  have c3b0 : (a0_0 == a1_0) = true := beq_iff_eq.mpr c3
  have c3b1 : (a0_0 != a1_0) = false := bne_eq_false_iff_eq.mpr c3
  clear c3
  by_cases c4 : a0_1 = a1_1
  ·rw [if_pos c4] at H
   have c4b0 : (a0_1 == a1_1) = true := beq_iff_eq.mpr c4
   have c4b1 : (a0_1 != a1_1) = false := bne_eq_false_iff_eq.mpr c4
   clear c4
   by_cases c5 : a0_2 = a1_2
   ·rw [if_pos c5] at H
    have c5b0 : (a0_2 == a1_2) = true := beq_iff_eq.mpr c5
    have c5b1 : (a0_2 != a1_2) = false := bne_eq_false_iff_eq.mpr c5
    clear c5
    replace H := Option.bind_eq_some_iff.mp H
    obtain ⟨tz0, A60, H⟩ := H
    replace H : (some tz0) = some r := H
    have A6 := mk A60
    clear A60
    obtain rfl := Option.some.inj H
    go_enter Try.func24, Try.ntmps24
    go_wp2_with (first | ((with_reducible refine gate_dst (N := 2) rfl ?_); refine box_event (by rfl) (N := 2) (by rfl) (cs := #[.int .i64 a0_0, .int .i64 a0_1, .int .i64 a0_2, .slice A0_3 l0_3.length c0_3]) (t := 28) (by go_simp; done) ?_; intro gbz0 hg w7 hbox hb; replace HB := mk (below_step HB.out hb); have BKz0 := mk (hbox); clear hb hbox hg) | ((with_reducible refine gate_dst (N := 3) rfl ?_); refine box_event (by rfl) (N := 3) (by rfl) (cs := #[.int .i64 a1_0, .int .i64 a1_1, .int .i64 a1_2, .slice A1_3 l1_3.length c1_3]) (t := 28) (by go_simp; done) ?_; intro gbz1 hg w8 hbox hb; replace BKz0 := mk (blk_below BKz0.out hb); replace HB := mk (below_step HB.out hb); have BKz1 := mk (hbox); clear hb hbox hg; have hcz10_0 : w8.cell? ⟨gbz0, 0, none⟩ = some (.int .i64 a0_0) := (blk_cell BKz0.out 0).trans rfl; have hcz10_1 : w8.cell? ⟨gbz0, 1, none⟩ = some (.int .i64 a0_1) := (blk_cell BKz0.out 1).trans rfl; have hcz10_2 : w8.cell? ⟨gbz0, 2, none⟩ = some (.int .i64 a0_2) := (blk_cell BKz0.out 2).trans rfl; have hcz10_3 : w8.cell? ⟨gbz0, 3, none⟩ = some (.slice A0_3 l0_3.length c0_3) := (blk_cell BKz0.out 3).trans rfl; have hcz11_0 : w8.cell? ⟨gbz1, 0, none⟩ = some (.int .i64 a1_0) := (blk_cell BKz1.out 0).trans rfl; have hcz11_1 : w8.cell? ⟨gbz1, 1, none⟩ = some (.int .i64 a1_1) := (blk_cell BKz1.out 1).trans rfl; have hcz11_2 : w8.cell? ⟨gbz1, 2, none⟩ = some (.int .i64 a1_2) := (blk_cell BKz1.out 2).trans rfl; have hcz11_3 : w8.cell? ⟨gbz1, 3, none⟩ = some (.slice A1_3 l1_3.length c1_3) := (blk_cell BKz1.out 3).trans rfl) | (go_at_call 52; (with_reducible refine (laws_equalInts.calls k _ _ l0_3 _ _ l1_3 tz0 _ ?side1 ?side2 ?side3 ?side4 A6.out).mono ?_); (case side1 => repeat (exact (Kd.C_below HR0_3.out HB.out))); (case side2 => exact HC0_3.out); (case side3 => repeat (exact (Kd.C_below HR1_3.out HB.out))); (case side4 => exact HC1_3.out); rintro e w' ⟨rfl, ⟨nd, rfl⟩⟩))
    go_ret
    exact ⟨by rfl, by repeat (with_reducible first | exact HB.out | apply pw_below_drewN)⟩
   rw [if_neg c5] at H
   have c5b0 : (a0_2 == a1_2) = false := beq_eq_false_iff_ne.mpr c5
   have c5b1 : (a0_2 != a1_2) = true := bne_iff_ne.mpr c5
   obtain rfl := Option.some.inj H
   go_enter Try.func24, Try.ntmps24
   go_wp2_with (first | ((with_reducible refine gate_dst (N := 2) rfl ?_); refine box_event (by rfl) (N := 2) (by rfl) (cs := #[.int .i64 a0_0, .int .i64 a0_1, .int .i64 a0_2, .slice A0_3 l0_3.length c0_3]) (t := 28) (by go_simp; done) ?_; intro gbz0 hg w12 hbox hb; replace HB := mk (below_step HB.out hb); have BKz0 := mk (hbox); clear hb hbox hg) | ((with_reducible refine gate_dst (N := 3) rfl ?_); refine box_event (by rfl) (N := 3) (by rfl) (cs := #[.int .i64 a1_0, .int .i64 a1_1, .int .i64 a1_2, .slice A1_3 l1_3.length c1_3]) (t := 28) (by go_simp; done) ?_; intro gbz1 hg w13 hbox hb; replace BKz0 := mk (blk_below BKz0.out hb); replace HB := mk (below_step HB.out hb); have BKz1 := mk (hbox); clear hb hbox hg; have hcz15_0 : w13.cell? ⟨gbz0, 0, none⟩ = some (.int .i64 a0_0) := (blk_cell BKz0.out 0).trans rfl; have hcz15_1 : w13.cell? ⟨gbz0, 1, none⟩ = some (.int .i64 a0_1) := (blk_cell BKz0.out 1).trans rfl; have hcz15_2 : w13.cell? ⟨gbz0, 2, none⟩ = some (.int .i64 a0_2) := (blk_cell BKz0.out 2).trans rfl; have hcz16_0 : w13.cell? ⟨gbz1, 0, none⟩ = some (.int .i64 a1_0) := (blk_cell BKz1.out 0).trans rfl; have hcz16_1 : w13.cell? ⟨gbz1, 1, none⟩ = some (.int .i64 a1_1) := (blk_cell BKz1.out 1).trans rfl; have hcz16_2 : w13.cell? ⟨gbz1, 2, none⟩ = some (.int .i64 a1_2) := (blk_cell BKz1.out 2).trans rfl))
   go_ret
   exact ⟨by rfl, by exact HB.out⟩
  rw [if_neg c4] at H
  have c4b0 : (a0_1 == a1_1) = false := beq_eq_false_iff_ne.mpr c4
  have c4b1 : (a0_1 != a1_1) = true := bne_iff_ne.mpr c4
  obtain rfl := Option.some.inj H
  go_enter Try.func24, Try.ntmps24
  go_wp2_with (first | ((with_reducible refine gate_dst (N := 2) rfl ?_); refine box_event (by rfl) (N := 2) (by rfl) (cs := #[.int .i64 a0_0, .int .i64 a0_1, .int .i64 a0_2, .slice A0_3 l0_3.length c0_3]) (t := 28) (by go_simp; done) ?_; intro gbz0 hg w17 hbox hb; replace HB := mk (below_step HB.out hb); have BKz0 := mk (hbox); clear hb hbox hg) | ((with_reducible refine gate_dst (N := 3) rfl ?_); refine box_event (by rfl) (N := 3) (by rfl) (cs := #[.int .i64 a1_0, .int .i64 a1_1, .int .i64 a1_2, .slice A1_3 l1_3.length c1_3]) (t := 28) (by go_simp; done) ?_; intro gbz1 hg w18 hbox hb; replace BKz0 := mk (blk_below BKz0.out hb); replace HB := mk (below_step HB.out hb); have BKz1 := mk (hbox); clear hb hbox hg; have hcz20_0 : w18.cell? ⟨gbz0, 0, none⟩ = some (.int .i64 a0_0) := (blk_cell BKz0.out 0).trans rfl; have hcz20_1 : w18.cell? ⟨gbz0, 1, none⟩ = some (.int .i64 a0_1) := (blk_cell BKz0.out 1).trans rfl; have hcz21_0 : w18.cell? ⟨gbz1, 0, none⟩ = some (.int .i64 a1_0) := (blk_cell BKz1.out 0).trans rfl; have hcz21_1 : w18.cell? ⟨gbz1, 1, none⟩ = some (.int .i64 a1_1) := (blk_cell BKz1.out 1).trans rfl))
  go_ret
  exact ⟨by rfl, by exact HB.out⟩
 rw [if_neg c3] at H
 have c3b0 : (a0_0 == a1_0) = false := beq_eq_false_iff_ne.mpr c3
 have c3b1 : (a0_0 != a1_0) = true := bne_iff_ne.mpr c3
 obtain rfl := Option.some.inj H
 go_enter Try.func24, Try.ntmps24
 go_wp2_with (first | ((with_reducible refine gate_dst (N := 2) rfl ?_); refine box_event (by rfl) (N := 2) (by rfl) (cs := #[.int .i64 a0_0, .int .i64 a0_1, .int .i64 a0_2, .slice A0_3 l0_3.length c0_3]) (t := 28) (by go_simp; done) ?_; intro gbz0 hg w22 hbox hb; replace HB := mk (below_step HB.out hb); have BKz0 := mk (hbox); clear hb hbox hg) | ((with_reducible refine gate_dst (N := 3) rfl ?_); refine box_event (by rfl) (N := 3) (by rfl) (cs := #[.int .i64 a1_0, .int .i64 a1_1, .int .i64 a1_2, .slice A1_3 l1_3.length c1_3]) (t := 28) (by go_simp; done) ?_; intro gbz1 hg w23 hbox hb; replace BKz0 := mk (blk_below BKz0.out hb); replace HB := mk (below_step HB.out hb); have BKz1 := mk (hbox); clear hb hbox hg; have hcz25_0 : w23.cell? ⟨gbz0, 0, none⟩ = some (.int .i64 a0_0) := (blk_cell BKz0.out 0).trans rfl; have hcz26_0 : w23.cell? ⟨gbz1, 0, none⟩ = some (.int .i64 a1_0) := (blk_cell BKz1.out 0).trans rfl))
 go_ret
 exact ⟨by rfl, by exact HB.out⟩


def IsS90 (w0 W : World) (g : Nat) (f0 : List Int) (f1 : Int) : Prop := ∃ A0 c0, W.heap[g]? = some (.cells #[.slice A0 f0.length c0, .int .i64 f1] 90 (0, 0)) ∧ w0.heap.size ≤ g ∧ Kd.C (Kd.int .u8) w0 A0 f0.length f0
theorem IsS90.grown {w0 W : World} {g : Nat} {f0 : List Int} {f1 : Int} {W1 : World} {row : Option Nat} (h : IsS90 w0 W g f0 f1) (hw : W.grownBy W1 row) (hne : some g ≠ row) : IsS90 w0 W1 g f0 f1 := by
 obtain ⟨A0, c0, hb, hg, hr0⟩ := h
 exact ⟨A0, c0, blk_grown hb hw hne, hg, hr0⟩
theorem IsS90.own_neN {w0 W : World} {g : Nat} {f0 : List Int} {f1 : Int} {α : Type} {d : Kd α} {e : Nat} {base : Nat} {ok : Nat → Prop} {v : Value} {xs : List α} (h : IsS90 w0 W g f0 f1) (ho : Kd.N d e W base ok v xs) (ht : e ≠ 90) : some g ≠ v.ownBlock := by
 obtain ⟨A0, c0, hb, hg, hr0⟩ := h
 exact Kd.N_ne ho hb ht
theorem IsS90.fresh {w0 W : World} {g : Nat} {f0 : List Int} {f1 : Int} (h : IsS90 w0 W g f0 f1) : ∀ k, W.heap.size ≤ k → k ≠ g := by
 obtain ⟨A0, c0, hb, hg, hr0⟩ := h
 exact Kd.freshB hb
theorem IsS90.kept {w0 W : World} {g : Nat} {f0 : List Int} {f1 : Int} {W1 : World} {S : Nat → Prop} (h : IsS90 w0 W g f0 f1) (hk : Kept W W1 S) (hne : ¬ S g) : IsS90 w0 W1 g f0 f1 := by
 obtain ⟨A0, c0, hb, hg, hr0⟩ := h
 exact ⟨A0, c0, blk_kept hb hk hne, hg, hr0⟩
theorem IsS90.below {w0 W : World} {g : Nat} {f0 : List Int} {f1 : Int} {W1 : World} (h : IsS90 w0 W g f0 f1) (hw : Below W.heap.size W W1) : IsS90 w0 W1 g f0 f1 := h.grown (grown_of_below hw none) (by simp)
theorem IsS90.alloc {w0 W : World} {g : Nat} {f0 : List Int} {f1 : Int} (h : IsS90 w0 W g f0 f1) (o : Obj) : IsS90 w0 (W.alloc o) g f0 f1 := h.below (below_alloc (Below.refl _ _) o)
theorem IsS90.drewN {w0 W : World} {g : Nat} {f0 : List Int} {f1 : Int} (h : IsS90 w0 W g f0 f1) (m : Nat) : IsS90 w0 (W.drewN m) g f0 f1 := h
theorem IsS90.drew {w0 W : World} {g : Nat} {f0 : List Int} {f1 : Int} (h : IsS90 w0 W g f0 f1) : IsS90 w0 W.drew g f0 f1 := h
theorem IsS90.at_ {w0 W : World} {g : Nat} {f0 : List Int} {f1 : Int} {w' : World} {m : Nat} (hq : W.drewN m = w') (h : IsS90 w0 W g f0 f1) : IsS90 w0 w' g f0 f1 := by subst hq; exact IsS90.drewN h m
theorem IsS90.apart {w0 W : World} {g : Nat} {f0 : List Int} {f1 : Int} {α : Type} {d : Kd α} {e : Nat} {base : Nat} {ok : Nat → Prop} {v : Value} {xs : List α} (h : IsS90 w0 W g f0 f1) (ho : d.R e W base ok v xs) (ht : ∀ q, q ∈ e :: d.E → q ≠ 90) : d.R e W base (fun k => ok k ∧ k ≠ g) v xs := by
 obtain ⟨A0, c0, hb, hg, hr0⟩ := h
 exact Kd.R_types ho hb ht
theorem IsS90.own_ne {w0 W : World} {g : Nat} {f0 : List Int} {f1 : Int} {α : Type} {d : Kd α} {e : Nat} {base : Nat} {ok : Nat → Prop} {v : Value} {xs : List α} (h : IsS90 w0 W g f0 f1) (ho : d.R e W base ok v xs) (ht : e ≠ 90) : some g ≠ v.ownBlock := by
 obtain ⟨A0, c0, hb, hg, hr0⟩ := h
 exact Kd.R_ne ho hb ht
theorem IsS90.apartQ {w0 W : World} {g : Nat} {f0 : List Int} {f1 : Int} {α : Type} {d : Kd α} {e : Nat} {base : Nat} {ok : Nat → Prop} {v : Value} {xs : List α} (h : IsS90 w0 W g f0 f1) (ho : d.Q e W base ok v xs) (ht : ∀ q, q ∈ e :: d.E → q ≠ 90) : d.Q e W base (fun k => ok k ∧ k ≠ g) v xs := by
 obtain ⟨A0, c0, hb, hg, hr0⟩ := h
 exact Kd.Q_types ho hb ht
theorem IsS90.own_neQ {w0 W : World} {g : Nat} {f0 : List Int} {f1 : Int} {α : Type} {d : Kd α} {e : Nat} {base : Nat} {ok : Nat → Prop} {v : Value} {xs : List α} (h : IsS90 w0 W g f0 f1) (ho : d.Q e W base ok v xs) (ht : e ≠ 90) : some g ≠ v.ownBlock := by
 obtain ⟨A0, c0, hb, hg, hr0⟩ := h
 exact Kd.Q_ne ho hb ht
theorem IsS90.apartS {w0 W : World} {g : Nat} {f0 : List Int} {f1 : Int} {α : Type} {d : Kd α} {e : Nat} {base : Nat} {ok : Nat → Prop} {v : Value} {xs : List α} (h : IsS90 w0 W g f0 f1) (ho : d.S e W base ok v xs) (ht : ∀ q, q ∈ e :: d.E → q ≠ 90) : d.S e W base (fun k => ok k ∧ k ≠ g) v xs := by
 obtain ⟨A0, c0, hb, hg, hr0⟩ := h
 exact Kd.S_types ho hb ht
theorem IsS90.own_neS {w0 W : World} {g : Nat} {f0 : List Int} {f1 : Int} {α : Type} {d : Kd α} {e : Nat} {base : Nat} {ok : Nat → Prop} {v : Value} {xs : List α} (h : IsS90 w0 W g f0 f1) (ho : d.S e W base ok v xs) (ht : e ≠ 90) : some g ≠ v.ownBlock := by
 obtain ⟨A0, c0, hb, hg, hr0⟩ := h
 exact Kd.S_ne ho hb ht
theorem IsS90.lt {w0 W : World} {g : Nat} {f0 : List Int} {f1 : Int} (h : IsS90 w0 W g f0 f1) : g < W.heap.size := by
 obtain ⟨A0, c0, hb, hg, hr0⟩ := h
 exact blk_lt hb
theorem IsS90.ge {w0 W : World} {g : Nat} {f0 : List Int} {f1 : Int} (h : IsS90 w0 W g f0 f1) : w0.heap.size ≤ g := by
 obtain ⟨A0, c0, hb, hg, hr0⟩ := h
 exact hg
theorem IsS90.ne_blk {w0 W : World} {g : Nat} {f0 : List Int} {f1 : Int} {a : Nat} {cs : Array Value} {t : TypeId} {fr : Nat × Nat} (h : IsS90 w0 W g f0 f1) (hb2 : W.heap[a]? = some (.cells cs t fr)) (ht : t ≠ 90) : g ≠ a := by
 obtain ⟨A0, c0, hb, hg, hr0⟩ := h
 rintro rfl
 rw [hb] at hb2
 injection hb2 with hb2
 injection hb2 with _ ht2
 exact ht ht2.symm
theorem IsS90.far {w0 W : World} {g : Nat} {f0 : List Int} {f1 : Int} {p : Addr} (h : IsS90 w0 W g f0 f1) (hne : g ≠ p.block) (u : Value) : IsS90 w0 (W.setCell p u) g f0 f1 := by
 obtain ⟨A0, c0, hb, hg, hr0⟩ := h
 exact ⟨A0, c0, blk_far hb hne u, hg, hr0⟩
theorem cellS90_0 {W : World} {g : Nat} {A0 : Option Addr} {c0 : Nat} {f0 : List Int} {f1 : Int} (h : W.heap[g]? = some (.cells #[.slice A0 f0.length c0, .int .i64 f1] 90 (0, 0))) : W.cell? ⟨g, 0, none⟩ = some (.slice A0 f0.length c0) := (blk_cell h 0).trans rfl
theorem cellS90_1 {W : World} {g : Nat} {A0 : Option Addr} {c0 : Nat} {f0 : List Int} {f1 : Int} (h : W.heap[g]? = some (.cells #[.slice A0 f0.length c0, .int .i64 f1] 90 (0, 0))) : W.cell? ⟨g, 1, none⟩ = some (.int .i64 f1) := (blk_cell h 1).trans rfl
theorem IsS90.set_1 {w0 W : World} {g : Nat} {f0 : List Int} {f1 : Int} (h : IsS90 w0 W g f0 f1) (x : Int) : IsS90 w0 (W.setCell ⟨g, 1, none⟩ (.int .i64 x)) g f0 x := by
 obtain ⟨A0, c0, hb, hg, hr0⟩ := h
 exact ⟨A0, c0, by simpa using blk_set hb 1 (.int .i64 x), hg, hr0⟩
theorem IsS90.new (w0 W : World) (A0 : Option Addr) (c0 : Nat) (f0 : List Int) (f1 : Int) (hB : Below w0.heap.size w0 W) (hr0 : Kd.C (Kd.int .u8) w0 A0 f0.length f0) : IsS90 w0 (W.alloc (.cells #[.slice A0 f0.length c0, .int .i64 f1] 90)) W.heap.size f0 f1 := ⟨A0, c0, by simpa using heap_alloc_new W _, hB.size, hr0⟩

def spec_newReader.f (l0 : List Int) : Option (List Int × Int) := if (l0.length : Int) > 2000 then (if 2000 ≤ (l0.length : Int) then (some (l0.take 2000, 0)) else (none)) else (some (l0, 0))
theorem spec_newReader.calls (A0 : Option Addr) (c0 : Nat) (l0 : List Int) (r1 : List Int) (r2 : Int) (w0 w : World) (hB : Below w0.heap.size w0 w) (hr0 : Kd.C (Kd.int .u8) w0 A0 l0.length l0) (hc0 : l0.length ≤ c0) (h : spec_newReader.f l0 = some (r1, r2)) :
  Calls Try.prog 49 #[.slice A0 l0.length c0] w fun e w' => ∃ g_ : Nat, e = .returned (.pointer (some ⟨g_, 0, none⟩)) ∧ IsS90 w0 w' g_ r1 r2 ∧ Below w0.heap.size w0 w' ∧ Below w.heap.size w w' := by
 have hu90 := Try.underlying90
 have HR0 := mk hr0
 have HC0 := mk hc0
 clear hr0 hc0
 have HBW := mk (Below.refl w.heap.size w)
 have HW0 := mk hB.size
 have HB := mk hB
 clear hB
 have H : (if (l0.length : Int) > 2000 then (if 2000 ≤ (l0.length : Int) then (some (l0.take 2000, 0)) else (none)) else (some (l0, 0))) = some (r1, r2) := h
 clear h
 by_cases c2 : (l0.length : Int) > 2000
 ·rw [if_pos c2] at H
  have c2b0 : decide (2000 < (l0.length : Int)) = true := decide_eq_true c2
  have c2b1 : decide (2000 < l0.length) = true := decide_eq_true (by omega)
  clear c2
  by_cases c3 : 2000 ≤ (l0.length : Int)
  ·rw [if_pos c3] at H
   have c3b0 := eq_true c3
   have c3b1 : decide (2000 ≤ (l0.length : Int)) = true := decide_eq_true c3
   clear c3
   simp only [Option.some.injEq, Prod.mk.injEq] at H
   obtain ⟨rfl, rfl⟩ := H
   obtain ⟨i04, hi04, _, hsz4, _⟩ := info_parts info5
   obtain ⟨hcut4, hA4, hC4⟩ := print_take_of (P := Try.prog) (Value.int .u8) 0 39 5 .i64 Try.underlying39 hi04 hsz4 A0 c0 l0 2000 (by omega) (of_decide_eq_true (by first | (with_reducible assumption) | assumption)) HC0.out
   have HR50001 := mk (Kd.C_of_reads (h1 := fun _ => rfl) (hA4 _ (Kd.reads_of_C HR0.out)))
   have HC50001 := mk hC4
   clear hA4 hC4 hi04 hsz4
   go_enter Try.func49, Try.ntmps49
   go_wp2_with (first | ((with_reducible refine gate_dst (N := 10) rfl ?_); refine box_event ?hg (N := 10) ?hd (cs := #[.slice A0 (l0.take 2000).length c0, .int .i64 0]) (t := 90) ?hr ?_; (case hd => rfl); (case hg => rfl); (case hr => first | (go_simp; done) | (go_simp; rfl)); intro gbz0 hg w5 hbox hb; replace HB := mk (below_step (by repeat (first | (with_reducible first | exact HB.out | apply below_alloc | apply pw_below_drewN | apply below_drew1) | exact HB.out)) hb); have BKz0 := mk (hbox); have GEz0 := mk ((Nat.le_trans HW0.out (by rw [hg]; exact (below_size (by repeat (first | (with_reducible first | exact HBW.out | apply below_alloc | apply pw_below_drewN | apply below_drew1) | exact HBW.out))) : w.heap.size ≤ gbz0) : w0.heap.size ≤ gbz0)); replace HBW := mk (below_step HBW.out hb); clear hb hbox hg))
   go_ret
   exact ⟨_, rfl, (show IsS90 w0 _ gbz0 (l0.take 2000) 0 from ⟨_, _, by exact BKz0.out, GEz0.out, HR50001.out⟩), by repeat (first | (with_reducible first | exact HB.out | apply below_alloc | apply pw_below_drewN | apply below_drew1 | refine below_set ?_ GEz0.out) | exact HB.out), by repeat (first | (with_reducible first | exact HBW.out | apply below_alloc | apply pw_below_drewN | apply below_drew1 | refine below_set ?_ GWz0.out) | exact HBW.out)⟩
  rw [if_neg c3] at H
  exact absurd H (by simp)
 rw [if_neg c2] at H
 have c2b0 : decide (2000 < (l0.length : Int)) = false := decide_eq_false c2
 have c2b1 : decide (2000 < l0.length) = false := decide_eq_false (by omega)
 clear c2
 simp only [Option.some.injEq, Prod.mk.injEq] at H
 obtain ⟨rfl, rfl⟩ := H
 go_enter Try.func49, Try.ntmps49
 go_wp2_with (first | ((with_reducible refine gate_dst (N := 10) rfl ?_); refine box_event ?hg (N := 10) ?hd (cs := #[.slice A0 l0.length c0, .int .i64 0]) (t := 90) ?hr ?_; (case hd => rfl); (case hg => rfl); (case hr => first | (go_simp; done) | (go_simp; rfl)); intro gbz1 hg w6 hbox hb; replace HB := mk (below_step (by repeat (first | (with_reducible first | exact HB.out | apply below_alloc | apply pw_below_drewN | apply below_drew1) | exact HB.out)) hb); have BKz1 := mk (hbox); have GEz1 := mk ((Nat.le_trans HW0.out (by rw [hg]; exact (below_size (by repeat (first | (with_reducible first | exact HBW.out | apply below_alloc | apply pw_below_drewN | apply below_drew1) | exact HBW.out))) : w.heap.size ≤ gbz1) : w0.heap.size ≤ gbz1)); replace HBW := mk (below_step HBW.out hb); clear hb hbox hg))
 go_ret
 exact ⟨_, rfl, (show IsS90 w0 _ gbz1 l0 0 from ⟨_, _, by exact BKz1.out, GEz1.out, HR0.out⟩), by repeat (first | (with_reducible first | exact HB.out | apply below_alloc | apply pw_below_drewN | apply below_drew1 | refine below_set ?_ GEz1.out) | exact HB.out), by repeat (first | (with_reducible first | exact HBW.out | apply below_alloc | apply pw_below_drewN | apply below_drew1 | refine below_set ?_ GWz1.out) | exact HBW.out)⟩


def spec_reader_pick.j0 : Nat → Int → Bool → List Int → Int → Option (Int × Int)
 | 0, _, _, _, _ => none
 | k + 1, x1, x24, x1000, x1001 => if x24 = true then (some (0, x1001)) else (if (wrap64 (x1001 - 1)) < (x1000.length : Int) then (if 0 ≤ (wrap64 (x1001 - 1)) then (if x1 = 0 then (none) else (some (Int.tmod (wrap64 (rd x1000 (wrap64 (x1001 - 1)))) x1, x1001))) else (none)) else (if (x1000.length : Int) = 0 then (none) else (if 0 ≤ (Int.tmod (wrap64 (x1001 - 1)) (x1000.length : Int)) then (if (Int.tmod (wrap64 (x1001 - 1)) (x1000.length : Int)) < (x1000.length : Int) then (if 0 ≤ (Int.tmod (wrap64 ((wrap64 ((wrap64 (x1001 - 1)) * 7)) + 3)) (x1000.length : Int)) then (if (Int.tmod (wrap64 ((wrap64 ((wrap64 (x1001 - 1)) * 7)) + 3)) (x1000.length : Int)) < (x1000.length : Int) then (if x1 = 0 then (none) else (some (Int.tmod (Go.bits .xor .i64 (wrap64 ((wrap64 ((wrap64 ((wrap64 ((wrap64 (rd x1000 (Int.tmod (wrap64 (x1001 - 1)) (x1000.length : Int)))) * 131)) + (wrap64 ((wrap64 (rd x1000 (Int.tmod (wrap64 ((wrap64 ((wrap64 (x1001 - 1)) * 7)) + 3)) (x1000.length : Int)))) * 1117)))) + (wrap64 ((wrap64 (x1001 - 1)) * 29)))) + (wrap64 ((wrap64 (Int.tdiv (wrap64 (x1001 - 1)) (x1000.length : Int))) * 53)))) (wrap64 (Int.tdiv (wrap64 ((wrap64 ((wrap64 ((wrap64 ((wrap64 (rd x1000 (Int.tmod (wrap64 (x1001 - 1)) (x1000.length : Int)))) * 131)) + (wrap64 ((wrap64 (rd x1000 (Int.tmod (wrap64 ((wrap64 ((wrap64 (x1001 - 1)) * 7)) + 3)) (x1000.length : Int)))) * 1117)))) + (wrap64 ((wrap64 (x1001 - 1)) * 29)))) + (wrap64 ((wrap64 (Int.tdiv (wrap64 (x1001 - 1)) (x1000.length : Int))) * 53)))) 64))) x1, x1001))) else (none)) else (none)) else (none)) else (none))))
def spec_reader_pick.f (k : Nat) (s0_0 : List Int) (s0_1 : Int) (a1 : Int) : Option (Int × Int) := if a1 < 1 then (spec_reader_pick.j0 k a1 true s0_0 (wrap64 (s0_1 + 1))) else (spec_reader_pick.j0 k a1 ((s0_0.length : Int) == 0) s0_0 (wrap64 (s0_1 + 1)))
theorem spec_reader_pick.calls (k : Nat) (g : Nat) (s0_0 : List Int) (s0_1 : Int) (a1 : Int) (r1 : Int) (r2 : Int) (w0 w : World) (hI : IsS90 w0 w g s0_0 s0_1) (hB : Below w0.heap.size w0 w) (h : spec_reader_pick.f k s0_0 s0_1 a1 = some (r1, r2)) :
  Calls Try.prog 90 #[.pointer (some ⟨g, 0, none⟩), .int .i64 a1] w fun e w' => e = .returned (.int .i64 r1) ∧ IsS90 w0 w' g s0_0 r2 ∧ Below w0.heap.size w0 w' ∧ KeepBut w w' g none := by
 have HI0 := Aside0.mk hI
 have HK := Aside0.mk (KeepBut.refl w g none)
 clear hI
 have HB := Aside0.mk hB
 clear hB
 have H : (if a1 < 1 then (spec_reader_pick.j0 k a1 true s0_0 (wrap64 (s0_1 + 1))) else (spec_reader_pick.j0 k a1 ((s0_0.length : Int) == 0) s0_0 (wrap64 (s0_1 + 1)))) = some (r1, r2) := h
 clear h
 have HC3 := Aside0.mk H
 clear H
 obtain ⟨ASz4_0, cSz4_0, HGz4, hgz4, HSz4_0⟩ := HI0.out
 have hcz4_0 := cellS90_0 HGz4
 have hcz4_1 := cellS90_1 HGz4
 have hfz4_1 := blk_frozen HGz4 1
 clear HGz4 hgz4
 go_enter Try.func90, Try.ntmps90
 go_upto_region 2 with (fail)
 repeat (go_quiet (fail); go_upto_region 2 with (fail))
 go_cut [24] (fun v24 wc => ∃ (kq : Nat) (x24_2 : Bool), v24 = .bool x24_2 ∧ Aside0 (spec_reader_pick.j0 kq a1 x24_2 s0_0 (wrap64 (s0_1 + 1)) = some (r1, r2)) ∧ Aside0 (kq ≤ k) ∧ Aside0 (IsS90 w0 wc g s0_0 (wrap64 (s0_1 + 1))) ∧ Aside0 (KeepBut w wc g none) ∧ Aside0 (Below w0.heap.size w0 wc))
 case first =>
  have H := HC3.out
  clear HC3
  by_cases c5 : a1 < 1
  ·rw [if_pos c5] at H
   have c5b0 : decide (a1 < 1) = true := decide_eq_true c5
   clear c5
   (first | rw [c5b0] | (simp only [i64_w, i32_w]; rw [c5b0]) | skip)
   have H' := Aside0.mk H
   clear H
   go_wp2
   repeat (go_quiet (fail); try go_wp2)
   go_meet
   case rel => exact ⟨_, (true), (by first | rfl | (simp; done) | (simp [*]; done)), H', ⟨by first | omega | exact Nat.le_refl _⟩, ⟨by repeat (first | (with_reducible first | exact HI0.out | apply IsS90.alloc | apply IsS90.drewN | apply IsS90.drew | apply IsS90.set_1) | exact HI0.out)⟩, ⟨by repeat (first | (with_reducible first | exact HK.out | apply KeepBut.set_ | apply keep_drewN | apply keep_drew | apply keep_alloc) | exact HK.out)⟩, ⟨by repeat (first | (with_reducible first | exact HB.out | apply below_alloc | apply pw_below_drewN | apply below_drew1 | refine below_set ?_ (IsS90.ge HI0.out)) | exact HB.out)⟩⟩
  rw [if_neg c5] at H
  have c5b0 : decide (a1 < 1) = false := decide_eq_false c5
  clear c5
  (first | rw [c5b0] | (simp only [i64_w, i32_w]; rw [c5b0]) | skip)
  have H' := Aside0.mk H
  clear H
  obtain ⟨ASz6_0, cSz6_0, HGz6, hgz6, HSz6_0⟩ := HI0.out
  clear HGz6 hgz6
  go_wp2
  repeat (go_quiet (fail); try go_wp2)
  go_meet
  case rel => exact ⟨_, (((s0_0.length : Int) == 0)), (by first | rfl | (simp; done) | (simp [*]; done)), H', ⟨by first | omega | exact Nat.le_refl _⟩, ⟨by repeat (first | (with_reducible first | exact HI0.out | apply IsS90.alloc | apply IsS90.drewN | apply IsS90.drew | apply IsS90.set_1) | exact HI0.out)⟩, ⟨by repeat (first | (with_reducible first | exact HK.out | apply KeepBut.set_ | apply keep_drewN | apply keep_drew | apply keep_alloc) | exact HK.out)⟩, ⟨by repeat (first | (with_reducible first | exact HB.out | apply below_alloc | apply pw_below_drewN | apply below_drew1 | refine below_set ?_ (IsS90.ge HI0.out)) | exact HB.out)⟩⟩
 case rest =>
  clear HC3
  obtain ⟨kq, x24_2, rfl, HA, HJ2, HI0, HK, HB⟩ := hcut
  cases kq with
  | zero => exact absurd HA.out (by simp [spec_reader_pick.j0])
  | succ kj2 =>
   have H := HA.out
   clear HA
   simp only [spec_reader_pick.j0] at H
   by_cases c7 : x24_2 = true
   ·subst c7
    have H1 : (some (0, (wrap64 (s0_1 + 1)))) = some (r1, r2) := by rw [if_pos rfl] at H; exact H
    clear H
    have H := H1
    clear H1
    simp only [Option.some.injEq, Prod.mk.injEq] at H
    obtain ⟨rfl, rfl⟩ := H
    go_wp2
    repeat (go_quiet (fail); try go_wp2)
    go_ret
    exact ⟨by first | rfl | (simp [errW_none, errW_some] <;> rfl) | (simp [*, errW_none, errW_some] <;> rfl), by repeat (first | (with_reducible first | exact HI0.out | apply IsS90.alloc | apply IsS90.drewN | apply IsS90.drew | apply IsS90.set_1) | exact HI0.out), by repeat (first | (with_reducible first | exact HB.out | apply below_alloc | apply pw_below_drewN | apply below_drew1 | refine below_set ?_ (IsS90.ge HI0.out)) | exact HB.out), by repeat (first | (with_reducible first | exact HK.out | apply KeepBut.set_ | apply keep_drewN | apply keep_drew | apply keep_alloc) | exact HK.out)⟩
   replace c7 := Bool.eq_false_iff.mpr c7
   subst c7
   have H1 : (if (wrap64 ((wrap64 (s0_1 + 1)) - 1)) < (s0_0.length : Int) then (if 0 ≤ (wrap64 ((wrap64 (s0_1 + 1)) - 1)) then (if a1 = 0 then (none) else (some (Int.tmod (wrap64 (rd s0_0 (wrap64 ((wrap64 (s0_1 + 1)) - 1)))) a1, (wrap64 (s0_1 + 1))))) else (none)) else (if (s0_0.length : Int) = 0 then (none) else (if 0 ≤ (Int.tmod (wrap64 ((wrap64 (s0_1 + 1)) - 1)) (s0_0.length : Int)) then (if (Int.tmod (wrap64 ((wrap64 (s0_1 + 1)) - 1)) (s0_0.length : Int)) < (s0_0.length : Int) then (if 0 ≤ (Int.tmod (wrap64 ((wrap64 ((wrap64 ((wrap64 (s0_1 + 1)) - 1)) * 7)) + 3)) (s0_0.length : Int)) then (if (Int.tmod (wrap64 ((wrap64 ((wrap64 ((wrap64 (s0_1 + 1)) - 1)) * 7)) + 3)) (s0_0.length : Int)) < (s0_0.length : Int) then (if a1 = 0 then (none) else (some (Int.tmod (Go.bits .xor .i64 (wrap64 ((wrap64 ((wrap64 ((wrap64 ((wrap64 (rd s0_0 (Int.tmod (wrap64 ((wrap64 (s0_1 + 1)) - 1)) (s0_0.length : Int)))) * 131)) + (wrap64 ((wrap64 (rd s0_0 (Int.tmod (wrap64 ((wrap64 ((wrap64 ((wrap64 (s0_1 + 1)) - 1)) * 7)) + 3)) (s0_0.length : Int)))) * 1117)))) + (wrap64 ((wrap64 ((wrap64 (s0_1 + 1)) - 1)) * 29)))) + (wrap64 ((wrap64 (Int.tdiv (wrap64 ((wrap64 (s0_1 + 1)) - 1)) (s0_0.length : Int))) * 53)))) (wrap64 (Int.tdiv (wrap64 ((wrap64 ((wrap64 ((wrap64 ((wrap64 (rd s0_0 (Int.tmod (wrap64 ((wrap64 (s0_1 + 1)) - 1)) (s0_0.length : Int)))) * 131)) + (wrap64 ((wrap64 (rd s0_0 (Int.tmod (wrap64 ((wrap64 ((wrap64 ((wrap64 (s0_1 + 1)) - 1)) * 7)) + 3)) (s0_0.length : Int)))) * 1117)))) + (wrap64 ((wrap64 ((wrap64 (s0_1 + 1)) - 1)) * 29)))) + (wrap64 ((wrap64 (Int.tdiv (wrap64 ((wrap64 (s0_1 + 1)) - 1)) (s0_0.length : Int))) * 53)))) 64))) a1, (wrap64 (s0_1 + 1))))) else (none)) else (none)) else (none)) else (none)))) = some (r1, r2) := by rw [if_neg (show ¬ (false = true) by decide)] at H; exact H
   clear H
   have H := H1
   clear H1
   by_cases c8 : (wrap64 ((wrap64 (s0_1 + 1)) - 1)) < (s0_0.length : Int)
   ·rw [if_pos c8] at H
    have c8b0 : decide ((wrap64 ((wrap64 (s0_1 + 1)) - 1)) < (s0_0.length : Int)) = true := decide_eq_true c8
    clear c8
    obtain ⟨ji9, hji9⟩ : ∃ j_ : Int, (wrap64 ((wrap64 (s0_1 + 1)) - 1)) = j_ := ⟨_, rfl⟩
    replace H : (if 0 ≤ (ji9) then (if a1 = 0 then (none) else (some (Int.tmod (wrap64 (rd s0_0 (ji9))) a1, (wrap64 (s0_1 + 1))))) else (none)) = some (r1, r2) := by first | (rw [hji9] at H; exact H) | (simp only [hji9] at H ⊢; exact H)
    (try rw [hji9] at c8b0)
    have hji9w : (IntKind.i64.wrap ((wrap64 (s0_1 + 1)) - 1)) = ji9 := (i64_w _).trans hji9
    by_cases c10 : 0 ≤ (ji9)
    ·rw [if_pos c10] at H
     have c10b0 : decide (0 ≤ (ji9)) = true := decide_eq_true c10
     clear c10
     by_cases c11 : a1 = 0
     ·rw [if_pos c11] at H
      exact absurd H (by simp)
     rw [if_neg c11] at H
     simp only [Option.some.injEq, Prod.mk.injEq] at H
     obtain ⟨rfl, rfl⟩ := H
     obtain ⟨ASz12_0, cSz12_0, HGz12, hgz12, HSz12_0⟩ := HI0.out
     have hcz12_0 := cellS90_0 HGz12
     have hcz12_1 := cellS90_1 HGz12
     clear HGz12 hgz12
     have p91001 : 0 ≤ ((ji9) : Int) := of_decide_eq_true (by first | (with_reducible assumption) | assumption)
     have q91001 : (ji9) < (s0_0.length : Int) := of_decide_eq_true (by first | (with_reducible assumption) | assumption)
     obtain ⟨ad91001, e91001, hx91001_0⟩ := Kd.at_int HSz12_0 (ji9) p91001 q91001
     cases e91001
     replace hx91001_0 := pw_cell_below HB.out hx91001_0
     replace p91001 := eq_true p91001
     replace q91001 := eq_true q91001
     go_wp2
     repeat (go_quiet (fail); try go_wp2)
     go_ret
     exact ⟨by first | rfl | (simp [errW_none, errW_some] <;> rfl) | (simp only [← hji9]; first | rfl | (simp [errW_none, errW_some] <;> rfl)) | (simp [*, errW_none, errW_some] <;> rfl), by repeat (first | (with_reducible first | exact HI0.out | apply IsS90.alloc | apply IsS90.drewN | apply IsS90.drew | apply IsS90.set_1) | exact HI0.out), by repeat (first | (with_reducible first | exact HB.out | apply below_alloc | apply pw_below_drewN | apply below_drew1 | refine below_set ?_ (IsS90.ge HI0.out)) | exact HB.out), by repeat (first | (with_reducible first | exact HK.out | apply KeepBut.set_ | apply keep_drewN | apply keep_drew | apply keep_alloc) | exact HK.out)⟩
    rw [if_neg c10] at H
    exact absurd H (by simp)
   rw [if_neg c8] at H
   have c8b0 : decide ((wrap64 ((wrap64 (s0_1 + 1)) - 1)) < (s0_0.length : Int)) = false := decide_eq_false c8
   clear c8
   by_cases c13 : (s0_0.length : Int) = 0
   ·rw [if_pos c13] at H
    exact absurd H (by simp)
   rw [if_neg c13] at H
   have c13b2 : ¬ (s0_0 = []) := fun h_ => c13 (by rw [h_]; rfl)
   obtain ⟨ji14, hji14⟩ : ∃ j_ : Int, (Int.tmod (wrap64 ((wrap64 (s0_1 + 1)) - 1)) (s0_0.length : Int)) = j_ := ⟨_, rfl⟩
   replace H : (if 0 ≤ (ji14) then (if (ji14) < (s0_0.length : Int) then (if 0 ≤ (Int.tmod (wrap64 ((wrap64 ((wrap64 ((wrap64 (s0_1 + 1)) - 1)) * 7)) + 3)) (s0_0.length : Int)) then (if (Int.tmod (wrap64 ((wrap64 ((wrap64 ((wrap64 (s0_1 + 1)) - 1)) * 7)) + 3)) (s0_0.length : Int)) < (s0_0.length : Int) then (if a1 = 0 then (none) else (some (Int.tmod (Go.bits .xor .i64 (wrap64 ((wrap64 ((wrap64 ((wrap64 ((wrap64 (rd s0_0 (ji14))) * 131)) + (wrap64 ((wrap64 (rd s0_0 (Int.tmod (wrap64 ((wrap64 ((wrap64 ((wrap64 (s0_1 + 1)) - 1)) * 7)) + 3)) (s0_0.length : Int)))) * 1117)))) + (wrap64 ((wrap64 ((wrap64 (s0_1 + 1)) - 1)) * 29)))) + (wrap64 ((wrap64 (Int.tdiv (wrap64 ((wrap64 (s0_1 + 1)) - 1)) (s0_0.length : Int))) * 53)))) (wrap64 (Int.tdiv (wrap64 ((wrap64 ((wrap64 ((wrap64 ((wrap64 (rd s0_0 (ji14))) * 131)) + (wrap64 ((wrap64 (rd s0_0 (Int.tmod (wrap64 ((wrap64 ((wrap64 ((wrap64 (s0_1 + 1)) - 1)) * 7)) + 3)) (s0_0.length : Int)))) * 1117)))) + (wrap64 ((wrap64 ((wrap64 (s0_1 + 1)) - 1)) * 29)))) + (wrap64 ((wrap64 (Int.tdiv (wrap64 ((wrap64 (s0_1 + 1)) - 1)) (s0_0.length : Int))) * 53)))) 64))) a1, (wrap64 (s0_1 + 1))))) else (none)) else (none)) else (none)) else (none)) = some (r1, r2) := by first | (rw [hji14] at H; exact H) | (simp only [hji14] at H ⊢; exact H)
   by_cases c15 : 0 ≤ (ji14)
   ·rw [if_pos c15] at H
    have c15b0 : decide (0 ≤ (ji14)) = true := decide_eq_true c15
    clear c15
    by_cases c16 : (ji14) < (s0_0.length : Int)
    ·rw [if_pos c16] at H
     have c16b0 : decide ((ji14) < (s0_0.length : Int)) = true := decide_eq_true c16
     clear c16
     obtain ⟨ji17, hji17⟩ : ∃ j_ : Int, (Int.tmod (wrap64 ((wrap64 ((wrap64 ((wrap64 (s0_1 + 1)) - 1)) * 7)) + 3)) (s0_0.length : Int)) = j_ := ⟨_, rfl⟩
     replace H : (if 0 ≤ (ji17) then (if (ji17) < (s0_0.length : Int) then (if a1 = 0 then (none) else (some (Int.tmod (Go.bits .xor .i64 (wrap64 ((wrap64 ((wrap64 ((wrap64 ((wrap64 (rd s0_0 (ji14))) * 131)) + (wrap64 ((wrap64 (rd s0_0 (ji17))) * 1117)))) + (wrap64 ((wrap64 ((wrap64 (s0_1 + 1)) - 1)) * 29)))) + (wrap64 ((wrap64 (Int.tdiv (wrap64 ((wrap64 (s0_1 + 1)) - 1)) (s0_0.length : Int))) * 53)))) (wrap64 (Int.tdiv (wrap64 ((wrap64 ((wrap64 ((wrap64 ((wrap64 (rd s0_0 (ji14))) * 131)) + (wrap64 ((wrap64 (rd s0_0 (ji17))) * 1117)))) + (wrap64 ((wrap64 ((wrap64 (s0_1 + 1)) - 1)) * 29)))) + (wrap64 ((wrap64 (Int.tdiv (wrap64 ((wrap64 (s0_1 + 1)) - 1)) (s0_0.length : Int))) * 53)))) 64))) a1, (wrap64 (s0_1 + 1))))) else (none)) else (none)) = some (r1, r2) := by first | (rw [hji17] at H; exact H) | (simp only [hji17] at H ⊢; exact H)
     by_cases c18 : 0 ≤ (ji17)
     ·rw [if_pos c18] at H
      have c18b0 : decide (0 ≤ (ji17)) = true := decide_eq_true c18
      clear c18
      by_cases c19 : (ji17) < (s0_0.length : Int)
      ·rw [if_pos c19] at H
       have c19b0 : decide ((ji17) < (s0_0.length : Int)) = true := decide_eq_true c19
       clear c19
       by_cases c20 : a1 = 0
       ·rw [if_pos c20] at H
        exact absurd H (by simp)
       rw [if_neg c20] at H
       simp only [Option.some.injEq, Prod.mk.injEq] at H
       obtain ⟨rfl, rfl⟩ := H
       obtain ⟨ASz21_0, cSz21_0, HGz21, hgz21, HSz21_0⟩ := HI0.out
       have hcz21_0 := cellS90_0 HGz21
       have hcz21_1 := cellS90_1 HGz21
       clear HGz21 hgz21
       have p91002 : 0 ≤ ((ji14) : Int) := of_decide_eq_true (by first | (with_reducible assumption) | assumption)
       have q91002 : (ji14) < (s0_0.length : Int) := of_decide_eq_true (by first | (with_reducible assumption) | assumption)
       obtain ⟨ad91002, e91002, hx91002_0⟩ := Kd.at_int HSz21_0 (ji14) p91002 q91002
       cases e91002
       replace hx91002_0 := pw_cell_below HB.out hx91002_0
       replace p91002 := eq_true p91002
       replace q91002 := eq_true q91002
       have p91003 : 0 ≤ ((ji17) : Int) := of_decide_eq_true (by first | (with_reducible assumption) | assumption)
       have q91003 : (ji17) < (s0_0.length : Int) := of_decide_eq_true (by first | (with_reducible assumption) | assumption)
       obtain ⟨ad91003, e91003, hx91003_0⟩ := Kd.at_int HSz21_0 (ji17) p91003 q91003
       obtain rfl : ad91002 = ad91003 := (by injection e91003)
       replace hx91003_0 := pw_cell_below HB.out hx91003_0
       replace p91003 := eq_true p91003
       replace q91003 := eq_true q91003
       go_wp2
       repeat (go_quiet (fail); try go_wp2)
       go_ret
       exact ⟨by first | rfl | (simp [errW_none, errW_some] <;> rfl) | (simp only [← hji14, ← hji17]; first | rfl | (simp [errW_none, errW_some] <;> rfl)) | (simp [*, errW_none, errW_some] <;> rfl), by repeat (first | (with_reducible first | exact HI0.out | apply IsS90.alloc | apply IsS90.drewN | apply IsS90.drew | apply IsS90.set_1) | exact HI0.out), by repeat (first | (with_reducible first | exact HB.out | apply below_alloc | apply pw_below_drewN | apply below_drew1 | refine below_set ?_ (IsS90.ge HI0.out)) | exact HB.out), by repeat (first | (with_reducible first | exact HK.out | apply KeepBut.set_ | apply keep_drewN | apply keep_drew | apply keep_alloc) | exact HK.out)⟩
      rw [if_neg c19] at H
      exact absurd H (by simp)
     rw [if_neg c18] at H
     exact absurd H (by simp)
    rw [if_neg c16] at H
    exact absurd H (by simp)
   rw [if_neg c15] at H
   exact absurd H (by simp)


def spec_reader_one.f (k : Nat) (s0_0 : List Int) (s0_1 : Int) (l1 : List Int) : Option (Int × Int) := (spec_reader_pick.f k s0_0 s0_1 (l1.length : Int)).bind fun btz0 => (if 0 ≤ btz0.1 then (if btz0.1 < (l1.length : Int) then (some (rd l1 btz0.1, btz0.2)) else none) else none)
theorem spec_reader_one.calls (k : Nat) (g : Nat) (s0_0 : List Int) (s0_1 : Int) (A1 : Option Addr) (c1 : Nat) (l1 : List Int) (r1 : Int) (r2 : Int) (w0 w : World) (hI : IsS90 w0 w g s0_0 s0_1) (hB : Below w0.heap.size w0 w) (hr1 : Kd.C (Kd.int .i64) w A1 l1.length l1) (hc1 : l1.length ≤ c1) (hf1 : ∀ ad, A1 = some ad → 0 < l1.length → ad.block ≠ g) (h : spec_reader_one.f k s0_0 s0_1 l1 = some (r1, r2)) :
  Calls Try.prog 85 #[.pointer (some ⟨g, 0, none⟩), .slice A1 l1.length c1] w fun e w' => e = .returned (.int .i64 r1) ∧ IsS90 w0 w' g s0_0 r2 ∧ Below w0.heap.size w0 w' ∧ KeepBut w w' g none := by
 have HR1 := Aside0.mk hr1
 have HC1 := Aside0.mk hc1
 clear hr1 hc1
 have HI0 := Aside0.mk hI
 have HK := Aside0.mk (KeepBut.refl w g none)
 have HL := Aside0.mk hB.size
 clear hI
 have HW0 := Aside0.mk hB.size
 have HB := Aside0.mk hB
 clear hB
 have H : ((spec_reader_pick.f k s0_0 s0_1 (l1.length : Int)).bind fun btz0 => (if 0 ≤ btz0.1 then (if btz0.1 < (l1.length : Int) then (some (rd l1 btz0.1, btz0.2)) else none) else none)) = some (r1, r2) := h
 clear h
 replace H := Option.bind_eq_some_iff.mp H
 obtain ⟨⟨tz0, tz1⟩, A30, H⟩ := H
 replace H : (if 0 ≤ tz0 then (if tz0 < (l1.length : Int) then (some (rd l1 tz0, tz1)) else none) else none) = some (r1, r2) := H
 have A3 := Aside0.mk A30
 clear A30
 by_cases c4 : 0 ≤ tz0
 ·rw [if_pos c4] at H
  have c4b0 : decide (0 ≤ tz0) = true := decide_eq_true c4
  clear c4
  by_cases c5 : tz0 < (l1.length : Int)
  ·rw [if_pos c5] at H
   have c5b0 : decide (tz0 < (l1.length : Int)) = true := decide_eq_true c5
   clear c5
   simp only [Option.some.injEq, Prod.mk.injEq] at H
   obtain ⟨rfl, rfl⟩ := H
   go_enter Try.func85, Try.ntmps85
   go_wp2_with (first | ((with_reducible refine gate_callee (f := 90) rfl ?_); refine goesL_ (some 9) rfl rfl Try.func90 (by kernel_rfl) rfl #[.pointer (some ⟨g, 0, none⟩), .int .i64 (l1.length : Int)] rfl (by (try simp only [List.map_toArray, List.map_cons, List.map_nil]); rfl) ?_; (with_reducible refine (spec_reader_pick.calls k g s0_0 s0_1 (l1.length : Int) tz0 tz1 w0 _ ?side1 ?side2 A3.out).mono ?_); (case side1 => repeat (with_reducible exact HI0.out)); (case side2 => repeat (with_reducible exact HB.out)); rintro e w6 ⟨rfl, hi, hb, hk⟩; refine ⟨_, rfl, ?_⟩; replace HK := Aside0.mk (KeepBut.trans HK.out hk (.inl rfl)); replace HB := Aside0.mk (hb); replace HI0 := Aside0.mk (hi); (try clear hb); (try clear hk); (try clear hi); have p86003 : 0 ≤ (tz0 : Int) := of_decide_eq_true (by (with_reducible assumption)); have q86003 : tz0 < (l1.length : Int) := of_decide_eq_true (by (with_reducible assumption)); obtain ⟨ad86003, e86003, hx86003_0⟩ := Kd.at_int HR1.out tz0 p86003 q86003; cases e86003; replace hx86003_0 := keep_cell HK.out hx86003_0 (by (rw [add_block]; exact hf1 _ rfl (by omega))); replace p86003 := eq_true p86003; replace q86003 := eq_true q86003))
   go_ret
   exact ⟨by rfl, by exact HI0.out, by exact HB.out, by exact HK.out⟩
  rw [if_neg c5] at H
  exact absurd H (by simp)
 rw [if_neg c4] at H
 exact absurd H (by simp)

end Go.Proofs.Ytgccpcnakkioiaa.Q
