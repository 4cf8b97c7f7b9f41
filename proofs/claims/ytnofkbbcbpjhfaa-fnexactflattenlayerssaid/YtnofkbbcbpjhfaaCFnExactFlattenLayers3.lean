/- A part of the proof that the statement FnExactFlattenLayersSaid holds, under no condition of its own: The program's FlattenLayers and the reference's return the same, and what is returned is held by nobody else: over lists of numbers alone. -/
import Derived.Test.YtnofkbbcbpjhfaaCFnExactFlattenLayers1
import Derived.Test.YtnofkbbcbpjhfaaCFnExactFlattenLayers2
import Derived.Deep.Slices
import Derived.Deep.Fields
import Derived.ChangeSame
import Derived.ProofKit
import Derived.OpenShut
import Derived.ShutString
import Derived.ChangeOld
import Derived.SizedLaws
import GoSem.Claim
import Derived.Test.YtnofkbbcbpjhfaaRows
import Derived.JoinedOf
import Derived.KernelRfl
import Derived.WalkKit
import Derived.Below
import Derived.Carry
namespace Go.Proofs.Ytnofkbbcbpjhfaa.Q
open Go.RowKit Go.Proofs.YtnofkbbcbpjhfaaW.PrintWords Go.Proofs.YtnofkbbcbpjhfaaW.PrintLast Go.Proofs.YtnofkbbcbpjhfaaW.PrintMore
open Go.Proofs.YtnofkbbcbpjhfaaW.PrintWords.Aside0 (mk)
attribute [local go_sem] max2_int min2_int max_two min_two max_three min_three max_four min_four
set_option linter.unusedVariables false
set_option linter.unusedSimpArgs false
def laws_eqLayer.f (k : Nat) (a0_0 : Int) (a0_1 : Int) (a0_2 : Int) (l0_3 : List Int) (a0_4 : Int) (a0_5 : Int) (a0_6 : Int) (a0_7 : Int) (a0_8 : Bool) (a1_0 : Int) (a1_1 : Int) (a1_2 : Int) (l1_3 : List Int) (a1_4 : Int) (a1_5 : Int) (a1_6 : Int) (a1_7 : Int) (a1_8 : Bool) : Option (Bool) := (laws_eqImage.f k a0_0 a0_1 a0_2 l0_3 a1_0 a1_1 a1_2 l1_3).bind fun t45003 => (if t45003 = true then (if a0_4 = a1_4 then (if a0_5 = a1_5 then (if a0_6 = a1_6 then (if a0_7 = a1_7 then (if (a0_8 != a1_8) = true then (some false) else (some true)) else (some false)) else (some false)) else (some false)) else (some false)) else (some false))
theorem laws_eqLayer.mono : ∀ a0 a1 a2 a3 a4 a5 a6 a7 a8 a9 a10 a11 a12 a13 a14 a15 a16 a17 k, LeO (laws_eqLayer.f k a0 a1 a2 a3 a4 a5 a6 a7 a8 a9 a10 a11 a12 a13 a14 a15 a16 a17) (laws_eqLayer.f (k + 1) a0 a1 a2 a3 a4 a5 a6 a7 a8 a9 a10 a11 a12 a13 a14 a15 a16 a17) := by
 intro a0 a1 a2 a3 a4 a5 a6 a7 a8 a9 a10 a11 a12 a13 a14 a15 a16 a17 k
 unfold laws_eqLayer.f
 repeat' first
   | (with_reducible exact laws_eqImage.mono _ _ _ _ _ _ _ _ _)
   | (with_reducible exact LeO.refl _)
   | (with_reducible exact LeO.none _)
   | (with_reducible refine LeO.ite ?_ ?_)
   | (with_reducible refine LeO.bind ?_ (fun _ => ?_))
   | exact laws_eqImage.mono _ _ _ _ _ _ _ _ _
   | exact LeO.none _
   | refine LeO.ite ?_ ?_
   | refine LeO.bind ?_ (fun _ => ?_)
set_option maxHeartbeats 8000000 in
set_option maxRecDepth 100000 in
theorem laws_eqLayer.calls (k : Nat) (a0_0 : Int) (a0_1 : Int) (a0_2 : Int) (A0_3 : Option Addr) (c0_3 : Nat) (l0_3 : List Int) (a0_4 : Int) (a0_5 : Int) (a0_6 : Int) (a0_7 : Int) (a0_8 : Bool) (a1_0 : Int) (a1_1 : Int) (a1_2 : Int) (A1_3 : Option Addr) (c1_3 : Nat) (l1_3 : List Int) (a1_4 : Int) (a1_5 : Int) (a1_6 : Int) (a1_7 : Int) (a1_8 : Bool) (r : Bool) (w : World) (hr0_3 : Kd.C (Kd.int .i64) w A0_3 l0_3.length l0_3) (hc0_3 : l0_3.length ≤ c0_3) (hr1_3 : Kd.C (Kd.int .i64) w A1_3 l1_3.length l1_3) (hc1_3 : l1_3.length ≤ c1_3) (h : laws_eqLayer.f k a0_0 a0_1 a0_2 l0_3 a0_4 a0_5 a0_6 a0_7 a0_8 a1_0 a1_1 a1_2 l1_3 a1_4 a1_5 a1_6 a1_7 a1_8 = some r) (hrt : r = true) :
  Calls Try.prog 44 #[.agg #[.int .i64 a0_0, .int .i64 a0_1, .int .i64 a0_2, .slice A0_3 l0_3.length c0_3, .int .i64 a0_4, .int .i64 a0_5, .int .i64 a0_6, .int .i64 a0_7, .bool a0_8], .agg #[.int .i64 a1_0, .int .i64 a1_1, .int .i64 a1_2, .slice A1_3 l1_3.length c1_3, .int .i64 a1_4, .int .i64 a1_5, .int .i64 a1_6, .int .i64 a1_7, .bool a1_8]] w fun e w' => e = .returned (.bool r) ∧ Below w.heap.size w w' := by
 have HRT := mk hrt
 clear hrt
 have hu55 := Try.underlying55
 have hu27 := Try.underlying27
 have HR0_3 := mk hr0_3
 have HC0_3 := mk hc0_3
 clear hr0_3 hc0_3
 have HR1_3 := mk hr1_3
 have HC1_3 := mk hc1_3
 clear hr1_3 hc1_3
 have HB := mk (Below.refl w.heap.size w)
 have H : ((laws_eqImage.f k a0_0 a0_1 a0_2 l0_3 a1_0 a1_1 a1_2 l1_3).bind fun t45003 => (if t45003 = true then (if a0_4 = a1_4 then (if a0_5 = a1_5 then (if a0_6 = a1_6 then (if a0_7 = a1_7 then (if (a0_8 != a1_8) = true then (some false) else (some true)) else (some false)) else (some false)) else (some false)) else (some false)) else (some false))) = some r := h
 clear h
 replace H := Option.bind_eq_some_iff.mp H
 obtain ⟨t45003, A30, H⟩ := H
 replace H : (if t45003 = true then (if a0_4 = a1_4 then (if a0_5 = a1_5 then (if a0_6 = a1_6 then (if a0_7 = a1_7 then (if (a0_8 != a1_8) = true then (some false) else (some true)) else (some false)) else (some false)) else (some false)) else (some false)) else (some false)) = some r := H
 have A3 := mk A30
 clear A30
 by_cases c4 : t45003 = true
 ·subst c4
  have H1 : (if a0_4 = a1_4 then (if a0_5 = a1_5 then (if a0_6 = a1_6 then (if a0_7 = a1_7 then (if (a0_8 != a1_8) = true then (some false) else (some true)) else (some false)) else (some false)) else (some false)) else (some false)) = some r := by rw [if_pos rfl] at H; exact H
  clear H
  have H := H1
  clear H1
  by_cases c5 : a0_4 = a1_4
  ·rw [if_pos c5] at H
   have c5b0 : (a0_4 == a1_4) = true := beq_iff_eq.mpr c5
   have c5b1 : (a0_4 != a1_4) = false := bne_eq_false_iff_eq.mpr c5
   clear c5
   by_cases c6 : a0_5 = a1_5
   ·rw [if_pos c6] at H
    have c6b0 : (a0_5 == a1_5) = true := beq_iff_eq.mpr c6
    have c6b1 : (a0_5 != a1_5) = false := bne_eq_false_iff_eq.mpr c6
    clear c6
    by_cases c7 : a0_6 = a1_6
    ·rw [if_pos c7] at H
     have c7b0 : (a0_6 == a1_6) = true := beq_iff_eq.mpr c7
     have c7b1 : (a0_6 != a1_6) = false := bne_eq_false_iff_eq.mpr c7
     clear c7
     by_cases c8 : a0_7 = a1_7
     ·rw [if_pos c8] at H
      have c8b0 : (a0_7 == a1_7) = true := beq_iff_eq.mpr c8
      have c8b1 : (a0_7 != a1_7) = false := bne_eq_false_iff_eq.mpr c8
      clear c8
      by_cases c9 : (a0_8 != a1_8) = true
      ·rw [if_pos c9] at H
       have c9b0 : (a0_8 != a1_8) = true := c9
       (try (have c9b1 : decide (a0_8 = a1_8) = false := by simpa using c9))
       (try (have c9b2 : (a0_8 == a1_8) = false := by simpa using c9))
       (try (have c9b3 : ¬ (a0_8 = a1_8) := by simpa using c9))
       clear c9
       exact absurd ((Option.some.inj H).trans HRT.out) (by decide)
      ·rw [if_neg c9] at H
       have c9b0 : (a0_8 != a1_8) = false := by simpa using c9
       (try (have c9b1 : decide (a0_8 = a1_8) = true := by simpa using c9))
       (try (have c9b2 : (a0_8 == a1_8) = true := by simpa using c9))
       clear c9
       obtain rfl := Option.some.inj H
       go_enter Try.func44, Try.ntmps44
       go_wp2_with (first | ((with_reducible refine gate_dst (N := 2) rfl ?_); refine box_event ?hg (N := 2) ?hd (cs := #[.int .i64 a0_0, .int .i64 a0_1, .int .i64 a0_2, .slice A0_3 l0_3.length c0_3, .int .i64 a0_4, .int .i64 a0_5, .int .i64 a0_6, .int .i64 a0_7, .bool a0_8]) (t := 55) ?hr ?_; (case hd => rfl); (case hg => rfl); (case hr => first | (go_simp; done) | (go_simp; rfl)); intro gb45001 hg w18 hbox hb; have n0_ := mk (below_step (by repeat (first | (with_reducible first | exact HB.out | apply below_alloc | apply pw_below_drewN | apply below_drew1) | exact HB.out)) hb); have n1_ := mk (hbox); have n2_ := mk ((by rw [hg]; exact (below_size (by repeat (first | (with_reducible first | exact HB.out | apply below_alloc | apply pw_below_drewN | apply below_drew1) | exact HB.out))) : w.heap.size ≤ gb45001)); have n3_ := mk ((by rw [hg]; exact (below_size (by repeat (first | (with_reducible first | exact HB.out | apply below_alloc | apply pw_below_drewN | apply below_drew1) | exact HB.out))) : w.heap.size ≤ gb45001)); clear HB; have HB := n0_; have BK45001 := n1_; have GW45001 := n2_; have GE45001 := n3_; clear n0_ n1_ n2_ n3_; clear hb hbox hg) | ((with_reducible refine gate_dst (N := 3) rfl ?_); refine box_event ?hg (N := 3) ?hd (cs := #[.int .i64 a1_0, .int .i64 a1_1, .int .i64 a1_2, .slice A1_3 l1_3.length c1_3, .int .i64 a1_4, .int .i64 a1_5, .int .i64 a1_6, .int .i64 a1_7, .bool a1_8]) (t := 55) ?hr ?_; (case hd => rfl); (case hg => rfl); (case hr => first | (go_simp; done) | (go_simp; rfl)); intro gb45002 hg w19 hbox hb; have n0_ := mk (blk_below (g := gb45001) (o := .cells #[.int .i64 a0_0, .int .i64 a0_1, .int .i64 a0_2, .slice A0_3 l0_3.length c0_3, .int .i64 a0_4, .int .i64 a0_5, .int .i64 a0_6, .int .i64 a0_7, .bool a0_8] 55 (0, 0)) (by (with_reducible repeat (first | refine blk_drewN ?_ _ | refine blk_drew ?_ | refine blk_alloc ?_ _)); exact BK45001.out) hb); have n1_ := mk (below_step (by repeat (first | (with_reducible first | exact HB.out | apply below_alloc | apply pw_below_drewN | apply below_drew1 | refine below_set ?_ GE45001.out) | exact HB.out)) hb); have n2_ := mk (hbox); have n3_ := mk ((by rw [hg]; exact (below_size (by repeat (first | (with_reducible first | exact HB.out | apply below_alloc | apply pw_below_drewN | apply below_drew1 | refine below_set ?_ GE45001.out) | exact HB.out))) : w.heap.size ≤ gb45002)); have n4_ := mk ((by rw [hg]; exact (below_size (by repeat (first | (with_reducible first | exact HB.out | apply below_alloc | apply pw_below_drewN | apply below_drew1 | refine below_set ?_ GE45001.out) | exact HB.out))) : w.heap.size ≤ gb45002)); have n5_ := mk ((by rw [hg]; exact Nat.ne_of_lt (blk_lt (g := gb45001) (o := .cells #[.int .i64 a0_0, .int .i64 a0_1, .int .i64 a0_2, .slice A0_3 l0_3.length c0_3, .int .i64 a0_4, .int .i64 a0_5, .int .i64 a0_6, .int .i64 a0_7, .bool a0_8] 55 (0, 0)) (by (with_reducible repeat (first | refine blk_drewN ?_ _ | refine blk_drew ?_ | refine blk_alloc ?_ _)); exact BK45001.out)) : gb45001 ≠ gb45002)); have n6_ := mk ((by rw [hg]; exact Nat.ne_of_gt (blk_lt (g := gb45001) (o := .cells #[.int .i64 a0_0, .int .i64 a0_1, .int .i64 a0_2, .slice A0_3 l0_3.length c0_3, .int .i64 a0_4, .int .i64 a0_5, .int .i64 a0_6, .int .i64 a0_7, .bool a0_8] 55 (0, 0)) (by (with_reducible repeat (first | refine blk_drewN ?_ _ | refine blk_drew ?_ | refine blk_alloc ?_ _)); exact BK45001.out)) : gb45002 ≠ gb45001)); clear BK45001; clear HB; have BK45001 := n0_; have HB := n1_; have BK45002 := n2_; have GW45002 := n3_; have GE45002 := n4_; have NB45001_45002 := n5_; have NB45002_45001 := n6_; clear n0_ n1_ n2_ n3_ n4_ n5_ n6_; clear hb hbox hg; have hnb20 := NB45001_45002.out; have hnc20 := NB45002_45001.out; have hcz21_0 : w19.cell? ⟨gb45001, 0, none⟩ = some (.int .i64 a0_0) := (blk_cell BK45001.out 0).trans rfl; have hcz21_1 : w19.cell? ⟨gb45001, 1, none⟩ = some (.int .i64 a0_1) := (blk_cell BK45001.out 1).trans rfl; have hcz21_2 : w19.cell? ⟨gb45001, 2, none⟩ = some (.int .i64 a0_2) := (blk_cell BK45001.out 2).trans rfl; have hcz21_3 : w19.cell? ⟨gb45001, 3, none⟩ = some (.slice A0_3 l0_3.length c0_3) := (blk_cell BK45001.out 3).trans rfl; have hcz21_4 : w19.cell? ⟨gb45001, 4, none⟩ = some (.int .i64 a0_4) := (blk_cell BK45001.out 4).trans rfl; have hcz21_5 : w19.cell? ⟨gb45001, 5, none⟩ = some (.int .i64 a0_5) := (blk_cell BK45001.out 5).trans rfl; have hcz21_6 : w19.cell? ⟨gb45001, 6, none⟩ = some (.int .i64 a0_6) := (blk_cell BK45001.out 6).trans rfl; have hcz21_7 : w19.cell? ⟨gb45001, 7, none⟩ = some (.int .i64 a0_7) := (blk_cell BK45001.out 7).trans rfl; have hcz21_8 : w19.cell? ⟨gb45001, 8, none⟩ = some (.bool a0_8) := (blk_cell BK45001.out 8).trans rfl; have hfz21_0 := blk_frozen BK45001.out 0; have hfz21_1 := blk_frozen BK45001.out 1; have hfz21_2 := blk_frozen BK45001.out 2; have hfz21_3 := blk_frozen BK45001.out 3; have hfz21_4 := blk_frozen BK45001.out 4; have hfz21_5 := blk_frozen BK45001.out 5; have hfz21_6 := blk_frozen BK45001.out 6; have hfz21_7 := blk_frozen BK45001.out 7; have hfz21_8 := blk_frozen BK45001.out 8; have hcz22_0 : w19.cell? ⟨gb45002, 0, none⟩ = some (.int .i64 a1_0) := (blk_cell BK45002.out 0).trans rfl; have hcz22_1 : w19.cell? ⟨gb45002, 1, none⟩ = some (.int .i64 a1_1) := (blk_cell BK45002.out 1).trans rfl; have hcz22_2 : w19.cell? ⟨gb45002, 2, none⟩ = some (.int .i64 a1_2) := (blk_cell BK45002.out 2).trans rfl; have hcz22_3 : w19.cell? ⟨gb45002, 3, none⟩ = some (.slice A1_3 l1_3.length c1_3) := (blk_cell BK45002.out 3).trans rfl; have hcz22_4 : w19.cell? ⟨gb45002, 4, none⟩ = some (.int .i64 a1_4) := (blk_cell BK45002.out 4).trans rfl; have hcz22_5 : w19.cell? ⟨gb45002, 5, none⟩ = some (.int .i64 a1_5) := (blk_cell BK45002.out 5).trans rfl; have hcz22_6 : w19.cell? ⟨gb45002, 6, none⟩ = some (.int .i64 a1_6) := (blk_cell BK45002.out 6).trans rfl; have hcz22_7 : w19.cell? ⟨gb45002, 7, none⟩ = some (.int .i64 a1_7) := (blk_cell BK45002.out 7).trans rfl; have hcz22_8 : w19.cell? ⟨gb45002, 8, none⟩ = some (.bool a1_8) := (blk_cell BK45002.out 8).trans rfl; have hfz22_0 := blk_frozen BK45002.out 0; have hfz22_1 := blk_frozen BK45002.out 1; have hfz22_2 := blk_frozen BK45002.out 2; have hfz22_3 := blk_frozen BK45002.out 3; have hfz22_4 := blk_frozen BK45002.out 4; have hfz22_5 := blk_frozen BK45002.out 5; have hfz22_6 := blk_frozen BK45002.out 6; have hfz22_7 := blk_frozen BK45002.out 7; have hfz22_8 := blk_frozen BK45002.out 8) | ((with_reducible refine gate_callee (f := 24) rfl ?_); refine goesL_ (some 9) rfl rfl Try.func24 (by kernel_rfl) rfl #[.agg #[.int .i64 a0_0, .int .i64 a0_1, .int .i64 a0_2, .slice A0_3 l0_3.length c0_3], .agg #[.int .i64 a1_0, .int .i64 a1_1, .int .i64 a1_2, .slice A1_3 l1_3.length c1_3]] rfl (by (try simp only [List.map_toArray, List.map_cons, List.map_nil]); first | done | rfl | (simp only [List.length_drop, List.length_take]; rfl)) ?_; (with_reducible refine (laws_eqImage.calls k a0_0 a0_1 a0_2 _ _ l0_3 a1_0 a1_1 a1_2 _ _ l1_3 true _ ?side1 ?side2 ?side3 ?side4 A3.out rfl).mono ?_); (case side1 => repeat (first | exact (Kd.C_below HR0_3.out HB.out) | (with_reducible refine Kd.C_alloc ?_ _) | (with_reducible refine Kd.C_drewN ?_ _) | (with_reducible refine Kd.C_drew ?_))); (case side2 => exact HC0_3.out); (case side3 => repeat (first | exact (Kd.C_below HR1_3.out HB.out) | (with_reducible refine Kd.C_alloc ?_ _) | (with_reducible refine Kd.C_drewN ?_ _) | (with_reducible refine Kd.C_drew ?_))); (case side4 => exact HC1_3.out); rintro e w23 ⟨rfl, hb⟩; refine ⟨_, rfl, ?_⟩; have n0_ := mk (blk_below (g := gb45001) (o := .cells #[.int .i64 a0_0, .int .i64 a0_1, .int .i64 a0_2, .slice A0_3 l0_3.length c0_3, .int .i64 a0_4, .int .i64 a0_5, .int .i64 a0_6, .int .i64 a0_7, .bool a0_8] 55 (0, 0)) (by (with_reducible repeat (first | refine blk_drewN ?_ _ | refine blk_drew ?_ | refine blk_alloc ?_ _)); exact BK45001.out) hb); have n1_ := mk (blk_below (g := gb45002) (o := .cells #[.int .i64 a1_0, .int .i64 a1_1, .int .i64 a1_2, .slice A1_3 l1_3.length c1_3, .int .i64 a1_4, .int .i64 a1_5, .int .i64 a1_6, .int .i64 a1_7, .bool a1_8] 55 (0, 0)) (by (with_reducible repeat (first | refine blk_drewN ?_ _ | refine blk_drew ?_ | refine blk_alloc ?_ _)); exact BK45002.out) hb); have n2_ := mk (below_step (by repeat (first | (with_reducible first | exact HB.out | apply below_alloc | apply pw_below_drewN | apply below_drew1 | refine below_set ?_ GE45001.out | refine below_set ?_ GE45002.out) | exact HB.out)) hb); clear BK45001; clear BK45002; clear HB; have BK45001 := n0_; have BK45002 := n1_; have HB := n2_; clear n0_ n1_ n2_; (try clear hb); (try clear hb2); (try clear hk); (try clear hi); have hcz24_0 : w23.cell? ⟨gb45001, 0, none⟩ = some (.int .i64 a0_0) := (blk_cell BK45001.out 0).trans rfl; have hcz24_1 : w23.cell? ⟨gb45001, 1, none⟩ = some (.int .i64 a0_1) := (blk_cell BK45001.out 1).trans rfl; have hcz24_2 : w23.cell? ⟨gb45001, 2, none⟩ = some (.int .i64 a0_2) := (blk_cell BK45001.out 2).trans rfl; have hcz24_3 : w23.cell? ⟨gb45001, 3, none⟩ = some (.slice A0_3 l0_3.length c0_3) := (blk_cell BK45001.out 3).trans rfl; have hcz24_4 : w23.cell? ⟨gb45001, 4, none⟩ = some (.int .i64 a0_4) := (blk_cell BK45001.out 4).trans rfl; have hcz24_5 : w23.cell? ⟨gb45001, 5, none⟩ = some (.int .i64 a0_5) := (blk_cell BK45001.out 5).trans rfl; have hcz24_6 : w23.cell? ⟨gb45001, 6, none⟩ = some (.int .i64 a0_6) := (blk_cell BK45001.out 6).trans rfl; have hcz24_7 : w23.cell? ⟨gb45001, 7, none⟩ = some (.int .i64 a0_7) := (blk_cell BK45001.out 7).trans rfl; have hcz24_8 : w23.cell? ⟨gb45001, 8, none⟩ = some (.bool a0_8) := (blk_cell BK45001.out 8).trans rfl; have hfz24_0 := blk_frozen BK45001.out 0; have hfz24_1 := blk_frozen BK45001.out 1; have hfz24_2 := blk_frozen BK45001.out 2; have hfz24_3 := blk_frozen BK45001.out 3; have hfz24_4 := blk_frozen BK45001.out 4; have hfz24_5 := blk_frozen BK45001.out 5; have hfz24_6 := blk_frozen BK45001.out 6; have hfz24_7 := blk_frozen BK45001.out 7; have hfz24_8 := blk_frozen BK45001.out 8; have hcz25_0 : w23.cell? ⟨gb45002, 0, none⟩ = some (.int .i64 a1_0) := (blk_cell BK45002.out 0).trans rfl; have hcz25_1 : w23.cell? ⟨gb45002, 1, none⟩ = some (.int .i64 a1_1) := (blk_cell BK45002.out 1).trans rfl; have hcz25_2 : w23.cell? ⟨gb45002, 2, none⟩ = some (.int .i64 a1_2) := (blk_cell BK45002.out 2).trans rfl; have hcz25_3 : w23.cell? ⟨gb45002, 3, none⟩ = some (.slice A1_3 l1_3.length c1_3) := (blk_cell BK45002.out 3).trans rfl; have hcz25_4 : w23.cell? ⟨gb45002, 4, none⟩ = some (.int .i64 a1_4) := (blk_cell BK45002.out 4).trans rfl; have hcz25_5 : w23.cell? ⟨gb45002, 5, none⟩ = some (.int .i64 a1_5) := (blk_cell BK45002.out 5).trans rfl; have hcz25_6 : w23.cell? ⟨gb45002, 6, none⟩ = some (.int .i64 a1_6) := (blk_cell BK45002.out 6).trans rfl; have hcz25_7 : w23.cell? ⟨gb45002, 7, none⟩ = some (.int .i64 a1_7) := (blk_cell BK45002.out 7).trans rfl; have hcz25_8 : w23.cell? ⟨gb45002, 8, none⟩ = some (.bool a1_8) := (blk_cell BK45002.out 8).trans rfl; have hfz25_0 := blk_frozen BK45002.out 0; have hfz25_1 := blk_frozen BK45002.out 1; have hfz25_2 := blk_frozen BK45002.out 2; have hfz25_3 := blk_frozen BK45002.out 3; have hfz25_4 := blk_frozen BK45002.out 4; have hfz25_5 := blk_frozen BK45002.out 5; have hfz25_6 := blk_frozen BK45002.out 6; have hfz25_7 := blk_frozen BK45002.out 7; have hfz25_8 := blk_frozen BK45002.out 8))
       go_ret
       exact ⟨by first | rfl | (simp [errW_none, errW_some] <;> rfl) | (simp [*, errW_none, errW_some] <;> rfl), by repeat (first | (with_reducible first | exact HB.out | apply below_alloc | apply pw_below_drewN | apply below_drew1 | refine below_set ?_ GE45001.out | refine below_set ?_ GE45002.out) | exact HB.out)⟩
     ·rw [if_neg c8] at H
      have c8b0 : (a0_7 == a1_7) = false := beq_eq_false_iff_ne.mpr c8
      have c8b1 : (a0_7 != a1_7) = true := bne_iff_ne.mpr c8
      exact absurd ((Option.some.inj H).trans HRT.out) (by decide)
    ·rw [if_neg c7] at H
     have c7b0 : (a0_6 == a1_6) = false := beq_eq_false_iff_ne.mpr c7
     have c7b1 : (a0_6 != a1_6) = true := bne_iff_ne.mpr c7
     exact absurd ((Option.some.inj H).trans HRT.out) (by decide)
   ·rw [if_neg c6] at H
    have c6b0 : (a0_5 == a1_5) = false := beq_eq_false_iff_ne.mpr c6
    have c6b1 : (a0_5 != a1_5) = true := bne_iff_ne.mpr c6
    exact absurd ((Option.some.inj H).trans HRT.out) (by decide)
  ·rw [if_neg c5] at H
   have c5b0 : (a0_4 == a1_4) = false := beq_eq_false_iff_ne.mpr c5
   have c5b1 : (a0_4 != a1_4) = true := bne_iff_ne.mpr c5
   exact absurd ((Option.some.inj H).trans HRT.out) (by decide)
 ·replace c4 := Bool.eq_false_iff.mpr c4
  subst c4
  have H1 : (some false) = some r := by rw [if_neg (show ¬ (false = true) by decide)] at H; exact H
  clear H
  have H := H1
  clear H1
  exact absurd ((Option.some.inj H).trans HRT.out) (by decide)


def laws_eqLayerS.l0 : Nat → List (S55) → List (S55) → Int → Option (Bool)
 | 0, _, _, _ => none
 | k + 1, x0, x1, x5 => if x5 < (x0.length : Int) then (if 0 ≤ x5 then (if x5 < (x1.length : Int) then ((laws_eqLayer.f k ((rd_T55 x0 x5).f0.f0) ((rd_T55 x0 x5).f0.f1) ((rd_T55 x0 x5).f0.f2) ((rd_T55 x0 x5).f0.f3) ((rd_T55 x0 x5).f1) ((rd_T55 x0 x5).f2) ((rd_T55 x0 x5).f3) ((rd_T55 x0 x5).f4) ((rd_T55 x0 x5).f5) ((rd_T55 x1 x5).f0.f0) ((rd_T55 x1 x5).f0.f1) ((rd_T55 x1 x5).f0.f2) ((rd_T55 x1 x5).f0.f3) ((rd_T55 x1 x5).f1) ((rd_T55 x1 x5).f2) ((rd_T55 x1 x5).f3) ((rd_T55 x1 x5).f4) ((rd_T55 x1 x5).f5)).bind fun t69003 => (if t69003 = true then (laws_eqLayerS.l0 k x0 x1 (wrap64 (x5 + 1))) else (some false))) else (none)) else (none)) else (some true)
def laws_eqLayerS.f (k : Nat) (l0 : List (S55)) (l1 : List (S55)) : Option (Bool) := if (l0.length : Int) = (l1.length : Int) then (laws_eqLayerS.l0 k l0 l1 0) else (some false)
theorem laws_eqLayerS.mono_l : ∀ k, (∀ y0 y1 y2, LeO (laws_eqLayerS.l0 k y0 y1 y2) (laws_eqLayerS.l0 (k + 1) y0 y1 y2))
 | 0 => fun _ _ _ r h => by simp [laws_eqLayerS.l0] at h
 | k + 1 => by
  have ih0 := laws_eqLayerS.mono_l k
  ·intro y0 y1 y2
   unfold laws_eqLayerS.l0
   repeat' first
   | (with_reducible exact ih0 _ _ _)
   | (with_reducible exact laws_eqLayer.mono _ _ _ _ _ _ _ _ _ _ _ _ _ _ _ _ _ _ _)
   | (with_reducible exact LeO.refl _)
   | (with_reducible exact LeO.none _)
   | (with_reducible refine LeO.ite ?_ ?_)
   | (with_reducible refine LeO.bind ?_ (fun _ => ?_))
   | exact ih0 _ _ _
   | exact laws_eqLayer.mono _ _ _ _ _ _ _ _ _ _ _ _ _ _ _ _ _ _ _
   | exact LeO.none _
   | refine LeO.ite ?_ ?_
   | refine LeO.bind ?_ (fun _ => ?_)
theorem laws_eqLayerS.mono : ∀ a0 a1 k, LeO (laws_eqLayerS.f k a0 a1) (laws_eqLayerS.f (k + 1) a0 a1) := by
 intro a0 a1 k
 have ih0 := laws_eqLayerS.mono_l k
 unfold laws_eqLayerS.f
 repeat' first
   | (with_reducible exact ih0 _ _ _)
   | (with_reducible exact laws_eqLayer.mono _ _ _ _ _ _ _ _ _ _ _ _ _ _ _ _ _ _ _)
   | (with_reducible exact LeO.refl _)
   | (with_reducible exact LeO.none _)
   | (with_reducible refine LeO.ite ?_ ?_)
   | (with_reducible refine LeO.bind ?_ (fun _ => ?_))
   | exact ih0 _ _ _
   | exact laws_eqLayer.mono _ _ _ _ _ _ _ _ _ _ _ _ _ _ _ _ _ _ _
   | exact LeO.none _
   | refine LeO.ite ?_ ?_
   | refine LeO.bind ?_ (fun _ => ?_)
def laws_eqLayerS.T6 : Bool × List (List Nat × List Nat) := (true, [([], []), ([], []), ([0, 1], [0, 1]), ([2], [2]), ([], []), ([], []), ([4, 5], [4, 5]), ([6], [6]), ([3, 7], [3, 7]), ([8], [8])])
def laws_eqLayerS.B6 : List Nat := [0, 0, 3, 7, 0, 0, 48, 112, 255, 511]
theorem laws_eqLayerS.tab6 : rtab .any (opsOf Try.f68 6) = laws_eqLayerS.T6 := by kernel_rfl
theorem laws_eqLayerS.bits6 : waitsOk laws_eqLayerS.T6.2 laws_eqLayerS.B6 = true := by kernel_rfl
set_option maxHeartbeats 8000000 in
set_option maxRecDepth 100000 in
theorem laws_eqLayerS.calls (k : Nat) (A0 : Option Addr) (c0 : Nat) (l0 : List (S55)) (A1 : Option Addr) (c1 : Nat) (l1 : List (S55)) (r : Bool) (w : World) (hr0 : Kd.C k55 w A0 l0.length l0) (hc0 : l0.length ≤ c0) (hr1 : Kd.C k55 w A1 l1.length l1) (hc1 : l1.length ≤ c1) (h : laws_eqLayerS.f k l0 l1 = some r) (hrt : r = true) :
  Calls Try.prog 68 #[.slice A0 l0.length c0, .slice A1 l1.length c1] w fun e w' => e = .returned (.bool r) ∧ Below w.heap.size w w' := by
 have HRT := mk hrt
 clear hrt
 have hu55 := Try.underlying55
 have HR0 := mk hr0
 have HC0 := mk hc0
 clear hr0 hc0
 have HR1 := mk hr1
 have HC1 := mk hc1
 clear hr1 hc1
 have HB := mk (Below.refl w.heap.size w)
 have H : (if (l0.length : Int) = (l1.length : Int) then (laws_eqLayerS.l0 k l0 l1 0) else (some false)) = some r := h
 clear h
 by_cases c3 : (l0.length : Int) = (l1.length : Int)
 ·rw [if_pos c3] at H
  have c3b0 : ((l0.length : Int) == (l1.length : Int)) = true := beq_iff_eq.mpr c3
  have c3b1 : ((l0.length : Int) != (l1.length : Int)) = false := bne_eq_false_iff_eq.mpr c3
  have c3b2 : (l0.length == l1.length) = true := by first | simpa using c3 | (simp at c3 ⊢; omega)
  clear c3
  have H' := mk H
  clear H
  go_enter Try.func68, Try.ntmps68
  go_wp2
  go_loopg [5] k (fun kq v5 w' => ∃ (x5_1 : Int), v5 = .int .i64 x5_1 ∧ Aside0 (laws_eqLayerS.l0 kq l0 l1 x5_1 = some r) ∧ Aside0 (kq ≤ k) ∧ Aside0 (Below w.heap.size w w'))
  case atStart => exact ⟨(0), (by first | rfl | (simp; done) | (simp [*]; done)), H', ⟨Nat.le_refl _⟩, ⟨by repeat (first | (with_reducible first | exact HB.out | apply below_alloc | apply pw_below_drewN | apply below_drew1) | exact HB.out)⟩⟩
  case round =>
   clear H'
   try clear c1
   try clear p2
   try clear c3
   try clear c3b0
   try clear c3b1
   try clear c3b2
   obtain ⟨x5_1, rfl, HA, HK1, HB⟩ := hrel
   cases gk with
   | zero => exact absurd HA.out (by simp [laws_eqLayerS.l0])
   | succ k1 =>
    have H := HA.out
    clear HA
    simp only [laws_eqLayerS.l0] at H
    by_cases c4 : x5_1 < (l0.length : Int)
    ·rw [if_pos c4] at H
     have c4b0 : decide (x5_1 < (l0.length : Int)) = true := decide_eq_true c4
     clear c4
     by_cases c5 : 0 ≤ x5_1
     ·rw [if_pos c5] at H
      have c5b0 : decide (0 ≤ x5_1) = true := decide_eq_true c5
      clear c5
      by_cases c6 : x5_1 < (l1.length : Int)
      ·rw [if_pos c6] at H
       have c6b0 : decide (x5_1 < (l1.length : Int)) = true := decide_eq_true c6
       clear c6
       replace H := Option.bind_eq_some_iff.mp H
       obtain ⟨t69003, A70, H⟩ := H
       replace H : (if t69003 = true then (laws_eqLayerS.l0 k1 l0 l1 (wrap64 (x5_1 + 1))) else (some false)) = some r := H
       have A7 := mk A70
       clear A70
       by_cases c8 : t69003 = true
       ·subst c8
        have H1 : (laws_eqLayerS.l0 k1 l0 l1 (wrap64 (x5_1 + 1))) = some r := by rw [if_pos rfl] at H; exact H
        clear H
        have H := H1
        clear H1
        have H' := mk H
        clear H
        try go_wp2
        have n0_ := mk (below_drew1 HB.out)
        clear HB
        have HB := n0_
        clear n0_
        have p69001 : 0 ≤ (x5_1 : Int) := of_decide_eq_true (by first | (with_reducible assumption) | assumption)
        have q69001 : x5_1 < (l0.length : Int) := of_decide_eq_true (by first | (with_reducible assumption) | assumption)
        obtain ⟨ad69001, A69001_3, c69001_3, e69001, hx69001_0, hx69001_1, hx69001_2, hx69001_3, hx69001_4, hx69001_5, hx69001_6, hx69001_7, hx69001_8, hl69001_3, hi69001_3⟩ := at_T55 HR0.out x5_1 p69001 q69001
        have hw69001_8 := hx69001_8
        have hw69001_7 := hx69001_7
        have hw69001_6 := hx69001_6
        have hw69001_5 := hx69001_5
        have hw69001_4 := hx69001_4
        have hw69001_3 := hx69001_3
        have hw69001_2 := hx69001_2
        have hw69001_1 := hx69001_1
        have hw69001_0 := hx69001_0
        cases e69001
        replace hx69001_0 := (HB.out.cell (World.block_lt_of_cell? w _ hx69001_0)).trans hx69001_0
        replace hx69001_1 := (HB.out.cell (World.block_lt_of_cell? w _ hx69001_1)).trans hx69001_1
        replace hx69001_2 := (HB.out.cell (World.block_lt_of_cell? w _ hx69001_2)).trans hx69001_2
        replace hx69001_3 := (HB.out.cell (World.block_lt_of_cell? w _ hx69001_3)).trans hx69001_3
        replace hx69001_4 := (HB.out.cell (World.block_lt_of_cell? w _ hx69001_4)).trans hx69001_4
        replace hx69001_5 := (HB.out.cell (World.block_lt_of_cell? w _ hx69001_5)).trans hx69001_5
        replace hx69001_6 := (HB.out.cell (World.block_lt_of_cell? w _ hx69001_6)).trans hx69001_6
        replace hx69001_7 := (HB.out.cell (World.block_lt_of_cell? w _ hx69001_7)).trans hx69001_7
        replace hx69001_8 := (HB.out.cell (World.block_lt_of_cell? w _ hx69001_8)).trans hx69001_8
        have HR69001_3 := mk hi69001_3
        have HC69001_3 := mk hl69001_3
        clear hi69001_3 hl69001_3
        replace p69001 := eq_true p69001
        replace q69001 := eq_true q69001
        have p69002 : 0 ≤ (x5_1 : Int) := of_decide_eq_true (by first | (with_reducible assumption) | assumption)
        have q69002 : x5_1 < (l1.length : Int) := of_decide_eq_true (by first | (with_reducible assumption) | assumption)
        obtain ⟨ad69002, A69002_3, c69002_3, e69002, hx69002_0, hx69002_1, hx69002_2, hx69002_3, hx69002_4, hx69002_5, hx69002_6, hx69002_7, hx69002_8, hl69002_3, hi69002_3⟩ := at_T55 HR1.out x5_1 p69002 q69002
        have hw69002_8 := hx69002_8
        have hw69002_7 := hx69002_7
        have hw69002_6 := hx69002_6
        have hw69002_5 := hx69002_5
        have hw69002_4 := hx69002_4
        have hw69002_3 := hx69002_3
        have hw69002_2 := hx69002_2
        have hw69002_1 := hx69002_1
        have hw69002_0 := hx69002_0
        cases e69002
        replace hx69002_0 := (HB.out.cell (World.block_lt_of_cell? w _ hx69002_0)).trans hx69002_0
        replace hx69002_1 := (HB.out.cell (World.block_lt_of_cell? w _ hx69002_1)).trans hx69002_1
        replace hx69002_2 := (HB.out.cell (World.block_lt_of_cell? w _ hx69002_2)).trans hx69002_2
        replace hx69002_3 := (HB.out.cell (World.block_lt_of_cell? w _ hx69002_3)).trans hx69002_3
        replace hx69002_4 := (HB.out.cell (World.block_lt_of_cell? w _ hx69002_4)).trans hx69002_4
        replace hx69002_5 := (HB.out.cell (World.block_lt_of_cell? w _ hx69002_5)).trans hx69002_5
        replace hx69002_6 := (HB.out.cell (World.block_lt_of_cell? w _ hx69002_6)).trans hx69002_6
        replace hx69002_7 := (HB.out.cell (World.block_lt_of_cell? w _ hx69002_7)).trans hx69002_7
        replace hx69002_8 := (HB.out.cell (World.block_lt_of_cell? w _ hx69002_8)).trans hx69002_8
        have HR69002_3 := mk hi69002_3
        have HC69002_3 := mk hl69002_3
        clear hi69002_3 hl69002_3
        replace p69002 := eq_true p69002
        replace q69002 := eq_true q69002
        refine start_ (n := 10) (S := fun w' => w'.cell? (ad69001.add ((x5_1).toNat * 9)) = some (.int .i64 ((rd_T55 l0 x5_1).f0.f0)) ∧ w'.cell? ⟨(ad69001.add ((x5_1).toNat * 9)).block, (ad69001.add ((x5_1).toNat * 9)).off + 1, none⟩ = some (.int .i64 ((rd_T55 l0 x5_1).f0.f1)) ∧ w'.cell? ⟨(ad69001.add ((x5_1).toNat * 9)).block, (ad69001.add ((x5_1).toNat * 9)).off + 2, none⟩ = some (.int .i64 ((rd_T55 l0 x5_1).f0.f2)) ∧ w'.cell? ⟨(ad69001.add ((x5_1).toNat * 9)).block, (ad69001.add ((x5_1).toNat * 9)).off + 3, none⟩ = some (.slice A69001_3 ((rd_T55 l0 x5_1).f0.f3).length c69001_3) ∧ w'.cell? ⟨(ad69001.add ((x5_1).toNat * 9)).block, (ad69001.add ((x5_1).toNat * 9)).off + 4, none⟩ = some (.int .i64 ((rd_T55 l0 x5_1).f1)) ∧ w'.cell? ⟨(ad69001.add ((x5_1).toNat * 9)).block, (ad69001.add ((x5_1).toNat * 9)).off + 5, none⟩ = some (.int .i64 ((rd_T55 l0 x5_1).f2)) ∧ w'.cell? ⟨(ad69001.add ((x5_1).toNat * 9)).block, (ad69001.add ((x5_1).toNat * 9)).off + 6, none⟩ = some (.int .i64 ((rd_T55 l0 x5_1).f3)) ∧ w'.cell? ⟨(ad69001.add ((x5_1).toNat * 9)).block, (ad69001.add ((x5_1).toNat * 9)).off + 7, none⟩ = some (.int .i64 ((rd_T55 l0 x5_1).f4)) ∧ w'.cell? ⟨(ad69001.add ((x5_1).toNat * 9)).block, (ad69001.add ((x5_1).toNat * 9)).off + 8, none⟩ = some (.bool ((rd_T55 l0 x5_1).f5)) ∧ w'.cell? (ad69002.add ((x5_1).toNat * 9)) = some (.int .i64 ((rd_T55 l1 x5_1).f0.f0)) ∧ w'.cell? ⟨(ad69002.add ((x5_1).toNat * 9)).block, (ad69002.add ((x5_1).toNat * 9)).off + 1, none⟩ = some (.int .i64 ((rd_T55 l1 x5_1).f0.f1)) ∧ w'.cell? ⟨(ad69002.add ((x5_1).toNat * 9)).block, (ad69002.add ((x5_1).toNat * 9)).off + 2, none⟩ = some (.int .i64 ((rd_T55 l1 x5_1).f0.f2)) ∧ w'.cell? ⟨(ad69002.add ((x5_1).toNat * 9)).block, (ad69002.add ((x5_1).toNat * 9)).off + 3, none⟩ = some (.slice A69002_3 ((rd_T55 l1 x5_1).f0.f3).length c69002_3) ∧ w'.cell? ⟨(ad69002.add ((x5_1).toNat * 9)).block, (ad69002.add ((x5_1).toNat * 9)).off + 4, none⟩ = some (.int .i64 ((rd_T55 l1 x5_1).f1)) ∧ w'.cell? ⟨(ad69002.add ((x5_1).toNat * 9)).block, (ad69002.add ((x5_1).toNat * 9)).off + 5, none⟩ = some (.int .i64 ((rd_T55 l1 x5_1).f2)) ∧ w'.cell? ⟨(ad69002.add ((x5_1).toNat * 9)).block, (ad69002.add ((x5_1).toNat * 9)).off + 6, none⟩ = some (.int .i64 ((rd_T55 l1 x5_1).f3)) ∧ w'.cell? ⟨(ad69002.add ((x5_1).toNat * 9)).block, (ad69002.add ((x5_1).toNat * 9)).off + 7, none⟩ = some (.int .i64 ((rd_T55 l1 x5_1).f4)) ∧ w'.cell? ⟨(ad69002.add ((x5_1).toNat * 9)).block, (ad69002.add ((x5_1).toNat * 9)).off + 8, none⟩ = some (.bool ((rd_T55 l1 x5_1).f5))) (ds := []) #[false, false, false, false, false, false, false, false, false, false] (by kernel_rfl) rfl rfl ⟨((HB.out.cell (World.block_lt_of_cell? w _ hw69001_0)).trans hw69001_0), ((HB.out.cell (World.block_lt_of_cell? w _ hw69001_1)).trans hw69001_1), ((HB.out.cell (World.block_lt_of_cell? w _ hw69001_2)).trans hw69001_2), ((HB.out.cell (World.block_lt_of_cell? w _ hw69001_3)).trans hw69001_3), ((HB.out.cell (World.block_lt_of_cell? w _ hw69001_4)).trans hw69001_4), ((HB.out.cell (World.block_lt_of_cell? w _ hw69001_5)).trans hw69001_5), ((HB.out.cell (World.block_lt_of_cell? w _ hw69001_6)).trans hw69001_6), ((HB.out.cell (World.block_lt_of_cell? w _ hw69001_7)).trans hw69001_7), ((HB.out.cell (World.block_lt_of_cell? w _ hw69001_8)).trans hw69001_8), ((HB.out.cell (World.block_lt_of_cell? w _ hw69002_0)).trans hw69002_0), ((HB.out.cell (World.block_lt_of_cell? w _ hw69002_1)).trans hw69002_1), ((HB.out.cell (World.block_lt_of_cell? w _ hw69002_2)).trans hw69002_2), ((HB.out.cell (World.block_lt_of_cell? w _ hw69002_3)).trans hw69002_3), ((HB.out.cell (World.block_lt_of_cell? w _ hw69002_4)).trans hw69002_4), ((HB.out.cell (World.block_lt_of_cell? w _ hw69002_5)).trans hw69002_5), ((HB.out.cell (World.block_lt_of_cell? w _ hw69002_6)).trans hw69002_6), ((HB.out.cell (World.block_lt_of_cell? w _ hw69002_7)).trans hw69002_7), ((HB.out.cell (World.block_lt_of_cell? w _ hw69002_8)).trans hw69002_8)⟩ (fun hHeld => ?_); refine with_tabW laws_eqLayerS.tab6 laws_eqLayerS.bits6 (fun HT_ HW_ => ?_)
        generalize wr.drew = w9 at HB HR69001_3 HR69002_3 hx69001_0 hx69001_1 hx69001_2 hx69001_3 hx69001_4 hx69001_5 hx69001_6 hx69001_7 hx69001_8 hx69002_0 hx69002_1 hx69002_2 hx69002_3 hx69002_4 hx69002_5 hx69002_6 hx69002_7 hx69002_8 hHeld ⊢
        refine pure_ (i := 0) (N := some 17) (v := ?_) (a' := ?_) #[true, false, false, false, false, false, false, false, false, false] rfl rfl (any_of HT_.out (by kernel_rfl)) (fun _ _ _ h => h) (Or.inl ⟨by rfl, ?_⟩) ?_ ?_
        rotate_left
        ·intro w'
         go_simp
         with_reducible rfl
        rotate_left
        ·simp only [Act.put, List.setIfInBounds_toArray, List.set_cons_zero, List.set_cons_succ, i64_w, i32_w]
         rfl
        refine pure_ (i := 1) (N := some 18) (v := ?_) (a' := ?_) #[true, true, false, false, false, false, false, false, false, false] rfl rfl (any_of HT_.out (by kernel_rfl)) (fun _ _ _ h => h) (Or.inl ⟨by rfl, ?_⟩) ?_ ?_
        rotate_left
        ·intro w'
         go_simp
         with_reducible rfl
        rotate_left
        ·simp only [Act.put, List.setIfInBounds_toArray, List.set_cons_zero, List.set_cons_succ, i64_w, i32_w]
         rfl
        refine pure_ (i := 2) (N := some 19) (v := ?_) (a' := ?_) #[true, true, true, false, false, false, false, false, false, false] rfl rfl (any_of HT_.out (by kernel_rfl)) (fun _ _ _ h => h) (Or.inl ⟨by rfl, ?_⟩) ?_ ?_
        rotate_left
        ·intro w'
         go_simp
         with_reducible rfl
        rotate_left
        ·simp only [Act.put, List.setIfInBounds_toArray, List.set_cons_zero, List.set_cons_succ, i64_w, i32_w]
         rfl
        refine pure_ (i := 4) (N := some 21) (v := ?_) (a' := ?_) #[true, true, true, false, true, false, false, false, false, false] rfl rfl (any_of HT_.out (by kernel_rfl)) (fun _ _ _ h => h) (Or.inl ⟨by rfl, ?_⟩) ?_ ?_
        rotate_left
        ·intro w'
         go_simp
         with_reducible rfl
        rotate_left
        ·simp only [Act.put, List.setIfInBounds_toArray, List.set_cons_zero, List.set_cons_succ, i64_w, i32_w]
         rfl
        refine pure_ (i := 5) (N := some 22) (v := ?_) (a' := ?_) #[true, true, true, false, true, true, false, false, false, false] rfl rfl (any_of HT_.out (by kernel_rfl)) (fun _ _ _ h => h) (Or.inl ⟨by rfl, ?_⟩) ?_ ?_
        rotate_left
        ·intro w'
         go_simp
         with_reducible rfl
        rotate_left
        ·simp only [Act.put, List.setIfInBounds_toArray, List.set_cons_zero, List.set_cons_succ, i64_w, i32_w]
         rfl
        refine pure_ (i := 6) (N := some 23) (v := ?_) (a' := ?_) #[true, true, true, false, true, true, true, false, false, false] rfl rfl (any_of HT_.out (by kernel_rfl)) (fun _ _ _ h => h) (Or.inl ⟨by rfl, ?_⟩) ?_ ?_
        rotate_left
        ·intro w'
         go_simp
         with_reducible rfl
        rotate_left
        ·simp only [Act.put, List.setIfInBounds_toArray, List.set_cons_zero, List.set_cons_succ, i64_w, i32_w]
         rfl
        refine take_ (i := 3) (N := some 20) (v := ?_) (a' := ?_) #[true, true, true, true, true, true, true, false, false, false] rfl rfl (take_ofW HT_.out HW_.out (by kernel_rfl)) (fun _ _ _ h => h) (Or.inl ⟨by rfl, ?_⟩) hHeld ?_ ?_
        rotate_left
        ·rintro w' ⟨s0, s1, s2, s3, s4, s5, s6, s7, s8, s9, s10, s11, s12, s13, s14, s15, s16, s17⟩
         go_simp
         with_reducible rfl
        rotate_left
        ·simp only [Act.put, List.setIfInBounds_toArray, List.set_cons_zero, List.set_cons_succ, i64_w, i32_w]
         rfl
        refine take_ (i := 7) (N := some 24) (v := ?_) (a' := ?_) #[true, true, true, true, true, true, true, true, false, false] rfl rfl (take_ofW HT_.out HW_.out (by kernel_rfl)) (fun _ _ _ h => h) (Or.inl ⟨by rfl, ?_⟩) hHeld ?_ ?_
        rotate_left
        ·rintro w' ⟨s0, s1, s2, s3, s4, s5, s6, s7, s8, s9, s10, s11, s12, s13, s14, s15, s16, s17⟩
         go_simp
         with_reducible rfl
        rotate_left
        ·simp only [Act.put, List.setIfInBounds_toArray, List.set_cons_zero, List.set_cons_succ, i64_w, i32_w]
         rfl
        refine one_ (i := 8) (N := some 25) #[true, true, true, true, true, true, true, true, true, false] rfl rfl (one_of HT_.out (by kernel_rfl)) (by decide) (fun K hK => ?_)
        refine goes_ Try.func44 (by kernel_rfl) rfl #[.agg #[.int .i64 ((rd_T55 l0 x5_1).f0.f0), .int .i64 ((rd_T55 l0 x5_1).f0.f1), .int .i64 ((rd_T55 l0 x5_1).f0.f2), .slice A69001_3 ((rd_T55 l0 x5_1).f0.f3).length c69001_3, .int .i64 ((rd_T55 l0 x5_1).f1), .int .i64 ((rd_T55 l0 x5_1).f2), .int .i64 ((rd_T55 l0 x5_1).f3), .int .i64 ((rd_T55 l0 x5_1).f4), .bool ((rd_T55 l0 x5_1).f5)], .agg #[.int .i64 ((rd_T55 l1 x5_1).f0.f0), .int .i64 ((rd_T55 l1 x5_1).f0.f1), .int .i64 ((rd_T55 l1 x5_1).f0.f2), .slice A69002_3 ((rd_T55 l1 x5_1).f0.f3).length c69002_3, .int .i64 ((rd_T55 l1 x5_1).f1), .int .i64 ((rd_T55 l1 x5_1).f2), .int .i64 ((rd_T55 l1 x5_1).f3), .int .i64 ((rd_T55 l1 x5_1).f4), .bool ((rd_T55 l1 x5_1).f5)]] (by rfl) rfl rfl (by (try simp only [List.map_toArray, List.map_cons, List.map_nil]); first | done | rfl | (simp only [List.length_drop, List.length_take]; rfl)) ?_
        with_reducible refine (laws_eqLayer.calls k1 ((rd_T55 l0 x5_1).f0.f0) ((rd_T55 l0 x5_1).f0.f1) ((rd_T55 l0 x5_1).f0.f2) _ _ ((rd_T55 l0 x5_1).f0.f3) ((rd_T55 l0 x5_1).f1) ((rd_T55 l0 x5_1).f2) ((rd_T55 l0 x5_1).f3) ((rd_T55 l0 x5_1).f4) ((rd_T55 l0 x5_1).f5) ((rd_T55 l1 x5_1).f0.f0) ((rd_T55 l1 x5_1).f0.f1) ((rd_T55 l1 x5_1).f0.f2) _ _ ((rd_T55 l1 x5_1).f0.f3) ((rd_T55 l1 x5_1).f1) ((rd_T55 l1 x5_1).f2) ((rd_T55 l1 x5_1).f3) ((rd_T55 l1 x5_1).f4) ((rd_T55 l1 x5_1).f5) true _ ?side1 ?side2 ?side3 ?side4 A7.out rfl).mono ?_
        (case side1 => repeat (first | exact (Kd.C_below HR69001_3.out HB.out) | (with_reducible refine Kd.C_alloc ?_ _) | (with_reducible refine Kd.C_drewN ?_ _) | (with_reducible refine Kd.C_drew ?_)))
        (case side2 => exact HC69001_3.out)
        (case side3 => repeat (first | exact (Kd.C_below HR69002_3.out HB.out) | (with_reducible refine Kd.C_alloc ?_ _) | (with_reducible refine Kd.C_drewN ?_ _) | (with_reducible refine Kd.C_drew ?_)))
        (case side4 => exact HC69002_3.out)
        rintro e w10 ⟨rfl, hb⟩
        refine ⟨_, rfl, ?_⟩
        have n0_ := mk (below_step (by repeat (first | (with_reducible first | exact HB.out | apply below_alloc | apply pw_below_drewN | apply below_drew1) | exact HB.out)) hb)
        clear HB
        have HB := n0_
        clear n0_
        (try clear hb)
        (try clear hb2)
        (try clear hk)
        (try clear hi)
        refine hK.out _ _ ⟨((HB.out.cell (World.block_lt_of_cell? w _ hw69001_0)).trans hw69001_0), ((HB.out.cell (World.block_lt_of_cell? w _ hw69001_1)).trans hw69001_1), ((HB.out.cell (World.block_lt_of_cell? w _ hw69001_2)).trans hw69001_2), ((HB.out.cell (World.block_lt_of_cell? w _ hw69001_3)).trans hw69001_3), ((HB.out.cell (World.block_lt_of_cell? w _ hw69001_4)).trans hw69001_4), ((HB.out.cell (World.block_lt_of_cell? w _ hw69001_5)).trans hw69001_5), ((HB.out.cell (World.block_lt_of_cell? w _ hw69001_6)).trans hw69001_6), ((HB.out.cell (World.block_lt_of_cell? w _ hw69001_7)).trans hw69001_7), ((HB.out.cell (World.block_lt_of_cell? w _ hw69001_8)).trans hw69001_8), ((HB.out.cell (World.block_lt_of_cell? w _ hw69002_0)).trans hw69002_0), ((HB.out.cell (World.block_lt_of_cell? w _ hw69002_1)).trans hw69002_1), ((HB.out.cell (World.block_lt_of_cell? w _ hw69002_2)).trans hw69002_2), ((HB.out.cell (World.block_lt_of_cell? w _ hw69002_3)).trans hw69002_3), ((HB.out.cell (World.block_lt_of_cell? w _ hw69002_4)).trans hw69002_4), ((HB.out.cell (World.block_lt_of_cell? w _ hw69002_5)).trans hw69002_5), ((HB.out.cell (World.block_lt_of_cell? w _ hw69002_6)).trans hw69002_6), ((HB.out.cell (World.block_lt_of_cell? w _ hw69002_7)).trans hw69002_7), ((HB.out.cell (World.block_lt_of_cell? w _ hw69002_8)).trans hw69002_8)⟩ (fun hHeld => ?_)
        clear hK K
        refine norm_ (a' := ?_) ?_ ?_
        rotate_left
        ·show Act.put _ (some 25) _ = _
         simp only [Act.put, List.setIfInBounds_toArray, List.set_cons_zero, List.set_cons_succ, i64_w, i32_w]
         rfl
        refine pure_ (i := 9) (N := some 26) (v := ?_) (a' := ?_) #[true, true, true, true, true, true, true, true, true, true] rfl rfl (any_of HT_.out (by kernel_rfl)) (fun _ _ _ h => h) (Or.inl ⟨by rfl, ?_⟩) ?_ ?_
        rotate_left
        ·intro w'
         go_simp
         with_reducible rfl
        rotate_left
        ·simp only [Act.put, List.setIfInBounds_toArray, List.set_cons_zero, List.set_cons_succ, i64_w, i32_w]
         rfl
        refine done_ (done_of HT_.out (by kernel_rfl)) ?_
        try go_wp2
        go_roundg k1
        case measure => have := HK1.out; omega
        case rel => exact ⟨(wrap64 (x5_1 + 1)), (by first | rfl | (simp; done) | (simp [*]; done)), H', ⟨by have := HK1.out; omega⟩, ⟨by repeat (first | (with_reducible first | exact HB.out | apply below_alloc | apply pw_below_drewN | apply below_drew1) | exact HB.out)⟩⟩
       ·replace c8 := Bool.eq_false_iff.mpr c8
        subst c8
        have H1 : (some false) = some r := by rw [if_neg (show ¬ (false = true) by decide)] at H; exact H
        clear H
        have H := H1
        clear H1
        exact absurd ((Option.some.inj H).trans HRT.out) (by decide)
      ·rw [if_neg c6] at H
       exact absurd H (by simp)
     ·rw [if_neg c5] at H
      exact absurd H (by simp)
    ·rw [if_neg c4] at H
     have c4b0 : decide (x5_1 < (l0.length : Int)) = false := decide_eq_false c4
     clear c4
     obtain rfl := Option.some.inj H
     go_wp2
     go_ret
     exact ⟨by first | rfl | (simp [errW_none, errW_some] <;> rfl) | (simp [*, errW_none, errW_some] <;> rfl), by repeat (first | (with_reducible first | exact HB.out | apply below_alloc | apply pw_below_drewN | apply below_drew1) | exact HB.out)⟩
 ·rw [if_neg c3] at H
  have c3b0 : ((l0.length : Int) == (l1.length : Int)) = false := beq_eq_false_iff_ne.mpr c3
  have c3b1 : ((l0.length : Int) != (l1.length : Int)) = true := bne_iff_ne.mpr c3
  have c3b2 : (l0.length == l1.length) = false := by first | simpa using c3 | (simp at c3 ⊢; omega)
  exact absurd ((Option.some.inj H).trans HRT.out) (by decide)


/- Numbers written into every place of a row whose elements lead to rows (LayerS). -/

def laws_markLayerS.l0 : Nat → List (S55) → Int → Int → Option (Int × List (S55))
 | 0, _, _, _ => none
 | k + 1, x0, x1, x5 => if x5 < (x0.length : Int) then (if 0 ≤ x5 then ((laws_markIntS.f k (rd_T55 x0 x5).f0.f3 (wrap64 ((wrap64 ((wrap64 (x1 + 1)) + 1)) + 1))).bind fun bt => laws_markLayerS.l0 k (x0.set (x5 : Int).toNat (⟨⟨x1, (wrap64 (x1 + 1)), (wrap64 ((wrap64 (x1 + 1)) + 1)), bt.2⟩, bt.1, (wrap64 (bt.1 + 1)), (wrap64 ((wrap64 (bt.1 + 1)) + 1)), (wrap64 ((wrap64 ((wrap64 (bt.1 + 1)) + 1)) + 1)), (Int.tmod (wrap64 ((wrap64 ((wrap64 ((wrap64 (bt.1 + 1)) + 1)) + 1)) + 1)) 3 == 0)⟩ : S55)) (wrap64 ((wrap64 ((wrap64 ((wrap64 ((wrap64 (bt.1 + 1)) + 1)) + 1)) + 1)) + 1)) (wrap64 (x5 + 1))) else none) else some (x1, x0)
def laws_markLayerS.f (k : Nat) (l0 : List (S55)) (a1 : Int) : Option (Int × List (S55)) := laws_markLayerS.l0 k l0 a1 0
set_option maxHeartbeats 8000000 in
set_option maxRecDepth 100000 in
theorem laws_markLayerS.calls (k : Nat) (P0_ : Nat → Prop) (u9000_ : Value) (l0 : List (S55)) (a1 : Int) (r1 : Int) (r2 : List (S55)) (w0 w : World) (hB : Below w0.heap.size w0 w) (ho0 : Kd.S k55 55 w w0.heap.size (fun k_ => P0_ k_) u9000_ l0) (h : laws_markLayerS.f k l0 a1 = some (r1, r2)) :
  Calls Try.prog 69 #[u9000_, .int .i64 a1] w fun e w' => e = .returned (.int .i64 r1) ∧ Kd.S k55 55 w' w0.heap.size (fun k_ => (P0_ k_ ∨ w.heap.size ≤ k_)) u9000_ r2 ∧ Below w0.heap.size w0 w' ∧ Kept w w' (fun k_ => P0_ k_) := by
 have HO := mk ho0
 have HK := mk (Kept.refl w (fun k_ => P0_ k_))
 have HB := mk hB
 have H' := mk (show laws_markLayerS.l0 k l0 a1 0 = some (r1, r2) from h)
 clear h ho0 hB
 go_enter Try.func69, Try.ntmps69
 go_wp2
 go_loopg [1, 5] k (fun kq v1 v5 w' => ∃ (x0_1 : List (S55)) (x1_1 : Int) (x5_1 : Int), v1 = .int .i64 x1_1 ∧ v5 = .int .i64 x5_1 ∧ Aside0 (laws_markLayerS.l0 kq x0_1 x1_1 x5_1 = some (r1, r2)) ∧ Aside0 (kq ≤ k) ∧ Aside0 (Kd.S k55 55 w' w0.heap.size (fun k_ => P0_ k_) u9000_ x0_1) ∧ Aside0 (Kept w w' (fun k_ => P0_ k_)) ∧ Aside0 (Below w0.heap.size w0 w'))
 case atStart => exact ⟨(l0), (a1), (0), (by first | rfl | (simp; done) | (simp [*]; done)), (by first | rfl | (simp; done) | (simp [*]; done)), H', ⟨Nat.le_refl _⟩, HO, HK, HB⟩
 case round =>
  clear H' HO HK HB
  try clear c2
  try clear p2
  obtain ⟨x0_1, x1_1, x5_1, rfl, rfl, HA, HK1, HO, HK, HB⟩ := hrel
  cases gk with
  | zero => exact absurd HA.out (by simp [laws_markLayerS.l0])
  | succ k1 =>
   have H := HA.out
   clear HA
   simp only [laws_markLayerS.l0] at H
   obtain ⟨Ao8, co8, eo8⟩ := Kd.S_slice HO.out
   subst eo8
   by_cases c3 : x5_1 < (x0_1.length : Int)
   ·rw [if_pos c3] at H
    have c3b0 : decide (x5_1 < (x0_1.length : Int)) = true := decide_eq_true c3
    by_cases c4 : 0 ≤ x5_1
    ·rw [if_pos c4] at H
     have c4b0 : decide (0 ≤ x5_1) = true := decide_eq_true c4
     replace H := Option.bind_eq_some_iff.mp H
     obtain ⟨⟨t1, t2⟩, hm_, H⟩ := H
     have HM := mk hm_
     have H' := mk H
     have P5 := mk c4
     have Q5 := mk (show x5_1 < ((x0_1.length : Int) : Int) from c3)
     clear H hm_
     obtain ⟨go5, co5, eo5, gb5, gl5, cl5, HG5⟩ := Kd.S_form HO.out (by omega)
     (first | cases eo5 | (injection eo5 with ea_ en_ ec_; (first | subst ea_ | (injection ea_ with ea_; subst ea_)); subst ec_; clear en_))
     have GB := mk gb5
     have HP0 := mk ((Kd.S_R HO.out).1 go5 rfl)
     obtain ⟨oki_, ce_, hcl_, hM_, _, _, hok_, hH_⟩ := Kd.S_elem HO.out z55 (x5_1 : Int) P5.out Q5.out
     have hO_ := k55_openM hM_
     obtain ⟨ve_, rfl, hR_⟩ := hO_
     obtain ⟨Av_, cv_, ev_⟩ := Kd.R_slice hR_
     subst ev_
     have HR := mk (show Kd.R (Kd.int .i64) 3 wr w0.heap.size oki_ (.slice Av_ (rd_T55 x0_1 x5_1).f0.f3.length cv_) (rd_T55 x0_1 x5_1).f0.f3 from hR_)
     have HOK := mk hok_
     have HH := mk (show Kd.H k55 55 wr w0.heap.size (fun k_ => P0_ k_) (.slice (some ⟨go5, 0, none⟩) x0_1.length co8) x0_1 (x5_1 : Int) oki_ [.int .i64 (rd_T55 x0_1 x5_1).f0.f0, .int .i64 (rd_T55 x0_1 x5_1).f0.f1, .int .i64 (rd_T55 x0_1 x5_1).f0.f2, (.slice Av_ (rd_T55 x0_1 x5_1).f0.f3.length cv_), .int .i64 (rd_T55 x0_1 x5_1).f1, .int .i64 (rd_T55 x0_1 x5_1).f2, .int .i64 (rd_T55 x0_1 x5_1).f3, .int .i64 (rd_T55 x0_1 x5_1).f4, .bool (rd_T55 x0_1 x5_1).f5] from hH_)
     have p5_ := eq_true c4
     have q5_ := eq_true c3
     clear gb5 gl5 HG5 hcl_ hok_ hH_ hR_ c3 c4 HO; try clear hM_
     have hx_ : wr.cell? ⟨go5, (x5_1 : Int).toNat * 9, none⟩ = some (.int .i64 (rd_T55 x0_1 x5_1).f0.f0) := (Kd.H_at HH.out P5.out Q5.out).1 0 _ rfl; have hf_ : wr.frozen? ⟨go5, (x5_1 : Int).toNat * 9, none⟩ = false := (Kd.H_at HH.out P5.out Q5.out).2 0
     go_wp2_with (first
      | ((with_reducible refine gate_store (t := 3) (p := 17) rfl ?_); refine store_event (t := 3) (p := 17) (v := ?vo_w1) (w1 := (wr.setCell ⟨go5, (x5_1 : Int).toNat * 9, none⟩ (.int .i64 x1_1))) ?hg ?ho ?hn ?hr ?_; (case ho => rfl); (case hg => rfl); (case hn => rfl); (case hr => first | (go_simp; done) | (go_simp; rfl)); intro w1 hw; obtain ⟨hh, hg⟩ := Kd.H_seg HH.out P5.out Q5.out (seg := [.int .i64 x1_1]) (j := 0) (show 1 ≤ 9 from by decide) (by simp [Value.oneCell']); replace hg : wr.grownBy w1 (some go5) := (by rw [hw]; exact hg); replace HH := mk (show Kd.H k55 55 w1 w0.heap.size (fun k_ => P0_ k_) (.slice (some ⟨go5, 0, none⟩) x0_1.length co8) x0_1 (x5_1 : Int) oki_ [.int .i64 x1_1, .int .i64 (rd_T55 x0_1 x5_1).f0.f1, .int .i64 (rd_T55 x0_1 x5_1).f0.f2, (.slice Av_ (rd_T55 x0_1 x5_1).f0.f3.length cv_), .int .i64 (rd_T55 x0_1 x5_1).f1, .int .i64 (rd_T55 x0_1 x5_1).f2, .int .i64 (rd_T55 x0_1 x5_1).f3, .int .i64 (rd_T55 x0_1 x5_1).f4, .bool (rd_T55 x0_1 x5_1).f5] from (by rw [hw]; exact hh)); replace HR := mk (Kd.R_grown HR.out hg (fun k_ hk_ e_ => (HOK.out k_ hk_).2 (by injection e_))); replace HB := mk (show Below w0.heap.size w0 w1 from (by rw [hw]; exact below_set HB.out GB.out)); replace HK := mk (Kept.of_grown (S := fun k_ => P0_ k_) hg HK.out (fun k_ e_ => .inl (by injection e_ with e_; rw [← e_]; exact HP0.out))); clear hh hg hw hx_ hf_; have hx_ : w1.cell? ⟨go5, (x5_1 : Int).toNat * 9 + 1, none⟩ = some (.int .i64 (rd_T55 x0_1 x5_1).f0.f1) := (Kd.H_at HH.out P5.out Q5.out).1 1 _ rfl; have hf_ : w1.frozen? ⟨go5, (x5_1 : Int).toNat * 9 + 1, none⟩ = false := (Kd.H_at HH.out P5.out Q5.out).2 1)
      | ((with_reducible refine gate_store (t := 3) (p := 25) rfl ?_); refine store_event (t := 3) (p := 25) (v := ?vo_w2) (w1 := (w1.setCell ⟨go5, (x5_1 : Int).toNat * 9 + 1, none⟩ (.int .i64 (wrap64 (x1_1 + 1))))) ?hg ?ho ?hn ?hr ?_; (case ho => rfl); (case hg => rfl); (case hn => rfl); (case hr => first | (go_simp; done) | (go_simp; rfl)); intro w2 hw; obtain ⟨hh, hg⟩ := Kd.H_seg HH.out P5.out Q5.out (seg := [.int .i64 (wrap64 (x1_1 + 1))]) (j := 1) (show 2 ≤ 9 from by decide) (by simp [Value.oneCell']); replace hg : w1.grownBy w2 (some go5) := (by rw [hw]; exact hg); replace HH := mk (show Kd.H k55 55 w2 w0.heap.size (fun k_ => P0_ k_) (.slice (some ⟨go5, 0, none⟩) x0_1.length co8) x0_1 (x5_1 : Int) oki_ [.int .i64 x1_1, .int .i64 (wrap64 (x1_1 + 1)), .int .i64 (rd_T55 x0_1 x5_1).f0.f2, (.slice Av_ (rd_T55 x0_1 x5_1).f0.f3.length cv_), .int .i64 (rd_T55 x0_1 x5_1).f1, .int .i64 (rd_T55 x0_1 x5_1).f2, .int .i64 (rd_T55 x0_1 x5_1).f3, .int .i64 (rd_T55 x0_1 x5_1).f4, .bool (rd_T55 x0_1 x5_1).f5] from (by rw [hw]; exact hh)); replace HR := mk (Kd.R_grown HR.out hg (fun k_ hk_ e_ => (HOK.out k_ hk_).2 (by injection e_))); replace HB := mk (show Below w0.heap.size w0 w2 from (by rw [hw]; exact below_set HB.out GB.out)); replace HK := mk (Kept.of_grown (S := fun k_ => P0_ k_) hg HK.out (fun k_ e_ => .inl (by injection e_ with e_; rw [← e_]; exact HP0.out))); clear hh hg hw hx_ hf_; have hx_ : w2.cell? ⟨go5, (x5_1 : Int).toNat * 9 + 2, none⟩ = some (.int .i64 (rd_T55 x0_1 x5_1).f0.f2) := (Kd.H_at HH.out P5.out Q5.out).1 2 _ rfl; have hf_ : w2.frozen? ⟨go5, (x5_1 : Int).toNat * 9 + 2, none⟩ = false := (Kd.H_at HH.out P5.out Q5.out).2 2)
      | ((with_reducible refine gate_store (t := 3) (p := 33) rfl ?_); refine store_event (t := 3) (p := 33) (v := ?vo_w3) (w1 := (w2.setCell ⟨go5, (x5_1 : Int).toNat * 9 + 2, none⟩ (.int .i64 (wrap64 ((wrap64 (x1_1 + 1)) + 1))))) ?hg ?ho ?hn ?hr ?_; (case ho => rfl); (case hg => rfl); (case hn => rfl); (case hr => first | (go_simp; done) | (go_simp; rfl)); intro w3 hw; obtain ⟨hh, hg⟩ := Kd.H_seg HH.out P5.out Q5.out (seg := [.int .i64 (wrap64 ((wrap64 (x1_1 + 1)) + 1))]) (j := 2) (show 3 ≤ 9 from by decide) (by simp [Value.oneCell']); replace hg : w2.grownBy w3 (some go5) := (by rw [hw]; exact hg); replace HH := mk (show Kd.H k55 55 w3 w0.heap.size (fun k_ => P0_ k_) (.slice (some ⟨go5, 0, none⟩) x0_1.length co8) x0_1 (x5_1 : Int) oki_ [.int .i64 x1_1, .int .i64 (wrap64 (x1_1 + 1)), .int .i64 (wrap64 ((wrap64 (x1_1 + 1)) + 1)), (.slice Av_ (rd_T55 x0_1 x5_1).f0.f3.length cv_), .int .i64 (rd_T55 x0_1 x5_1).f1, .int .i64 (rd_T55 x0_1 x5_1).f2, .int .i64 (rd_T55 x0_1 x5_1).f3, .int .i64 (rd_T55 x0_1 x5_1).f4, .bool (rd_T55 x0_1 x5_1).f5] from (by rw [hw]; exact hh)); replace HR := mk (Kd.R_grown HR.out hg (fun k_ hk_ e_ => (HOK.out k_ hk_).2 (by injection e_))); replace HB := mk (show Below w0.heap.size w0 w3 from (by rw [hw]; exact below_set HB.out GB.out)); replace HK := mk (Kept.of_grown (S := fun k_ => P0_ k_) hg HK.out (fun k_ e_ => .inl (by injection e_ with e_; rw [← e_]; exact HP0.out))); clear hh hg hw hx_ hf_; have hx_ : w3.cell? ⟨go5, (x5_1 : Int).toNat * 9 + 3, none⟩ = some ((.slice Av_ (rd_T55 x0_1 x5_1).f0.f3.length cv_)) := (Kd.H_at HH.out P5.out Q5.out).1 3 _ rfl; have hf_ : w3.frozen? ⟨go5, (x5_1 : Int).toNat * 9 + 3, none⟩ = false := (Kd.H_at HH.out P5.out Q5.out).2 3)
      | (go_at_call 46; (with_reducible refine (laws_markIntS.calls k1 oki_ (.slice Av_ (rd_T55 x0_1 x5_1).f0.f3.length cv_) (rd_T55 x0_1 x5_1).f0.f3 (wrap64 ((wrap64 ((wrap64 (x1_1 + 1)) + 1)) + 1)) t1 t2 w0 w3 HB.out HR.out HM.out).mono ?_); rintro e w4 ⟨rfl, hr, hb, hk⟩; replace HB := mk hb; replace HR := mk (Kd.R_reok rfl hr (fun k_ e_ => HR.out.1 k_ e_)); replace HH := mk (Kd.H_step HH.out (fun k_ _ hn_ hlt_ => hk.2 k_ hlt_ hn_)); replace HK := mk (Kept.then_ (S := fun k_ => P0_ k_) HK.out hk (fun k_ hs_ => .inl (HOK.out k_ hs_).1)); clear hr hb hk hx_ hf_; have hx_ : w4.cell? ⟨go5, (x5_1 : Int).toNat * 9 + 4, none⟩ = some (.int .i64 (rd_T55 x0_1 x5_1).f1) := (Kd.H_at HH.out P5.out Q5.out).1 4 _ rfl; have hf_ : w4.frozen? ⟨go5, (x5_1 : Int).toNat * 9 + 4, none⟩ = false := (Kd.H_at HH.out P5.out Q5.out).2 4)
      | ((with_reducible refine gate_store (t := 3) (p := 48) rfl ?_); refine store_event (t := 3) (p := 48) (v := ?vo_w5) (w1 := (w4.setCell ⟨go5, (x5_1 : Int).toNat * 9 + 4, none⟩ (.int .i64 t1))) ?hg ?ho ?hn ?hr ?_; (case ho => rfl); (case hg => rfl); (case hn => rfl); (case hr => first | (go_simp; done) | (go_simp; rfl)); intro w5 hw; obtain ⟨hh, hg⟩ := Kd.H_seg HH.out P5.out Q5.out (seg := [.int .i64 t1]) (j := 4) (show 5 ≤ 9 from by decide) (by simp [Value.oneCell']); replace hg : w4.grownBy w5 (some go5) := (by rw [hw]; exact hg); replace HH := mk (show Kd.H k55 55 w5 w0.heap.size (fun k_ => P0_ k_) (.slice (some ⟨go5, 0, none⟩) x0_1.length co8) x0_1 (x5_1 : Int) oki_ [.int .i64 x1_1, .int .i64 (wrap64 (x1_1 + 1)), .int .i64 (wrap64 ((wrap64 (x1_1 + 1)) + 1)), (.slice Av_ (rd_T55 x0_1 x5_1).f0.f3.length cv_), .int .i64 t1, .int .i64 (rd_T55 x0_1 x5_1).f2, .int .i64 (rd_T55 x0_1 x5_1).f3, .int .i64 (rd_T55 x0_1 x5_1).f4, .bool (rd_T55 x0_1 x5_1).f5] from (by rw [hw]; exact hh)); replace HR := mk (Kd.R_grown HR.out hg (fun k_ hk_ e_ => (HOK.out k_ hk_).2 (by injection e_))); replace HB := mk (show Below w0.heap.size w0 w5 from (by rw [hw]; exact below_set HB.out GB.out)); replace HK := mk (Kept.of_grown (S := fun k_ => P0_ k_) hg HK.out (fun k_ e_ => .inl (by injection e_ with e_; rw [← e_]; exact HP0.out))); clear hh hg hw hx_ hf_; have hx_ : w5.cell? ⟨go5, (x5_1 : Int).toNat * 9 + 5, none⟩ = some (.int .i64 (rd_T55 x0_1 x5_1).f2) := (Kd.H_at HH.out P5.out Q5.out).1 5 _ rfl; have hf_ : w5.frozen? ⟨go5, (x5_1 : Int).toNat * 9 + 5, none⟩ = false := (Kd.H_at HH.out P5.out Q5.out).2 5)
      | ((with_reducible refine gate_store (t := 3) (p := 55) rfl ?_); refine store_event (t := 3) (p := 55) (v := ?vo_w6) (w1 := (w5.setCell ⟨go5, (x5_1 : Int).toNat * 9 + 5, none⟩ (.int .i64 (wrap64 (t1 + 1))))) ?hg ?ho ?hn ?hr ?_; (case ho => rfl); (case hg => rfl); (case hn => rfl); (case hr => first | (go_simp; done) | (go_simp; rfl)); intro w6 hw; obtain ⟨hh, hg⟩ := Kd.H_seg HH.out P5.out Q5.out (seg := [.int .i64 (wrap64 (t1 + 1))]) (j := 5) (show 6 ≤ 9 from by decide) (by simp [Value.oneCell']); replace hg : w5.grownBy w6 (some go5) := (by rw [hw]; exact hg); replace HH := mk (show Kd.H k55 55 w6 w0.heap.size (fun k_ => P0_ k_) (.slice (some ⟨go5, 0, none⟩) x0_1.length co8) x0_1 (x5_1 : Int) oki_ [.int .i64 x1_1, .int .i64 (wrap64 (x1_1 + 1)), .int .i64 (wrap64 ((wrap64 (x1_1 + 1)) + 1)), (.slice Av_ (rd_T55 x0_1 x5_1).f0.f3.length cv_), .int .i64 t1, .int .i64 (wrap64 (t1 + 1)), .int .i64 (rd_T55 x0_1 x5_1).f3, .int .i64 (rd_T55 x0_1 x5_1).f4, .bool (rd_T55 x0_1 x5_1).f5] from (by rw [hw]; exact hh)); replace HR := mk (Kd.R_grown HR.out hg (fun k_ hk_ e_ => (HOK.out k_ hk_).2 (by injection e_))); replace HB := mk (show Below w0.heap.size w0 w6 from (by rw [hw]; exact below_set HB.out GB.out)); replace HK := mk (Kept.of_grown (S := fun k_ => P0_ k_) hg HK.out (fun k_ e_ => .inl (by injection e_ with e_; rw [← e_]; exact HP0.out))); clear hh hg hw hx_ hf_; have hx_ : w6.cell? ⟨go5, (x5_1 : Int).toNat * 9 + 6, none⟩ = some (.int .i64 (rd_T55 x0_1 x5_1).f3) := (Kd.H_at HH.out P5.out Q5.out).1 6 _ rfl; have hf_ : w6.frozen? ⟨go5, (x5_1 : Int).toNat * 9 + 6, none⟩ = false := (Kd.H_at HH.out P5.out Q5.out).2 6)
      | ((with_reducible refine gate_store (t := 3) (p := 62) rfl ?_); refine store_event (t := 3) (p := 62) (v := ?vo_w7) (w1 := (w6.setCell ⟨go5, (x5_1 : Int).toNat * 9 + 6, none⟩ (.int .i64 (wrap64 ((wrap64 (t1 + 1)) + 1))))) ?hg ?ho ?hn ?hr ?_; (case ho => rfl); (case hg => rfl); (case hn => rfl); (case hr => first | (go_simp; done) | (go_simp; rfl)); intro w7 hw; obtain ⟨hh, hg⟩ := Kd.H_seg HH.out P5.out Q5.out (seg := [.int .i64 (wrap64 ((wrap64 (t1 + 1)) + 1))]) (j := 6) (show 7 ≤ 9 from by decide) (by simp [Value.oneCell']); replace hg : w6.grownBy w7 (some go5) := (by rw [hw]; exact hg); replace HH := mk (show Kd.H k55 55 w7 w0.heap.size (fun k_ => P0_ k_) (.slice (some ⟨go5, 0, none⟩) x0_1.length co8) x0_1 (x5_1 : Int) oki_ [.int .i64 x1_1, .int .i64 (wrap64 (x1_1 + 1)), .int .i64 (wrap64 ((wrap64 (x1_1 + 1)) + 1)), (.slice Av_ (rd_T55 x0_1 x5_1).f0.f3.length cv_), .int .i64 t1, .int .i64 (wrap64 (t1 + 1)), .int .i64 (wrap64 ((wrap64 (t1 + 1)) + 1)), .int .i64 (rd_T55 x0_1 x5_1).f4, .bool (rd_T55 x0_1 x5_1).f5] from (by rw [hw]; exact hh)); replace HR := mk (Kd.R_grown HR.out hg (fun k_ hk_ e_ => (HOK.out k_ hk_).2 (by injection e_))); replace HB := mk (show Below w0.heap.size w0 w7 from (by rw [hw]; exact below_set HB.out GB.out)); replace HK := mk (Kept.of_grown (S := fun k_ => P0_ k_) hg HK.out (fun k_ e_ => .inl (by injection e_ with e_; rw [← e_]; exact HP0.out))); clear hh hg hw hx_ hf_; have hx_ : w7.cell? ⟨go5, (x5_1 : Int).toNat * 9 + 7, none⟩ = some (.int .i64 (rd_T55 x0_1 x5_1).f4) := (Kd.H_at HH.out P5.out Q5.out).1 7 _ rfl; have hf_ : w7.frozen? ⟨go5, (x5_1 : Int).toNat * 9 + 7, none⟩ = false := (Kd.H_at HH.out P5.out Q5.out).2 7)
      | ((with_reducible refine gate_store (t := 3) (p := 69) rfl ?_); refine store_event (t := 3) (p := 69) (v := ?vo_w8) (w1 := (w7.setCell ⟨go5, (x5_1 : Int).toNat * 9 + 7, none⟩ (.int .i64 (wrap64 ((wrap64 ((wrap64 (t1 + 1)) + 1)) + 1))))) ?hg ?ho ?hn ?hr ?_; (case ho => rfl); (case hg => rfl); (case hn => rfl); (case hr => first | (go_simp; done) | (go_simp; rfl)); intro w8 hw; obtain ⟨hh, hg⟩ := Kd.H_seg HH.out P5.out Q5.out (seg := [.int .i64 (wrap64 ((wrap64 ((wrap64 (t1 + 1)) + 1)) + 1))]) (j := 7) (show 8 ≤ 9 from by decide) (by simp [Value.oneCell']); replace hg : w7.grownBy w8 (some go5) := (by rw [hw]; exact hg); replace HH := mk (show Kd.H k55 55 w8 w0.heap.size (fun k_ => P0_ k_) (.slice (some ⟨go5, 0, none⟩) x0_1.length co8) x0_1 (x5_1 : Int) oki_ [.int .i64 x1_1, .int .i64 (wrap64 (x1_1 + 1)), .int .i64 (wrap64 ((wrap64 (x1_1 + 1)) + 1)), (.slice Av_ (rd_T55 x0_1 x5_1).f0.f3.length cv_), .int .i64 t1, .int .i64 (wrap64 (t1 + 1)), .int .i64 (wrap64 ((wrap64 (t1 + 1)) + 1)), .int .i64 (wrap64 ((wrap64 ((wrap64 (t1 + 1)) + 1)) + 1)), .bool (rd_T55 x0_1 x5_1).f5] from (by rw [hw]; exact hh)); replace HR := mk (Kd.R_grown HR.out hg (fun k_ hk_ e_ => (HOK.out k_ hk_).2 (by injection e_))); replace HB := mk (show Below w0.heap.size w0 w8 from (by rw [hw]; exact below_set HB.out GB.out)); replace HK := mk (Kept.of_grown (S := fun k_ => P0_ k_) hg HK.out (fun k_ e_ => .inl (by injection e_ with e_; rw [← e_]; exact HP0.out))); clear hh hg hw hx_ hf_; have hx_ : w8.cell? ⟨go5, (x5_1 : Int).toNat * 9 + 8, none⟩ = some (.bool (rd_T55 x0_1 x5_1).f5) := (Kd.H_at HH.out P5.out Q5.out).1 8 _ rfl; have hf_ : w8.frozen? ⟨go5, (x5_1 : Int).toNat * 9 + 8, none⟩ = false := (Kd.H_at HH.out P5.out Q5.out).2 8)
      | ((with_reducible refine gate_store (t := 4) (p := 78) rfl ?_); refine store_event (t := 4) (p := 78) (v := ?vo_w9) (w1 := (w8.setCell ⟨go5, (x5_1 : Int).toNat * 9 + 8, none⟩ (.bool (Int.tmod (wrap64 ((wrap64 ((wrap64 ((wrap64 (t1 + 1)) + 1)) + 1)) + 1)) 3 == 0)))) ?hg ?ho ?hn ?hr ?_; (case ho => rfl); (case hg => rfl); (case hn => rfl); (case hr => first | (go_simp; done) | (go_simp; rfl)); intro w9 hw; obtain ⟨hh, hg⟩ := Kd.H_seg HH.out P5.out Q5.out (seg := [.bool (Int.tmod (wrap64 ((wrap64 ((wrap64 ((wrap64 (t1 + 1)) + 1)) + 1)) + 1)) 3 == 0)]) (j := 8) (show 9 ≤ 9 from by decide) (by simp [Value.oneCell']); replace hg : w8.grownBy w9 (some go5) := (by rw [hw]; exact hg); replace HH := mk (show Kd.H k55 55 w9 w0.heap.size (fun k_ => P0_ k_) (.slice (some ⟨go5, 0, none⟩) x0_1.length co8) x0_1 (x5_1 : Int) oki_ [.int .i64 x1_1, .int .i64 (wrap64 (x1_1 + 1)), .int .i64 (wrap64 ((wrap64 (x1_1 + 1)) + 1)), (.slice Av_ (rd_T55 x0_1 x5_1).f0.f3.length cv_), .int .i64 t1, .int .i64 (wrap64 (t1 + 1)), .int .i64 (wrap64 ((wrap64 (t1 + 1)) + 1)), .int .i64 (wrap64 ((wrap64 ((wrap64 (t1 + 1)) + 1)) + 1)), .bool (Int.tmod (wrap64 ((wrap64 ((wrap64 ((wrap64 (t1 + 1)) + 1)) + 1)) + 1)) 3 == 0)] from (by rw [hw]; exact hh)); replace HR := mk (Kd.R_grown HR.out hg (fun k_ hk_ e_ => (HOK.out k_ hk_).2 (by injection e_))); replace HB := mk (show Below w0.heap.size w0 w9 from (by rw [hw]; exact below_set HB.out GB.out)); replace HK := mk (Kept.of_grown (S := fun k_ => P0_ k_) hg HK.out (fun k_ e_ => .inl (by injection e_ with e_; rw [← e_]; exact HP0.out))); clear hh hg hw hx_ hf_))
     go_roundg k1
     case measure => have := HK1.out; omega
     case rel => exact ⟨x0_1.set (x5_1 : Int).toNat (⟨⟨x1_1, (wrap64 (x1_1 + 1)), (wrap64 ((wrap64 (x1_1 + 1)) + 1)), t2⟩, t1, (wrap64 (t1 + 1)), (wrap64 ((wrap64 (t1 + 1)) + 1)), (wrap64 ((wrap64 ((wrap64 (t1 + 1)) + 1)) + 1)), (Int.tmod (wrap64 ((wrap64 ((wrap64 ((wrap64 (t1 + 1)) + 1)) + 1)) + 1)) 3 == 0)⟩ : S55), (wrap64 ((wrap64 ((wrap64 ((wrap64 ((wrap64 (t1 + 1)) + 1)) + 1)) + 1)) + 1)), wrap64 (x5_1 + 1), (by first | rfl | (simp; done) | (simp [*]; done)), (by first | rfl | (simp; done) | (simp [*]; done)), H', ⟨by have := HK1.out; omega⟩, ⟨Kd.H_back HH.out (k55_mkM _ _ _ (⟨⟨x1_1, (wrap64 (x1_1 + 1)), (wrap64 ((wrap64 (x1_1 + 1)) + 1)), t2⟩, t1, (wrap64 (t1 + 1)), (wrap64 ((wrap64 (t1 + 1)) + 1)), (wrap64 ((wrap64 ((wrap64 (t1 + 1)) + 1)) + 1)), (Int.tmod (wrap64 ((wrap64 ((wrap64 ((wrap64 (t1 + 1)) + 1)) + 1)) + 1)) 3 == 0)⟩ : S55) HR.out) (fun _ h_ => h_)⟩, HK, HB⟩
    ·rw [if_neg c4] at H
     cases H
   ·rw [if_neg c3] at H
    have c3b0 : decide (x5_1 < (x0_1.length : Int)) = false := decide_eq_false c3
    clear c3
    simp only [Option.some.injEq, Prod.mk.injEq] at H
    obtain ⟨rfl, rfl⟩ := H
    go_wp2
    go_ret
    exact ⟨by first | rfl | (simp; done), Kd.S_mono HO.out (fun _ h_ => .inl h_), HB.out, HK.out⟩
end Go.Proofs.Ytnofkbbcbpjhfaa.Q

namespace Go.Proofs.Ytnofkbbcbpjhfaa.Q
open Go.RowKit Go.Proofs.YtnofkbbcbpjhfaaW.PrintWords Go.Proofs.YtnofkbbcbpjhfaaW.PrintLast Go.Proofs.YtnofkbbcbpjhfaaW.PrintMore
attribute [local go_sem] max2_int min2_int max_two min_two max_three min_three max_four min_four
set_option linter.unusedVariables false
set_option linter.unusedSimpArgs false
def laws_heldIntS.l0 : Nat → List Int → Int → Int → Option (Int)
 | 0, _, _, _ => none
 | k + 1, x0, x1, x5 => if x5 < (x0.length : Int) then (if 0 ≤ x5 then (if (rd x0 x5) = x1 then (laws_heldIntS.l0 k x0 (wrap64 (x1 + 1)) (wrap64 (x5 + 1))) else (some (-1))) else (none)) else (some x1)
def laws_heldIntS.f (k : Nat) (l0 : List Int) (a1 : Int) : Option (Int) := laws_heldIntS.l0 k l0 a1 0
theorem laws_heldIntS.mono_l : ∀ k, (∀ y0 y1 y2, LeO (laws_heldIntS.l0 k y0 y1 y2) (laws_heldIntS.l0 (k + 1) y0 y1 y2))
 | 0 => fun _ _ _ r h => by simp [laws_heldIntS.l0] at h
 | k + 1 => by
  have ih0 := laws_heldIntS.mono_l k
  ·intro y0 y1 y2
   unfold laws_heldIntS.l0
   repeat' first
   | (with_reducible exact ih0 _ _ _)
   | (with_reducible exact LeO.refl _)
   | (with_reducible exact LeO.none _)
   | (with_reducible refine LeO.ite ?_ ?_)
   | (with_reducible refine LeO.bind ?_ (fun _ => ?_))
   | exact ih0 _ _ _
   | exact LeO.none _
   | refine LeO.ite ?_ ?_
   | refine LeO.bind ?_ (fun _ => ?_)
theorem laws_heldIntS.mono : ∀ a0 a1 k, LeO (laws_heldIntS.f k a0 a1) (laws_heldIntS.f (k + 1) a0 a1) := by
 intro a0 a1 k
 have ih0 := laws_heldIntS.mono_l k
 unfold laws_heldIntS.f
 repeat' first
   | (with_reducible exact ih0 _ _ _)
   | (with_reducible exact LeO.refl _)
   | (with_reducible exact LeO.none _)
   | (with_reducible refine LeO.ite ?_ ?_)
   | (with_reducible refine LeO.bind ?_ (fun _ => ?_))
   | exact ih0 _ _ _
   | exact LeO.none _
   | refine LeO.ite ?_ ?_
   | refine LeO.bind ?_ (fun _ => ?_)
set_option maxHeartbeats 8000000 in
set_option maxRecDepth 100000 in
theorem laws_heldIntS.calls (k : Nat) (A0 : Option Addr) (c0 : Nat) (l0 : List Int) (a1 : Int) (r : Int) (w : World) (hr0 : Kd.C (Kd.int .i64) w A0 l0.length l0) (hc0 : l0.length ≤ c0) (h : laws_heldIntS.f k l0 a1 = some r) :
  Calls Try.prog 47 #[.slice A0 l0.length c0, .int .i64 a1] w fun e w' => e = .returned (.int .i64 r) ∧ Drawn0 w w' := by
 have HR0 := Aside0.mk hr0
 have HC0 := Aside0.mk hc0
 clear hr0 hc0
 have H : (laws_heldIntS.l0 k l0 a1 0) = some r := h
 clear h
 have H' := Aside0.mk H
 clear H
 go_enter Try.func47, Try.ntmps47
 go_wp2
 go_loopg [1, 5] k (fun kq v1 v5 w' => ∃ (x1_1 : Int) (x5_1 : Int), v1 = .int .i64 x1_1 ∧ v5 = .int .i64 x5_1 ∧ Aside0 (laws_heldIntS.l0 kq l0 x1_1 x5_1 = some r) ∧ Aside0 (kq ≤ k) ∧ Drawn0 w w')
 case atStart => exact ⟨(a1), (0), (by first | rfl | (simp; done) | (simp [*]; done)), (by first | rfl | (simp; done) | (simp [*]; done)), H', ⟨Nat.le_refl _⟩, by repeat (first | exact Drawn0.refl _ | apply Drawn0.step)⟩
 case round =>
  clear H'
  try clear p2
  obtain ⟨x1_1, x5_1, rfl, rfl, HA, HK1, ⟨m1, rfl⟩⟩ := hrel
  cases gk with
  | zero => exact absurd HA.out (by simp [laws_heldIntS.l0])
  | succ k1 =>
   have H := HA.out
   clear HA
   simp only [laws_heldIntS.l0] at H
   by_cases c3 : x5_1 < (l0.length : Int)
   ·rw [if_pos c3] at H
    have c3b0 : decide (x5_1 < (l0.length : Int)) = true := decide_eq_true c3
    clear c3
    by_cases c4 : 0 ≤ x5_1
    ·rw [if_pos c4] at H
     have c4b0 : decide (0 ≤ x5_1) = true := decide_eq_true c4
     clear c4
     by_cases c5 : (rd l0 x5_1) = x1_1
     ·rw [if_pos c5] at H
      have c5b0 : ((rd l0 x5_1) == x1_1) = true := beq_iff_eq.mpr c5
      have c5b1 : ((rd l0 x5_1) != x1_1) = false := bne_eq_false_iff_eq.mpr c5
      clear c5
      have H' := Aside0.mk H
      clear H
      have p48001 : 0 ≤ (x5_1 : Int) := of_decide_eq_true (by first | (with_reducible assumption) | assumption)
      have q48001 : x5_1 < (l0.length : Int) := of_decide_eq_true (by first | (with_reducible assumption) | assumption)
      obtain ⟨ad48001, e48001, hx48001_0⟩ := Kd.at_int HR0.out x5_1 p48001 q48001
      cases e48001
      replace p48001 := eq_true p48001
      replace q48001 := eq_true q48001
      go_wp2
      go_roundg k1
      case measure => have := HK1.out; omega
      case rel => exact ⟨(wrap64 (x1_1 + 1)), (wrap64 (x5_1 + 1)), (by first | rfl | (simp; done) | (simp [*]; done)), (by first | rfl | (simp; done) | (simp [*]; done)), H', ⟨by have := HK1.out; omega⟩, by repeat (first | exact Drawn0.refl _ | apply Drawn0.step)⟩
     ·rw [if_neg c5] at H
      have c5b0 : ((rd l0 x5_1) == x1_1) = false := beq_eq_false_iff_ne.mpr c5
      have c5b1 : ((rd l0 x5_1) != x1_1) = true := bne_iff_ne.mpr c5
      obtain rfl := Option.some.inj H
      have p48001 : 0 ≤ (x5_1 : Int) := of_decide_eq_true (by first | (with_reducible assumption) | assumption)
      have q48001 : x5_1 < (l0.length : Int) := of_decide_eq_true (by first | (with_reducible assumption) | assumption)
      obtain ⟨ad48001, e48001, hx48001_0⟩ := Kd.at_int HR0.out x5_1 p48001 q48001
      cases e48001
      replace p48001 := eq_true p48001
      replace q48001 := eq_true q48001
      go_wp2
      go_ret
      exact ⟨by first | rfl | (simp; done) | (simp [*]; done), by repeat (first | exact Drawn0.refl _ | apply Drawn0.step)⟩
    ·rw [if_neg c4] at H
     exact absurd H (by simp)
   ·rw [if_neg c3] at H
    have c3b0 : decide (x5_1 < (l0.length : Int)) = false := decide_eq_false c3
    clear c3
    obtain rfl := Option.some.inj H
    go_wp2
    go_ret
    exact ⟨by first | rfl | (simp; done) | (simp [*]; done), by repeat (first | exact Drawn0.refl _ | apply Drawn0.step)⟩

end Go.Proofs.Ytnofkbbcbpjhfaa.Q

namespace Go.Proofs.Ytnofkbbcbpjhfaa.Q
open Go.RowKit Go.Proofs.YtnofkbbcbpjhfaaW.PrintWords Go.Proofs.YtnofkbbcbpjhfaaW.PrintLast Go.Proofs.YtnofkbbcbpjhfaaW.PrintMore
open Go.Proofs.YtnofkbbcbpjhfaaW.PrintWords.Aside0 (mk)
attribute [local go_sem] max2_int min2_int max_two min_two max_three min_three max_four min_four
set_option linter.unusedVariables false
set_option linter.unusedSimpArgs false
def laws_heldImage.f (k : Nat) (a0_0 : Int) (a0_1 : Int) (a0_2 : Int) (l0_3 : List Int) (a1 : Int) : Option (Int) := (laws_heldIntS.f k l0_3 a1).bind fun t60002 => (if t60002 < 0 then (some (-1)) else (some t60002))
theorem laws_heldImage.mono : ∀ a0 a1 a2 a3 a4 k, LeO (laws_heldImage.f k a0 a1 a2 a3 a4) (laws_heldImage.f (k + 1) a0 a1 a2 a3 a4) := by
 intro a0 a1 a2 a3 a4 k
 unfold laws_heldImage.f
 repeat' first
   | (with_reducible exact laws_heldIntS.mono _ _ _)
   | (with_reducible exact LeO.refl _)
   | (with_reducible exact LeO.none _)
   | (with_reducible refine LeO.ite ?_ ?_)
   | (with_reducible refine LeO.bind ?_ (fun _ => ?_))
   | exact laws_heldIntS.mono _ _ _
   | exact LeO.none _
   | refine LeO.ite ?_ ?_
   | refine LeO.bind ?_ (fun _ => ?_)
set_option maxHeartbeats 8000000 in
set_option maxRecDepth 100000 in
theorem laws_heldImage.calls (k : Nat) (a0_0 : Int) (a0_1 : Int) (a0_2 : Int) (A0_3 : Option Addr) (c0_3 : Nat) (l0_3 : List Int) (a1 : Int) (r : Int) (w : World) (hr0_3 : Kd.C (Kd.int .i64) w A0_3 l0_3.length l0_3) (hc0_3 : l0_3.length ≤ c0_3) (h : laws_heldImage.f k a0_0 a0_1 a0_2 l0_3 a1 = some r) :
  Calls Try.prog 59 #[.agg #[.int .i64 a0_0, .int .i64 a0_1, .int .i64 a0_2, .slice A0_3 l0_3.length c0_3], .int .i64 a1] w fun e w' => e = .returned (.int .i64 r) ∧ Below w.heap.size w w' := by
 have hu27 := Try.underlying27
 have HR0_3 := mk hr0_3
 have HC0_3 := mk hc0_3
 clear hr0_3 hc0_3
 have HB := mk (Below.refl w.heap.size w)
 have H : ((laws_heldIntS.f k l0_3 a1).bind fun t60002 => (if t60002 < 0 then (some (-1)) else (some t60002))) = some r := h
 clear h
 replace H := Option.bind_eq_some_iff.mp H
 obtain ⟨t60002, A30, H⟩ := H
 replace H : (if t60002 < 0 then (some (-1)) else (some t60002)) = some r := H
 have A3 := mk A30
 clear A30
 by_cases c4 : t60002 < 0
 ·rw [if_pos c4] at H
  have c4b0 : decide (t60002 < 0) = true := decide_eq_true c4
  clear c4
  obtain rfl := Option.some.inj H
  go_enter Try.func59, Try.ntmps59
  go_wp2_with (first | ((with_reducible refine gate_dst (N := 2) rfl ?_); refine box_event ?hg (N := 2) ?hd (cs := #[.int .i64 a0_0, .int .i64 a0_1, .int .i64 a0_2, .slice A0_3 l0_3.length c0_3]) (t := 27) ?hr ?_; (case hd => rfl); (case hg => rfl); (case hr => first | (go_simp; done) | (go_simp; rfl)); intro gb60001 hg w5 hbox hb; have n0_ := mk (below_step (by repeat (first | (with_reducible first | exact HB.out | apply below_alloc | apply pw_below_drewN | apply below_drew1) | exact HB.out)) hb); have n1_ := mk (hbox); have n2_ := mk ((by rw [hg]; exact (below_size (by repeat (first | (with_reducible first | exact HB.out | apply below_alloc | apply pw_below_drewN | apply below_drew1) | exact HB.out))) : w.heap.size ≤ gb60001)); have n3_ := mk ((by rw [hg]; exact (below_size (by repeat (first | (with_reducible first | exact HB.out | apply below_alloc | apply pw_below_drewN | apply below_drew1) | exact HB.out))) : w.heap.size ≤ gb60001)); clear HB; have HB := n0_; have BK60001 := n1_; have GW60001 := n2_; have GE60001 := n3_; clear n0_ n1_ n2_ n3_; clear hb hbox hg; have hcz6_0 : w5.cell? ⟨gb60001, 0, none⟩ = some (.int .i64 a0_0) := (blk_cell BK60001.out 0).trans rfl; have hcz6_1 : w5.cell? ⟨gb60001, 1, none⟩ = some (.int .i64 a0_1) := (blk_cell BK60001.out 1).trans rfl; have hcz6_2 : w5.cell? ⟨gb60001, 2, none⟩ = some (.int .i64 a0_2) := (blk_cell BK60001.out 2).trans rfl; have hcz6_3 : w5.cell? ⟨gb60001, 3, none⟩ = some (.slice A0_3 l0_3.length c0_3) := (blk_cell BK60001.out 3).trans rfl; have hfz6_0 := blk_frozen BK60001.out 0; have hfz6_1 := blk_frozen BK60001.out 1; have hfz6_2 := blk_frozen BK60001.out 2; have hfz6_3 := blk_frozen BK60001.out 3) | ((with_reducible refine gate_callee (f := 47) rfl ?_); refine goesL_ (some 8) rfl rfl Try.func47 (by kernel_rfl) rfl #[.slice A0_3 l0_3.length c0_3, .int .i64 a1] rfl (by (try simp only [List.map_toArray, List.map_cons, List.map_nil]); first | done | rfl | (simp only [List.length_drop, List.length_take]; rfl)) ?_; (with_reducible refine (laws_heldIntS.calls k _ _ l0_3 a1 t60002 _ ?side1 ?side2 A3.out).mono ?_); (case side1 => repeat (first | exact (Kd.C_below HR0_3.out HB.out) | (with_reducible refine Kd.C_alloc ?_ _) | (with_reducible refine Kd.C_drewN ?_ _) | (with_reducible refine Kd.C_drew ?_))); (case side2 => exact HC0_3.out); rintro e w' ⟨rfl, ⟨nd, rfl⟩⟩; refine ⟨_, rfl, ?_⟩))
  go_ret
  exact ⟨by first | rfl | (simp [errW_none, errW_some] <;> rfl) | (simp [*, errW_none, errW_some] <;> rfl), by repeat (first | (with_reducible first | exact HB.out | apply below_alloc | apply pw_below_drewN | apply below_drew1 | refine below_set ?_ GE60001.out) | exact HB.out)⟩
 ·rw [if_neg c4] at H
  have c4b0 : decide (t60002 < 0) = false := decide_eq_false c4
  clear c4
  obtain rfl := Option.some.inj H
  go_enter Try.func59, Try.ntmps59
  go_wp2_with (first | ((with_reducible refine gate_dst (N := 2) rfl ?_); refine box_event ?hg (N := 2) ?hd (cs := #[.int .i64 a0_0, .int .i64 a0_1, .int .i64 a0_2, .slice A0_3 l0_3.length c0_3]) (t := 27) ?hr ?_; (case hd => rfl); (case hg => rfl); (case hr => first | (go_simp; done) | (go_simp; rfl)); intro gb60001 hg w7 hbox hb; have n0_ := mk (below_step (by repeat (first | (with_reducible first | exact HB.out | apply below_alloc | apply pw_below_drewN | apply below_drew1) | exact HB.out)) hb); have n1_ := mk (hbox); have n2_ := mk ((by rw [hg]; exact (below_size (by repeat (first | (with_reducible first | exact HB.out | apply below_alloc | apply pw_below_drewN | apply below_drew1) | exact HB.out))) : w.heap.size ≤ gb60001)); have n3_ := mk ((by rw [hg]; exact (below_size (by repeat (first | (with_reducible first | exact HB.out | apply below_alloc | apply pw_below_drewN | apply below_drew1) | exact HB.out))) : w.heap.size ≤ gb60001)); clear HB; have HB := n0_; have BK60001 := n1_; have GW60001 := n2_; have GE60001 := n3_; clear n0_ n1_ n2_ n3_; clear hb hbox hg; have hcz8_0 : w7.cell? ⟨gb60001, 0, none⟩ = some (.int .i64 a0_0) := (blk_cell BK60001.out 0).trans rfl; have hcz8_1 : w7.cell? ⟨gb60001, 1, none⟩ = some (.int .i64 a0_1) := (blk_cell BK60001.out 1).trans rfl; have hcz8_2 : w7.cell? ⟨gb60001, 2, none⟩ = some (.int .i64 a0_2) := (blk_cell BK60001.out 2).trans rfl; have hcz8_3 : w7.cell? ⟨gb60001, 3, none⟩ = some (.slice A0_3 l0_3.length c0_3) := (blk_cell BK60001.out 3).trans rfl; have hfz8_0 := blk_frozen BK60001.out 0; have hfz8_1 := blk_frozen BK60001.out 1; have hfz8_2 := blk_frozen BK60001.out 2; have hfz8_3 := blk_frozen BK60001.out 3) | ((with_reducible refine gate_callee (f := 47) rfl ?_); refine goesL_ (some 8) rfl rfl Try.func47 (by kernel_rfl) rfl #[.slice A0_3 l0_3.length c0_3, .int .i64 a1] rfl (by (try simp only [List.map_toArray, List.map_cons, List.map_nil]); first | done | rfl | (simp only [List.length_drop, List.length_take]; rfl)) ?_; (with_reducible refine (laws_heldIntS.calls k _ _ l0_3 a1 t60002 _ ?side1 ?side2 A3.out).mono ?_); (case side1 => repeat (first | exact (Kd.C_below HR0_3.out HB.out) | (with_reducible refine Kd.C_alloc ?_ _) | (with_reducible refine Kd.C_drewN ?_ _) | (with_reducible refine Kd.C_drew ?_))); (case side2 => exact HC0_3.out); rintro e w' ⟨rfl, ⟨nd, rfl⟩⟩; refine ⟨_, rfl, ?_⟩))
  go_ret
  exact ⟨by first | rfl | (simp [errW_none, errW_some] <;> rfl) | (simp [*, errW_none, errW_some] <;> rfl), by repeat (first | (with_reducible first | exact HB.out | apply below_alloc | apply pw_below_drewN | apply below_drew1 | refine below_set ?_ GE60001.out) | exact HB.out)⟩


/- The law FnExactFlattenLayers: its walk. -/

def laws_FnExactFlattenLayers.Goes (k : Nat) (a0_0 : Int) (a0_1 : Int) (a0_2 : Int) (l0_3 : List Int) (l1_0 : List S51) : Prop := (∃ s0 : Int, laws_szImage.f a0_0 a0_1 a0_2 l0_3 1048576 = some s0 ∧ s0 < 0) ∨ (∃ s0 s1 : Int, laws_szImage.f a0_0 a0_1 a0_2 l0_3 1048576 = some s0 ∧ ¬ s0 < 0 ∧ laws_szLayerS.f k l1_0 s0 = some s1 ∧ s1 < 0) ∨ (∃ (s0 : Int) (s1 : Int) (x0_0 : Int) (x0_1 : Int) (x0_2 : Int) (x0_3 : List Int) (x1_0 : List S55) (v0 : Int) (v1 : Int) (v2 : Int) (v3 : List Int) (vok : Bool) (k0 : Int) (y0 : List Int) (k1 : Int) (y1 : List S55) (m : Int) (u : List Int), laws_szImage.f a0_0 a0_1 a0_2 l0_3 1048576 = some s0 ∧ ¬ s0 < 0 ∧ laws_szLayerS.f k l1_0 s0 = some s1 ∧ ¬ s1 < 0 ∧ laws_toImage.f k a0_0 a0_1 a0_2 l0_3 = some (x0_0, x0_1, x0_2, x0_3) ∧ laws_toLayerS.f k l1_0 = some x1_0 ∧ spec_FlattenLayers.f k x0_0 x0_1 x0_2 x0_3 x1_0 = some (v0, v1, v2, v3, vok) ∧ impl_FlattenLayers.f k x0_0 x0_1 x0_2 x0_3 x1_0 = some (v0, v1, v2, v3, vok) ∧ laws_eqImage.f k v0 v1 v2 v3 v0 v1 v2 v3 = some true ∧ laws_eqImage.f k x0_0 x0_1 x0_2 x0_3 x0_0 x0_1 x0_2 x0_3 = some true ∧ laws_eqLayerS.f k x1_0 x1_0 = some true ∧ laws_markImage.f k x0_0 x0_1 x0_2 x0_3 1 = some (k0, y0) ∧ laws_markLayerS.f k x1_0 k0 = some (k1, y1) ∧ ¬ k1 < 0 ∧ laws_markImage.f k v0 v1 v2 v3 1 = some (m, u) ∧ laws_heldImage.f k v0 v1 v2 u 1 = some m ∧ ¬ m < 0)
noncomputable def laws_FnExactFlattenLayers.f (k : Nat) (a0_0 : Int) (a0_1 : Int) (a0_2 : Int) (l0_3 : List Int) (l1_0 : List S51) : Option Bool := @ite _ (laws_FnExactFlattenLayers.Goes k a0_0 a0_1 a0_2 l0_3 l1_0) (Classical.propDecidable _) (some true) none
theorem laws_FnExactFlattenLayers.f_of {k : Nat} {a0_0 : Int} {a0_1 : Int} {a0_2 : Int} {l0_3 : List Int} {l1_0 : List S51} (h : laws_FnExactFlattenLayers.Goes k a0_0 a0_1 a0_2 l0_3 l1_0) : laws_FnExactFlattenLayers.f k a0_0 a0_1 a0_2 l0_3 l1_0 = some true := by unfold laws_FnExactFlattenLayers.f; rw [if_pos h]
set_option maxHeartbeats 8000000 in
set_option maxRecDepth 100000 in
theorem laws_FnExactFlattenLayers.big0 (k : Nat) (a0_0 : Int) (a0_1 : Int) (a0_2 : Int) (A0_3 : Option Addr) (c0_3 : Nat) (l0_3 : List Int) (A1_0 : Option Addr) (c1_0 : Nat) (l1_0 : List S51) (w : World) (hr0 : Kd.C (Kd.int .i64) w A0_3 l0_3.length l0_3) (hc0 : l0_3.length ≤ c0_3) (hr1 : Kd.C k51 w A1_0 l1_0.length l1_0) (hc1 : l1_0.length ≤ c1_0) (s0 : Int) (hs0 : laws_szImage.f a0_0 a0_1 a0_2 l0_3 1048576 = some s0) (hn0 : s0 < 0) : Calls Try.prog 12 #[.agg #[.int .i64 a0_0, .int .i64 a0_1, .int .i64 a0_2, .slice A0_3 l0_3.length c0_3], .slice A1_0 l1_0.length c1_0] w fun e w' => e = .returned (.bool true) ∧ Below w.heap.size w w' := by
 have HC0 := mk hc0
 have HR0 := mk hr0
 have HC1 := mk hc1
 have HR1 := mk hr1
 have HB := mk (Below.refl w.heap.size w)
 clear hc0 hr0 hc1 hr1
 have hu0 := Try.underlying27
 have hu1 := Try.underlying24
 have HS0 := mk hs0
 have dn0 : decide (s0 < 0) = true := decide_eq_true hn0
 clear hs0 hn0
 go_enter Try.func12, Try.ntmps12
 go_wp2_with (first
  | ((with_reducible refine gate_dst (N := 2) rfl ?_); refine box_event ?hg (N := 2) ?hd (cs := #[.int .i64 a0_0, .int .i64 a0_1, .int .i64 a0_2, .slice A0_3 l0_3.length c0_3]) (t := 24) ?hr ?_; (case hd => rfl); (case hg => rfl); (case hr => first | (go_simp; done) | (go_simp; rfl)); intro gb0 hg_ wb0 hbox hb; have Kgb0 := mk hbox; have HB := mk (below_then HB.out HB.out.size hb); have cb0_0 : wb0.cell? ⟨gb0, 0, none⟩ = some (.int .i64 a0_0) := (blk_cell Kgb0.out 0).trans rfl; have cb0_1 : wb0.cell? ⟨gb0, 1, none⟩ = some (.int .i64 a0_1) := (blk_cell Kgb0.out 1).trans rfl; have cb0_2 : wb0.cell? ⟨gb0, 2, none⟩ = some (.int .i64 a0_2) := (blk_cell Kgb0.out 2).trans rfl; have cb0_3 : wb0.cell? ⟨gb0, 3, none⟩ = some (.slice A0_3 l0_3.length c0_3) := (blk_cell Kgb0.out 3).trans rfl; clear hbox hb hg_)
  | (go_at_call 20; (with_reducible refine (laws_szImage.calls a0_0 a0_1 a0_2 A0_3 c0_3 l0_3 1048576 s0 wb0 (Kd.C_below HR0.out HB.out) HC0.out HS0.out).mono ?_); rintro e wz0 ⟨rfl, hb⟩; have Kgb0 := mk (blk_below Kgb0.out hb); have HB := mk (below_then HB.out HB.out.size hb); have cb0_0 : wz0.cell? ⟨gb0, 0, none⟩ = some (.int .i64 a0_0) := (blk_cell Kgb0.out 0).trans rfl; have cb0_1 : wz0.cell? ⟨gb0, 1, none⟩ = some (.int .i64 a0_1) := (blk_cell Kgb0.out 1).trans rfl; have cb0_2 : wz0.cell? ⟨gb0, 2, none⟩ = some (.int .i64 a0_2) := (blk_cell Kgb0.out 2).trans rfl; have cb0_3 : wz0.cell? ⟨gb0, 3, none⟩ = some (.slice A0_3 l0_3.length c0_3) := (blk_cell Kgb0.out 3).trans rfl; clear hb))
 go_ret
 exact ⟨rfl, HB.out⟩
set_option maxHeartbeats 8000000 in
set_option maxRecDepth 100000 in
theorem laws_FnExactFlattenLayers.big1 (k : Nat) (a0_0 : Int) (a0_1 : Int) (a0_2 : Int) (A0_3 : Option Addr) (c0_3 : Nat) (l0_3 : List Int) (A1_0 : Option Addr) (c1_0 : Nat) (l1_0 : List S51) (w : World) (hr0 : Kd.C (Kd.int .i64) w A0_3 l0_3.length l0_3) (hc0 : l0_3.length ≤ c0_3) (hr1 : Kd.C k51 w A1_0 l1_0.length l1_0) (hc1 : l1_0.length ≤ c1_0) (s0 : Int) (s1 : Int) (hs0 : laws_szImage.f a0_0 a0_1 a0_2 l0_3 1048576 = some s0) (hn0 : ¬ s0 < 0) (hs1 : laws_szLayerS.f k l1_0 s0 = some s1) (hn1 : s1 < 0) : Calls Try.prog 12 #[.agg #[.int .i64 a0_0, .int .i64 a0_1, .int .i64 a0_2, .slice A0_3 l0_3.length c0_3], .slice A1_0 l1_0.length c1_0] w fun e w' => e = .returned (.bool true) ∧ Below w.heap.size w w' := by
 have HC0 := mk hc0
 have HR0 := mk hr0
 have HC1 := mk hc1
 have HR1 := mk hr1
 have HB := mk (Below.refl w.heap.size w)
 clear hc0 hr0 hc1 hr1
 have hu0 := Try.underlying27
 have hu1 := Try.underlying24
 have HS0 := mk hs0
 have dn0 : decide (s0 < 0) = false := decide_eq_false hn0
 have HS1 := mk hs1
 have dn1 : decide (s1 < 0) = true := decide_eq_true hn1
 clear hs0 hn0 hs1 hn1
 go_enter Try.func12, Try.ntmps12
 go_wp2_with (first
  | ((with_reducible refine gate_dst (N := 2) rfl ?_); refine box_event ?hg (N := 2) ?hd (cs := #[.int .i64 a0_0, .int .i64 a0_1, .int .i64 a0_2, .slice A0_3 l0_3.length c0_3]) (t := 24) ?hr ?_; (case hd => rfl); (case hg => rfl); (case hr => first | (go_simp; done) | (go_simp; rfl)); intro gb0 hg_ wb0 hbox hb; have Kgb0 := mk hbox; have HB := mk (below_then HB.out HB.out.size hb); have cb0_0 : wb0.cell? ⟨gb0, 0, none⟩ = some (.int .i64 a0_0) := (blk_cell Kgb0.out 0).trans rfl; have cb0_1 : wb0.cell? ⟨gb0, 1, none⟩ = some (.int .i64 a0_1) := (blk_cell Kgb0.out 1).trans rfl; have cb0_2 : wb0.cell? ⟨gb0, 2, none⟩ = some (.int .i64 a0_2) := (blk_cell Kgb0.out 2).trans rfl; have cb0_3 : wb0.cell? ⟨gb0, 3, none⟩ = some (.slice A0_3 l0_3.length c0_3) := (blk_cell Kgb0.out 3).trans rfl; clear hbox hb hg_)
  | (go_at_call 20; (with_reducible refine (laws_szImage.calls a0_0 a0_1 a0_2 A0_3 c0_3 l0_3 1048576 s0 wb0 (Kd.C_below HR0.out HB.out) HC0.out HS0.out).mono ?_); rintro e wz0 ⟨rfl, hb⟩; have Kgb0 := mk (blk_below Kgb0.out hb); have HB := mk (below_then HB.out HB.out.size hb); have cb0_0 : wz0.cell? ⟨gb0, 0, none⟩ = some (.int .i64 a0_0) := (blk_cell Kgb0.out 0).trans rfl; have cb0_1 : wz0.cell? ⟨gb0, 1, none⟩ = some (.int .i64 a0_1) := (blk_cell Kgb0.out 1).trans rfl; have cb0_2 : wz0.cell? ⟨gb0, 2, none⟩ = some (.int .i64 a0_2) := (blk_cell Kgb0.out 2).trans rfl; have cb0_3 : wz0.cell? ⟨gb0, 3, none⟩ = some (.slice A0_3 l0_3.length c0_3) := (blk_cell Kgb0.out 3).trans rfl; clear hb)
  | (go_at_call 64; (with_reducible refine (laws_szLayerS.calls k A1_0 c1_0 l1_0 s0 s1 wz0 (Kd.C_below HR1.out HB.out) HC1.out HS1.out).mono ?_); rintro e wz1 ⟨rfl, hb⟩; have Kgb0 := mk (blk_below Kgb0.out hb); have HB := mk (below_then HB.out HB.out.size hb); have cb0_0 : wz1.cell? ⟨gb0, 0, none⟩ = some (.int .i64 a0_0) := (blk_cell Kgb0.out 0).trans rfl; have cb0_1 : wz1.cell? ⟨gb0, 1, none⟩ = some (.int .i64 a0_1) := (blk_cell Kgb0.out 1).trans rfl; have cb0_2 : wz1.cell? ⟨gb0, 2, none⟩ = some (.int .i64 a0_2) := (blk_cell Kgb0.out 2).trans rfl; have cb0_3 : wz1.cell? ⟨gb0, 3, none⟩ = some (.slice A0_3 l0_3.length c0_3) := (blk_cell Kgb0.out 3).trans rfl; clear hb))
 go_ret
 exact ⟨rfl, HB.out⟩
set_option maxHeartbeats 8000000 in
set_option maxRecDepth 100000 in
theorem laws_FnExactFlattenLayers.way (k : Nat) (a0_0 : Int) (a0_1 : Int) (a0_2 : Int) (A0_3 : Option Addr) (c0_3 : Nat) (l0_3 : List Int) (A1_0 : Option Addr) (c1_0 : Nat) (l1_0 : List S51) (w : World) (hr0 : Kd.C (Kd.int .i64) w A0_3 l0_3.length l0_3) (hc0 : l0_3.length ≤ c0_3) (hr1 : Kd.C k51 w A1_0 l1_0.length l1_0) (hc1 : l1_0.length ≤ c1_0) (s0 : Int) (s1 : Int) (x0_0 : Int) (x0_1 : Int) (x0_2 : Int) (x0_3 : List Int) (x1_0 : List S55) (v0 : Int) (v1 : Int) (v2 : Int) (v3 : List Int) (vok : Bool) (k0 : Int) (y0 : List Int) (k1 : Int) (y1 : List S55) (m : Int) (u : List Int) (HS0 : laws_szImage.f a0_0 a0_1 a0_2 l0_3 1048576 = some s0) (HN0 : ¬ s0 < 0) (HS1 : laws_szLayerS.f k l1_0 s0 = some s1) (HN1 : ¬ s1 < 0) (HT0 : laws_toImage.f k a0_0 a0_1 a0_2 l0_3 = some (x0_0, x0_1, x0_2, x0_3)) (HT1 : laws_toLayerS.f k l1_0 = some x1_0) (HSP : spec_FlattenLayers.f k x0_0 x0_1 x0_2 x0_3 x1_0 = some (v0, v1, v2, v3, vok)) (HIM : impl_FlattenLayers.f k x0_0 x0_1 x0_2 x0_3 x1_0 = some (v0, v1, v2, v3, vok)) (HEV : laws_eqImage.f k v0 v1 v2 v3 v0 v1 v2 v3 = some true) (HE0 : laws_eqImage.f k x0_0 x0_1 x0_2 x0_3 x0_0 x0_1 x0_2 x0_3 = some true) (HE1 : laws_eqLayerS.f k x1_0 x1_0 = some true) (HM0 : laws_markImage.f k x0_0 x0_1 x0_2 x0_3 1 = some (k0, y0)) (HM1 : laws_markLayerS.f k x1_0 k0 = some (k1, y1)) (HKN : ¬ k1 < 0) (HMR : laws_markImage.f k v0 v1 v2 v3 1 = some (m, u)) (HHR : laws_heldImage.f k v0 v1 v2 u 1 = some m) (HMN : ¬ m < 0) : Calls Try.prog 12 #[.agg #[.int .i64 a0_0, .int .i64 a0_1, .int .i64 a0_2, .slice A0_3 l0_3.length c0_3], .slice A1_0 l1_0.length c1_0] w fun e w' => e = .returned (.bool true) ∧ Below w.heap.size w w' := by
 have HC0 := mk hc0
 have HR0 := mk hr0
 have HC1 := mk hc1
 have HR1 := mk hr1
 have HB := mk (Below.refl w.heap.size w)
 clear hc0 hr0 hc1 hr1
 have hu0 := Try.underlying27
 have hu1 := Try.underlying24
 replace HS0 := mk HS0
 replace HN0 := mk HN0
 replace HS1 := mk HS1
 replace HN1 := mk HN1
 replace HT0 := mk HT0
 replace HT1 := mk HT1
 replace HSP := mk HSP
 replace HIM := mk HIM
 replace HEV := mk HEV
 replace HE0 := mk HE0
 replace HE1 := mk HE1
 replace HM0 := mk HM0
 replace HM1 := mk HM1
 replace HKN := mk HKN
 replace HMR := mk HMR
 replace HHR := mk HHR
 replace HMN := mk HMN
 have dn0 : decide (s0 < 0) = false := decide_eq_false HN0.out
 have dn1 : decide (s1 < 0) = false := decide_eq_false HN1.out
 have dk : decide (k1 < 0) = false := decide_eq_false HKN.out
 have dm : decide (m < 0) = false := decide_eq_false HMN.out
 go_enter Try.func12, Try.ntmps12
 go_upto_region 8 with (first
  | ((with_reducible refine gate_dst (N := 2) rfl ?_); refine box_event ?hg (N := 2) ?hd (cs := #[.int .i64 a0_0, .int .i64 a0_1, .int .i64 a0_2, .slice A0_3 l0_3.length c0_3]) (t := 24) ?hr ?_; (case hd => rfl); (case hg => rfl); (case hr => first | (go_simp; done) | (go_simp; rfl)); intro gb0 hg_ wb0 hbox hb; have Kgb0 := mk hbox; have HB := mk (below_then HB.out HB.out.size hb); have cb0_0 : wb0.cell? ⟨gb0, 0, none⟩ = some (.int .i64 a0_0) := (blk_cell Kgb0.out 0).trans rfl; have cb0_1 : wb0.cell? ⟨gb0, 1, none⟩ = some (.int .i64 a0_1) := (blk_cell Kgb0.out 1).trans rfl; have cb0_2 : wb0.cell? ⟨gb0, 2, none⟩ = some (.int .i64 a0_2) := (blk_cell Kgb0.out 2).trans rfl; have cb0_3 : wb0.cell? ⟨gb0, 3, none⟩ = some (.slice A0_3 l0_3.length c0_3) := (blk_cell Kgb0.out 3).trans rfl; clear hbox hb hg_)
  | (go_at_call 20; (with_reducible refine (laws_szImage.calls a0_0 a0_1 a0_2 A0_3 c0_3 l0_3 1048576 s0 wb0 (Kd.C_below HR0.out HB.out) HC0.out HS0.out).mono ?_); rintro e wz0 ⟨rfl, hb⟩; have Kgb0 := mk (blk_below Kgb0.out hb); have HB := mk (below_then HB.out HB.out.size hb); have cb0_0 : wz0.cell? ⟨gb0, 0, none⟩ = some (.int .i64 a0_0) := (blk_cell Kgb0.out 0).trans rfl; have cb0_1 : wz0.cell? ⟨gb0, 1, none⟩ = some (.int .i64 a0_1) := (blk_cell Kgb0.out 1).trans rfl; have cb0_2 : wz0.cell? ⟨gb0, 2, none⟩ = some (.int .i64 a0_2) := (blk_cell Kgb0.out 2).trans rfl; have cb0_3 : wz0.cell? ⟨gb0, 3, none⟩ = some (.slice A0_3 l0_3.length c0_3) := (blk_cell Kgb0.out 3).trans rfl; clear hb)
  | (go_at_call 64; (with_reducible refine (laws_szLayerS.calls k A1_0 c1_0 l1_0 s0 s1 wz0 (Kd.C_below HR1.out HB.out) HC1.out HS1.out).mono ?_); rintro e wz1 ⟨rfl, hb⟩; have Kgb0 := mk (blk_below Kgb0.out hb); have HB := mk (below_then HB.out HB.out.size hb); have cb0_0 : wz1.cell? ⟨gb0, 0, none⟩ = some (.int .i64 a0_0) := (blk_cell Kgb0.out 0).trans rfl; have cb0_1 : wz1.cell? ⟨gb0, 1, none⟩ = some (.int .i64 a0_1) := (blk_cell Kgb0.out 1).trans rfl; have cb0_2 : wz1.cell? ⟨gb0, 2, none⟩ = some (.int .i64 a0_2) := (blk_cell Kgb0.out 2).trans rfl; have cb0_3 : wz1.cell? ⟨gb0, 3, none⟩ = some (.slice A0_3 l0_3.length c0_3) := (blk_cell Kgb0.out 3).trans rfl; clear hb))
 have HBSw := mk HB.out.size
 have QKgb0 := mk (show gb0 < wz1.heap.size from blk_lt Kgb0.out)
 have cgb0wz1_0 : wz1.cell? ⟨gb0, 0, none⟩ = some (.int .i64 a0_0) := (blk_cell Kgb0.out 0).trans rfl; have cgb0wz1_1 : wz1.cell? ⟨gb0, 1, none⟩ = some (.int .i64 a0_1) := (blk_cell Kgb0.out 1).trans rfl; have cgb0wz1_2 : wz1.cell? ⟨gb0, 2, none⟩ = some (.int .i64 a0_2) := (blk_cell Kgb0.out 2).trans rfl; have cgb0wz1_3 : wz1.cell? ⟨gb0, 3, none⟩ = some (.slice A0_3 l0_3.length c0_3) := (blk_cell Kgb0.out 3).trans rfl
 go_upto_region 9 with (first
  | (go_at_call 22; (with_reducible refine (laws_toImage.calls k a0_0 a0_1 a0_2 A0_3 c0_3 l0_3 x0_0 x0_1 x0_2 x0_3 wz1 (Kd.C_below HR0.out HB.out) HC0.out HT0.out).mono ?_); rintro e w1 ⟨vt_, rfl, hr, hb⟩; obtain ⟨At0, ct0, rfl, hl_, hC_⟩ := Kd.R_reads hr; replace HB := mk (below_then HB.out HB.out.size hb); replace Kgb0 := mk (blk_below Kgb0.out hb); have Zw1 := mk hb.size; have HT_0 := mk hC_; have HL_0 := mk hl_; have cgb0w1_0 : w1.cell? ⟨gb0, 0, none⟩ = some (.int .i64 a0_0) := (blk_cell Kgb0.out 0).trans rfl; have cgb0w1_1 : w1.cell? ⟨gb0, 1, none⟩ = some (.int .i64 a0_1) := (blk_cell Kgb0.out 1).trans rfl; have cgb0w1_2 : w1.cell? ⟨gb0, 2, none⟩ = some (.int .i64 a0_2) := (blk_cell Kgb0.out 2).trans rfl; have cgb0w1_3 : w1.cell? ⟨gb0, 3, none⟩ = some (.slice A0_3 l0_3.length c0_3) := (blk_cell Kgb0.out 3).trans rfl; clear hr hb hl_ hC_)
  | (go_at_call 66; (with_reducible refine (laws_toLayerS.calls k A1_0 c1_0 l1_0 x1_0 w1 (Kd.C_below HR1.out HB.out) HC1.out HT1.out).mono ?_); rintro e w2 ⟨vt_, rfl, hr, hb⟩; obtain ⟨At1, ct1, rfl, hl_, hC_⟩ := Kd.S_reads hr; replace HT_0 := mk (Kd.C_below HT_0.out hb); replace HB := mk (below_then HB.out HB.out.size hb); replace Kgb0 := mk (blk_below Kgb0.out hb); have Zw2 := mk hb.size; have HT_1 := mk hC_; have HL_1 := mk hl_; have cgb0w2_0 : w2.cell? ⟨gb0, 0, none⟩ = some (.int .i64 a0_0) := (blk_cell Kgb0.out 0).trans rfl; have cgb0w2_1 : w2.cell? ⟨gb0, 1, none⟩ = some (.int .i64 a0_1) := (blk_cell Kgb0.out 1).trans rfl; have cgb0w2_2 : w2.cell? ⟨gb0, 2, none⟩ = some (.int .i64 a0_2) := (blk_cell Kgb0.out 2).trans rfl; have cgb0w2_3 : w2.cell? ⟨gb0, 3, none⟩ = some (.slice A0_3 l0_3.length c0_3) := (blk_cell Kgb0.out 3).trans rfl; clear hr hb hl_ hC_)
  | (go_at_call 65; (with_reducible refine (spec_FlattenLayers.calls k x0_0 x0_1 x0_2 At0 ct0 x0_3 At1 ct1 x1_0 v0 v1 v2 v3 vok w2 HT_0.out HL_0.out HT_1.out HL_1.out HSP.out).mono ?_); rintro e w3 ⟨v_, rfl, hr, hb⟩; obtain ⟨Aw, cw, ev_⟩ := Kd.R_slice hr; subst ev_; have Rw := mk (Kd.R_lower (Kd.R_mono (Kd.R_bound hr) (fun k_ hk_ => (⟨hk_.2.1, hk_.2.2.1⟩ : w2.heap.size ≤ k_ ∧ k_ < w3.heap.size))) HB.out.size); replace HB := mk (below_then HB.out HB.out.size hb); replace Kgb0 := mk (blk_below Kgb0.out hb); have Zw3 := mk hb.size; clear hr hb HT_0 HL_0 HT_1 HL_1))
 try clear cgb0wz1_0 cgb0wz1_1 cgb0wz1_2 cgb0wz1_3
 try clear cgb0w1_0 cgb0w1_1 cgb0w1_2 cgb0w1_3 cgb0w2_0 cgb0w2_1 cgb0w2_2 cgb0w2_3
 obtain ⟨w4, hw4⟩ : ∃ W, W = w3.alloc (.cells #[.int .i64 v0, .int .i64 v1, .int .i64 v2, .slice Aw v3.length cw] 27) := ⟨_, rfl⟩
 obtain ⟨gw, hgw⟩ : ∃ g, g = w3.heap.size := ⟨_, rfl⟩
 rw [← hw4, ← hgw]
 have Kgw := mk (show w4.heap[gw]? = some (.cells #[.int .i64 v0, .int .i64 v1, .int .i64 v2, .slice Aw v3.length cw] 27 (0, 0)) from by rw [hw4, hgw]; exact blk_new _ _)
 replace HB := mk (show Below w.heap.size w w4 from by rw [hw4]; exact below_alloc HB.out _)
 replace Kgb0 := mk (show w4.heap[gb0]? = some (.cells #[.int .i64 a0_0, .int .i64 a0_1, .int .i64 a0_2, .slice A0_3 l0_3.length c0_3] 24 (0, 0)) from by rw [hw4]; exact blk_alloc Kgb0.out _)
 replace Rw := mk (show Kd.R (Kd.int .i64) 3 w4 w.heap.size (fun k_ => w2.heap.size ≤ k_ ∧ k_ < w3.heap.size) (.slice Aw v3.length cw) v3 from by rw [hw4]; exact Kd.R_alloc Rw.out _)
 have Zw4 := mk (show w3.heap.size < w4.heap.size from by rw [hw4]; simp [World.size_alloc])
 have Zgw := mk (show w3.heap.size ≤ gw from Nat.le_of_eq hgw.symm)
 have ZLgw := mk (blk_lt Kgw.out)
 clear hw4 hgw
 have cgb0w4_0 : w4.cell? ⟨gb0, 0, none⟩ = some (.int .i64 a0_0) := (blk_cell Kgb0.out 0).trans rfl; have cgb0w4_1 : w4.cell? ⟨gb0, 1, none⟩ = some (.int .i64 a0_1) := (blk_cell Kgb0.out 1).trans rfl; have cgb0w4_2 : w4.cell? ⟨gb0, 2, none⟩ = some (.int .i64 a0_2) := (blk_cell Kgb0.out 2).trans rfl; have cgb0w4_3 : w4.cell? ⟨gb0, 3, none⟩ = some (.slice A0_3 l0_3.length c0_3) := (blk_cell Kgb0.out 3).trans rfl
 go_upto_region 10 with (first
  | (go_at_call 22; (with_reducible refine (laws_toImage.calls k a0_0 a0_1 a0_2 A0_3 c0_3 l0_3 x0_0 x0_1 x0_2 x0_3 w4 (Kd.C_below HR0.out HB.out) HC0.out HT0.out).mono ?_); rintro e w5 ⟨v_, rfl, hr, hb⟩; obtain ⟨Ax0, cx0, ev_⟩ := Kd.R_slice hr; subst ev_; have Rx0 := mk (Kd.R_lower (Kd.R_mono (Kd.R_bound hr) (fun k_ hk_ => (⟨hk_.2.1, hk_.2.2.1⟩ : w4.heap.size ≤ k_ ∧ k_ < w5.heap.size))) HB.out.size); replace HB := mk (below_then HB.out HB.out.size hb); replace Kgb0 := mk (blk_below Kgb0.out hb); replace Kgw := mk (blk_below Kgw.out hb); replace Rw := mk (Kd.R_below Rw.out hb); have Zw5 := mk hb.size; clear hr hb))
 try clear cgb0w4_0 cgb0w4_1 cgb0w4_2 cgb0w4_3
 obtain ⟨w6, hw6⟩ : ∃ W, W = w5.alloc (.cells #[.int .i64 x0_0, .int .i64 x0_1, .int .i64 x0_2, .slice Ax0 x0_3.length cx0] 27) := ⟨_, rfl⟩
 obtain ⟨gx0, hgx0⟩ : ∃ g, g = w5.heap.size := ⟨_, rfl⟩
 rw [← hw6, ← hgx0]
 have Kgx0 := mk (show w6.heap[gx0]? = some (.cells #[.int .i64 x0_0, .int .i64 x0_1, .int .i64 x0_2, .slice Ax0 x0_3.length cx0] 27 (0, 0)) from by rw [hw6, hgx0]; exact blk_new _ _)
 replace HB := mk (show Below w.heap.size w w6 from by rw [hw6]; exact below_alloc HB.out _)
 replace Kgb0 := mk (show w6.heap[gb0]? = some (.cells #[.int .i64 a0_0, .int .i64 a0_1, .int .i64 a0_2, .slice A0_3 l0_3.length c0_3] 24 (0, 0)) from by rw [hw6]; exact blk_alloc Kgb0.out _)
 replace Kgw := mk (show w6.heap[gw]? = some (.cells #[.int .i64 v0, .int .i64 v1, .int .i64 v2, .slice Aw v3.length cw] 27 (0, 0)) from by rw [hw6]; exact blk_alloc Kgw.out _)
 replace Rw := mk (show Kd.R (Kd.int .i64) 3 w6 w.heap.size (fun k_ => w2.heap.size ≤ k_ ∧ k_ < w3.heap.size) (.slice Aw v3.length cw) v3 from by rw [hw6]; exact Kd.R_alloc Rw.out _)
 replace Rx0 := mk (show Kd.R (Kd.int .i64) 3 w6 w.heap.size (fun k_ => w4.heap.size ≤ k_ ∧ k_ < w5.heap.size) (.slice Ax0 x0_3.length cx0) x0_3 from by rw [hw6]; exact Kd.R_alloc Rx0.out _)
 have Zw6 := mk (show w5.heap.size < w6.heap.size from by rw [hw6]; simp [World.size_alloc])
 have Zgx0 := mk (show w5.heap.size ≤ gx0 from Nat.le_of_eq hgx0.symm)
 have ZLgx0 := mk (blk_lt Kgx0.out)
 clear hw6 hgx0
 go_upto_region 11 with (first
  | (go_at_call 66; (with_reducible refine (laws_toLayerS.calls k A1_0 c1_0 l1_0 x1_0 w6 (Kd.C_below HR1.out HB.out) HC1.out HT1.out).mono ?_); rintro e w7 ⟨v_, rfl, hr, hb⟩; obtain ⟨Ax1, cx1, ev_⟩ := Kd.S_slice hr; subst ev_; have Rx1 := mk (Kd.S_lower (Kd.S_mono (Kd.S_bound hr) (fun k_ hk_ => (⟨hk_.2.1, hk_.2.2.1⟩ : w6.heap.size ≤ k_ ∧ k_ < w7.heap.size))) HB.out.size); replace HB := mk (below_then HB.out HB.out.size hb); replace Kgb0 := mk (blk_below Kgb0.out hb); replace Kgw := mk (blk_below Kgw.out hb); replace Kgx0 := mk (blk_below Kgx0.out hb); replace Rw := mk (Kd.R_below Rw.out hb); replace Rx0 := mk (Kd.R_below Rx0.out hb); have Zw7 := mk hb.size; clear hr hb))
 have cgx0w7_0 : w7.cell? ⟨gx0, 0, none⟩ = some (.int .i64 x0_0) := (blk_cell Kgx0.out 0).trans rfl; have cgx0w7_1 : w7.cell? ⟨gx0, 1, none⟩ = some (.int .i64 x0_1) := (blk_cell Kgx0.out 1).trans rfl; have cgx0w7_2 : w7.cell? ⟨gx0, 2, none⟩ = some (.int .i64 x0_2) := (blk_cell Kgx0.out 2).trans rfl; have cgx0w7_3 : w7.cell? ⟨gx0, 3, none⟩ = some (.slice Ax0 x0_3.length cx0) := (blk_cell Kgx0.out 3).trans rfl
 go_upto_region 12 with (first
  | (go_at_call 67; (with_reducible refine (impl_FlattenLayers.calls k x0_0 x0_1 x0_2 Ax0 cx0 x0_3 Ax1 cx1 x1_0 v0 v1 v2 v3 vok w7 (Kd.R_reads' Rx0.out).2.2 (Kd.R_reads' Rx0.out).2.1 (Kd.S_reads' Rx1.out).2.2 (Kd.S_reads' Rx1.out).2.1 HIM.out).mono ?_); rintro e w8 ⟨v_, rfl, hr, hb⟩; obtain ⟨Ag, cg, ev_⟩ := Kd.R_slice hr; subst ev_; have Rg := mk (Kd.R_lower (Kd.R_mono (Kd.R_bound hr) (fun k_ hk_ => (⟨hk_.2.1, hk_.2.2.1⟩ : w7.heap.size ≤ k_ ∧ k_ < w8.heap.size))) HB.out.size); replace HB := mk (below_then HB.out HB.out.size hb); replace Kgb0 := mk (blk_below Kgb0.out hb); replace Kgw := mk (blk_below Kgw.out hb); replace Kgx0 := mk (blk_below Kgx0.out hb); replace Rw := mk (Kd.R_below Rw.out hb); replace Rx0 := mk (Kd.R_below Rx0.out hb); replace Rx1 := mk (Kd.S_below Rx1.out hb); have Zw8 := mk hb.size; clear hr hb))
 try clear cgx0w7_0 cgx0w7_1 cgx0w7_2 cgx0w7_3
 obtain ⟨w9, hw9⟩ : ∃ W, W = w8.alloc (.cells #[.int .i64 v0, .int .i64 v1, .int .i64 v2, .slice Ag v3.length cg] 27) := ⟨_, rfl⟩
 obtain ⟨gg, hgg⟩ : ∃ g, g = w8.heap.size := ⟨_, rfl⟩
 rw [← hw9, ← hgg]
 have Kgg := mk (show w9.heap[gg]? = some (.cells #[.int .i64 v0, .int .i64 v1, .int .i64 v2, .slice Ag v3.length cg] 27 (0, 0)) from by rw [hw9, hgg]; exact blk_new _ _)
 replace HB := mk (show Below w.heap.size w w9 from by rw [hw9]; exact below_alloc HB.out _)
 replace Kgb0 := mk (show w9.heap[gb0]? = some (.cells #[.int .i64 a0_0, .int .i64 a0_1, .int .i64 a0_2, .slice A0_3 l0_3.length c0_3] 24 (0, 0)) from by rw [hw9]; exact blk_alloc Kgb0.out _)
 replace Kgw := mk (show w9.heap[gw]? = some (.cells #[.int .i64 v0, .int .i64 v1, .int .i64 v2, .slice Aw v3.length cw] 27 (0, 0)) from by rw [hw9]; exact blk_alloc Kgw.out _)
 replace Kgx0 := mk (show w9.heap[gx0]? = some (.cells #[.int .i64 x0_0, .int .i64 x0_1, .int .i64 x0_2, .slice Ax0 x0_3.length cx0] 27 (0, 0)) from by rw [hw9]; exact blk_alloc Kgx0.out _)
 replace Rw := mk (show Kd.R (Kd.int .i64) 3 w9 w.heap.size (fun k_ => w2.heap.size ≤ k_ ∧ k_ < w3.heap.size) (.slice Aw v3.length cw) v3 from by rw [hw9]; exact Kd.R_alloc Rw.out _)
 replace Rx0 := mk (show Kd.R (Kd.int .i64) 3 w9 w.heap.size (fun k_ => w4.heap.size ≤ k_ ∧ k_ < w5.heap.size) (.slice Ax0 x0_3.length cx0) x0_3 from by rw [hw9]; exact Kd.R_alloc Rx0.out _)
 replace Rx1 := mk (show Kd.S k55 55 w9 w.heap.size (fun k_ => w6.heap.size ≤ k_ ∧ k_ < w7.heap.size) (.slice Ax1 x1_0.length cx1) x1_0 from by rw [hw9]; exact Kd.S_alloc Rx1.out _)
 replace Rg := mk (show Kd.R (Kd.int .i64) 3 w9 w.heap.size (fun k_ => w7.heap.size ≤ k_ ∧ k_ < w8.heap.size) (.slice Ag v3.length cg) v3 from by rw [hw9]; exact Kd.R_alloc Rg.out _)
 have Zw9 := mk (show w8.heap.size < w9.heap.size from by rw [hw9]; simp [World.size_alloc])
 have Zgg := mk (show w8.heap.size ≤ gg from Nat.le_of_eq hgg.symm)
 have ZLgg := mk (blk_lt Kgg.out)
 clear hw9 hgg
 have hbn : (vok != vok) = false := by simp
 have cggw9_0 : w9.cell? ⟨gg, 0, none⟩ = some (.int .i64 v0) := (blk_cell Kgg.out 0).trans rfl; have cggw9_1 : w9.cell? ⟨gg, 1, none⟩ = some (.int .i64 v1) := (blk_cell Kgg.out 1).trans rfl; have cggw9_2 : w9.cell? ⟨gg, 2, none⟩ = some (.int .i64 v2) := (blk_cell Kgg.out 2).trans rfl; have cggw9_3 : w9.cell? ⟨gg, 3, none⟩ = some (.slice Ag v3.length cg) := (blk_cell Kgg.out 3).trans rfl
 have cgww9_0 : w9.cell? ⟨gw, 0, none⟩ = some (.int .i64 v0) := (blk_cell Kgw.out 0).trans rfl; have cgww9_1 : w9.cell? ⟨gw, 1, none⟩ = some (.int .i64 v1) := (blk_cell Kgw.out 1).trans rfl; have cgww9_2 : w9.cell? ⟨gw, 2, none⟩ = some (.int .i64 v2) := (blk_cell Kgw.out 2).trans rfl; have cgww9_3 : w9.cell? ⟨gw, 3, none⟩ = some (.slice Aw v3.length cw) := (blk_cell Kgw.out 3).trans rfl
 go_upto_region 14 with (first
  | (go_at_call 24; (with_reducible refine (laws_eqImage.calls k v0 v1 v2 Ag cg v3 v0 v1 v2 Aw cw v3 true w9 (Kd.R_reads' Rg.out).2.2 (Kd.R_reads' Rg.out).2.1 (Kd.R_reads' Rw.out).2.2 (Kd.R_reads' Rw.out).2.1 HEV.out rfl).mono ?_); rintro e w10 ⟨rfl, hb⟩; replace HB := mk (below_then HB.out HB.out.size hb); replace Kgb0 := mk (blk_below Kgb0.out hb); replace Kgw := mk (blk_below Kgw.out hb); replace Kgx0 := mk (blk_below Kgx0.out hb); replace Kgg := mk (blk_below Kgg.out hb); replace Rw := mk (Kd.R_below Rw.out hb); replace Rx0 := mk (Kd.R_below Rx0.out hb); replace Rx1 := mk (Kd.S_below Rx1.out hb); replace Rg := mk (Kd.R_below Rg.out hb); have Zw10 := mk hb.size; clear hb))
 try clear cggw9_0 cggw9_1 cggw9_2 cggw9_3 cgww9_0 cgww9_1 cgww9_2 cgww9_3
 replace HB := mk (below_drew HB.out)
 replace Kgb0 := mk (blk_below Kgb0.out (below_drew (Below.refl _ _)))
 replace Kgw := mk (blk_below Kgw.out (below_drew (Below.refl _ _)))
 replace Kgx0 := mk (blk_below Kgx0.out (below_drew (Below.refl _ _)))
 replace Kgg := mk (blk_below Kgg.out (below_drew (Below.refl _ _)))
 replace Rw := mk (Kd.R_drew Rw.out)
 replace Rx0 := mk (Kd.R_drew Rx0.out)
 replace Rx1 := mk (Kd.S_drew Rx1.out)
 replace Rg := mk (Kd.R_drew Rg.out)
 refine start_ (n := 5) (S := fun w' => w'.cell? ⟨gx0, 0, none⟩ = some (.int .i64 x0_0) ∧ w'.cell? ⟨gx0, 1, none⟩ = some (.int .i64 x0_1) ∧ w'.cell? ⟨gx0, 2, none⟩ = some (.int .i64 x0_2) ∧ w'.cell? ⟨gx0, 3, none⟩ = some (.slice Ax0 x0_3.length cx0) ∧ w'.cell? ⟨gb0, 0, none⟩ = some (.int .i64 a0_0) ∧ w'.cell? ⟨gb0, 1, none⟩ = some (.int .i64 a0_1) ∧ w'.cell? ⟨gb0, 2, none⟩ = some (.int .i64 a0_2) ∧ w'.cell? ⟨gb0, 3, none⟩ = some (.slice A0_3 l0_3.length c0_3)) (ds := []) #[false, false, false, false, false] (by kernel_rfl) rfl rfl ⟨((blk_cell Kgx0.out 0).trans rfl), ((blk_cell Kgx0.out 1).trans rfl), ((blk_cell Kgx0.out 2).trans rfl), ((blk_cell Kgx0.out 3).trans rfl), ((blk_cell Kgb0.out 0).trans rfl), ((blk_cell Kgb0.out 1).trans rfl), ((blk_cell Kgb0.out 2).trans rfl), ((blk_cell Kgb0.out 3).trans rfl)⟩ (fun hHeld => ?_)
 refine take_ (i := 0) (N := some 54) (v := ?_) (a' := ?_) #[true, false, false, false, false] rfl rfl (by kernel_rfl) (fun _ _ _ h => h) (Or.inl ⟨by rfl, ?_⟩) hHeld ?_ ?_
 rotate_left
 ·rintro w' ⟨s0, s1, s2, s3, s4, s5, s6, s7⟩
  go_simp
  with_reducible rfl
 rotate_left
 ·simp only [Act.put, List.setIfInBounds_toArray, List.set_cons_zero, List.set_cons_succ, i64_w, i32_w]
  rfl
 refine take_ (i := 1) (N := some 55) (v := ?_) (a' := ?_) #[true, true, false, false, false] rfl rfl (by kernel_rfl) (fun _ _ _ h => h) (Or.inl ⟨by rfl, ?_⟩) hHeld ?_ ?_
 rotate_left
 ·rintro w' ⟨s0, s1, s2, s3, s4, s5, s6, s7⟩
  go_simp
  with_reducible rfl
 rotate_left
 ·simp only [Act.put, List.setIfInBounds_toArray, List.set_cons_zero, List.set_cons_succ, i64_w, i32_w]
  rfl
 refine one_ (i := 2) (N := some 56) #[true, true, true, false, false] rfl rfl (by kernel_rfl) (by decide) (fun K hK => ?_)
 refine goes_ Try.func22 (by kernel_rfl) rfl #[.agg #[.int .i64 a0_0, .int .i64 a0_1, .int .i64 a0_2, .slice A0_3 l0_3.length c0_3]] (by rfl) rfl rfl (by simp only [List.map_toArray, List.map_cons, List.map_nil]; rfl) ?_
 with_reducible refine (laws_toImage.calls k a0_0 a0_1 a0_2 A0_3 c0_3 l0_3 x0_0 x0_1 x0_2 x0_3 _ (Kd.C_below HR0.out HB.out) HC0.out HT0.out).mono ?_
 rintro e w11 ⟨vt_, rfl, hr_, hb_⟩
 refine ⟨_, rfl, ?_⟩
 obtain ⟨At_, ct_, rfl, hl_, hC_⟩ := Kd.R_reads hr_
 replace HB := mk (below_then HB.out HB.out.size hb_)
 replace Kgb0 := mk (blk_below Kgb0.out hb_)
 replace Kgw := mk (blk_below Kgw.out hb_)
 replace Kgx0 := mk (blk_below Kgx0.out hb_)
 replace Kgg := mk (blk_below Kgg.out hb_)
 replace Rw := mk (Kd.R_below Rw.out hb_)
 replace Rx0 := mk (Kd.R_below Rx0.out hb_)
 replace Rx1 := mk (Kd.S_below Rx1.out hb_)
 replace Rg := mk (Kd.R_below Rg.out hb_)
 have Zw11 := mk hb_.size
 have HT_ := mk hC_
 have HL_ := mk hl_
 clear hr_ hb_ hl_ hC_
 refine hK.out _ _ ⟨((blk_cell Kgx0.out 0).trans rfl), ((blk_cell Kgx0.out 1).trans rfl), ((blk_cell Kgx0.out 2).trans rfl), ((blk_cell Kgx0.out 3).trans rfl), ((blk_cell Kgb0.out 0).trans rfl), ((blk_cell Kgb0.out 1).trans rfl), ((blk_cell Kgb0.out 2).trans rfl), ((blk_cell Kgb0.out 3).trans rfl)⟩ (fun hHeld => ?_)
 clear hK K
 refine norm_ (a' := ?_) ?_ ?_
 rotate_left
 ·show Act.put _ (some 56) _ = _
  simp only [Act.put, List.setIfInBounds_toArray, List.set_cons_zero, List.set_cons_succ, i64_w, i32_w]
  rfl
 refine one_ (i := 3) (N := some 57) #[true, true, true, true, false] rfl rfl (by kernel_rfl) (by decide) (fun K hK => ?_)
 refine goes_ Try.func24 (by kernel_rfl) rfl #[.agg #[.int .i64 x0_0, .int .i64 x0_1, .int .i64 x0_2, .slice Ax0 x0_3.length cx0], .agg #[.int .i64 x0_0, .int .i64 x0_1, .int .i64 x0_2, .slice At_ x0_3.length ct_]] (by rfl) rfl rfl (by simp only [List.map_toArray, List.map_cons, List.map_nil]; rfl) ?_
 with_reducible refine (laws_eqImage.calls k x0_0 x0_1 x0_2 Ax0 cx0 x0_3 x0_0 x0_1 x0_2 At_ ct_ x0_3 true _ (Kd.R_reads' Rx0.out).2.2 (Kd.R_reads' Rx0.out).2.1 HT_.out HL_.out HE0.out rfl).mono ?_
 rintro e w12 ⟨rfl, hb_⟩
 refine ⟨_, rfl, ?_⟩
 replace HB := mk (below_then HB.out HB.out.size hb_)
 replace Kgb0 := mk (blk_below Kgb0.out hb_)
 replace Kgw := mk (blk_below Kgw.out hb_)
 replace Kgx0 := mk (blk_below Kgx0.out hb_)
 replace Kgg := mk (blk_below Kgg.out hb_)
 replace Rw := mk (Kd.R_below Rw.out hb_)
 replace Rx0 := mk (Kd.R_below Rx0.out hb_)
 replace Rx1 := mk (Kd.S_below Rx1.out hb_)
 replace Rg := mk (Kd.R_below Rg.out hb_)
 have Zw12 := mk hb_.size
 clear hb_ HT_ HL_
 refine hK.out _ _ ⟨((blk_cell Kgx0.out 0).trans rfl), ((blk_cell Kgx0.out 1).trans rfl), ((blk_cell Kgx0.out 2).trans rfl), ((blk_cell Kgx0.out 3).trans rfl), ((blk_cell Kgb0.out 0).trans rfl), ((blk_cell Kgb0.out 1).trans rfl), ((blk_cell Kgb0.out 2).trans rfl), ((blk_cell Kgb0.out 3).trans rfl)⟩ (fun hHeld => ?_)
 clear hK K
 refine norm_ (a' := ?_) ?_ ?_
 rotate_left
 ·show Act.put _ (some 57) _ = _
  simp only [Act.put, List.setIfInBounds_toArray, List.set_cons_zero, List.set_cons_succ, i64_w, i32_w]
  rfl
 refine pure_ (i := 4) (N := some 58) (v := ?_) (a' := ?_) #[true, true, true, true, true] rfl rfl (by kernel_rfl) (fun _ _ _ h => h) (Or.inl ⟨by rfl, ?_⟩) ?_ ?_
 rotate_left
 ·intro w'
  go_simp
  with_reducible rfl
 rotate_left
 ·simp only [Act.put, List.setIfInBounds_toArray, List.set_cons_zero, List.set_cons_succ, i64_w, i32_w]
  rfl
 refine done_ (by kernel_rfl) ?_
 clear hHeld
 go_upto_region 16 with (first
  | (fail))
 go_upto_region 18 with (first
  | (go_at_call 66; (with_reducible refine (laws_toLayerS.calls k A1_0 c1_0 l1_0 x1_0 w12 (Kd.C_below HR1.out HB.out) HC1.out HT1.out).mono ?_); rintro e w13 ⟨vt_, rfl, hr, hb⟩; obtain ⟨At_, ct_, rfl, hl_, hC_⟩ := Kd.S_reads hr; replace HB := mk (below_then HB.out HB.out.size hb); replace Kgb0 := mk (blk_below Kgb0.out hb); replace Kgw := mk (blk_below Kgw.out hb); replace Kgx0 := mk (blk_below Kgx0.out hb); replace Kgg := mk (blk_below Kgg.out hb); replace Rw := mk (Kd.R_below Rw.out hb); replace Rx0 := mk (Kd.R_below Rx0.out hb); replace Rx1 := mk (Kd.S_below Rx1.out hb); replace Rg := mk (Kd.R_below Rg.out hb); have Zw13 := mk hb.size; have HT_ := mk hC_; have HL_ := mk hl_; clear hr hb hl_ hC_)
  | (go_at_call 68; (with_reducible refine (laws_eqLayerS.calls k Ax1 cx1 x1_0 At_ ct_ x1_0 true w13 (Kd.S_reads' Rx1.out).2.2 (Kd.S_reads' Rx1.out).2.1 HT_.out HL_.out HE1.out rfl).mono ?_); rintro e w14 ⟨rfl, hb⟩; replace HB := mk (below_then HB.out HB.out.size hb); replace Kgb0 := mk (blk_below Kgb0.out hb); replace Kgw := mk (blk_below Kgw.out hb); replace Kgx0 := mk (blk_below Kgx0.out hb); replace Kgg := mk (blk_below Kgg.out hb); replace Rw := mk (Kd.R_below Rw.out hb); replace Rx0 := mk (Kd.R_below Rx0.out hb); replace Rx1 := mk (Kd.S_below Rx1.out hb); replace Rg := mk (Kd.R_below Rg.out hb); have Zw14 := mk hb.size; clear hb HT_ HL_))
 have Zb0 := mk QKgb0.out
 have z0_ := Zw1.out; have z1_ := Zw2.out; have z2_ := Zw3.out; have z3_ := Zw4.out; have z4_ := Zgw.out; have z5_ := ZLgw.out; have z6_ := Zw5.out; have z7_ := Zw6.out; have z8_ := Zgx0.out; have z9_ := ZLgx0.out; have z10_ := Zw7.out; have z11_ := Zw8.out; have z12_ := Zw9.out; have z13_ := Zgg.out; have z14_ := ZLgg.out; have z15_ := Zw10.out; have z16_ := Zw11.out; have z17_ := Zw12.out; have z18_ := Zw13.out; have z19_ := Zw14.out; have z20_ := Zb0.out
 have cgx0w14_0 : w14.cell? ⟨gx0, 0, none⟩ = some (.int .i64 x0_0) := (blk_cell Kgx0.out 0).trans rfl; have cgx0w14_1 : w14.cell? ⟨gx0, 1, none⟩ = some (.int .i64 x0_1) := (blk_cell Kgx0.out 1).trans rfl; have cgx0w14_2 : w14.cell? ⟨gx0, 2, none⟩ = some (.int .i64 x0_2) := (blk_cell Kgx0.out 2).trans rfl; have cgx0w14_3 : w14.cell? ⟨gx0, 3, none⟩ = some (.slice Ax0 x0_3.length cx0) := (blk_cell Kgx0.out 3).trans rfl
 go_upto_region 20 with (first
  | (go_at_call 31; (with_reducible refine (laws_markImage.calls k x0_0 x0_1 x0_2 (fun k_ => w4.heap.size ≤ k_ ∧ k_ < w5.heap.size) (.slice Ax0 x0_3.length cx0) x0_3 1 k0 y0 w w14 HB.out Rx0.out HM0.out).mono ?_); rintro e w15 ⟨rfl, hr, hb, hK⟩; replace Kgb0 := mk ((hK.2 gb0 (blk_lt Kgb0.out) (by have b_ := blk_lt Kgb0.out; rintro ⟨h1_, h2_⟩; omega)).trans Kgb0.out); replace Kgw := mk ((hK.2 gw (blk_lt Kgw.out) (by have b_ := blk_lt Kgw.out; rintro ⟨h1_, h2_⟩; omega)).trans Kgw.out); replace Kgx0 := mk ((hK.2 gx0 (blk_lt Kgx0.out) (by have b_ := blk_lt Kgx0.out; rintro ⟨h1_, h2_⟩; omega)).trans Kgx0.out); replace Kgg := mk ((hK.2 gg (blk_lt Kgg.out) (by have b_ := blk_lt Kgg.out; rintro ⟨h1_, h2_⟩; omega)).trans Kgg.out); replace Rw := mk (Kd.R_kept Rw.out hK (by rintro k_ ⟨h1_, h2_⟩ ⟨h3_, h4_⟩; omega)); replace Rx1 := mk (Kd.S_kept Rx1.out hK (by rintro k_ ⟨h1_, h2_⟩ ⟨h3_, h4_⟩; omega)); replace Rg := mk (Kd.R_kept Rg.out hK (by rintro k_ ⟨h1_, h2_⟩ ⟨h3_, h4_⟩; omega)); replace HB := mk hb; replace Rx0 := mk hr; have Zw15 := mk hK.1; clear hr hb hK))
 try clear cgx0w14_0 cgx0w14_1 cgx0w14_2 cgx0w14_3
 clear z0_ z1_ z2_ z3_ z4_ z5_ z6_ z7_ z8_ z9_ z10_ z11_ z12_ z13_ z14_ z15_ z16_ z17_ z18_ z19_ z20_
 have z0_ := Zw1.out; have z1_ := Zw2.out; have z2_ := Zw3.out; have z3_ := Zw4.out; have z4_ := Zgw.out; have z5_ := ZLgw.out; have z6_ := Zw5.out; have z7_ := Zw6.out; have z8_ := Zgx0.out; have z9_ := ZLgx0.out; have z10_ := Zw7.out; have z11_ := Zw8.out; have z12_ := Zw9.out; have z13_ := Zgg.out; have z14_ := ZLgg.out; have z15_ := Zw10.out; have z16_ := Zw11.out; have z17_ := Zw12.out; have z18_ := Zw13.out; have z19_ := Zw14.out; have z20_ := Zb0.out; have z21_ := Zw15.out
 go_upto_region 21 with (first
  | (go_at_call 69; (with_reducible refine (laws_markLayerS.calls k (fun k_ => w6.heap.size ≤ k_ ∧ k_ < w7.heap.size) (.slice Ax1 x1_0.length cx1) x1_0 k0 k1 y1 w w15 HB.out Rx1.out HM1.out).mono ?_); rintro e w16 ⟨rfl, hr, hb, hK⟩; replace Kgb0 := mk ((hK.2 gb0 (blk_lt Kgb0.out) (by have b_ := blk_lt Kgb0.out; rintro ⟨h1_, h2_⟩; omega)).trans Kgb0.out); replace Kgw := mk ((hK.2 gw (blk_lt Kgw.out) (by have b_ := blk_lt Kgw.out; rintro ⟨h1_, h2_⟩; omega)).trans Kgw.out); replace Kgx0 := mk ((hK.2 gx0 (blk_lt Kgx0.out) (by have b_ := blk_lt Kgx0.out; rintro ⟨h1_, h2_⟩; omega)).trans Kgx0.out); replace Kgg := mk ((hK.2 gg (blk_lt Kgg.out) (by have b_ := blk_lt Kgg.out; rintro ⟨h1_, h2_⟩; omega)).trans Kgg.out); replace Rw := mk (Kd.R_kept Rw.out hK (by rintro k_ ⟨h1_, h2_⟩ ⟨h3_, h4_⟩; omega)); replace Rg := mk (Kd.R_kept Rg.out hK (by rintro k_ ⟨h1_, h2_⟩ ⟨h3_, h4_⟩; omega)); replace HB := mk hb; replace Rx1 := mk hr; have Zw16 := mk hK.1; clear hr hb hK))
 clear z0_ z1_ z2_ z3_ z4_ z5_ z6_ z7_ z8_ z9_ z10_ z11_ z12_ z13_ z14_ z15_ z16_ z17_ z18_ z19_ z20_ z21_
 have cggw16_0 : w16.cell? ⟨gg, 0, none⟩ = some (.int .i64 v0) := (blk_cell Kgg.out 0).trans rfl; have cggw16_1 : w16.cell? ⟨gg, 1, none⟩ = some (.int .i64 v1) := (blk_cell Kgg.out 1).trans rfl; have cggw16_2 : w16.cell? ⟨gg, 2, none⟩ = some (.int .i64 v2) := (blk_cell Kgg.out 2).trans rfl; have cggw16_3 : w16.cell? ⟨gg, 3, none⟩ = some (.slice Ag v3.length cg) := (blk_cell Kgg.out 3).trans rfl
 have cgww16_0 : w16.cell? ⟨gw, 0, none⟩ = some (.int .i64 v0) := (blk_cell Kgw.out 0).trans rfl; have cgww16_1 : w16.cell? ⟨gw, 1, none⟩ = some (.int .i64 v1) := (blk_cell Kgw.out 1).trans rfl; have cgww16_2 : w16.cell? ⟨gw, 2, none⟩ = some (.int .i64 v2) := (blk_cell Kgw.out 2).trans rfl; have cgww16_3 : w16.cell? ⟨gw, 3, none⟩ = some (.slice Aw v3.length cw) := (blk_cell Kgw.out 3).trans rfl
 go_upto_region 23 with (first
  | (go_at_call 24; (with_reducible refine (laws_eqImage.calls k v0 v1 v2 Ag cg v3 v0 v1 v2 Aw cw v3 true w16 (Kd.R_reads' Rg.out).2.2 (Kd.R_reads' Rg.out).2.1 (Kd.R_reads' Rw.out).2.2 (Kd.R_reads' Rw.out).2.1 HEV.out rfl).mono ?_); rintro e w17 ⟨rfl, hb⟩; replace HB := mk (below_then HB.out HB.out.size hb); replace Kgb0 := mk (blk_below Kgb0.out hb); replace Kgw := mk (blk_below Kgw.out hb); replace Kgx0 := mk (blk_below Kgx0.out hb); replace Kgg := mk (blk_below Kgg.out hb); replace Rw := mk (Kd.R_below Rw.out hb); replace Rg := mk (Kd.R_below Rg.out hb); have Zw17 := mk hb.size; clear hb))
 try clear cggw16_0 cggw16_1 cggw16_2 cggw16_3 cgww16_0 cgww16_1 cgww16_2 cgww16_3
 have z0_ := Zw1.out; have z1_ := Zw2.out; have z2_ := Zw3.out; have z3_ := Zw4.out; have z4_ := Zgw.out; have z5_ := ZLgw.out; have z6_ := Zw5.out; have z7_ := Zw6.out; have z8_ := Zgx0.out; have z9_ := ZLgx0.out; have z10_ := Zw7.out; have z11_ := Zw8.out; have z12_ := Zw9.out; have z13_ := Zgg.out; have z14_ := ZLgg.out; have z15_ := Zw10.out; have z16_ := Zw11.out; have z17_ := Zw12.out; have z18_ := Zw13.out; have z19_ := Zw14.out; have z20_ := Zb0.out; have z21_ := Zw15.out; have z22_ := Zw16.out; have z23_ := Zw17.out
 have cggw17_0 : w17.cell? ⟨gg, 0, none⟩ = some (.int .i64 v0) := (blk_cell Kgg.out 0).trans rfl; have cggw17_1 : w17.cell? ⟨gg, 1, none⟩ = some (.int .i64 v1) := (blk_cell Kgg.out 1).trans rfl; have cggw17_2 : w17.cell? ⟨gg, 2, none⟩ = some (.int .i64 v2) := (blk_cell Kgg.out 2).trans rfl; have cggw17_3 : w17.cell? ⟨gg, 3, none⟩ = some (.slice Ag v3.length cg) := (blk_cell Kgg.out 3).trans rfl
 go_upto_region 25 with (first
  | (go_at_call 31; (with_reducible refine (laws_markImage.calls k v0 v1 v2 (fun k_ => w7.heap.size ≤ k_ ∧ k_ < w8.heap.size) (.slice Ag v3.length cg) v3 1 m u w w17 HB.out Rg.out HMR.out).mono ?_); rintro e w18 ⟨rfl, hr, hb, hK⟩; replace Kgb0 := mk ((hK.2 gb0 (blk_lt Kgb0.out) (by have b_ := blk_lt Kgb0.out; rintro ⟨h1_, h2_⟩; omega)).trans Kgb0.out); replace Kgw := mk ((hK.2 gw (blk_lt Kgw.out) (by have b_ := blk_lt Kgw.out; rintro ⟨h1_, h2_⟩; omega)).trans Kgw.out); replace Kgx0 := mk ((hK.2 gx0 (blk_lt Kgx0.out) (by have b_ := blk_lt Kgx0.out; rintro ⟨h1_, h2_⟩; omega)).trans Kgx0.out); replace Kgg := mk ((hK.2 gg (blk_lt Kgg.out) (by have b_ := blk_lt Kgg.out; rintro ⟨h1_, h2_⟩; omega)).trans Kgg.out); replace Rw := mk (Kd.R_kept Rw.out hK (by rintro k_ ⟨h1_, h2_⟩ ⟨h3_, h4_⟩; omega)); replace HB := mk hb; replace Rg := mk hr; have Zw18 := mk hK.1; clear hr hb hK))
 try clear cggw17_0 cggw17_1 cggw17_2 cggw17_3
 clear z0_ z1_ z2_ z3_ z4_ z5_ z6_ z7_ z8_ z9_ z10_ z11_ z12_ z13_ z14_ z15_ z16_ z17_ z18_ z19_ z20_ z21_ z22_ z23_
 have eu := mk (Kd.R_reads' Rg.out).1
 replace Kgg := mk (show w18.heap[gg]? = some (.cells #[.int .i64 v0, .int .i64 v1, .int .i64 v2, .slice Ag u.length cg] 27 (0, 0)) from by rw [← eu.out]; exact Kgg.out)
 replace Rg := mk (show Kd.R (Kd.int .i64) 3 w18 w.heap.size (fun k_ => 0 ≤ k_ ∧ k_ < w18.heap.size) (.slice Ag u.length cg) u from by rw [← eu.out]; exact Kd.R_mono (Kd.R_bound Rg.out) (fun k_ hk_ => ⟨Nat.zero_le _, hk_.2.2.1⟩))
 clear eu
 have cggw18_0 : w18.cell? ⟨gg, 0, none⟩ = some (.int .i64 v0) := (blk_cell Kgg.out 0).trans rfl; have cggw18_1 : w18.cell? ⟨gg, 1, none⟩ = some (.int .i64 v1) := (blk_cell Kgg.out 1).trans rfl; have cggw18_2 : w18.cell? ⟨gg, 2, none⟩ = some (.int .i64 v2) := (blk_cell Kgg.out 2).trans rfl; have cggw18_3 : w18.cell? ⟨gg, 3, none⟩ = some (.slice Ag u.length cg) := (blk_cell Kgg.out 3).trans rfl
 go_upto_region 31 with (first
  | (go_at_call 59; (with_reducible refine (laws_heldImage.calls k v0 v1 v2 Ag cg u 1 m w18 (Kd.R_reads' Rg.out).2.2 (Kd.R_reads' Rg.out).2.1 HHR.out).mono ?_); rintro e w19 ⟨rfl, hb⟩; replace HB := mk (below_then HB.out HB.out.size hb); replace Kgb0 := mk (blk_below Kgb0.out hb); replace Kgw := mk (blk_below Kgw.out hb); replace Kgg := mk (blk_below Kgg.out hb); replace Rw := mk (Kd.R_below Rw.out hb); replace Rg := mk (Kd.R_below Rg.out hb); have Zw19 := mk hb.size; clear hb))
 try clear cggw18_0 cggw18_1 cggw18_2 cggw18_3
 have HBSh := mk HB.out.size
 have QKgb0 := mk (show gb0 < w19.heap.size from blk_lt Kgb0.out)
 have QKgw := mk (show gw < w19.heap.size from blk_lt Kgw.out)
 have QKgg := mk (show gg < w19.heap.size from blk_lt Kgg.out)
 have cgb0w19_0 : w19.cell? ⟨gb0, 0, none⟩ = some (.int .i64 a0_0) := (blk_cell Kgb0.out 0).trans rfl; have cgb0w19_1 : w19.cell? ⟨gb0, 1, none⟩ = some (.int .i64 a0_1) := (blk_cell Kgb0.out 1).trans rfl; have cgb0w19_2 : w19.cell? ⟨gb0, 2, none⟩ = some (.int .i64 a0_2) := (blk_cell Kgb0.out 2).trans rfl; have cgb0w19_3 : w19.cell? ⟨gb0, 3, none⟩ = some (.slice A0_3 l0_3.length c0_3) := (blk_cell Kgb0.out 3).trans rfl
 go_upto_region 32 with (first
  | (go_at_call 22; (with_reducible refine (laws_toImage.calls k a0_0 a0_1 a0_2 A0_3 c0_3 l0_3 x0_0 x0_1 x0_2 x0_3 w19 (Kd.C_below HR0.out HB.out) HC0.out HT0.out).mono ?_); rintro e w20 ⟨vt_, rfl, hr, hb⟩; obtain ⟨At0, ct0, rfl, hl_, hC_⟩ := Kd.R_reads hr; replace HB := mk (below_then HB.out HB.out.size hb); replace Kgb0 := mk (blk_below Kgb0.out hb); replace Kgw := mk (blk_below Kgw.out hb); replace Kgg := mk (blk_below Kgg.out hb); replace Rw := mk (Kd.R_below Rw.out hb); replace Rg := mk (Kd.R_below Rg.out hb); have Zw20 := mk hb.size; have HT_0 := mk hC_; have HL_0 := mk hl_; have cgb0w20_0 : w20.cell? ⟨gb0, 0, none⟩ = some (.int .i64 a0_0) := (blk_cell Kgb0.out 0).trans rfl; have cgb0w20_1 : w20.cell? ⟨gb0, 1, none⟩ = some (.int .i64 a0_1) := (blk_cell Kgb0.out 1).trans rfl; have cgb0w20_2 : w20.cell? ⟨gb0, 2, none⟩ = some (.int .i64 a0_2) := (blk_cell Kgb0.out 2).trans rfl; have cgb0w20_3 : w20.cell? ⟨gb0, 3, none⟩ = some (.slice A0_3 l0_3.length c0_3) := (blk_cell Kgb0.out 3).trans rfl; clear hr hb hl_ hC_)
  | (go_at_call 66; (with_reducible refine (laws_toLayerS.calls k A1_0 c1_0 l1_0 x1_0 w20 (Kd.C_below HR1.out HB.out) HC1.out HT1.out).mono ?_); rintro e w21 ⟨vt_, rfl, hr, hb⟩; obtain ⟨At1, ct1, rfl, hl_, hC_⟩ := Kd.S_reads hr; replace HT_0 := mk (Kd.C_below HT_0.out hb); replace HB := mk (below_then HB.out HB.out.size hb); replace Kgb0 := mk (blk_below Kgb0.out hb); replace Kgw := mk (blk_below Kgw.out hb); replace Kgg := mk (blk_below Kgg.out hb); replace Rw := mk (Kd.R_below Rw.out hb); replace Rg := mk (Kd.R_below Rg.out hb); have Zw21 := mk hb.size; have HT_1 := mk hC_; have HL_1 := mk hl_; have cgb0w21_0 : w21.cell? ⟨gb0, 0, none⟩ = some (.int .i64 a0_0) := (blk_cell Kgb0.out 0).trans rfl; have cgb0w21_1 : w21.cell? ⟨gb0, 1, none⟩ = some (.int .i64 a0_1) := (blk_cell Kgb0.out 1).trans rfl; have cgb0w21_2 : w21.cell? ⟨gb0, 2, none⟩ = some (.int .i64 a0_2) := (blk_cell Kgb0.out 2).trans rfl; have cgb0w21_3 : w21.cell? ⟨gb0, 3, none⟩ = some (.slice A0_3 l0_3.length c0_3) := (blk_cell Kgb0.out 3).trans rfl; clear hr hb hl_ hC_)
  | (go_at_call 67; (with_reducible refine (impl_FlattenLayers.calls k x0_0 x0_1 x0_2 At0 ct0 x0_3 At1 ct1 x1_0 v0 v1 v2 v3 vok w21 HT_0.out HL_0.out HT_1.out HL_1.out HIM.out).mono ?_); rintro e w22 ⟨v_, rfl, hr, hb⟩; obtain ⟨Ah, ch, ev_⟩ := Kd.R_slice hr; subst ev_; have Rh := mk (Kd.R_lower (Kd.R_mono (Kd.R_bound hr) (fun k_ hk_ => (⟨hk_.2.1, hk_.2.2.1⟩ : w21.heap.size ≤ k_ ∧ k_ < w22.heap.size))) HB.out.size); replace HB := mk (below_then HB.out HB.out.size hb); replace Kgb0 := mk (blk_below Kgb0.out hb); replace Kgw := mk (blk_below Kgw.out hb); replace Kgg := mk (blk_below Kgg.out hb); replace Rw := mk (Kd.R_below Rw.out hb); replace Rg := mk (Kd.R_below Rg.out hb); have Zw22 := mk hb.size; clear hr hb HT_0 HL_0 HT_1 HL_1))
 try clear cgb0w19_0 cgb0w19_1 cgb0w19_2 cgb0w19_3
 try clear cgb0w20_0 cgb0w20_1 cgb0w20_2 cgb0w20_3 cgb0w21_0 cgb0w21_1 cgb0w21_2 cgb0w21_3
 obtain ⟨w23, hw23⟩ : ∃ W, W = w22.alloc (.cells #[.int .i64 v0, .int .i64 v1, .int .i64 v2, .slice Ah v3.length ch] 27) := ⟨_, rfl⟩
 obtain ⟨gh, hgh⟩ : ∃ g, g = w22.heap.size := ⟨_, rfl⟩
 rw [← hw23, ← hgh]
 have Kgh := mk (show w23.heap[gh]? = some (.cells #[.int .i64 v0, .int .i64 v1, .int .i64 v2, .slice Ah v3.length ch] 27 (0, 0)) from by rw [hw23, hgh]; exact blk_new _ _)
 replace HB := mk (show Below w.heap.size w w23 from by rw [hw23]; exact below_alloc HB.out _)
 replace Kgb0 := mk (show w23.heap[gb0]? = some (.cells #[.int .i64 a0_0, .int .i64 a0_1, .int .i64 a0_2, .slice A0_3 l0_3.length c0_3] 24 (0, 0)) from by rw [hw23]; exact blk_alloc Kgb0.out _)
 replace Kgw := mk (show w23.heap[gw]? = some (.cells #[.int .i64 v0, .int .i64 v1, .int .i64 v2, .slice Aw v3.length cw] 27 (0, 0)) from by rw [hw23]; exact blk_alloc Kgw.out _)
 replace Kgg := mk (show w23.heap[gg]? = some (.cells #[.int .i64 v0, .int .i64 v1, .int .i64 v2, .slice Ag u.length cg] 27 (0, 0)) from by rw [hw23]; exact blk_alloc Kgg.out _)
 replace Rw := mk (show Kd.R (Kd.int .i64) 3 w23 w.heap.size (fun k_ => w2.heap.size ≤ k_ ∧ k_ < w3.heap.size) (.slice Aw v3.length cw) v3 from by rw [hw23]; exact Kd.R_alloc Rw.out _)
 replace Rg := mk (show Kd.R (Kd.int .i64) 3 w23 w.heap.size (fun k_ => 0 ≤ k_ ∧ k_ < w18.heap.size) (.slice Ag u.length cg) u from by rw [hw23]; exact Kd.R_alloc Rg.out _)
 replace Rh := mk (show Kd.R (Kd.int .i64) 3 w23 w.heap.size (fun k_ => w21.heap.size ≤ k_ ∧ k_ < w22.heap.size) (.slice Ah v3.length ch) v3 from by rw [hw23]; exact Kd.R_alloc Rh.out _)
 have Zw23 := mk (show w22.heap.size < w23.heap.size from by rw [hw23]; simp [World.size_alloc])
 have Zgh := mk (show w22.heap.size ≤ gh from Nat.le_of_eq hgh.symm)
 have ZLgh := mk (blk_lt Kgh.out)
 clear hw23 hgh
 have cghw23_0 : w23.cell? ⟨gh, 0, none⟩ = some (.int .i64 v0) := (blk_cell Kgh.out 0).trans rfl; have cghw23_1 : w23.cell? ⟨gh, 1, none⟩ = some (.int .i64 v1) := (blk_cell Kgh.out 1).trans rfl; have cghw23_2 : w23.cell? ⟨gh, 2, none⟩ = some (.int .i64 v2) := (blk_cell Kgh.out 2).trans rfl; have cghw23_3 : w23.cell? ⟨gh, 3, none⟩ = some (.slice Ah v3.length ch) := (blk_cell Kgh.out 3).trans rfl
 have cgww23_0 : w23.cell? ⟨gw, 0, none⟩ = some (.int .i64 v0) := (blk_cell Kgw.out 0).trans rfl; have cgww23_1 : w23.cell? ⟨gw, 1, none⟩ = some (.int .i64 v1) := (blk_cell Kgw.out 1).trans rfl; have cgww23_2 : w23.cell? ⟨gw, 2, none⟩ = some (.int .i64 v2) := (blk_cell Kgw.out 2).trans rfl; have cgww23_3 : w23.cell? ⟨gw, 3, none⟩ = some (.slice Aw v3.length cw) := (blk_cell Kgw.out 3).trans rfl
 go_upto_region 34 with (first
  | (go_at_call 24; (with_reducible refine (laws_eqImage.calls k v0 v1 v2 Ah ch v3 v0 v1 v2 Aw cw v3 true w23 (Kd.R_reads' Rh.out).2.2 (Kd.R_reads' Rh.out).2.1 (Kd.R_reads' Rw.out).2.2 (Kd.R_reads' Rw.out).2.1 HEV.out rfl).mono ?_); rintro e w24 ⟨rfl, hb⟩; replace HB := mk (below_then HB.out HB.out.size hb); replace Kgb0 := mk (blk_below Kgb0.out hb); replace Kgw := mk (blk_below Kgw.out hb); replace Kgg := mk (blk_below Kgg.out hb); replace Kgh := mk (blk_below Kgh.out hb); replace Rw := mk (Kd.R_below Rw.out hb); replace Rg := mk (Kd.R_below Rg.out hb); replace Rh := mk (Kd.R_below Rh.out hb); have Zw24 := mk hb.size; clear hb))
 try clear cghw23_0 cghw23_1 cghw23_2 cghw23_3 cgww23_0 cgww23_1 cgww23_2 cgww23_3
 have cggw24_0 : w24.cell? ⟨gg, 0, none⟩ = some (.int .i64 v0) := (blk_cell Kgg.out 0).trans rfl; have cggw24_1 : w24.cell? ⟨gg, 1, none⟩ = some (.int .i64 v1) := (blk_cell Kgg.out 1).trans rfl; have cggw24_2 : w24.cell? ⟨gg, 2, none⟩ = some (.int .i64 v2) := (blk_cell Kgg.out 2).trans rfl; have cggw24_3 : w24.cell? ⟨gg, 3, none⟩ = some (.slice Ag u.length cg) := (blk_cell Kgg.out 3).trans rfl
 go_wp2_with (first
  | (go_at_call 59; (with_reducible refine (laws_heldImage.calls k v0 v1 v2 Ag cg u 1 m w24 (Kd.R_reads' Rg.out).2.2 (Kd.R_reads' Rg.out).2.1 HHR.out).mono ?_); rintro e w25 ⟨rfl, hb⟩; replace HB := mk (below_then HB.out HB.out.size hb); replace Kgb0 := mk (blk_below Kgb0.out hb); replace Kgw := mk (blk_below Kgw.out hb); replace Kgg := mk (blk_below Kgg.out hb); replace Kgh := mk (blk_below Kgh.out hb); replace Rw := mk (Kd.R_below Rw.out hb); replace Rg := mk (Kd.R_below Rg.out hb); replace Rh := mk (Kd.R_below Rh.out hb); have Zw25 := mk hb.size; clear hb))
 go_ret
 exact ⟨rfl, HB.out⟩
theorem laws_FnExactFlattenLayers.calls (k : Nat) (a0_0 : Int) (a0_1 : Int) (a0_2 : Int) (A0_3 : Option Addr) (c0_3 : Nat) (l0_3 : List Int) (A1_0 : Option Addr) (c1_0 : Nat) (l1_0 : List S51) (r : Bool) (w : World) (hr0 : Kd.C (Kd.int .i64) w A0_3 l0_3.length l0_3) (hc0 : l0_3.length ≤ c0_3) (hr1 : Kd.C k51 w A1_0 l1_0.length l1_0) (hc1 : l1_0.length ≤ c1_0) (h : laws_FnExactFlattenLayers.f k a0_0 a0_1 a0_2 l0_3 l1_0 = some r) : Calls Try.prog 12 #[.agg #[.int .i64 a0_0, .int .i64 a0_1, .int .i64 a0_2, .slice A0_3 l0_3.length c0_3], .slice A1_0 l1_0.length c1_0] w fun e w' => e = .returned (.bool r) ∧ Below w.heap.size w w' := by
 unfold laws_FnExactFlattenLayers.f at h
 by_cases hg : laws_FnExactFlattenLayers.Goes k a0_0 a0_1 a0_2 l0_3 l1_0
 ·rw [if_pos hg] at h
  obtain rfl : true = r := Option.some.inj h
  clear h
  unfold laws_FnExactFlattenLayers.Goes at hg
  rcases hg with ⟨s0, hs0, hn0⟩ | ⟨s0, s1, hs0, hn0, hs1, hn1⟩ | ⟨s0, s1, x0_0, x0_1, x0_2, x0_3, x1_0, v0, v1, v2, v3, vok, k0, y0, k1, y1, m, u, HS0, HN0, HS1, HN1, HT0, HT1, HSP, HIM, HEV, HE0, HE1, HM0, HM1, HKN, HMR, HHR, HMN⟩
  ·exact laws_FnExactFlattenLayers.big0 k a0_0 a0_1 a0_2 A0_3 c0_3 l0_3 A1_0 c1_0 l1_0 w hr0 hc0 hr1 hc1 s0 hs0 hn0
  ·exact laws_FnExactFlattenLayers.big1 k a0_0 a0_1 a0_2 A0_3 c0_3 l0_3 A1_0 c1_0 l1_0 w hr0 hc0 hr1 hc1 s0 s1 hs0 hn0 hs1 hn1
  ·exact laws_FnExactFlattenLayers.way k a0_0 a0_1 a0_2 A0_3 c0_3 l0_3 A1_0 c1_0 l1_0 w hr0 hc0 hr1 hc1 s0 s1 x0_0 x0_1 x0_2 x0_3 x1_0 v0 v1 v2 v3 vok k0 y0 k1 y1 m u HS0 HN0 HS1 HN1 HT0 HT1 HSP HIM HEV HE0 HE1 HM0 HM1 HKN HMR HHR HMN
 ·rw [if_neg hg] at h; cases h
end Go.Proofs.Ytnofkbbcbpjhfaa.Q

/- What an argument's reading as data tells: numbers, bools, slices and structs of them, by their kinds. -/
namespace Go.Proofs.Ytnofkbbcbpjhfaa.Q
open Go.RowKit Go.Proofs.YtnofkbbcbpjhfaaW.PrintWords Go.Proofs.YtnofkbbcbpjhfaaW.PrintLast Go.Proofs.YtnofkbbcbpjhfaaW.PrintMore
attribute [local go_sem] max2_int min2_int max_two min_two max_three min_three max_four min_four
set_option linter.unusedVariables false
set_option linter.unusedSimpArgs false
open Go.ChangeShapes Go.WideShapes Go.Deep

/-- A number of 64 bits. -/
def I64 (n : Int) : Prop := -9223372036854775808 ≤ n ∧ n ≤ 9223372036854775807
theorem i64_of (n : Int) (h : (Lit.int .i64 n).wf = true) : I64 n := by
  simp only [Lit.wf, Bool.and_eq_true, decide_eq_true_eq] at h
  have e1 : IntKind.min .i64 = -9223372036854775808 := by decide
  have e2 : IntKind.max .i64 = 9223372036854775807 := by decide
  unfold I64
  omega
/-- Whatever reads at type t as data is a y of this kind, of which Q holds. -/
def Opens {α : Type} (P : Program) (t : TypeId) (d : Kd α) (Q : α → Prop) : Prop :=
  ∀ (H : Type) (enc : TypeId × Value → H) (w : World) (fuel : Nat) (cs : List Value) (x : DataW H × List MemPlace),
    DataW.trod enc P w 0 (fun _ => true) true fuel t cs = some x → ∃ y : α, d.K w y cs ∧ Q y
section
variable {P : Program} {t : TypeId} {α β : Type}
theorem opens_i64 (ht : P.underlying t = some (.int .i64)) : Opens P t (Kd.int .i64) I64 := by
  intro H enc w fuel cs x h
  obtain ⟨n, rfl, _, hw⟩ := DataW.trod_int ht h
  exact ⟨n, rfl, i64_of n hw⟩
theorem opens_bool (ht : P.underlying t = some .bool) : Opens P t Kd.bool (fun _ => True) := by
  intro H enc w fuel cs x h
  obtain ⟨b, rfl, _⟩ := DataW.trod_bool ht h
  exact ⟨b, rfl, trivial⟩
theorem opens_sliceB {e : TypeId} {d : Kd α} {Q : α → Prop} (ht : P.underlying t = some (.slice e)) (hc : P.cellsOf e = d.sz) (ho : Opens P e d Q) :
    Opens P t (Kd.slice e d) (fun l => (∀ x ∈ l, Q x) ∧ l.length ≤ 9223372036854775807) := by
  intro H enc w fuel cs x h
  rcases open_slice ht h with ⟨rfl, _⟩ | ⟨a, len, cap, m, n, D, Pl, rfl, _, hl, hm, hmm, _, hi⟩
  · exact ⟨[], ⟨none, 0, rfl, Nat.le_refl _, rfl, by simp, fun h0 => absurd h0 (by simp)⟩, ⟨fun x hx => absurd hx (by simp), by simp⟩⟩
  · have hmc : m = cap := by simpa using hmm
    subst hmc
    have each : ∀ i, i < len → ∃ y : α, (∃ c, c.length = d.sz ∧ d.K w y c ∧ ∀ j u, c[j]? = some u → w.cell? (a.add (i * d.sz + j)) = some u) ∧ Q y := by
      intro i hil
      obtain ⟨cs', hcs, htr⟩ := hi i (by omega)
      rw [hc] at hcs
      obtain ⟨_, hcl, hat⟩ := World.cells?_some hcs
      obtain ⟨y, hK, hQ⟩ := ho H enc w n cs' _ htr
      refine ⟨y, ⟨cs', hcl, hK, fun j u hu => ?_⟩, hQ⟩
      have hj : j < d.sz := by rw [← hcl]; exact (List.getElem?_eq_some_iff.1 hu).1
      rw [← Go.Deep.add_add, hat j hj, hu]
    have hY : ∃ ys : List α, ys.length = len ∧ ∀ i, i < len → ∃ y, ys[i]? = some y ∧ (∃ c, c.length = d.sz ∧ d.K w y c ∧ ∀ j u, c[j]? = some u → w.cell? (a.add (i * d.sz + j)) = some u) ∧ Q y := by
      have key : ∀ q, q ≤ len → ∃ ys : List α, ys.length = q ∧ ∀ i, i < q → ∃ y, ys[i]? = some y ∧ (∃ c, c.length = d.sz ∧ d.K w y c ∧ ∀ j u, c[j]? = some u → w.cell? (a.add (i * d.sz + j)) = some u) ∧ Q y := by
        intro q
        induction q with
        | zero => intro _; exact ⟨[], rfl, fun i hi' => absurd hi' (by omega)⟩
        | succ q ih =>
          intro hq
          obtain ⟨ys, hyl, hys⟩ := ih (by omega)
          obtain ⟨y, hy⟩ := each q (by omega)
          refine ⟨ys ++ [y], by simp [hyl], fun i hi' => ?_⟩
          by_cases e : i = q
          · subst e
            exact ⟨y, by rw [List.getElem?_append_right (by omega)]; simp [hyl], hy⟩
          · obtain ⟨z, hz, hz2⟩ := hys i (by omega)
            exact ⟨z, by rw [List.getElem?_append_left (by omega)]; exact hz, hz2⟩
      exact key len (Nat.le_refl _)
    obtain ⟨ys, hyl, hys⟩ := hY
    refine ⟨ys, ⟨some a, m, by rw [hyl], by omega, rfl, by rw [hyl]; simp only [maxLen] at hm; omega, fun _ => ⟨a, rfl, fun j p hj => ?_⟩⟩, ⟨fun x hx => ?_, by rw [hyl]; simp only [maxLen] at hm; omega⟩⟩
    · have hjl : j < len := by rw [← hyl]; exact (List.getElem?_eq_some_iff.1 hj).1
      obtain ⟨y, hy, hc2, _⟩ := hys j hjl
      rw [hy] at hj
      obtain rfl := Option.some.inj hj
      exact hc2
    · obtain ⟨j, hj, rfl⟩ := List.getElem_of_mem hx
      obtain ⟨y, hy, _, hq⟩ := hys j (by omega)
      rw [List.getElem?_eq_getElem hj] at hy
      obtain rfl := Option.some.inj hy
      exact hq
theorem opens_slice {e : TypeId} {d : Kd α} {Q : α → Prop} (ht : P.underlying t = some (.slice e)) (hc : P.cellsOf e = d.sz) (ho : Opens P e d Q) :
    Opens P t (Kd.slice e d) (fun l => ∀ x ∈ l, Q x) := by
  intro H enc w fuel cs x h
  obtain ⟨y, h1, h2, _⟩ := opens_sliceB ht hc ho H enc w fuel cs x h
  exact ⟨y, h1, h2⟩
/-- Fields in line, from the cell 'off' on. -/
def OpensF (P : Program) (fs : List Field) (off : Nat) (d : Kd α) (Q : α → Prop) : Prop :=
  ∀ (H : Type) (enc : TypeId × Value → H) (w : World) (n : Nat) (cs : List Value), cs.length = off + d.sz →
    (∀ f ∈ fs, ∃ x, DataW.trod enc P w 0 (fun _ => true) true n f.type ((cs.drop f.offset).take (P.cellsOf f.type)) = some x) → ∃ y : α, d.K w y (cs.drop off) ∧ Q y
theorem opensF_one {f : Field} {off : Nat} {d : Kd α} {Q : α → Prop} (ho : f.offset = off) (hc : P.cellsOf f.type = d.sz) (h : Opens P f.type d Q) : OpensF P [f] off d Q := by
  intro H enc w n cs hl hf
  obtain ⟨x, hx⟩ := hf f (by simp)
  rw [ho, hc, List.take_of_length_le (by rw [List.length_drop]; omega)] at hx
  exact h H enc w n _ _ hx
theorem opensF_cons {f : Field} {fs : List Field} {off : Nat} {d : Kd α} {Q : α → Prop} {d' : Kd β} {Q' : β → Prop} (ho : f.offset = off) (hc : P.cellsOf f.type = d.sz) (h : Opens P f.type d Q) (h' : OpensF P fs (off + d.sz) d' Q') :
    OpensF P (f :: fs) off (Kd.pair d d') (fun p => Q p.1 ∧ Q' p.2) := by
  intro H enc w n cs hl hf
  have hl' : cs.length = off + (d.sz + d'.sz) := hl
  obtain ⟨x, hx⟩ := hf f (by simp)
  rw [ho, hc] at hx
  obtain ⟨y, hK, hQ⟩ := h H enc w n _ _ hx
  obtain ⟨y', hK', hQ'⟩ := h' H enc w n cs (by omega) (fun g hg => hf g (by simp [hg]))
  refine ⟨(y, y'), ⟨(cs.drop off).take d.sz, cs.drop (off + d.sz), ?_, hK, hK'⟩, hQ, hQ'⟩
  rw [← List.drop_drop, List.take_append_drop]
theorem opens_struct {fs : Array Field} {d : Kd α} {Q : α → Prop} (ht : P.underlying t = some (.struct fs)) (hc : P.cellsOf t = d.sz) (h : OpensF P fs.toList 0 d Q) : Opens P t d Q := by
  intro H enc w fuel cs x hx
  obtain ⟨xs, n, _, _, hcl, hxl, hg⟩ := DataW.trod_struct ht hx
  obtain ⟨y, hK, hQ⟩ := h H enc w n cs (by omega) (fun f hf => by
    obtain ⟨i, hi, rfl⟩ := List.getElem_of_mem hf
    have hi' : i < fs.size := by simpa using hi
    have h1 := hg i (fs.toList[i]) (by simp [hi'])
    rw [List.getElem?_eq_getElem (by omega)] at h1
    exact ⟨_, h1⟩)
  exact ⟨y, by simpa using hK, hQ⟩
theorem opens_iso {d : Kd α} {Q : α → Prop} (f : β → α) (g : α → β) (hfg : ∀ a, f (g a) = a) (h : Opens P t d Q) : Opens P t (Kd.iso d f) (fun b => Q (f b)) := by
  intro H enc w fuel cs x hx
  obtain ⟨y, hK, hQ⟩ := h H enc w fuel cs x hx
  refine ⟨g y, ?_, ?_⟩
  · show d.K w (f (g y)) cs
    rw [hfg]; exact hK
  · show Q (f (g y))
    rw [hfg]; exact hQ
end
end Go.Proofs.Ytnofkbbcbpjhfaa.Q

/- What is known of structs that came in. -/
namespace Go.Proofs.Ytnofkbbcbpjhfaa.Q
open Go.RowKit Go.Proofs.YtnofkbbcbpjhfaaW.PrintWords Go.Proofs.YtnofkbbcbpjhfaaW.PrintLast Go.Proofs.YtnofkbbcbpjhfaaW.PrintMore
attribute [local go_sem] max2_int min2_int max_two min_two max_three min_three max_four min_four
set_option linter.unusedVariables false
set_option linter.unusedSimpArgs false
def wf24 (x : S24) : Prop := I64 x.f0 ∧ I64 x.f1 ∧ I64 x.f2 ∧ (∀ y ∈ x.f3, I64 y)
theorem o24 : Opens Try.prog 24 k24 wf24 :=
  opens_iso (fun x : S24 => (x.f0, x.f1, x.f2, x.f3)) (fun p => (⟨p.1, p.2.1, p.2.2.1, p.2.2.2⟩ : S24)) (fun _ => rfl) (opens_struct Try.underlying24 (by kernel_rfl) (opensF_cons rfl (by kernel_rfl) (opens_i64 Try.underlying3) (opensF_cons rfl (by kernel_rfl) (opens_i64 Try.underlying3) (opensF_cons rfl (by kernel_rfl) (opens_i64 Try.underlying3) (opensF_one rfl (by kernel_rfl) (opens_slice Try.underlying22 (by kernel_rfl) (opens_i64 Try.underlying3)))))))
def wf51 (x : S51) : Prop := wf24 x.f0 ∧ I64 x.f1 ∧ I64 x.f2 ∧ I64 x.f3 ∧ I64 x.f4 ∧ True
theorem o51 : Opens Try.prog 51 k51 wf51 :=
  opens_iso (fun x : S51 => (x.f0, x.f1, x.f2, x.f3, x.f4, x.f5)) (fun p => (⟨p.1, p.2.1, p.2.2.1, p.2.2.2.1, p.2.2.2.2.1, p.2.2.2.2.2⟩ : S51)) (fun _ => rfl) (opens_struct Try.underlying51 (by kernel_rfl) (opensF_cons rfl (by kernel_rfl) o24 (opensF_cons rfl (by kernel_rfl) (opens_i64 Try.underlying3) (opensF_cons rfl (by kernel_rfl) (opens_i64 Try.underlying3) (opensF_cons rfl (by kernel_rfl) (opens_i64 Try.underlying3) (opensF_cons rfl (by kernel_rfl) (opens_i64 Try.underlying3) (opensF_one rfl (by kernel_rfl) (opens_bool Try.underlying4))))))))
def wg24 (x : S24) : Prop := I64 x.f0 ∧ I64 x.f1 ∧ I64 x.f2 ∧ ((∀ y ∈ x.f3, I64 y) ∧ x.f3.length ≤ 9223372036854775807)
theorem og24 : Opens Try.prog 24 k24 wg24 :=
  opens_iso (fun x : S24 => (x.f0, x.f1, x.f2, x.f3)) (fun p => (⟨p.1, p.2.1, p.2.2.1, p.2.2.2⟩ : S24)) (fun _ => rfl) (opens_struct Try.underlying24 (by kernel_rfl) (opensF_cons rfl (by kernel_rfl) (opens_i64 Try.underlying3) (opensF_cons rfl (by kernel_rfl) (opens_i64 Try.underlying3) (opensF_cons rfl (by kernel_rfl) (opens_i64 Try.underlying3) (opensF_one rfl (by kernel_rfl) (opens_sliceB Try.underlying22 (by kernel_rfl) (opens_i64 Try.underlying3)))))))
def wg51 (x : S51) : Prop := wg24 x.f0 ∧ I64 x.f1 ∧ I64 x.f2 ∧ I64 x.f3 ∧ I64 x.f4 ∧ True
theorem og51 : Opens Try.prog 51 k51 wg51 :=
  opens_iso (fun x : S51 => (x.f0, x.f1, x.f2, x.f3, x.f4, x.f5)) (fun p => (⟨p.1, p.2.1, p.2.2.1, p.2.2.2.1, p.2.2.2.2.1, p.2.2.2.2.2⟩ : S51)) (fun _ => rfl) (opens_struct Try.underlying51 (by kernel_rfl) (opensF_cons rfl (by kernel_rfl) og24 (opensF_cons rfl (by kernel_rfl) (opens_i64 Try.underlying3) (opensF_cons rfl (by kernel_rfl) (opens_i64 Try.underlying3) (opensF_cons rfl (by kernel_rfl) (opens_i64 Try.underlying3) (opensF_cons rfl (by kernel_rfl) (opens_i64 Try.underlying3) (opensF_one rfl (by kernel_rfl) (opens_bool Try.underlying4))))))))
def wf137 (x : S137) : Prop := I64 x.f0 ∧ I64 x.f1 ∧ I64 x.f2 ∧ I64 x.f3
theorem o137 : Opens Try.prog 137 k137 wf137 :=
  opens_iso (fun x : S137 => (x.f0, x.f1, x.f2, x.f3)) (fun p => (⟨p.1, p.2.1, p.2.2.1, p.2.2.2⟩ : S137)) (fun _ => rfl) (opens_struct Try.underlying137 (by kernel_rfl) (opensF_cons rfl (by kernel_rfl) (opens_i64 Try.underlying3) (opensF_cons rfl (by kernel_rfl) (opens_i64 Try.underlying3) (opensF_cons rfl (by kernel_rfl) (opens_i64 Try.underlying3) (opensF_one rfl (by kernel_rfl) (opens_i64 Try.underlying3))))))

/- The statement over plain lists and numbers that is left of the law FnExactFlattenLayers. -/
def laws_FnExactFlattenLayers.Pure : Prop := ∀ (a0_0 : Int) (a0_1 : Int) (a0_2 : Int) (l0_3 : List Int) (l1 : List (S51)), I64 a0_0 → I64 a0_1 → I64 a0_2 → (∀ y ∈ l0_3, I64 y) → l0_3.length ≤ 9223372036854775807 → (∀ y ∈ l1, wg51 y) → l1.length ≤ 9223372036854775807 → ∃ k, laws_FnExactFlattenLayers.f k a0_0 a0_1 a0_2 l0_3 l1 = some true
end Go.Proofs.Ytnofkbbcbpjhfaa.Q

/- Images as pixels: lists of numbers cut into equal parts. -/
namespace Go.Proofs.Ytnofkbbcbpjhfaa.Pure
open Go.RowKit Go.Proofs.Ytnofkbbcbpjhfaa.Q Go.Proofs.YtnofkbbcbpjhfaaW.PrintWords Go.Proofs.YtnofkbbcbpjhfaaW.PrintLast Go.Proofs.YtnofkbbcbpjhfaaW.PrintMore
set_option linter.unusedVariables false
set_option linter.unusedSimpArgs false

def nx (n : Nat) (d : List Int) (i : Nat) : List Int := (d.drop (i * n)).take n
theorem nx_length {n m : Nat} {d : List Int} (hd : d.length = m * n) {i : Nat} (hi : i < m) : (nx n d i).length = n := by
 unfold nx
 have h : (i + 1) * n ≤ m * n := Nat.mul_le_mul_right n hi
 rw [Nat.add_mul, Nat.one_mul] at h
 rw [List.length_take, List.length_drop, hd]
 omega
theorem fm_length (f : Nat → List Int) (n : Nat) : ∀ m, (∀ i, i < m → (f i).length = n) → ((List.range m).flatMap f).length = m * n := by
 intro m
 induction m with
 | zero => intro _; simp
 | succ m ih =>
  intro h
  rw [List.range_succ, List.flatMap_append, List.length_append, ih (fun i hi => h i (by omega))]
  simp [h m (by omega), Nat.add_mul]
theorem fm_get (f : Nat → List Int) (n : Nat) : ∀ m, (∀ i, i < m → (f i).length = n) → ∀ i, i < m → nx n ((List.range m).flatMap f) i = f i := by
 intro m
 induction m with
 | zero => intro _ i hi; omega
 | succ m ih =>
  intro h i hi
  have hl := fm_length f n m (fun i hi => h i (by omega))
  rw [List.range_succ, List.flatMap_append]
  unfold nx
  by_cases c : i < m
  ·have h1 : (i + 1) * n ≤ m * n := Nat.mul_le_mul_right n c
   rw [Nat.add_mul, Nat.one_mul] at h1
   rw [List.drop_append_of_le_length (by omega), List.take_append_of_le_length (by rw [List.length_drop]; omega)]
   exact ih (fun i hi => h i (by omega)) i c
  ·have : i = m := by omega
   subst this
   rw [← hl, List.drop_left]
   simp only [List.flatMap_cons, List.flatMap_nil, List.append_nil]
   exact List.take_of_length_le (by rw [h i (by omega)]; exact Nat.le_refl _)
theorem fm_cut (n : Nat) : ∀ (m : Nat) (d : List Int), d.length = m * n → (List.range m).flatMap (nx n d) = d := by
 intro m
 induction m with
 | zero => intro d hd; simp at hd; simp [hd]
 | succ m ih =>
  intro d hd
  rw [Nat.add_mul, Nat.one_mul] at hd
  have h1 : (List.range m).flatMap (nx n d) = (List.range m).flatMap (nx n (d.take (m * n))) := by
   rw [List.flatMap_def, List.flatMap_def]
   congr 1
   refine List.map_congr_left (fun i hi => ?_)
   have hi' := List.mem_range.1 hi
   have h1 : (i + 1) * n ≤ m * n := Nat.mul_le_mul_right n hi'
   rw [Nat.add_mul, Nat.one_mul] at h1
   unfold nx
   rw [List.drop_take, List.take_take, Nat.min_eq_left (by omega)]
  rw [List.range_succ, List.flatMap_append, h1, ih _ (by rw [List.length_take]; omega)]
  simp only [List.flatMap_cons, List.flatMap_nil, List.append_nil]
  unfold nx
  rw [List.take_of_length_le (l := d.drop (m * n)) (by rw [List.length_drop]; omega), List.take_append_drop]
theorem ext_nx {n m : Nat} {d e : List Int} (hd : d.length = m * n) (he : e.length = m * n) (h : ∀ i, i < m → nx n d i = nx n e i) : d = e := by
 rw [← fm_cut n m d hd, ← fm_cut n m e he, List.flatMap_def, List.flatMap_def]
 congr 1
 exact List.map_congr_left (fun i hi => h i (List.mem_range.1 hi))
theorem imgD_congr {f g : Nat → Nat → List Int} {a b : Nat} (h : ∀ x y, x < a → y < b → f x y = g x y) : imgD f a b = imgD g a b := by
 unfold imgD rowD
 rw [List.flatMap_def, List.flatMap_def]
 congr 1
 refine List.map_congr_left (fun y hy => ?_)
 rw [List.flatMap_def, List.flatMap_def]
 congr 1
 exact List.map_congr_left (fun x hx => h x y (List.mem_range.1 hx) (List.mem_range.1 hy))
theorem rowD_length {px : Nat → Nat → List Int} {a n y : Nat} (h : ∀ x, x < a → (px x y).length = n) : (rowD px a y).length = a * n := fm_length _ n a h
theorem imgD_length {px : Nat → Nat → List Int} {a b n : Nat} (h : ∀ x y, x < a → y < b → (px x y).length = n) : (imgD px a b).length = (b * a) * n := by
 rw [Nat.mul_assoc]
 exact fm_length _ (a * n) b (fun y hy => rowD_length (fun x hx => h x y hx hy))
theorem nx_imgD {px : Nat → Nat → List Int} {a b n : Nat} (h : ∀ x y, x < a → y < b → (px x y).length = n) {x y : Nat} (hx : x < a) (hy : y < b) : nx n (imgD px a b) (y * a + x) = px x y := by
 have h1 := fm_get (rowD px a) (a * n) b (fun y hy => rowD_length (fun x hx => h x y hx hy)) y hy
 have h2 := fm_get (fun x => px x y) n a (fun x hx => h x y hx hy) x hx
 have h3 : (x + 1) * n ≤ a * n := Nat.mul_le_mul_right n hx
 rw [Nat.add_mul, Nat.one_mul] at h3
 show nx n ((List.range b).flatMap (rowD px a)) (y * a + x) = px x y
 rw [← h2]
 show _ = nx n (rowD px a y) x
 rw [← h1]
 unfold nx
 rw [List.drop_take, List.take_take, Nat.min_eq_left (by omega), List.drop_drop, Nat.add_mul, Nat.mul_assoc]
theorem lin_lt {a b x y : Nat} (hx : x < a) (hy : y < b) : y * a + x < b * a := by
 have : (y + 1) * a ≤ b * a := Nat.mul_le_mul_right a hy
 rw [Nat.add_mul, Nat.one_mul] at this
 omega
theorem lin_ne {a x y x' y' : Nat} (hx : x < a) (hx' : x' < a) (h : y * a + x = y' * a + x') : x = x' ∧ y = y' := by
 have ha : 0 < a := by omega
 have e1 := congrArg (· % a) h
 have e2 := congrArg (· / a) h
 simp only [Nat.mul_comm _ a, Nat.mul_add_mod, Nat.mul_add_div ha, Nat.mod_eq_of_lt hx, Nat.mod_eq_of_lt hx', Nat.div_eq_of_lt hx, Nat.div_eq_of_lt hx', Nat.add_zero] at e1 e2
 exact ⟨e1, e2⟩
theorem lin_of {a b i : Nat} (h : i < b * a) : i % a < a ∧ i / a < b ∧ (i / a) * a + i % a = i := by
 have ha : 0 < a := by
  rcases Nat.eq_zero_or_pos a with rfl | h'
  ·simp at h
  ·exact h'
 refine ⟨Nat.mod_lt _ ha, (Nat.div_lt_iff_lt_mul ha).2 h, ?_⟩
 rw [Nat.mul_comm]; exact Nat.div_add_mod i a
theorem ext_img {n a b : Nat} {d e : List Int} (hd : d.length = (b * a) * n) (he : e.length = (b * a) * n) (h : ∀ x y, x < a → y < b → nx n d (y * a + x) = nx n e (y * a + x)) : d = e := by
 refine ext_nx hd he (fun i hi => ?_)
 obtain ⟨h1, h2, h3⟩ := lin_of hi
 rw [← h3]
 exact h _ _ h1 h2
theorem nx_laid {n m : Nat} {d ys : List Int} (hd : d.length = m * n) (hy : ys.length = n) {j : Nat} (hj : j < m) {i : Nat} (hi : i < m) : nx n (laidOver d (j * n) ys) i = if i = j then ys else nx n d i := by
 have hj1 : (j + 1) * n ≤ m * n := Nat.mul_le_mul_right n hj
 have hi1 : (i + 1) * n ≤ m * n := Nat.mul_le_mul_right n hi
 rw [Nat.add_mul, Nat.one_mul] at hj1 hi1
 unfold nx laidOver
 have hlt : (d.take (j * n)).length = j * n := by rw [List.length_take]; omega
 by_cases c : i = j
 ·subst c
  rw [if_pos rfl]
  have e1 : (d.take (i * n) ++ (ys ++ d.drop (i * n + ys.length))).drop (i * n) = ys ++ d.drop (i * n + ys.length) := by
   rw [List.drop_append, List.drop_eq_nil_of_le (by omega), hlt, Nat.sub_self, List.drop_zero, List.nil_append]
  rw [e1, ← hy, List.take_left]
 ·rw [if_neg c]
  by_cases c2 : i < j
  ·have h1 : (i + 1) * n ≤ j * n := Nat.mul_le_mul_right n c2
   rw [Nat.add_mul, Nat.one_mul] at h1
   rw [List.drop_append_of_le_length (by omega), List.take_append_of_le_length (by rw [List.length_drop]; omega), List.drop_take, List.take_take, Nat.min_eq_left (by omega)]
  ·have h1 : (j + 1) * n ≤ i * n := Nat.mul_le_mul_right n (by omega)
   rw [Nat.add_mul, Nat.one_mul] at h1
   rw [← List.append_assoc, List.drop_append, List.drop_eq_nil_of_le (by rw [List.length_append, hlt, hy]; omega), List.nil_append, List.drop_drop, List.length_append, hlt, hy]
   congr 2
   omega
theorem nat_of {a b p : Int} {d : List Int} (hv : validI a b p d = true) : ∃ an bn pn : Nat, a = an ∧ b = bn ∧ p = pn ∧ 1 ≤ an ∧ an ≤ 16 ∧ 1 ≤ bn ∧ bn ≤ 16 ∧ 1 ≤ pn ∧ pn ≤ 4 ∧ d.length = (bn * an) * pn := by
 obtain ⟨hs, hl, _⟩ := (validI_iff a b p d).1 hv
 obtain ⟨an, rfl⟩ := Int.eq_ofNat_of_zero_le (show 0 ≤ a by omega)
 obtain ⟨bn, rfl⟩ := Int.eq_ofNat_of_zero_le (show 0 ≤ b by omega)
 obtain ⟨pn, rfl⟩ := Int.eq_ofNat_of_zero_le (show 0 ≤ p by omega)
 refine ⟨an, bn, pn, rfl, rfl, rfl, by omega, by omega, by omega, by omega, by omega, by omega, ?_⟩
 have : (d.length : Int) = ((an * bn * pn : Nat) : Int) := by rw [hl]; push_cast; rfl
 rw [Nat.mul_comm bn an]
 exact Int.ofNat.inj this
theorem small {an bn pn : Nat} (h1 : an ≤ 16) (h2 : bn ≤ 16) (h3 : pn ≤ 4) : (bn * an) * pn ≤ 1024 := by
 have := Nat.mul_le_mul (Nat.mul_le_mul h2 h1) h3
 omega
theorem pixJ_nat {an bn pn x y : Nat} (h1 : an ≤ 16) (h2 : bn ≤ 16) (h3 : pn ≤ 4) (hx : x < an) (hy : y < bn) : pixJ an pn x y = (((y * an + x) * pn : Nat) : Int) ∧ (y * an + x) * pn + pn ≤ (bn * an) * pn := by
 have hl := lin_lt hx hy
 have hm : (y * an + x + 1) * pn ≤ (bn * an) * pn := Nat.mul_le_mul_right pn hl
 rw [Nat.add_mul, Nat.one_mul] at hm
 have hs := small h1 h2 h3
 have hya : y * an ≤ 16 * 16 := Nat.mul_le_mul (by omega) (by omega)
 refine ⟨?_, hm⟩
 unfold pixJ
 have e1 : ((y : Int) * (an : Int)) = ((y * an : Nat) : Int) := by push_cast; rfl
 rw [e1, w64 (x := ((y * an : Nat) : Int)) (by omega) (by omega)]
 have e2 : ((y * an : Nat) : Int) + (x : Int) = ((y * an + x : Nat) : Int) := by push_cast; rfl
 rw [e2, w64 (x := ((y * an + x : Nat) : Int)) (by omega) (by omega)]
 have e3 : ((y * an + x : Nat) : Int) * (pn : Int) = (((y * an + x) * pn : Nat) : Int) := by push_cast; rfl
 rw [e3, w64 (by omega) (by omega)]
theorem pxAt_nat {an bn pn x y : Nat} (h1 : an ≤ 16) (h2 : bn ≤ 16) (h3 : pn ≤ 4) (hx : x < an) (hy : y < bn) (d : List Int) : pxAt an pn d x y = nx pn d (y * an + x) := by
 obtain ⟨hj, hm⟩ := pixJ_nat h1 h2 h3 hx hy
 have hs := small h1 h2 h3
 unfold pxAt pixT nx
 rw [hj, w64 (by omega) (by omega)]
 have : ((((y * an + x) * pn : Nat) : Int) + (pn : Int)).toNat = (y * an + x) * pn + pn := by omega
 rw [this, Int.toNat_natCast, List.drop_take]
 congr 1
 omega

/- What the reference does with pixels: reads, writes, parts and pastes. -/

theorem ev_run {σ ρ : Type} (n : Nat) (L : Nat → Nat → σ → Option ρ) (E : σ → Nat → Option ρ) (Inv : Nat → σ → Prop)
  (step : ∀ i s, i < n → Inv i s → ∃ s', Inv (i + 1) s' ∧ ∀ r, Ev (fun k => L k (i + 1) s') r → Ev (fun k => L k i s) r)
  (last : ∀ s, Inv n s → ∀ r, Ev (E s) r → Ev (fun k => L k n s) r) :
  ∀ d i s, i + d = n → Inv i s → ∃ s', Inv n s' ∧ ∀ r, Ev (E s') r → Ev (fun k => L k i s) r := by
 intro d
 induction d with
 | zero =>
  intro i s hi hinv
  have : i = n := by omega
  subst this
  exact ⟨s, hinv, last s hinv⟩
 | succ d ih =>
  intro i s hi hinv
  obtain ⟨s1, h1, h2⟩ := step i s (by omega) hinv
  obtain ⟨s2, h3, h4⟩ := ih (i + 1) s1 (by omega) h1
  exact ⟨s2, h3, fun r hr => h2 r (h4 r hr)⟩
theorem copyInts_px (l : List Int) (hl : l.length ≤ 1000000) : spec_copyInts.f l = some l := by
 unfold spec_copyInts.f
 simp only [Option.bind_some]
 rw [if_pos (by simp; omega)]
 simp
theorem laid_set (d ys : List Int) (j i : Nat) (hi : i < ys.length) (hj : j + ys.length ≤ d.length) : (laidOver d j (ys.take i)).set (j + i) ys[i] = laidOver d j (ys.take (i + 1)) := by
 have h1 : (ys.take i).length = i := by rw [List.length_take]; omega
 have h2 : (ys.take (i + 1)).length = i + 1 := by rw [List.length_take]; omega
 have h3 : (d.take j).length = j := by rw [List.length_take]; omega
 unfold laidOver
 rw [h1, h2, List.set_append_right _ _ (by omega), h3, Nat.add_sub_cancel_left, List.set_append_right _ _ (by omega), h1, Nat.sub_self, List.drop_eq_getElem_cons (show j + i < d.length by omega), List.set_cons_zero, List.take_succ_eq_append_getElem hi, List.append_assoc]
 rfl
theorem onImage_eq {an bn : Nat} (h1 : 1 ≤ an ∧ an ≤ 16) (h2 : 1 ≤ bn ∧ bn ≤ 16) (p : Int) (d : List Int) (x y : Int) : spec_onImage.f an bn p d x y = some (decide (0 ≤ x ∧ x < an ∧ 0 ≤ y ∧ y < bn)) := by
 unfold spec_onImage.f
 rw [w64 (x := (an : Int) - 1) (by omega) (by omega), w64 (x := (bn : Int) - 1) (by omega) (by omega), spec_inRangeI_eq, spec_inRangeI_eq]
 simp only [Option.bind_some]
 by_cases c : 0 ≤ x ∧ x ≤ (an : Int) - 1
 ·rw [if_pos (by simpa using c)]; congr 1; rw [Bool.eq_iff_iff]; simp; omega
 ·rw [if_neg (by simpa using c), decide_eq_false (by omega)]

/- What the program's and the reference's BlendNumber come to, over whole numbers alone. -/

def P255 (n : Int) : Int := (2 * n + 255) / 510
theorem part255_eq (n : Int) (h0 : 0 ≤ n) (h1 : n ≤ 10000000) : impl_part255.f n = some (P255 n) := by
 unfold impl_part255.f P255
 rw [w64 (x := 2 * n) (by omega) (by omega), w64 (x := 2 * n + 255) (by omega) (by omega), tdiv_nn _ _ (by omega), w64 (by omega) (by omega)]
theorem P255_range (n : Int) (h0 : 0 ≤ n) (h1 : n ≤ 65025) : 0 ≤ P255 n ∧ P255 n ≤ 255 := by unfold P255; omega
theorem prod_range (a b : Int) (ha : 0 ≤ a) (ha' : a ≤ 255) (hb : 0 ≤ b) (hb' : b ≤ 255) : 0 ≤ a * b ∧ a * b ≤ 65025 := by
 refine ⟨Int.mul_nonneg ha hb, ?_⟩
 have := Int.mul_le_mul ha' hb' hb (by omega : (0 : Int) ≤ 255)
 omega
def mixN (mode a b : Int) : Int :=
 if mode = 1 then P255 (a * b) else if mode = 2 then 255 - P255 ((255 - a) * (255 - b)) else if mode = 3 then min a b else if mode = 4 then max a b else b
theorem mixN_range (mode a b : Int) (ha : 0 ≤ a) (ha' : a ≤ 255) (hb : 0 ≤ b) (hb' : b ≤ 255) : 0 ≤ mixN mode a b ∧ mixN mode a b ≤ 255 := by
 have h1 := prod_range a b ha ha' hb hb'
 have h2 := prod_range (255 - a) (255 - b) (by omega) (by omega) (by omega) (by omega)
 have h3 := P255_range _ h1.1 h1.2
 have h4 := P255_range _ h2.1 h2.2
 unfold mixN
 split
 ·exact h3
 split
 ·omega
 split
 ·omega
 split
 ·omega
 ·omega
def coverN (mode a b alpha : Int) : Int := P255 (alpha * mixN mode a b + (255 - alpha) * a)
theorem cover_sum (m a alpha : Int) (ha : 0 ≤ a) (ha' : a ≤ 255) (hm : 0 ≤ m) (hm' : m ≤ 255) (h : 0 ≤ alpha) (h' : alpha ≤ 255) :
  255 * min a m ≤ alpha * m + (255 - alpha) * a ∧ alpha * m + (255 - alpha) * a ≤ 255 * max a m := by
 have e : (255 - alpha) * a = 255 * a - alpha * a := by rw [Int.sub_mul]
 rw [e]
 have k1 : alpha * m - alpha * a = alpha * (m - a) := by rw [Int.mul_sub]
 by_cases c : a ≤ m
 ·have i1 : 0 ≤ alpha * (m - a) := Int.mul_nonneg h (by omega)
  have i2 : alpha * (m - a) ≤ 255 * (m - a) := Int.mul_le_mul_of_nonneg_right h' (by omega)
  omega
 ·have i1 : 0 ≤ alpha * (a - m) := Int.mul_nonneg h (by omega)
  have i2 : alpha * (a - m) ≤ 255 * (a - m) := Int.mul_le_mul_of_nonneg_right h' (by omega)
  have k2 : alpha * m - alpha * a = -(alpha * (a - m)) := by rw [Int.mul_sub]; omega
  omega
theorem cover_between (mode a b alpha : Int) (ha : 0 ≤ a) (ha' : a ≤ 255) (hb : 0 ≤ b) (hb' : b ≤ 255) (h : 0 ≤ alpha) (h' : alpha ≤ 255) :
  min a (mixN mode a b) ≤ coverN mode a b alpha ∧ coverN mode a b alpha ≤ max a (mixN mode a b) := by
 have hm := mixN_range mode a b ha ha' hb hb'
 have hs := cover_sum (mixN mode a b) a alpha ha ha' hm.1 hm.2 h h'
 unfold coverN
 generalize mixN mode a b = m at *
 generalize alpha * m + (255 - alpha) * a = s at *
 unfold P255
 omega
theorem impl_sum (m a alpha : Int) (ha : 0 ≤ a) (ha' : a ≤ 255) (hm : 0 ≤ m) (hm' : m ≤ 255) (h : 0 ≤ alpha) (h' : alpha ≤ 255) :
  wrap64 (wrap64 (alpha * m) + wrap64 (wrap64 (255 - alpha) * a)) = alpha * m + (255 - alpha) * a ∧ 0 ≤ alpha * m + (255 - alpha) * a ∧ alpha * m + (255 - alpha) * a ≤ 65025 := by
 have h1 := prod_range alpha m h h' hm hm'
 have h2 := prod_range (255 - alpha) a (by omega) (by omega) ha ha'
 have h3 := cover_sum m a alpha ha ha' hm hm' h h'
 rw [w64 (x := 255 - alpha) (by omega) (by omega), w64 (x := alpha * m) (by omega) (by omega), w64 (x := (255 - alpha) * a) (by omega) (by omega), w64 (by omega) (by omega)]
 exact ⟨rfl, by omega, by omega⟩
theorem blended_eq (mode a b alpha : Int) (ha : 0 ≤ a) (ha' : a ≤ 255) (hb : 0 ≤ b) (hb' : b ≤ 255) (h : 0 ≤ alpha) (h' : alpha ≤ 255) :
  impl_blended.f mode a b alpha = some (coverN mode a b alpha) := by
 have p1 := prod_range a b ha ha' hb hb'
 have p2 := prod_range (255 - a) (255 - b) (by omega) (by omega) (by omega) (by omega)
 have hm := mixN_range mode a b ha ha' hb hb'
 have q1 := P255_range _ p1.1 p1.2
 have q2 := P255_range _ p2.1 p2.2
 unfold impl_blended.f coverN
 by_cases c1 : mode = 1
 ·rw [if_pos c1, w64 (by omega) (by omega), part255_eq _ p1.1 (by omega)]
  simp only [Option.bind_some]
  have e : mixN mode a b = P255 (a * b) := by simp [mixN, c1]
  rw [e]
  obtain ⟨s1, s2, s3⟩ := impl_sum (P255 (a * b)) a alpha ha ha' q1.1 q1.2 h h'
  rw [s1, part255_eq _ s2 (by omega)]; rfl
 rw [if_neg c1]
 by_cases c2 : mode = 2
 ·rw [if_pos c2, w64 (x := 255 - a) (by omega) (by omega), w64 (x := 255 - b) (by omega) (by omega), w64 (by omega) (by omega), part255_eq _ p2.1 (by omega)]
  simp only [Option.bind_some]
  have e : mixN mode a b = 255 - P255 ((255 - a) * (255 - b)) := by simp [mixN, c2]
  rw [e, w64 (x := 255 - P255 ((255 - a) * (255 - b))) (by omega) (by omega)]
  obtain ⟨s1, s2, s3⟩ := impl_sum (255 - P255 ((255 - a) * (255 - b))) a alpha ha ha' (by omega) (by omega) h h'
  rw [s1, part255_eq _ s2 (by omega)]; rfl
 rw [if_neg c2]
 by_cases c3 : mode = 3
 ·rw [if_pos c3]
  have e : mixN mode a b = mn a b := by simp [mixN, c3, mn_def]
  rw [e] at hm ⊢
  obtain ⟨s1, s2, s3⟩ := impl_sum (mn a b) a alpha ha ha' hm.1 hm.2 h h'
  rw [s1, part255_eq _ s2 (by omega)]; rfl
 rw [if_neg c3]
 by_cases c4 : mode = 4
 ·rw [if_pos c4]
  have e : mixN mode a b = mx a b := by simp [mixN, c4, mx_def]
  rw [e] at hm ⊢
  obtain ⟨s1, s2, s3⟩ := impl_sum (mx a b) a alpha ha ha' hm.1 hm.2 h h'
  rw [s1, part255_eq _ s2 (by omega)]; rfl
 rw [if_neg c4]
 have e : mixN mode a b = b := by simp [mixN, c1, c2, c3, c4]
 rw [e] at hm ⊢
 obtain ⟨s1, s2, s3⟩ := impl_sum b a alpha ha ha' hm.1 hm.2 h h'
 rw [s1, part255_eq _ s2 (by omega)]; rfl
theorem mix_eq (mode a b : Int) (ha : 0 ≤ a) (ha' : a ≤ 255) (hb : 0 ≤ b) (hb' : b ≤ 255) : spec_mix.f mode a b = some (mixN mode a b) := by
 have p1 := prod_range a b ha ha' hb hb'
 have p2 := prod_range (255 - a) (255 - b) (by omega) (by omega) (by omega) (by omega)
 have e1 : 2 * a * b = 2 * (a * b) := Int.mul_assoc ..
 have e2 : 2 * (255 - a) * (255 - b) = 2 * ((255 - a) * (255 - b)) := Int.mul_assoc ..
 unfold spec_mix.f mixN P255
 rw [mn_def, mx_def]
 repeat (split; · first
  | rfl
  | (rw [w64 (x := 2 * a) (by omega) (by omega), e1, w64 (x := 2 * (a * b)) (by omega) (by omega), w64 (x := 2 * (a * b) + 255) (by omega) (by omega), tdiv_nn _ _ (by omega), w64 (by omega) (by omega)])
  | (rw [w64 (x := 255 - a) (by omega) (by omega), w64 (x := 255 - b) (by omega) (by omega), w64 (x := 2 * (255 - a)) (by omega) (by omega), e2, w64 (x := 2 * ((255 - a) * (255 - b))) (by omega) (by omega), w64 (x := 2 * ((255 - a) * (255 - b)) + 255) (by omega) (by omega), tdiv_nn _ _ (by omega), w64 (x := (2 * ((255 - a) * (255 - b)) + 255) / 510) (by omega) (by omega), w64 (by omega) (by omega)]))
 rfl
theorem blend_eq (mode a b alpha : Int) (ha : 0 ≤ a) (ha' : a ≤ 255) (hb : 0 ≤ b) (hb' : b ≤ 255) (h : 0 ≤ alpha) (h' : alpha ≤ 255) :
  spec_blend.f mode a b alpha = some (coverN mode a b alpha) := by
 have hm := mixN_range mode a b ha ha' hb hb'
 unfold spec_blend.f coverN
 rw [mix_eq mode a b ha ha' hb hb']
 simp only [Option.bind_some]
 obtain ⟨s1, s2, s3⟩ := impl_sum (mixN mode a b) a alpha ha ha' hm.1 hm.2 h h'
 rw [s1]
 generalize alpha * mixN mode a b + (255 - alpha) * a = s at *
 unfold P255
 rw [w64 (x := 2 * s) (by omega) (by omega), w64 (x := 2 * s + 255) (by omega) (by omega), tdiv_nn _ _ (by omega), w64 (by omega) (by omega)]

/- Copies of an image: they are the image; marks on an image. -/

theorem toIntS_ev (l : List Int) (hl : l.length ≤ 2000000) : Ev (fun k => laws_toIntS.f k l) l := by
 have key := ev_up l.length (fun k i s => laws_toIntS.l0 k l s (i : Int)) (fun i s => s.length = l.length ∧ s.take i = l.take i) (fun i s => l)
  (by
   intro i s hi hs
   refine .inr ⟨s.set i l[i], fun k => ?_, ⟨by simpa using hs.1, ?_⟩, rfl⟩
   ·simp only [laws_toIntS.l0]
    rw [if_pos (by omega), if_pos (by omega), rd_nat l i hi, if_pos (by omega), w64n i (by omega), Int.toNat_natCast]
   ·rw [take_set s i _ (by omega), hs.2, List.take_succ_eq_append_getElem hi])
  (by
   intro s hs
   refine Ev.step (f := fun _ => some s) (fun k => ?_) (ev_const ?_)
   ·simp only [laws_toIntS.l0]
    rw [if_neg (by omega)]
   ·rw [← List.take_length (l := s), hs.1, hs.2, List.take_length])
  l.length 0 (List.replicate l.length 0) (by omega) ⟨by simp, by simp⟩
 unfold laws_toIntS.f
 refine Ev.congr (fun k => ?_) key
 rw [if_pos (by omega), if_pos (by omega)]
 simp
theorem eqIntS_ev (l : List Int) (hl : l.length ≤ 1000000000000) : Ev (fun k => laws_eqIntS.f k l l) true := by
 have key := ev_up l.length (fun k i (_ : Unit) => laws_eqIntS.l0 k l l (i : Int)) (fun _ _ => True) (fun _ _ => true)
  (by
   intro i s hi _
   refine .inr ⟨(), fun k => ?_, trivial, rfl⟩
   simp only [laws_eqIntS.l0]
   rw [if_pos (by omega), if_pos (by omega), if_pos (by omega), if_pos trivial, w64n i (by omega)])
  (by
   intro s _
   refine Ev.step (f := fun _ => some true) (fun k => ?_) (Ev.now true)
   simp only [laws_eqIntS.l0]
   rw [if_neg (by omega)])
  l.length 0 () (by omega) trivial
 unfold laws_eqIntS.f
 exact ev_pos rfl (by simpa using key)
theorem szIntS_eq (l : List Int) (n : Int) (h0 : 0 ≤ n) (h1 : n ≤ 1048576) (hl : l.length ≤ 9223372036854775807) :
  (l.length ≤ 1048576 ∧ n - (l.length : Int) ≥ 0 ∧ laws_szIntS.f l n = some (n - (l.length : Int))) ∨ laws_szIntS.f l n = some (-1) := by
 unfold laws_szIntS.f
 by_cases c : (l.length : Int) ≤ n
 ·left
  rw [w64 (by omega) (by omega), if_neg (by omega)]
  exact ⟨by omega, by omega, rfl⟩
 ·right
  rw [w64 (by omega) (by omega), if_pos (by omega)]
theorem szImage_eq (w h p : Int) (d : List Int) (n : Int) (h0 : 0 ≤ n) (h1 : n ≤ 1048576) (hl : d.length ≤ 9223372036854775807) :
  (d.length ≤ 1048576 ∧ n - (d.length : Int) ≥ 0 ∧ laws_szImage.f w h p d n = some (n - (d.length : Int))) ∨ laws_szImage.f w h p d n = some (-1) := by
 unfold laws_szImage.f
 rcases szIntS_eq d n h0 h1 hl with ⟨a, b, c⟩ | c
 ·left
  rw [c]
  simp only [Option.bind_some]
  rw [if_neg (by omega)]
  exact ⟨a, b, rfl⟩
 ·right
  rw [c]
  simp only [Option.bind_some]
  rw [if_pos (by omega)]
theorem toImage_ev (w h p : Int) (d : List Int) (hl : d.length ≤ 2000000) : Ev (fun k => laws_toImage.f k w h p d) (w, h, p, d) := by
 unfold laws_toImage.f
 exact ev_bind (toIntS_ev d hl) (Ev.now _)
theorem eqImage_ev (w h p : Int) (d : List Int) (hl : d.length ≤ 1000000000000) : Ev (fun k => laws_eqImage.f k w h p d w h p d) true := by
 unfold laws_eqImage.f
 exact ev_pos rfl (ev_pos rfl (ev_pos rfl (ev_bind (eqIntS_ev d hl) (ev_pos rfl (Ev.now _)))))

/- Layers: valid ones, as the program and the reference have it; copies of a layer. -/

def layerV (w h p : Int) (d : List Int) (x y m a : Int) (pl : Int) : Bool := validI w h p d && decide (p = pl ∧ -16 ≤ x ∧ x ≤ 16 ∧ -16 ≤ y ∧ y ≤ 16 ∧ 0 ≤ m ∧ m ≤ 4 ∧ 0 ≤ a ∧ a ≤ 255)
theorem layerV_iff (w h p : Int) (d : List Int) (x y m a : Int) (pl : Int) : layerV w h p d x y m a pl = true ↔ validI w h p d = true ∧ p = pl ∧ -16 ≤ x ∧ x ≤ 16 ∧ -16 ≤ y ∧ y ≤ 16 ∧ 0 ≤ m ∧ m ≤ 4 ∧ 0 ≤ a ∧ a ≤ 255 := by simp [layerV]
theorem impl_isModeI_eq (m : Int) : impl_isMode.f m = some (decide (0 ≤ m ∧ m ≤ 4)) := by
 unfold impl_isMode.f
 by_cases c : m ≥ 0
 ·rw [if_pos c]; congr 1; rw [decide_eq_decide]; omega
 ·rw [if_neg c, decide_eq_false (by omega)]
theorem impl_isLayer_eq (w h p : Int) (d : List Int) (x y m a : Int) (b : Bool) (pl : Int) : impl_isLayer.f w h p d x y m a b pl = some (layerV w h p d x y m a pl) := by
 unfold impl_isLayer.f layerV
 rw [impl_isImage_eq, impl_isModeI_eq]
 simp only [Option.bind_some]
 by_cases c : validI w h p d = true
 ·rw [if_pos c, c, Bool.true_and]
  by_cases c1 : p = pl
  ·rw [if_pos c1]
   by_cases c2 : x ≥ -16
   ·rw [if_pos c2]
    by_cases c3 : x ≤ 16
    ·rw [if_pos c3]
     by_cases c4 : y ≥ -16
     ·rw [if_pos c4]
      by_cases c5 : y ≤ 16
      ·rw [if_pos c5]
       by_cases c6 : 0 ≤ m ∧ m ≤ 4
       ·rw [if_pos (by simpa using c6)]
        by_cases c7 : a ≥ 0
        ·rw [if_pos c7]; congr 1; rw [decide_eq_decide]; omega
        ·rw [if_neg c7, decide_eq_false (by omega)]
       ·rw [if_neg (by simpa using c6), decide_eq_false (by omega)]
      ·rw [if_neg c5, decide_eq_false (by omega)]
     ·rw [if_neg c4, decide_eq_false (by omega)]
    ·rw [if_neg c3, decide_eq_false (by omega)]
   ·rw [if_neg c2, decide_eq_false (by omega)]
  ·rw [if_neg c1, decide_eq_false (by omega)]
 ·rw [if_neg c, Bool.eq_false_iff.2 c, Bool.false_and]
theorem spec_validLayer_ev (w h p : Int) (d : List Int) (x y m a : Int) (b : Bool) (pl : Int) (hl : d.length ≤ 1000000000000) : Ev (fun k => spec_validLayer.f k w h p d x y m a b pl) (layerV w h p d x y m a pl) := by
 unfold spec_validLayer.f layerV
 refine ev_bind (spec_validImage_ev w h p d hl) ?_
 by_cases c : validI w h p d = true
 ·refine ev_pos c ?_
  rw [c, Bool.true_and]
  refine ev_const ?_
  rw [spec_inRangeI_eq, spec_inRangeI_eq, spec_inRangeI_eq, spec_inRangeI_eq]
  simp only [Option.bind_some]
  by_cases c1 : p = pl
  ·rw [if_pos c1]
   by_cases c2 : -16 ≤ x ∧ x ≤ 16
   ·rw [if_pos (by simpa using c2)]
    by_cases c3 : -16 ≤ y ∧ y ≤ 16
    ·rw [if_pos (by simpa using c3)]
     by_cases c4 : 0 ≤ m ∧ m ≤ 4
     ·rw [if_pos (by simpa using c4)]; congr 1; rw [Bool.eq_iff_iff]; simp; omega
     ·rw [if_neg (by simpa using c4), decide_eq_false (by omega)]
    ·rw [if_neg (by simpa using c3), decide_eq_false (by omega)]
   ·rw [if_neg (by simpa using c2), decide_eq_false (by omega)]
  ·rw [if_neg c1, decide_eq_false (by omega)]
 ·refine ev_neg c ?_
  rw [Bool.eq_false_iff.2 c, Bool.false_and]
  exact Ev.now _
theorem szLayer_eq (w h p : Int) (d : List Int) (x y m a : Int) (b : Bool) (n : Int) (h0 : 0 ≤ n) (h1 : n ≤ 1048576) (hl : d.length ≤ 9223372036854775807) :
  (d.length ≤ 1048576 ∧ n - (d.length : Int) ≥ 0 ∧ laws_szLayer.f w h p d x y m a b n = some (n - (d.length : Int))) ∨ laws_szLayer.f w h p d x y m a b n = some (-1) := by
 unfold laws_szLayer.f
 rcases szImage_eq w h p d n h0 h1 hl with ⟨e1, e2, e3⟩ | e
 ·left
  rw [e3]
  simp only [Option.bind_some]
  rw [if_neg (by omega)]
  exact ⟨e1, e2, rfl⟩
 ·right
  rw [e]
  simp only [Option.bind_some]
  rw [if_pos (by omega)]
theorem toLayer_ev (w h p : Int) (d : List Int) (x y m a : Int) (b : Bool) (hl : d.length ≤ 2000000) : Ev (fun k => laws_toLayer.f k w h p d x y m a b) (w, h, p, d, x, y, m, a, b) := by
 unfold laws_toLayer.f
 exact ev_bind (toImage_ev w h p d hl) (Ev.now _)
theorem eqLayer_ev (w h p : Int) (d : List Int) (x y m a : Int) (b : Bool) (hl : d.length ≤ 1000000000000) : Ev (fun k => laws_eqLayer.f k w h p d x y m a b w h p d x y m a b) true := by
 unfold laws_eqLayer.f
 exact ev_bind (eqImage_ev w h p d hl) (ev_pos rfl (ev_pos rfl (ev_pos rfl (ev_pos rfl (ev_pos rfl (ev_neg (by simp) (Ev.now _)))))))

/- CoverImage, as the program and the reference have it. -/

theorem cover_byte (mode a b alpha : Int) (ha : 0 ≤ a) (ha' : a ≤ 255) (hb : 0 ≤ b) (hb' : b ≤ 255) (h : 0 ≤ alpha) (h' : alpha ≤ 255) : 0 ≤ coverN mode a b alpha ∧ coverN mode a b alpha ≤ 255 := by
 have h1 := cover_between mode a b alpha ha ha' hb hb' h h'
 have h2 := mixN_range mode a b ha ha' hb hb'
 omega
def AllB (d : List Int) : Prop := ∀ n ∈ d, 0 ≤ n ∧ n ≤ 255
theorem allB_at {d : List Int} (h : AllB d) (i : Nat) (hi : i < d.length) : 0 ≤ d[i] ∧ d[i] ≤ 255 := h _ (List.getElem_mem hi)
theorem allB_nx {d : List Int} (h : AllB d) (n i : Nat) : AllB (nx n d i) := fun x hx => h x (List.mem_of_mem_drop (List.mem_of_mem_take hx))
theorem blV_cover {mode alpha n u : Int} (h1 : 0 ≤ alpha ∧ alpha ≤ 255) (h2 : 0 ≤ n ∧ n ≤ 255) (h3 : 0 ≤ u ∧ u ≤ 255) : blV mode alpha n u = coverN mode n u alpha := by
 unfold blV
 rw [blended_eq mode n u alpha h2.1 h2.2 h3.1 h3.2 h1.1 h1.2]
 rfl
def covL (mode alpha : Int) (l u : List Int) : List Int := List.zipWith (fun n m => coverN mode n m alpha) l u
theorem zip_cover {mode alpha : Int} (h1 : 0 ≤ alpha ∧ alpha ≤ 255) : ∀ {l u : List Int}, AllB l → AllB u → List.zipWith (blV mode alpha) l u = covL mode alpha l u := by
 intro l
 induction l with
 | nil => intro u _ _; rfl
 | cons x l ih =>
  intro u hl hu
  cases u with
  | nil => rfl
  | cons y u =>
   unfold covL at ih ⊢
   rw [List.zipWith_cons_cons, List.zipWith_cons_cons, blV_cover h1 (hl x (by simp)) (hu y (by simp)), ih (fun z hz => hl z (by simp [hz])) (fun z hz => hu z (by simp [hz]))]
theorem covL_len {mode alpha : Int} {l u : List Int} {n : Nat} (h1 : l.length = n) (h2 : u.length = n) : (covL mode alpha l u).length = n := by unfold covL; rw [List.length_zipWith]; omega
theorem covL_bytes {mode alpha : Int} (h1 : 0 ≤ alpha ∧ alpha ≤ 255) {l u : List Int} (hl : AllB l) (hu : AllB u) : AllB (covL mode alpha l u) := by
 intro z hz
 unfold covL at hz
 obtain ⟨i, hi, rfl⟩ := List.getElem_of_mem hz
 rw [List.length_zipWith] at hi
 rw [List.getElem_zipWith]
 have a := allB_at hl i (by omega)
 have b := allB_at hu i (by omega)
 exact cover_byte _ _ _ _ a.1 a.2 b.1 b.2 h1.1 h1.2
def covPx (an pn : Nat) (d : List Int) (X Y : Int) (wn hn : Nat) (e : List Int) (mode alpha : Int) (x y : Nat) : List Int :=
 if X ≤ (x : Int) ∧ (x : Int) < X + wn ∧ Y ≤ (y : Int) ∧ (y : Int) < Y + hn then covL mode alpha (nx pn d (y * an + x)) (nx pn e (((y : Int) - Y).toNat * wn + ((x : Int) - X).toNat)) else nx pn d (y * an + x)
theorem covPx_len {an bn pn wn hn : Nat} {d e : List Int} {X Y : Int} (mode alpha : Int) (hd : d.length = (bn * an) * pn) (he : e.length = (hn * wn) * pn) : ∀ x y, x < an → y < bn → (covPx an pn d X Y wn hn e mode alpha x y).length = pn := by
 intro x y hx hy
 unfold covPx
 split
 ·exact covL_len (nx_length hd (lin_lt hx hy)) (nx_length he (lin_lt (by omega) (by omega)))
 ·exact nx_length hd (lin_lt hx hy)
theorem coverPx_cov {an bn pn wn hn : Nat} (h1 : an ≤ 16) (h2 : bn ≤ 16) (h3 : pn ≤ 4) (h4 : wn ≤ 16) (h5 : hn ≤ 16) {d e : List Int} {X Y mode alpha : Int} (ha : 0 ≤ alpha ∧ alpha ≤ 255) (hd : AllB d) (he : AllB e) {x y : Nat} (hx : x < an) (hy : y < bn) :
  coverPx an pn d wn hn e X Y mode alpha x y = covPx an pn d X Y wn hn e mode alpha x y := by
 unfold coverPx covPx inBoxZ
 by_cases c : X ≤ (x : Int) ∧ (x : Int) < X + wn ∧ Y ≤ (y : Int) ∧ (y : Int) < Y + hn
 ·rw [if_pos c, if_pos (decide_eq_true c), pxAt_nat h1 h2 h3 hx hy, pxAt_nat h4 h5 h3 (by omega) (by omega)]
  exact zip_cover ha (allB_nx hd _ _) (allB_nx he _ _)
 ·rw [if_neg c, if_neg (by simpa using c), pxAt_nat h1 h2 h3 hx hy]
theorem laid_get (s zs : List Int) (j q : Nat) (hq : q < zs.length) (hj : j + zs.length ≤ s.length) : (laidOver s j (zs.take q)).getD (j + q) 0 = s.getD (j + q) 0 := by
 have h1 : (zs.take q).length = q := by rw [List.length_take]; omega
 have h2 : (s.take j).length = j := by rw [List.length_take]; omega
 unfold laidOver
 rw [List.getD_eq_getElem?_getD, List.getElem?_append_right (by omega), h2, Nat.add_sub_cancel_left, List.getElem?_append_right (by omega), h1, Nat.sub_self, List.getElem?_drop, Nat.add_zero, List.getD_eq_getElem?_getD]
theorem nx_getD (s : List Int) (n i q : Nat) (hq : q < n) : (nx n s i).getD q 0 = s.getD (i * n + q) 0 := by
 unfold nx
 rw [List.getD_eq_getElem?_getD, List.getElem?_take, if_pos hq, List.getElem?_drop, List.getD_eq_getElem?_getD]
theorem rd_getD (l : List Int) (i : Nat) : rd l (i : Int) = l.getD i 0 := by simp [rd]
theorem blendPx_ev {an bn pn wn hn : Nat} {X Y mode alpha : Int} (hid : Bool) (hal : 0 ≤ alpha ∧ alpha ≤ 255) (r c : Nat) (hr : r ≤ 16) (hc : c ≤ 16) (s e : List Int) (jd je : Nat) (hs1 : s.length ≤ 1024) (he1 : e.length ≤ 1024) (hm : jd * pn + pn ≤ s.length) (hme : je * pn + pn ≤ e.length) (hp : pn ≤ 4) (hdb : AllB (nx pn s jd)) (heb : AllB (nx pn e je))
  (hJ : wrap64 ((wrap64 ((wrap64 ((wrap64 ((wrap64 (Y + (r : Int))) * (an : Int))) + X)) + (c : Int))) * (pn : Int)) = ((jd * pn : Nat) : Int)) (hJe : wrap64 ((wrap64 ((wrap64 ((r : Int) * (wn : Int))) + (c : Int))) * (pn : Int)) = ((je * pn : Nat) : Int)) (res : List Int)
  (hres : Ev (fun k => spec_blendPaste.l1 k (r : Int) ((c + 1 : Nat) : Int) an bn pn (laidOver s (jd * pn) (covL mode alpha (nx pn s jd) (nx pn e je))) wn hn pn e X Y mode alpha hid) res) :
  Ev (fun k => spec_blendPaste.l2 k (r : Int) (c : Int) 0 an bn pn s wn hn pn e X Y mode alpha hid) res := by
 have HJ := Aside0.mk hJ
 have HJe := Aside0.mk hJe
 clear hJ hJe
 have hl1 : (nx pn s jd).length = pn := by unfold nx; rw [List.length_take, List.length_drop]; omega
 have hl2 : (nx pn e je).length = pn := by unfold nx; rw [List.length_take, List.length_drop]; omega
 obtain ⟨zs, hzs⟩ : ∃ zs, zs = covL mode alpha (nx pn s jd) (nx pn e je) := ⟨_, rfl⟩
 have hyl : zs.length = pn := by rw [hzs]; exact covL_len hl1 hl2
 rw [← hzs] at hres
 have hz : ∀ q (hq : q < pn), zs[q]'(by rw [hyl]; exact hq) = coverN mode ((nx pn s jd).getD q 0) ((nx pn e je).getD q 0) alpha := by
  intro q hq
  have hzq : zs[q]? = some (coverN mode ((nx pn s jd).getD q 0) ((nx pn e je).getD q 0) alpha) := by
   rw [hzs]
   unfold covL
   rw [List.getElem?_zipWith, List.getElem?_eq_getElem (show q < (nx pn s jd).length by omega), List.getElem?_eq_getElem (show q < (nx pn e je).length by omega), List.getD_eq_getElem?_getD, List.getElem?_eq_getElem (show q < (nx pn s jd).length by omega), List.getD_eq_getElem?_getD, List.getElem?_eq_getElem (show q < (nx pn e je).length by omega)]
   rfl
  rw [List.getElem?_eq_getElem (show q < zs.length by omega)] at hzq
  exact Option.some.inj hzq
 have hb : ∀ q, q < pn → (0 ≤ (nx pn s jd).getD q 0 ∧ (nx pn s jd).getD q 0 ≤ 255) ∧ (0 ≤ (nx pn e je).getD q 0 ∧ (nx pn e je).getD q 0 ≤ 255) := by
  intro q hq
  refine ⟨?_, ?_⟩
  ·rw [List.getD_eq_getElem?_getD, List.getElem?_eq_getElem (show q < (nx pn s jd).length by omega)]; exact allB_at hdb q (by omega)
  ·rw [List.getD_eq_getElem?_getD, List.getElem?_eq_getElem (show q < (nx pn e je).length by omega)]; exact allB_at heb q (by omega)
 have hg : ∀ q, q < pn → rd (laidOver s (jd * pn) (zs.take q)) ((jd * pn + q : Nat) : Int) = (nx pn s jd).getD q 0 := fun q hq => by rw [rd_getD, laid_get s zs _ q (by omega) (by omega), ← nx_getD s pn jd q hq]
 have hg2 : ∀ q, q < pn → rd e ((je * pn + q : Nat) : Int) = (nx pn e je).getD q 0 := fun q hq => by rw [rd_getD, ← nx_getD e pn je q hq]
 have hls : ∀ q, q < pn → (laidOver s (jd * pn) (zs.take q)).length = s.length := fun q hq => laidOver_length s _ _ (by rw [List.length_take]; omega)
 have hset : ∀ q (hq : q < pn), (laidOver s (jd * pn) (zs.take q)).set (jd * pn + q) (zs[q]'(by rw [hyl]; exact hq)) = laidOver s (jd * pn) (zs.take (q + 1)) := fun q hq => laid_set s zs (jd * pn) q (by omega) (by omega)
 clear hzs hdb heb
 generalize nx pn s jd = S at *
 generalize nx pn e je = E at *
 generalize hjp : jd * pn = j at *
 generalize hjq : je * pn = i at *
 clear hjp hjq
 obtain ⟨s2, hs2, hk⟩ := ev_run pn (fun k q s' => spec_blendPaste.l2 k (r : Int) (c : Int) (q : Int) an bn pn s' wn hn pn e X Y mode alpha hid) (fun s' k => spec_blendPaste.l1 k (r : Int) ((c + 1 : Nat) : Int) an bn pn s' wn hn pn e X Y mode alpha hid) (fun q s' => s' = laidOver s j (zs.take q))
  (by
   intro q s' hq hs'
   subst hs'
   refine ⟨_, hset q hq, fun res hres => Ev.step (fun k => ?_) hres⟩
   have b := hb q hq
   have hh := hls q hq
   have a1 := Aside0.mk (show wrap64 ((j : Int) + (q : Int)) = ((j + q : Nat) : Int) from by rw [w64 (by omega) (by omega)]; push_cast; rfl)
   have a2 := Aside0.mk (show wrap64 ((i : Int) + (q : Int)) = ((i + q : Nat) : Int) from by rw [w64 (by omega) (by omega)]; push_cast; rfl)
   have hp1 : (q : Int) < (pn : Int) := by omega
   have hp2 : (0 : Int) ≤ ((j + q : Nat) : Int) := by omega
   have hp3 : ((j + q : Nat) : Int) < ((laidOver s j (zs.take q)).length : Int) := by rw [hh]; omega
   have hp4 : (0 : Int) ≤ ((i + q : Nat) : Int) := by omega
   have hp5 : ((i + q : Nat) : Int) < (e.length : Int) := by omega
   simp only [spec_blendPaste.l2]
   rw [HJ.out, HJe.out, a1.out, a2.out, hg q hq, hg2 q hq, if_pos hp1, if_pos hp2, if_pos hp3, if_pos hp4, if_pos hp5, blend_eq mode _ _ alpha b.1.1 b.1.2 b.2.1 b.2.2 hal.1 hal.2]
   simp only [Option.bind_some]
   rw [← hz q hq, w64n q (by omega), Int.toNat_natCast])
  (by
   intro s' _ res hres
   refine Ev.step (fun k => ?_) hres
   simp only [spec_blendPaste.l2]
   rw [if_neg (by omega), w64n c (by omega)])
  pn 0 s (by omega) (by unfold laidOver; simp)
 rw [List.take_of_length_le (by omega)] at hs2
 subst hs2
 exact hk _ hres
theorem at_px2 {an pn x0 y0 r c : Nat} {X Y : Int} (h1 : an ≤ 16) (hy : y0 ≤ 16) (hx0 : X + (c : Int) = (x0 : Int)) (hy0 : Y + (r : Int) = (y0 : Int)) (hX : -16 ≤ X ∧ X ≤ 16) (hY : -16 ≤ Y ∧ Y ≤ 16) (hr : r ≤ 16) (hc : c ≤ 16) (hJ : pixJ an pn x0 y0 = (((y0 * an + x0) * pn : Nat) : Int)) :
  wrap64 ((wrap64 ((wrap64 ((wrap64 ((wrap64 (Y + (r : Int))) * (an : Int))) + X)) + (c : Int))) * (pn : Int)) = (((y0 * an + x0) * pn : Nat) : Int) := by
 rw [← hJ]
 unfold pixJ
 clear hJ
 have hya : y0 * an ≤ 16 * 16 := Nat.mul_le_mul hy h1
 rw [hy0, w64 (x := (y0 : Int)) (by omega) (by omega)]
 have e1 : ((y0 : Int) * (an : Int)) = ((y0 * an : Nat) : Int) := by push_cast; rfl
 rw [e1]
 clear e1
 generalize y0 * an = t at *
 rw [w64 (x := (t : Int)) (by omega) (by omega), w64 (x := (t : Int) + X) (by omega) (by omega), show (t : Int) + X + (c : Int) = (t : Int) + (x0 : Int) by omega]
theorem blendPaste_ev {an bn pn wn hn : Nat} {X Y mode alpha : Int} (hid : Bool) (h1 : 1 ≤ an ∧ an ≤ 16) (h2 : 1 ≤ bn ∧ bn ≤ 16) (h3 : pn ≤ 4) (h4 : wn ≤ 16) (h5 : hn ≤ 16) (hX : -16 ≤ X ∧ X ≤ 16) (hY : -16 ≤ Y ∧ Y ≤ 16) (hal : 0 ≤ alpha ∧ alpha ≤ 255) (d e : List Int) (hd : d.length = (bn * an) * pn) (he : e.length = (hn * wn) * pn) (hdb : AllB d) (heb : AllB e) :
  Ev (fun k => spec_blendPaste.f k an bn pn d wn hn pn e X Y mode alpha hid) (imgD (covPx an pn d X Y wn hn e mode alpha) an bn) := by
 unfold spec_blendPaste.f
 have hlen := covPx_len (X := X) (Y := Y) mode alpha hd he
 let I : Nat → Nat → List Int → Prop := fun r c s => s.length = (bn * an) * pn ∧ ∀ x y : Nat, x < an → y < bn → nx pn s (y * an + x) = if X ≤ (x : Int) ∧ (x : Int) < X + wn ∧ Y ≤ (y : Int) ∧ (y : Int) < Y + hn ∧ ((y : Int) < Y + r ∨ ((y : Int) = Y + r ∧ (x : Int) < X + c)) then covL mode alpha (nx pn d (y * an + x)) (nx pn e (((y : Int) - Y).toNat * wn + ((x : Int) - X).toNat)) else nx pn d (y * an + x)
 have inner : ∀ (r : Nat), r < hn → ∀ s : List Int, I r 0 s → ∃ s' : List Int, I (r + 1) 0 s' ∧
    ∀ res, Ev (fun k => spec_blendPaste.l0 k ((r + 1 : Nat) : Int) an bn pn s' wn hn pn e X Y mode alpha hid) res → Ev (fun k => spec_blendPaste.l1 k (r : Int) 0 an bn pn s wn hn pn e X Y mode alpha hid) res := by
  intro r hr s hs
  obtain ⟨s', i4, i5⟩ := ev_run wn (fun k c s => spec_blendPaste.l1 k (r : Int) (c : Int) an bn pn s wn hn pn e X Y mode alpha hid) (fun s k => spec_blendPaste.l0 k ((r + 1 : Nat) : Int) an bn pn s wn hn pn e X Y mode alpha hid) (fun c s => I r c s)
   (by
    intro c s hc ⟨hsl, i1⟩
    have w1 := w64 (x := X + (c : Int)) (by omega) (by omega)
    have w2 := w64 (x := Y + (r : Int)) (by omega) (by omega)
    by_cases on : 0 ≤ X + (c : Int) ∧ X + (c : Int) < an ∧ 0 ≤ Y + (r : Int) ∧ Y + (r : Int) < bn
    ·obtain ⟨x0, hx0⟩ := Int.eq_ofNat_of_zero_le on.1
     obtain ⟨y0, hy0⟩ := Int.eq_ofNat_of_zero_le on.2.2.1
     have hx0a : x0 < an := by omega
     have hy0b : y0 < bn := by omega
     have hel : (nx pn e (r * wn + c)).length = pn := nx_length he (lin_lt hc hr)
     have hdl : (nx pn d (y0 * an + x0)).length = pn := nx_length hd (lin_lt hx0a hy0b)
     have hlin := lin_lt hx0a hy0b
     obtain ⟨zs, hzs⟩ : ∃ zs, zs = covL mode alpha (nx pn d (y0 * an + x0)) (nx pn e (r * wn + c)) := ⟨_, rfl⟩
     have hyl : zs.length = pn := by rw [hzs]; exact covL_len hdl hel
     have hm : (y0 * an + x0 + 1) * pn ≤ (bn * an) * pn := Nat.mul_le_mul_right pn hlin
     rw [Nat.add_mul, Nat.one_mul] at hm
     have hme : (r * wn + c + 1) * pn ≤ (hn * wn) * pn := Nat.mul_le_mul_right pn (lin_lt hc hr)
     rw [Nat.add_mul, Nat.one_mul] at hme
     have sm := small h1.2 h2.2 h3
     have sme := small h4 h5 h3
     have hsd : nx pn s (y0 * an + x0) = nx pn d (y0 * an + x0) := by rw [i1 x0 y0 hx0a hy0b, if_neg (by omega)]
     refine ⟨laidOver s ((y0 * an + x0) * pn) zs, ⟨by rw [laidOver_length _ _ _ (by rw [hyl, hsl]; exact hm)]; exact hsl, ?_⟩, ?_⟩
     ·intro x y hx hy
      rw [nx_laid hsl hyl hlin (lin_lt hx hy)]
      by_cases q : x = x0 ∧ y = y0
      ·obtain ⟨rfl, rfl⟩ := q
       rw [if_pos rfl, if_pos (by omega), show ((y : Int) - Y).toNat = r by omega, show ((x : Int) - X).toNat = c by omega]
       exact hzs
      ·rw [if_neg (fun z => q (lin_ne hx hx0a z)), i1 x y hx hy]
       by_cases z : X ≤ (x : Int) ∧ (x : Int) < X + wn ∧ Y ≤ (y : Int) ∧ (y : Int) < Y + hn ∧ ((y : Int) < Y + r ∨ ((y : Int) = Y + r ∧ (x : Int) < X + c))
       ·rw [if_pos z, if_pos (by omega)]
       ·rw [if_neg z, if_neg (by omega)]
     ·intro res hres
      have HJ2 := Aside0.mk (at_px2 (X := X) (Y := Y) (x0 := x0) (y0 := y0) (r := r) (c := c) h1.2 (by omega) hx0 hy0 hX hY (by omega) (by omega) (pixJ_nat h1.2 h2.2 h3 hx0a hy0b).1)
      have HJe := Aside0.mk (pixJ_nat h4 h5 h3 hc hr).1
      have HB1 := Aside0.mk (show AllB (nx pn s (y0 * an + x0)) from by rw [hsd]; exact allB_nx hdb _ _)
      have q1 : s.length ≤ 1024 := by omega
      have q2 : e.length ≤ 1024 := by omega
      have q3 : (y0 * an + x0) * pn + pn ≤ s.length := by omega
      have q4 : (r * wn + c) * pn + pn ≤ e.length := by omega
      have HX1 := Aside0.mk (show zs = covL mode alpha (nx pn s (y0 * an + x0)) (nx pn e (r * wn + c)) from by rw [hzs, hsd])
      clear hzs hsd i1
      rw [HX1.out] at hres
      refine Ev.step (f := fun k => (spec_onImage.f an bn pn s (X + (c : Int)) (Y + (r : Int))).bind fun u => if u = true then spec_blendPaste.l2 k (r : Int) (c : Int) 0 an bn pn s wn hn pn e X Y mode alpha hid else spec_blendPaste.l1 k (r : Int) ((c + 1 : Nat) : Int) an bn pn s wn hn pn e X Y mode alpha hid) (fun k => ?_) (ev_now (onImage_eq h1 h2 _ _ _ _) (ev_pos (decide_eq_true on) (blendPx_ev hid hal r c (by omega) (by omega) s e (y0 * an + x0) (r * wn + c) q1 q2 q3 q4 h3 HB1.out (allB_nx heb _ _) HJ2.out HJe.out res hres)))
      simp only [spec_blendPaste.l1]
      rw [if_pos (by omega), w1, w2, w64n c (by omega)]
    ·refine ⟨s, ⟨hsl, fun x y hx hy => ?_⟩, ?_⟩
     ·rw [i1 x y hx hy]
      by_cases z : X ≤ (x : Int) ∧ (x : Int) < X + wn ∧ Y ≤ (y : Int) ∧ (y : Int) < Y + hn ∧ ((y : Int) < Y + r ∨ ((y : Int) = Y + r ∧ (x : Int) < X + c))
      ·rw [if_pos z, if_pos (by omega)]
      ·rw [if_neg z, if_neg (by omega)]
     ·intro res hres
      refine Ev.step (f := fun k => (spec_onImage.f an bn pn s (X + (c : Int)) (Y + (r : Int))).bind fun u => if u = true then spec_blendPaste.l2 k (r : Int) (c : Int) 0 an bn pn s wn hn pn e X Y mode alpha hid else spec_blendPaste.l1 k (r : Int) ((c + 1 : Nat) : Int) an bn pn s wn hn pn e X Y mode alpha hid) (fun k => ?_) (ev_now (onImage_eq h1 h2 _ _ _ _) (ev_neg (by simpa using on) hres))
      simp only [spec_blendPaste.l1]
      rw [if_pos (by omega), w1, w2, w64n c (by omega)])
   (by
    intro s _ res hres
    refine Ev.step (fun k => ?_) hres
    simp only [spec_blendPaste.l1]
    rw [if_neg (by omega), w64n r (by omega)])
   wn 0 s (by omega) hs
  refine ⟨s', ⟨i4.1, fun x y hx hy => ?_⟩, i5⟩
  rw [i4.2 x y hx hy]
  by_cases z : X ≤ (x : Int) ∧ (x : Int) < X + wn ∧ Y ≤ (y : Int) ∧ (y : Int) < Y + hn ∧ ((y : Int) < Y + r ∨ ((y : Int) = Y + r ∧ (x : Int) < X + wn))
  ·rw [if_pos z, if_pos (by omega)]
  ·rw [if_neg z, if_neg (by omega)]
 obtain ⟨s', i4, i5⟩ := ev_run hn (fun k r s => spec_blendPaste.l0 k (r : Int) an bn pn s wn hn pn e X Y mode alpha hid) (fun s _ => some s) (fun r s => I r 0 s)
  (by
   intro r s hr hs
   obtain ⟨s', i1, i2⟩ := inner r hr s hs
   refine ⟨s', i1, fun res hres => Ev.step (fun k => ?_) (i2 res hres)⟩
   simp only [spec_blendPaste.l0]
   rw [if_pos (by omega)])
  (by
   intro s _ res hres
   refine Ev.step (fun k => ?_) hres
   simp only [spec_blendPaste.l0]
   rw [if_neg (by omega)])
  hn 0 d (by omega) ⟨hd, fun x y hx hy => by rw [if_neg (by omega)]⟩
 have q : s' = imgD (covPx an pn d X Y wn hn e mode alpha) an bn := ext_img i4.1 (imgD_length hlen) (fun x y hx hy => by
  rw [i4.2 x y hx hy, nx_imgD hlen hx hy]
  unfold covPx
  by_cases z : X ≤ (x : Int) ∧ (x : Int) < X + wn ∧ Y ≤ (y : Int) ∧ (y : Int) < Y + hn
  ·rw [if_pos z, if_pos (by omega)]
  ·rw [if_neg z, if_neg (by omega)])
 subst q
 exact i5 _ (Ev.now _)

/- Layers that cover an image, one after the other, as the program and the reference have it. -/

abbrev Lay := S55
theorem valid_imgC {an bn pn : Nat} {px : Nat → Nat → List Int} (h1 : 1 ≤ an ∧ an ≤ 16) (h2 : 1 ≤ bn ∧ bn ≤ 16) (h3 : 1 ≤ pn ∧ pn ≤ 4) (hl : ∀ x y, x < an → y < bn → (px x y).length = pn) (hb : ∀ x y, x < an → y < bn → AllB (px x y)) : validI an bn pn (imgD px an bn) = true := by
 refine (validI_iff _ _ _ _).2 ⟨by omega, by rw [imgD_length hl, Nat.mul_comm bn an]; push_cast; rfl, fun n hn => ?_⟩
 unfold imgD rowD at hn
 obtain ⟨y, hy, hn⟩ := List.mem_flatMap.1 hn
 obtain ⟨x, hx, hn⟩ := List.mem_flatMap.1 hn
 exact hb x y (List.mem_range.1 hx) (List.mem_range.1 hy) n hn
theorem valid_le {a b p : Int} {d : List Int} (hv : validI a b p d = true) : d.length ≤ 1024 := by
 obtain ⟨an, bn, pn, _, _, _, q1, q2, q3, q4, q5, q6, q7⟩ := nat_of hv
 rw [q7]
 exact Nat.mul_le_mul (Nat.mul_le_mul q4 q2) q6
def okL (p : Int) (l : Lay) : Bool := layerV l.f0.f0 l.f0.f1 l.f0.f2 l.f0.f3 l.f1 l.f2 l.f3 l.f4 p
def covD (a b p : Int) (d : List Int) (l : Lay) : List Int := imgD (covPx a.toNat p.toNat d l.f1 l.f2 l.f0.f0.toNat l.f0.f1.toNat l.f0.f3 l.f3 l.f4) a.toNat b.toNat
def onD (a b p : Int) (d : List Int) (l : Lay) : List Int := if l.f5 = true then d else covD a b p d l
def flatD (a b p : Int) : List Int → List Lay → List Int
 | d, [] => d
 | d, l :: ls => flatD a b p (onD a b p d l) ls
def flatV (a b p : Int) (d : List Int) (ls : List Lay) : Int × Int × Int × List Int × Bool := if validI a b p d = true ∧ ls.length ≤ 6 ∧ ls.all (okL p) = true then (a, b, p, flatD a b p d ls, true) else (0, 0, 0, [], false)
theorem covD_valid {a b p : Int} {d : List Int} {l : Lay} (hv : validI a b p d = true) (ho : okL p l = true) : validI a b p (covD a b p d l) = true := by
 obtain ⟨hvl, e, hx1, hx2, hy1, hy2, _, _, ha1, ha2⟩ := (layerV_iff _ _ _ _ _ _ _ _ _).1 ho
 have hb1 := ((validI_iff _ _ _ _).1 hv).2.2
 have hb2 := ((validI_iff _ _ _ _).1 hvl).2.2
 obtain ⟨an, bn, pn, rfl, rfl, rfl, q1, q2, q3, q4, q5, q6, q7⟩ := nat_of hv
 obtain ⟨wn, hn, pm, e1, e2, hpm, q11, q12, q13, q14, _, _, q17⟩ := nat_of hvl
 obtain rfl : pn = pm := Int.ofNat.inj (e.symm.trans hpm)
 unfold covD
 rw [e1, e2]
 simp only [Int.toNat_natCast]
 refine valid_imgC ⟨q1, q2⟩ ⟨q3, q4⟩ ⟨q5, q6⟩ (covPx_len _ _ q7 q17) (fun x y hx hy => ?_)
 unfold covPx
 split
 ·exact covL_bytes ⟨ha1, ha2⟩ (allB_nx hb1 _ _) (allB_nx hb2 _ _)
 ·exact allB_nx hb1 _ _
theorem onD_valid {a b p : Int} {d : List Int} {l : Lay} (hv : validI a b p d = true) (ho : okL p l = true) : validI a b p (onD a b p d l) = true := by
 unfold onD
 split
 ·exact hv
 ·exact covD_valid hv ho
theorem flatD_valid {a b p : Int} : ∀ (ls : List Lay) {d : List Int}, validI a b p d = true → ls.all (okL p) = true → validI a b p (flatD a b p d ls) = true
 | [], d, hv, _ => hv
 | l :: ls, d, hv, ho => by
  rw [List.all_cons, Bool.and_eq_true] at ho
  exact flatD_valid ls (onD_valid hv ho.1) ho.2
theorem impl_cover {a b p : Int} {d : List Int} {l : Lay} (hid : Bool) (hv : validI a b p d = true) (ho : okL p l = true) : impl_coverImage.f a b p d l.f0.f0 l.f0.f1 l.f0.f2 l.f0.f3 l.f1 l.f2 l.f3 l.f4 hid = some (a, b, p, covD a b p d l) := by
 obtain ⟨hvl, e, hx1, hx2, hy1, hy2, _, _, ha1, ha2⟩ := (layerV_iff _ _ _ _ _ _ _ _ _).1 ho
 have hb1 := ((validI_iff _ _ _ _).1 hv).2.2
 have hb2 := ((validI_iff _ _ _ _).1 hvl).2.2
 unfold impl_coverImage.f covD
 rw [if_pos ⟨hv, hvl, e, ⟨hx1, hx2⟩, hy1, hy2⟩]
 obtain ⟨an, bn, pn, rfl, rfl, rfl, q1, q2, q3, q4, q5, q6, q7⟩ := nat_of hv
 obtain ⟨wn, hn, pm, e1, e2, _, q11, q12, q13, q14, _, _, _⟩ := nat_of hvl
 rw [e1, e2]
 simp only [Int.toNat_natCast]
 rw [imgD_congr (fun x y hx hy => coverPx_cov q2 q4 q6 q12 q14 ⟨ha1, ha2⟩ hb1 hb2 hx hy)]
theorem spec_cover {a b p : Int} {d : List Int} {l : Lay} (hid : Bool) (hv : validI a b p d = true) (ho : okL p l = true) : Ev (fun k => spec_blendPaste.f k a b p d l.f0.f0 l.f0.f1 l.f0.f2 l.f0.f3 l.f1 l.f2 l.f3 l.f4 hid) (covD a b p d l) := by
 obtain ⟨hvl, e, hx1, hx2, hy1, hy2, _, _, ha1, ha2⟩ := (layerV_iff _ _ _ _ _ _ _ _ _).1 ho
 have hb1 := ((validI_iff _ _ _ _).1 hv).2.2
 have hb2 := ((validI_iff _ _ _ _).1 hvl).2.2
 unfold covD
 obtain ⟨an, bn, pn, rfl, rfl, rfl, q1, q2, q3, q4, q5, q6, q7⟩ := nat_of hv
 obtain ⟨wn, hn, pm, e1, e2, hpm, q11, q12, q13, q14, _, _, q17⟩ := nat_of hvl
 obtain rfl : pn = pm := Int.ofNat.inj (e.symm.trans hpm)
 rw [e1, e2, hpm]
 simp only [Int.toNat_natCast]
 exact blendPaste_ev hid ⟨q1, q2⟩ ⟨q3, q4⟩ q6 q12 q14 ⟨hx1, hx2⟩ ⟨hy1, hy2⟩ ⟨ha1, ha2⟩ d l.f0.f3 q7 q17 hb1 hb2
theorem rdL_nat (l : List Lay) (i : Nat) (h : i < l.length) : rd_T55 l (i : Int) = l[i] := by simp [rd_T55, h]
theorem dropL (l : List Lay) (i : Nat) (h : i < l.length) : l.drop i = l[i] :: l.drop (i + 1) := List.drop_eq_getElem_cons h
theorem copyC_px (a b p : Int) (d : List Int) (hl : d.length ≤ 1000000) : spec_copyImage.f a b p d = some (a, b, p, d) := by
 unfold spec_copyImage.f
 rw [copyInts_px d hl]
 rfl
theorem impl_copyC_px (a b p : Int) (d : List Int) (hl : d.length ≤ 1000000) : impl_copyImage.f a b p d = some (a, b, p, d) := by
 unfold impl_copyImage.f
 simp only [Option.bind_some]
 rw [if_pos (by simp; omega)]
 simp
theorem specFlat_loop (ls : List Lay) (hl : ls.length ≤ 1000000000) (a b p : Int) : ∀ (n i : Nat) (d : List Int), i + n = ls.length → validI a b p d = true → ls.all (okL p) = true →
  Ev (fun k => spec_flatten.l0 k ls (i : Int) a b p d) (a, b, p, flatD a b p d (ls.drop i))
 | 0, i, d, hi, hv, ho => by
  rw [List.drop_of_length_le (by omega)]
  exact Ev.step (f := fun _ => some (a, b, p, d)) (fun k => by simp only [spec_flatten.l0]; rw [if_neg (by omega)]) (Ev.now _)
 | n + 1, i, d, hi, hv, ho => by
  have hlt : i < ls.length := by omega
  have hok : okL p ls[i] = true := List.all_eq_true.1 ho _ (List.getElem_mem hlt)
  rw [dropL ls i hlt, flatD]
  have ih := specFlat_loop ls hl a b p n (i + 1) (onD a b p d ls[i]) (by omega) (onD_valid hv hok) ho
  unfold onD at ih ⊢
  by_cases c : ls[i].f5 = true
  ·rw [if_pos c] at ih ⊢
   refine Ev.step (fun k => ?_) ih
   simp only [spec_flatten.l0]
   rw [if_pos (by omega), if_pos (by omega), rdL_nat ls i hlt, if_pos c, w64n i (by omega)]
  ·rw [if_neg c] at ih ⊢
   refine Ev.step (f := fun k => (spec_blendPaste.f k a b p d ls[i].f0.f0 ls[i].f0.f1 ls[i].f0.f2 ls[i].f0.f3 ls[i].f1 ls[i].f2 ls[i].f3 ls[i].f4 ls[i].f5).bind fun t => spec_flatten.l0 k ls ((i + 1 : Nat) : Int) a b p t) (fun k => ?_) (ev_bind (spec_cover _ hv hok) ih)
   simp only [spec_flatten.l0]
   rw [if_pos (by omega), if_pos (by omega), rdL_nat ls i hlt, if_neg c, w64n i (by omega)]
theorem validLayers_ev (ls : List Lay) (hl : ls.length ≤ 1000000000) (hd : ∀ l ∈ ls, l.f0.f3.length ≤ 1000000000) (p : Int) : ∀ (n i : Nat), i + n = ls.length →
  Ev (fun k => spec_validLayers.l0 k ls p (i : Int)) ((ls.drop i).all (okL p) && decide (ls.length ≤ 6))
 | 0, i, hi => by
  rw [List.drop_of_length_le (by omega)]
  refine ev_val (Ev.step (f := fun _ => some (decide ((ls.length : Int) ≤ 6))) (fun k => by simp only [spec_validLayers.l0]; rw [if_neg (by omega)]) (Ev.now _)) ?_
  rw [List.all_nil, Bool.true_and]
  exact decide_eq_decide.2 (by omega)
 | n + 1, i, hi => by
  have hlt : i < ls.length := by omega
  have hS := spec_validLayer_ev ls[i].f0.f0 ls[i].f0.f1 ls[i].f0.f2 ls[i].f0.f3 ls[i].f1 ls[i].f2 ls[i].f3 ls[i].f4 ls[i].f5 p (by have := hd _ (List.getElem_mem hlt); omega)
  have ih := validLayers_ev ls hl hd p n (i + 1) (by omega)
  rw [dropL ls i hlt, List.all_cons]
  refine Ev.step (f := fun k => (spec_validLayer.f k ls[i].f0.f0 ls[i].f0.f1 ls[i].f0.f2 ls[i].f0.f3 ls[i].f1 ls[i].f2 ls[i].f3 ls[i].f4 ls[i].f5 p).bind fun t => if t = true then spec_validLayers.l0 k ls p ((i + 1 : Nat) : Int) else some false) (fun k => ?_) (ev_bind hS ?_)
  ·simp only [spec_validLayers.l0]
   rw [if_pos (by omega), if_pos (by omega), rdL_nat ls i hlt, w64n i (by omega)]
  ·show Ev (fun k => if okL p ls[i] = true then spec_validLayers.l0 k ls p ((i + 1 : Nat) : Int) else some false) _
   by_cases c : okL p ls[i] = true
   ·rw [c, Bool.true_and]
    exact ev_pos rfl ih
   ·rw [Bool.eq_false_iff.2 c]
    exact ev_neg (by simp) (Ev.now _)
theorem spec_FlattenLayers_ev (a b p : Int) (d : List Int) (ls : List Lay) (h0 : d.length ≤ 2000000) (hl : ls.length ≤ 1000000000) (hd : ∀ l ∈ ls, l.f0.f3.length ≤ 1000000000) : Ev (fun k => spec_FlattenLayers.f k a b p d ls) (flatV a b p d ls) := by
 unfold spec_FlattenLayers.f flatV spec_validLayers.f spec_flatten.f
 refine ev_bind (spec_validImage_ev a b p d (by omega)) ?_
 by_cases c : validI a b p d = true
 ·refine ev_pos c (ev_bind (validLayers_ev ls hl hd p ls.length 0 (by omega)) ?_)
  rw [List.drop_zero]
  by_cases c2 : ls.length ≤ 6 ∧ ls.all (okL p) = true
  ·rw [if_pos ⟨c, c2⟩, c2.2, decide_eq_true c2.1]
   have h := specFlat_loop ls hl a b p ls.length 0 d (by omega) c c2.2
   rw [List.drop_zero] at h
   exact ev_pos rfl (ev_bind (ev_now (copyC_px a b p d (by have := valid_le c; omega)) h) (Ev.now _))
  ·rw [if_neg (fun h => c2 h.2)]
   refine ev_neg ?_ (Ev.now _)
   rw [Bool.and_eq_true, decide_eq_true_iff]
   exact fun h => c2 ⟨h.2, h.1⟩
 ·rw [if_neg (fun h => c h.1)]
  exact ev_neg c (Ev.now _)
theorem implFlat_loop (ls : List Lay) (hl : ls.length ≤ 1000000000) (a b p : Int) (d0 : List Int) : ∀ (n i : Nat) (d : List Int), i + n = ls.length → validI a b p d = true →
  Ev (fun k => impl_flatten.l0 k ls (ls.length : Int) (i : Int) a b p d0 a b p d) (if (ls.drop i).all (okL p) = true then (a, b, p, flatD a b p d (ls.drop i), true) else (0, 0, 0, [], false))
 | 0, i, d, hi, hv => by
  rw [List.drop_of_length_le (by omega)]
  exact Ev.step (f := fun _ => some (a, b, p, d, true)) (fun k => by simp only [impl_flatten.l0]; rw [if_neg (by omega)]) (Ev.now _)
 | n + 1, i, d, hi, hv => by
  have hlt : i < ls.length := by omega
  have hL := impl_isLayer_eq ls[i].f0.f0 ls[i].f0.f1 ls[i].f0.f2 ls[i].f0.f3 ls[i].f1 ls[i].f2 ls[i].f3 ls[i].f4 ls[i].f5 p
  rw [dropL ls i hlt, List.all_cons, flatD]
  refine Ev.step (f := fun k => (impl_isLayer.f ls[i].f0.f0 ls[i].f0.f1 ls[i].f0.f2 ls[i].f0.f3 ls[i].f1 ls[i].f2 ls[i].f3 ls[i].f4 ls[i].f5 p).bind fun t => if t = true then (if ls[i].f5 = true then impl_flatten.l0 k ls (ls.length : Int) ((i + 1 : Nat) : Int) a b p d0 a b p d else (impl_coverImage.f a b p d ls[i].f0.f0 ls[i].f0.f1 ls[i].f0.f2 ls[i].f0.f3 ls[i].f1 ls[i].f2 ls[i].f3 ls[i].f4 ls[i].f5).bind fun u => impl_flatten.l0 k ls (ls.length : Int) ((i + 1 : Nat) : Int) a b p d0 u.1 u.2.1 u.2.2.1 u.2.2.2) else some (0, 0, 0, [], false)) (fun k => ?_) (ev_now hL ?_)
  ·simp only [impl_flatten.l0]
   rw [if_pos (by omega), if_pos (by omega), if_pos (by omega), rdL_nat ls i hlt, w64n i (by omega)]
  ·show Ev (fun k => if okL p ls[i] = true then (if ls[i].f5 = true then impl_flatten.l0 k ls (ls.length : Int) ((i + 1 : Nat) : Int) a b p d0 a b p d else (impl_coverImage.f a b p d ls[i].f0.f0 ls[i].f0.f1 ls[i].f0.f2 ls[i].f0.f3 ls[i].f1 ls[i].f2 ls[i].f3 ls[i].f4 ls[i].f5).bind fun u => impl_flatten.l0 k ls (ls.length : Int) ((i + 1 : Nat) : Int) a b p d0 u.1 u.2.1 u.2.2.1 u.2.2.2) else some (0, 0, 0, [], false)) _
   by_cases hok : okL p ls[i] = true
   ·rw [hok, Bool.true_and]
    refine ev_pos rfl ?_
    have ih := implFlat_loop ls hl a b p d0 n (i + 1) (onD a b p d ls[i]) (by omega) (onD_valid hv hok)
    unfold onD at ih ⊢
    by_cases c : ls[i].f5 = true
    ·rw [if_pos c] at ih ⊢
     exact ev_pos c ih
    ·rw [if_neg c] at ih ⊢
     exact ev_neg c (ev_now (impl_cover _ hv hok) ih)
   ·rw [Bool.eq_false_iff.2 hok]
    exact ev_neg (by simp) (Ev.now _)
theorem impl_flatten_ev (a b p : Int) (d : List Int) (ls : List Lay) : Ev (fun k => impl_flatten.f k a b p d ls) (flatV a b p d ls) := by
 unfold impl_flatten.f flatV
 refine ev_now (impl_isImage_eq a b p d) ?_
 by_cases c : validI a b p d = true
 ·refine ev_pos c ?_
  by_cases c2 : ls.length ≤ 6
  ·have h := implFlat_loop ls (by omega) a b p d ls.length 0 d (by omega) c
   rw [List.drop_zero] at h
   refine Ev.step (f := fun k => (impl_copyImage.f a b p d).bind fun t => impl_flatten.l0 k ls (ls.length : Int) 0 a b p d t.1 t.2.1 t.2.2.1 t.2.2.2) (fun k => ?_) (ev_now (impl_copyC_px a b p d (by have := valid_le c; omega)) (ev_val h ?_))
   ·simp only [impl_flatten.j0]
    rw [if_neg (by simp; omega)]
   ·by_cases c3 : ls.all (okL p) = true
    ·rw [if_pos c3, if_pos ⟨c, c2, c3⟩]
    ·rw [if_neg c3, if_neg (fun h => c3 h.2.2)]
  ·rw [if_neg (fun h => c2 h.2.1)]
   refine Ev.step (f := fun _ => some (0, 0, 0, [], false)) (fun k => ?_) (Ev.now _)
   simp only [impl_flatten.j0]
   rw [if_pos (by simp; omega)]
 ·rw [if_neg (fun h => c h.1)]
  refine ev_neg c (Ev.step (f := fun _ => some (0, 0, 0, [], false)) (fun k => ?_) (Ev.now _))
  simp only [impl_flatten.j0]
  rw [if_pos trivial]
theorem impl_FlattenLayers_ev (a b p : Int) (d : List Int) (ls : List Lay) : Ev (fun k => impl_FlattenLayers.f k a b p d ls) (flatV a b p d ls) := by
 unfold impl_FlattenLayers.f
 exact ev_bind (impl_flatten_ev a b p d ls) (Ev.now _)
theorem flatV_len (a b p : Int) (d : List Int) (ls : List Lay) : (flatV a b p d ls).2.2.2.1.length ≤ 1024 := by
 unfold flatV
 split
 ·rename_i h
  exact valid_le (flatD_valid ls h.1 h.2.2)
 ·simp

/- Marks on numbers: what is written into a list, and read again. -/

def markedI (m : Nat) (n : Int) : List Int := (List.range m).map (fun j => n + ((j : Nat) : Int))
theorem markedI_length (m : Nat) (n : Int) : (markedI m n).length = m := by simp [markedI]
theorem markIntS_is (l : List Int) (n : Int) (hl : l.length ≤ 1000000000) (h0 : 0 ≤ n) (h1 : n ≤ 1000000000000) : Ev (fun k => laws_markIntS.f k l n) (n + (l.length : Int), markedI l.length n) := by
 have key := ev_up l.length (fun k i (s : List Int) => laws_markIntS.l0 k s (n + (i : Int)) (i : Int)) (fun i s => s.length = l.length ∧ s.take i = markedI i n) (fun _ _ => (n + (l.length : Int), markedI l.length n))
  (by
   intro i s hi hs
   refine .inr ⟨s.set i (n + (i : Int)), fun k => ?_, ⟨by simpa using hs.1, by rw [take_set s i _ (by omega), hs.2]; unfold markedI; rw [List.range_succ, List.map_append]; rfl⟩, rfl⟩
   simp only [laws_markIntS.l0]
   rw [if_pos (by omega), if_pos (by omega), w64n i (by omega), w64 (x := n + (i : Int) + 1) (by omega) (by omega), Int.toNat_natCast, show n + (i : Int) + 1 = n + ((i + 1 : Nat) : Int) by omega])
  (by
   intro s hs
   refine Ev.step (f := fun _ => some (n + (l.length : Int), s)) (fun k => ?_) (ev_const ?_)
   ·simp only [laws_markIntS.l0]
    rw [if_neg (by omega)]
   ·rw [← hs.2, ← hs.1, List.take_length])
  l.length 0 l (by omega) ⟨rfl, by simp [markedI]⟩
 unfold laws_markIntS.f
 simpa using key
theorem heldIntS_ev (m : Nat) (n : Int) (hl : m ≤ 1000000000) (h0 : 0 ≤ n) (h1 : n ≤ 1000000000000) : Ev (fun k => laws_heldIntS.f k (markedI m n) n) (n + (m : Int)) := by
 have key := ev_up m (fun k i (_ : Unit) => laws_heldIntS.l0 k (markedI m n) (n + (i : Int)) (i : Int)) (fun _ _ => True) (fun _ _ => n + (m : Int))
  (by
   intro i s hi _
   right
   refine ⟨(), fun k => ?_, trivial, rfl⟩
   simp only [laws_heldIntS.l0]
   have hr : rd (markedI m n) (i : Int) = n + (i : Int) := by
    rw [rd_nat _ i (by rw [markedI_length]; omega)]
    simp [markedI]
   rw [if_pos (by rw [markedI_length]; omega), if_pos (by omega), hr, w64n i (by omega), w64 (x := n + (i : Int) + 1) (by omega) (by omega)]
   have e : n + (i : Int) + 1 = n + ((i + 1 : Nat) : Int) := by omega
   rw [e]
   simp)
  (by
   intro s _
   refine Ev.step (f := fun _ => some (n + (m : Int))) (fun k => ?_) (ev_const rfl)
   simp only [laws_heldIntS.l0]
   rw [if_neg (by rw [markedI_length]; omega)])
  m 0 () (by omega) trivial
 unfold laws_heldIntS.f
 simpa using key

/- Images that are marked, and whether they hold their marks. -/

theorem markImage_is (w h p : Int) (d : List Int) (n : Int) (hl : d.length ≤ 1000000000) (h0 : 0 ≤ n) (h1 : n ≤ 1000000000000) : Ev (fun k => laws_markImage.f k w h p d n) (n + (d.length : Int), markedI d.length n) := by
 unfold laws_markImage.f
 exact ev_bind (markIntS_is d n hl h0 h1) (Ev.now _)
theorem heldImage_ev (w h p : Int) (m : Nat) (n : Int) (hl : m ≤ 1000000000) (h0 : 0 ≤ n) (h1 : n ≤ 1000000000000) : Ev (fun k => laws_heldImage.f k w h p (markedI m n) n) (n + (m : Int)) := by
 unfold laws_heldImage.f
 exact ev_bind (heldIntS_ev m n hl h0 h1) (ev_neg (by omega) (Ev.now _))

/- Rows of layers: sizes, copies, equality, marks. -/

abbrev RowI := S55
abbrev RowL := S51
def cRow (s : RowL) : RowI := ⟨⟨s.f0.f0, s.f0.f1, s.f0.f2, s.f0.f3⟩, s.f1, s.f2, s.f3, s.f4, s.f5⟩
def lenI (s : RowI) : Nat := s.f0.f3.length
def lenL (s : RowL) : Nat := s.f0.f3.length
def sumL (l : List RowL) : Nat := (l.map lenL).sum
theorem rdI_nat (l : List RowI) (i : Nat) (h : i < l.length) : rd_T55 l (i : Int) = l[i] := by simp [rd_T55, h]
theorem rdL_nat' (l : List RowL) (i : Nat) (h : i < l.length) : rd_T51 l (i : Int) = l[i] := by simp [rd_T51, h]
theorem sz_loop (l : List RowL) (hl : l.length ≤ 9223372036854775806) (hb : ∀ s ∈ l, lenL s ≤ 9223372036854775807) : ∀ (r i : Nat) (n : Int), i + r = l.length → 0 ≤ n → n ≤ 1048576 →
  ∃ m : Int, Ev (fun k => laws_szLayerS.l0 k l n (i : Int)) m ∧ (m < 0 ∨ (0 ≤ m ∧ m ≤ n - (sumL (l.drop i) : Int)))
 | 0, i, n, hi, h0, h1 => by
  refine ⟨n, Ev.step (f := fun _ => some n) (fun k => by simp only [laws_szLayerS.l0]; rw [if_neg (by omega)]) (Ev.now _), .inr ⟨h0, ?_⟩⟩
  rw [List.drop_of_length_le (by omega)]
  simp [sumL]
 | r + 1, i, n, hi, h0, h1 => by
  have hlt : i < l.length := by omega
  have hsum : (sumL (l.drop i) : Int) = (lenL l[i] : Int) + (sumL (l.drop (i + 1)) : Int) := by
   rw [List.drop_eq_getElem_cons hlt]
   simp only [sumL, List.map_cons, List.sum_cons]
   omega
  rcases szLayer_eq l[i].f0.f0 l[i].f0.f1 l[i].f0.f2 l[i].f0.f3 l[i].f1 l[i].f2 l[i].f3 l[i].f4 l[i].f5 n h0 h1 (hb _ (List.getElem_mem hlt)) with ⟨e1, e2, e3⟩ | e
  ·obtain ⟨m, r1, r2⟩ := sz_loop l hl hb r (i + 1) (n - (l[i].f0.f3.length : Int)) (by omega) (by omega) (by omega)
   refine ⟨m, Ev.step (f := fun k => (laws_szLayer.f l[i].f0.f0 l[i].f0.f1 l[i].f0.f2 l[i].f0.f3 l[i].f1 l[i].f2 l[i].f3 l[i].f4 l[i].f5 n).bind fun t => if t < 0 then some (-1) else laws_szLayerS.l0 k l t ((i + 1 : Nat) : Int)) (fun k => ?_) (ev_now e3 (ev_neg (by omega) r1)), ?_⟩
   ·simp only [laws_szLayerS.l0]
    rw [if_pos (by omega), if_pos (by omega), rdL_nat' l i hlt, w64n i (by omega)]
   ·have hlen : (lenL l[i] : Int) = (l[i].f0.f3.length : Int) := rfl
    omega
  ·refine ⟨-1, Ev.step (f := fun k => (laws_szLayer.f l[i].f0.f0 l[i].f0.f1 l[i].f0.f2 l[i].f0.f3 l[i].f1 l[i].f2 l[i].f3 l[i].f4 l[i].f5 n).bind fun t => if t < 0 then some (-1) else laws_szLayerS.l0 k l t ((i + 1 : Nat) : Int)) (fun k => ?_) (ev_now e (ev_pos (by omega) (Ev.now _))), .inl (by omega)⟩
   simp only [laws_szLayerS.l0]
   rw [if_pos (by omega), if_pos (by omega), rdL_nat' l i hlt, w64n i (by omega)]
theorem szRow_ev (l : List RowL) (hl : l.length ≤ 9223372036854775807) (hb : ∀ s ∈ l, lenL s ≤ 9223372036854775807) (n : Int) (h0 : 0 ≤ n) (h1 : n ≤ 1048576) :
  ∃ m : Int, Ev (fun k => laws_szLayerS.f k l n) m ∧ (m < 0 ∨ (0 ≤ m ∧ m ≤ n ∧ l.length ≤ 1048576 ∧ sumL l ≤ 1048576)) := by
 unfold laws_szLayerS.f
 rw [w64 (x := n - (l.length : Int)) (by omega) (by omega)]
 by_cases c : n - (l.length : Int) < 0
 ·exact ⟨-1, ev_pos c (Ev.now _), .inl (by omega)⟩
 ·obtain ⟨m, r1, r2⟩ := sz_loop l (by omega) hb l.length 0 (n - (l.length : Int)) (by omega) (by omega) (by omega)
  rw [List.drop_zero] at r2
  exact ⟨m, ev_neg c r1, by omega⟩
theorem len_sum : ∀ (l : List RowL) (s : RowL), s ∈ l → lenL s ≤ sumL l
 | x :: l, s, h => by
  rcases List.mem_cons.1 h with rfl | h
  ·simp [sumL]
  ·have := len_sum l s h
   simp only [sumL, List.map_cons, List.sum_cons] at this ⊢
   omega
theorem toRow_ev (l : List RowL) (hl : l.length ≤ 2000000) (hb : ∀ s ∈ l, lenL s ≤ 2000000) : Ev (fun k => laws_toLayerS.f k l) (l.map cRow) := by
 unfold laws_toLayerS.f
 refine ev_pos (by omega) (ev_pos (by omega) ?_)
 have key := ev_up2 l.length (fun k i (s : List RowI) => laws_toLayerS.l0 k l s (i : Int)) (fun i s => s.length = l.length ∧ s.take i = (l.take i).map cRow) (fun _ _ => l.map cRow)
  (by
   intro i s hi ⟨h1, h2⟩
   right
   have hc := toLayer_ev l[i].f0.f0 l[i].f0.f1 l[i].f0.f2 l[i].f0.f3 l[i].f1 l[i].f2 l[i].f3 l[i].f4 l[i].f5 (hb _ (List.getElem_mem hi))
   refine ⟨s.set i (cRow l[i]), fun res hres => ?_, ⟨by rw [List.length_set]; exact h1, by rw [take_set s i _ (by omega), h2, List.take_succ_eq_append_getElem hi, List.map_append]; rfl⟩, rfl⟩
   refine Ev.step (f := fun k => (laws_toLayer.f k l[i].f0.f0 l[i].f0.f1 l[i].f0.f2 l[i].f0.f3 l[i].f1 l[i].f2 l[i].f3 l[i].f4 l[i].f5).bind fun t => if (i : Int) < (s.length : Int) then laws_toLayerS.l0 k l (s.set i (⟨⟨t.1, t.2.1, t.2.2.1, t.2.2.2.1⟩, t.2.2.2.2.1, t.2.2.2.2.2.1, t.2.2.2.2.2.2.1, t.2.2.2.2.2.2.2.1, t.2.2.2.2.2.2.2.2⟩ : RowI)) ((i + 1 : Nat) : Int) else none) (fun k => ?_) (ev_bind hc (ev_pos (by omega) hres))
   simp only [laws_toLayerS.l0]
   rw [if_pos (by omega), if_pos (by omega), rdL_nat' l i hi, w64n i (by omega), Int.toNat_natCast])
  (by
   intro s ⟨h1, h2⟩
   refine Ev.step (f := fun _ => some s) (fun k => by simp only [laws_toLayerS.l0]; rw [if_neg (by omega)]) (ev_const ?_)
   rw [List.take_length, ← h1, List.take_length] at h2
   rw [h2])
  l.length 0 (List.replicate ((l.length : Int) : Int).toNat z55) (by omega) ⟨by simp, by simp⟩
 exact key
theorem eqRow_ev (l : List RowI) (hl : l.length ≤ 1000000000) (hb : ∀ s ∈ l, lenI s ≤ 1000000000000) : Ev (fun k => laws_eqLayerS.f k l l) true := by
 unfold laws_eqLayerS.f
 refine ev_pos rfl ?_
 have key := ev_up2 l.length (fun k i (_ : Unit) => laws_eqLayerS.l0 k l l (i : Int)) (fun _ _ => True) (fun _ _ => true)
  (by
   intro i _ hi _
   right
   have hc := eqLayer_ev l[i].f0.f0 l[i].f0.f1 l[i].f0.f2 l[i].f0.f3 l[i].f1 l[i].f2 l[i].f3 l[i].f4 l[i].f5 (hb _ (List.getElem_mem hi))
   refine ⟨(), fun res hres => ?_, trivial, rfl⟩
   refine Ev.step (f := fun k => (laws_eqLayer.f k l[i].f0.f0 l[i].f0.f1 l[i].f0.f2 l[i].f0.f3 l[i].f1 l[i].f2 l[i].f3 l[i].f4 l[i].f5 l[i].f0.f0 l[i].f0.f1 l[i].f0.f2 l[i].f0.f3 l[i].f1 l[i].f2 l[i].f3 l[i].f4 l[i].f5).bind fun t => if t = true then laws_eqLayerS.l0 k l l ((i + 1 : Nat) : Int) else some false) (fun k => ?_) (ev_bind hc (ev_pos rfl hres))
   simp only [laws_eqLayerS.l0]
   rw [if_pos (by omega), if_pos (by omega), if_pos (by omega), rdI_nat l i hi, w64n i (by omega)])
  (by
   intro _ _
   exact Ev.step (f := fun _ => some true) (fun k => by simp only [laws_eqLayerS.l0]; rw [if_neg (by omega)]) (Ev.now _))
  l.length 0 () (by omega) trivial
 exact key
def totI (l : List RowI) : Nat := (l.map fun s => lenI s + 8).sum
theorem mark_loop : ∀ (rest pre : List RowI) (n : Int), 0 ≤ n → n + (totI rest : Int) ≤ 1000000000 → pre.length + rest.length ≤ 1000000000 →
  ∃ (m : Int) (u : List RowI), 0 ≤ m ∧ Ev (fun k => laws_markLayerS.l0 k (pre ++ rest) n (pre.length : Int)) (m, u)
 | [], pre, n, h0, h1, hl => by
  refine ⟨n, pre ++ [], h0, Ev.step (f := fun _ => some (n, pre ++ [])) (fun k => ?_) (Ev.now _)⟩
  simp only [laws_markLayerS.l0]
  rw [if_neg (by simp)]
 | x :: rest, pre, n, h0, h1, hl => by
  have htot : (totI (x :: rest) : Int) = (x.f0.f3.length : Int) + 8 + (totI rest : Int) := by
   simp [totI, lenI]
  have hM := markIntS_is x.f0.f3 (n + 3) (by omega) (by omega) (by omega)
  simp only [List.length_cons] at hl
  obtain ⟨m, u, r1, r2⟩ := mark_loop rest (pre ++ [(fun t : Int × List Int => (⟨⟨n, wrap64 (n + 1), wrap64 (wrap64 (n + 1) + 1), t.2⟩, t.1, wrap64 (t.1 + 1), wrap64 (wrap64 (t.1 + 1) + 1), wrap64 (wrap64 (wrap64 (t.1 + 1) + 1) + 1), Int.tmod (wrap64 (wrap64 (wrap64 (wrap64 (t.1 + 1) + 1) + 1) + 1)) 3 == 0⟩ : RowI)) (n + 3 + (x.f0.f3.length : Int), markedI x.f0.f3.length (n + 3))]) (n + (x.f0.f3.length : Int) + 8) (by omega) (by omega) (by simp; omega)
  refine ⟨m, u, r1, ?_⟩
  have hrd : rd_T55 (pre ++ x :: rest) (pre.length : Int) = x := by simp [rd_T55]
  have hset : ∀ c : RowI, (pre ++ x :: rest).set pre.length c = (pre ++ [c]) ++ rest := by intro c; simp
  have harg : wrap64 (wrap64 (wrap64 (n + 1) + 1) + 1) = n + 3 := by rw [w64 (x := n + 1) (by omega) (by omega), w64 (x := n + 1 + 1) (by omega) (by omega), w64 (x := n + 1 + 1 + 1) (by omega) (by omega)]; omega
  rw [List.length_append, List.length_singleton] at r2
  refine Ev.step (f := fun k => (laws_markIntS.f k x.f0.f3 (n + 3)).bind fun t => laws_markLayerS.l0 k ((pre ++ [(⟨⟨n, wrap64 (n + 1), wrap64 (wrap64 (n + 1) + 1), t.2⟩, t.1, wrap64 (t.1 + 1), wrap64 (wrap64 (t.1 + 1) + 1), wrap64 (wrap64 (wrap64 (t.1 + 1) + 1) + 1), Int.tmod (wrap64 (wrap64 (wrap64 (wrap64 (t.1 + 1) + 1) + 1) + 1)) 3 == 0⟩ : RowI)]) ++ rest) (wrap64 (wrap64 (wrap64 (wrap64 (wrap64 (t.1 + 1) + 1) + 1) + 1) + 1)) ((pre.length + 1 : Nat) : Int)) (fun k => ?_) (ev_bind hM ?_)
  ·simp only [laws_markLayerS.l0]
   rw [if_pos (by simp; omega), if_pos (by omega), hrd, harg, w64n _ (by omega)]
   simp only [Int.toNat_natCast, hset]
  ·have hend : wrap64 (wrap64 (wrap64 (wrap64 (wrap64 ((n + 3 + (x.f0.f3.length : Int)) + 1) + 1) + 1) + 1) + 1) = n + (x.f0.f3.length : Int) + 8 := by rw [w64 (x := (n + 3 + (x.f0.f3.length : Int)) + 1) (by omega) (by omega), w64 (x := (n + 3 + (x.f0.f3.length : Int)) + 1 + 1) (by omega) (by omega), w64 (x := (n + 3 + (x.f0.f3.length : Int)) + 1 + 1 + 1) (by omega) (by omega), w64 (x := (n + 3 + (x.f0.f3.length : Int)) + 1 + 1 + 1 + 1) (by omega) (by omega), w64 (x := (n + 3 + (x.f0.f3.length : Int)) + 1 + 1 + 1 + 1 + 1) (by omega) (by omega)]; omega
   show Ev (fun k => laws_markLayerS.l0 k _ (wrap64 (wrap64 (wrap64 (wrap64 (wrap64 ((n + 3 + (x.f0.f3.length : Int)) + 1) + 1) + 1) + 1) + 1)) ((pre.length + 1 : Nat) : Int)) _
   rw [hend]
   exact r2
theorem markRow_ev (l : List RowI) (n : Int) (hl : l.length ≤ 1048576) (hs : totI l ≤ 10000000) (h0 : 0 ≤ n) (h1 : n ≤ 10000000) : ∃ (m : Int) (u : List RowI), 0 ≤ m ∧ Ev (fun k => laws_markLayerS.f k l n) (m, u) := by
 unfold laws_markLayerS.f
 obtain ⟨m, u, r1, r2⟩ := mark_loop l [] n h0 (by omega) (by simp; omega)
 exact ⟨m, u, r1, r2⟩
theorem tot_c : ∀ (l : List RowL), totI (l.map cRow) = sumL l + 8 * l.length
 | [] => by simp [totI, sumL]
 | x :: l => by
  have h := tot_c l
  simp only [totI, sumL, List.map_cons, List.sum_cons, List.length_cons] at h ⊢
  rw [h]
  show lenL x + 8 + _ = _
  omega

/- The program's FlattenLayers and the reference's return the same, and what is returned is held by nobody else: over lists of numbers alone. -/

theorem FnExactFlattenLayers : laws_FnExactFlattenLayers.Pure := by
 intro w h p d l
 intros
 rename_i hl hwf hll
 have hb : ∀ s ∈ l, lenL s ≤ 9223372036854775807 := fun s hs => (hwf s hs).1.2.2.2.2
 rcases szImage_eq w h p d 1048576 (by omega) (by omega) (by first | exact hl | omega) with ⟨hn, h0, hs⟩ | hs
 ·obtain ⟨m, ⟨K0, e0⟩, hm⟩ := szRow_ev l hll hb (1048576 - (d.length : Int)) (by omega) (by omega)
  by_cases cm : m < 0
  ·exact ⟨K0, laws_FnExactFlattenLayers.f_of (Or.inr (Or.inl ⟨_, _, hs, by omega, e0 _ (by omega), cm⟩))⟩
  ·obtain ⟨_, _, hl1, hsum⟩ := hm.resolve_left cm
   have hb2 : ∀ s ∈ l, lenL s ≤ 1048576 := fun s hs => Nat.le_trans (len_sum l s hs) hsum
   obtain ⟨K1, e1⟩ := toImage_ev w h p d (by omega)
   obtain ⟨K2, e2⟩ := toRow_ev l (by omega) (fun s hs => by have := hb2 s hs; omega)
   have hcl : (l.map cRow).length ≤ 1048576 := by rw [List.length_map]; exact hl1
   have hcb : ∀ s ∈ l.map cRow, lenI s ≤ 1048576 := fun s hs => by
    obtain ⟨x, hx, rfl⟩ := List.mem_map.1 hs
    exact hb2 x hx
   have htot : totI (l.map cRow) ≤ 9500000 := by rw [tot_c]; omega
   generalize l.map cRow = c at e2 hcl hcb htot
   obtain ⟨K4, e4⟩ := spec_FlattenLayers_ev w h p d c (by omega) (by omega) (fun s hs => by have h_ := hcb s hs; unfold lenI at h_; omega)
   obtain ⟨K5, e5⟩ := impl_FlattenLayers_ev w h p d c
   have hVl := flatV_len w h p d c
   generalize flatV w h p d c = V at e4 e5 hVl
   obtain ⟨v0, v1, v2, v3, vok⟩ := V
   have hVl : v3.length ≤ 1024 := hVl
   obtain ⟨K6, e6⟩ := eqImage_ev v0 v1 v2 v3 (by omega)
   obtain ⟨K7, e7⟩ := eqImage_ev w h p d (by omega)
   obtain ⟨K8, e8⟩ := eqRow_ev c (by omega) (fun s hs => by have := hcb s hs; omega)
   obtain ⟨K10, e10⟩ := markImage_is w h p d 1 (by omega) (by omega) (by omega)
   obtain ⟨k1, y1, hk1, ⟨K11, e11⟩⟩ := markRow_ev c (1 + (d.length : Int)) hcl (by omega) (by omega) (by omega)
   obtain ⟨K13, e13⟩ := markImage_is v0 v1 v2 v3 1 (by omega) (by omega) (by omega)
   obtain ⟨K14, e14⟩ := heldImage_ev v0 v1 v2 v3.length 1 (by omega) (by omega) (by omega)
   refine ⟨K0 + K1 + K2 + K4 + K5 + K6 + K7 + K8 + K10 + K11 + K13 + K14 + 1, laws_FnExactFlattenLayers.f_of (Or.inr (Or.inr ?_))⟩
   exact ⟨_, _, w, h, p, d, c, v0, v1, v2, v3, vok, _, _, _, _, _, _, hs, by omega, e0 _ (by omega), cm, e1 _ (by omega), e2 _ (by omega), e4 _ (by omega), e5 _ (by omega), e6 _ (by omega), e7 _ (by omega), e8 _ (by omega), e10 _ (by omega), e11 _ (by omega), by omega, e13 _ (by omega), e14 _ (by omega), by omega⟩
 ·exact ⟨0, laws_FnExactFlattenLayers.f_of (Or.inl ⟨_, hs, by omega⟩)⟩
end Go.Proofs.Ytnofkbbcbpjhfaa.Pure

/- The head of the translation reads as a plain cut. -/
namespace Go.Proofs.Ytnofkbbcbpjhfaa.Head
set_option maxRecDepth 100000
theorem wordsSigns_word (w r : List Char) (h : w.all (fun c => !(c == Char.ofNat 32)) = true) : wordsSigns (w ++ Char.ofNat 32 :: r) = w :: wordsSigns r := by
  induction w with
  | nil => rfl
  | cons c w ih =>
    simp only [List.all_cons, Bool.and_eq_true, Bool.not_eq_true', beq_eq_false_iff_ne, ne_eq] at h
    have h1 := ih (by simpa using h.2)
    rw [List.cons_append, wordsSigns.eq_3 c _ h.1, h1]
def w1 : List Char := [104, 97, 114, 110, 101, 115, 115].map Char.ofNat
def w2 : List Char := [98, 98, 56, 56, 48, 50, 51, 48, 99, 56, 98, 97, 54, 51, 51, 51, 48, 101, 54, 53, 56, 97, 98, 51, 97, 51, 99, 100, 54, 102, 98, 98, 55, 101, 51, 50, 99, 48, 56, 52, 55, 54, 49, 49, 100, 50, 51, 56, 55, 100, 54, 48, 49, 99, 100, 97, 51, 102, 50, 98, 48, 57, 53, 101].map Char.ofNat
def w3 : List Char := [99, 117, 116].map Char.ofNat
def w4 : List Char := [97, 116, 32, 108, 111, 111, 112, 46, 101, 120, 97, 109, 112, 108, 101, 47, 112, 105, 120, 101, 108, 119, 111, 114, 107, 115, 47, 108, 97, 119, 115, 46, 70, 110, 69, 120, 97, 99, 116, 71, 97, 112, 79, 102, 32, 108, 111, 111, 112, 46, 101, 120, 97, 109, 112, 108, 101, 47, 112, 105, 120, 101, 108, 119, 111, 114, 107, 115, 47, 108, 97, 119, 115, 46, 70, 110, 71, 97, 112, 79, 102, 32, 108, 111, 111, 112, 46, 101, 120, 97, 109, 112, 108, 101, 47, 112, 105, 120, 101, 108, 119, 111, 114, 107, 115, 47, 108, 97, 119, 115, 46, 70, 110, 69, 120, 97, 99, 116, 84, 105, 108, 101, 66, 111, 120, 101, 115, 32, 108, 111, 111, 112, 46, 101, 120, 97, 109, 112, 108, 101, 47, 112, 105, 120, 101, 108, 119, 111, 114, 107, 115, 47, 108, 97, 119, 115, 46, 70, 110, 84, 105, 108, 101, 66, 111, 120, 101, 115, 32, 108, 111, 111, 112, 46, 101, 120, 97, 109, 112, 108, 101, 47, 112, 105, 120, 101, 108, 119, 111, 114, 107, 115, 47, 108, 97, 119, 115, 46, 70, 110, 69, 120, 97, 99, 116, 68, 105, 114, 116, 121, 84, 105, 108, 101, 115, 32, 108, 111, 111, 112, 46, 101, 120, 97, 109, 112, 108, 101, 47, 112, 105, 120, 101, 108, 119, 111, 114, 107, 115, 47, 108, 97, 119, 115, 46, 70, 110, 68, 105, 114, 116, 121, 84, 105, 108, 101, 115, 32, 108, 111, 111, 112, 46, 101, 120, 97, 109, 112, 108, 101, 47, 112, 105, 120, 101, 108, 119, 111, 114, 107, 115, 47, 108, 97, 119, 115, 46, 70, 110, 69, 120, 97, 99, 116, 77, 101, 114, 103, 101, 80, 108, 97, 110, 101, 115, 32, 108, 111, 111, 112, 46, 101, 120, 97, 109, 112, 108, 101, 47, 112, 105, 120, 101, 108, 119, 111, 114, 107, 115, 47, 108, 97, 119, 115, 46, 70, 110, 69, 120, 97, 99, 116, 67, 111, 118, 101, 114, 73, 109, 97, 103, 101, 32, 108, 111, 111, 112, 46, 101, 120, 97, 109, 112, 108, 101, 47, 112, 105, 120, 101, 108, 119, 111, 114, 107, 115, 47, 108, 97, 119, 115, 46, 70, 110, 67, 111, 118, 101, 114, 73, 109, 97, 103, 101, 32, 108, 111, 111, 112, 46, 101, 120, 97, 109, 112, 108, 101, 47, 112, 105, 120, 101, 108, 119, 111, 114, 107, 115, 47, 108, 97, 119, 115, 46, 70, 110, 69, 120, 97, 99, 116, 70, 108, 97, 116, 116, 101, 110, 76, 97, 121, 101, 114, 115, 32, 108, 111, 111, 112, 46, 101, 120, 97, 109, 112, 108, 101, 47, 112, 105, 120, 101, 108, 119, 111, 114, 107, 115, 47, 108, 97, 119, 115, 46, 70, 110, 70, 108, 97, 116, 116, 101, 110, 76, 97, 121, 101, 114, 115, 32, 108, 111, 111, 112, 46, 101, 120, 97, 109, 112, 108, 101, 47, 112, 105, 120, 101, 108, 119, 111, 114, 107, 115, 47, 108, 97, 119, 115, 46, 70, 110, 70, 108, 97, 116, 116, 101, 110, 76, 97, 121, 101, 114, 115, 72, 105, 100, 100, 101, 110, 32, 108, 111, 111, 112, 46, 101, 120, 97, 109, 112, 108, 101, 47, 112, 105, 120, 101, 108, 119, 111, 114, 107, 115, 47, 108, 97, 119, 115, 46, 70, 110, 69, 120, 97, 99, 116, 80, 97, 116, 99, 104, 73, 109, 97, 103, 101, 32, 108, 111, 111, 112, 46, 101, 120, 97, 109, 112, 108, 101, 47, 112, 105, 120, 101, 108, 119, 111, 114, 107, 115, 47, 108, 97, 119, 115, 46, 70, 110, 80, 97, 116, 99, 104, 73, 109, 97, 103, 101, 84, 119, 105, 99, 101, 32, 108, 111, 111, 112, 46, 101, 120, 97, 109, 112, 108, 101, 47, 112, 105, 120, 101, 108, 119, 111, 114, 107, 115, 47, 108, 97, 119, 115, 46, 70, 110, 69, 120, 97, 99, 116, 82, 101, 100, 114, 97, 119, 84, 105, 108, 101, 115, 32, 108, 111, 111, 112, 46, 101, 120, 97, 109, 112, 108, 101, 47, 112, 105, 120, 101, 108, 119, 111, 114, 107, 115, 47, 108, 97, 119, 115, 46, 70, 110, 82, 101, 100, 114, 97, 119, 68, 105, 114, 116, 121, 32, 108, 111, 111, 112, 46, 101, 120, 97, 109, 112, 108, 101, 47, 112, 105, 120, 101, 108, 119, 111, 114, 107, 115, 47, 108, 97, 119, 115, 46, 70, 110, 82, 101, 100, 114, 97, 119, 84, 105, 108, 101, 115].map Char.ofNat
theorem signs0 : Try.prog.initOrder = String.ofList (w1 ++ Char.ofNat 32 :: (w2 ++ Char.ofNat 32 :: (w3 ++ Char.ofNat 32 :: w4))) := by kernel_rfl
theorem behind : behindMainWord (wordsSigns Try.prog.initOrder.toList) = w3 :: wordsSigns w4 := by
  rw [signs0, String.toList_ofList, wordsSigns_word w1 _ (by kernel_rfl), wordsSigns_word w2 _ (by kernel_rfl), wordsSigns_word w3 _ (by kernel_rfl)]
  unfold behindMainWord
  dsimp only
  rw [if_pos (by kernel_rfl)]
theorem strip_cut (R : List (List Char)) : stripLifts liftWords (w3 :: R) = ([], w3 :: R) := by kernel_rfl
theorem mayEnter_of (P : Program) (R : List (List Char)) (h : behindMainWord (wordsSigns P.initOrder.toList) = w3 :: R) (h1 : P.laysLater = false) (h2 : P.bearsReflect = false) (h3 : P.doorFits [] = true) : P.mayEnter = true := by
  unfold Program.mayEnter
  rw [h]
  dsimp only
  rw [strip_cut, h1, h2, h3]
  kernel_rfl
theorem liftsFinal_of (P : Program) (R : List (List Char)) (h : behindMainWord (wordsSigns P.initOrder.toList) = w3 :: R) : P.liftsFinal = false := by
  unfold Program.liftsFinal Program.headLifts
  rw [h]
  dsimp only
  rw [strip_cut]
  kernel_rfl
theorem make_of (P : Program) (R : List (List Char)) (h : behindMainWord (wordsSigns P.initOrder.toList) = w3 :: R) : P.make = some .cut := by
  unfold Program.make
  rw [h]
  kernel_rfl
theorem mayEnter : Try.prog.mayEnter = true := mayEnter_of _ _ behind (by kernel_rfl) (by kernel_rfl) (by kernel_rfl)
theorem liftsFinal : Try.prog.liftsFinal = false := liftsFinal_of _ _ behind
theorem make : Try.prog.make = some .cut := make_of _ _ behind
end Go.Proofs.Ytnofkbbcbpjhfaa.Head

-- the row of the law FnExactFlattenLayers
namespace Go.Proofs.Ytnofkbbcbpjhfaa.fnExactFlattenLayers
open Go.ChangeShapes Go.WideShapes Go.ChangeAt Go.RowKit Go.Proofs.Ytnofkbbcbpjhfaa.Q Go.Proofs.YtnofkbbcbpjhfaaW.PrintWords
open Go.ChangeMaps (open_string shut_string)
set_option linter.unusedVariables false
theorem own : ownKnob Try.prog.godebug = none := by kernel_rfl
theorem laidOut : laidOutB Try.prog = true := by kernel_rfl
set_option maxHeartbeats 4000000 in
set_option maxRecDepth 100000 in
theorem lifted (os : Os) (started : os.Started) (H : Type) (enc : TypeId × Value → H) :
    ReturnsInHanded {} Try.checked os 12 .any (Rows.fnExactFlattenLayersSpec.pre6 enc Try.prog Try.f12 Rows.fnExactFlattenLayersRow.domain false) (Rows.fnExactFlattenLayersSpec.post enc Try.prog Try.f12 false true false false) := by
  refine returnsInHanded_of_change_sized (C := Try.checked) own started (by kernel_rfl) Try.func12
    (ChangeSpec.witness6 (enc := enc) (C := Try.checked) false ⟨#[], #[.agg #[.int .i64 0, .int .i64 0, .int .i64 0, .slice none 0 0], .slice none 0 0], []⟩ 8 (by kernel_rfl) (by kernel_rfl) (by kernel_rfl) (by kernel_rfl)) ?_
  intro W base args ds gs before hval0 hW hcnd hsz0 _
  have hval : ∀ (j : Nat) t v, Try.f12.params[j]? = some t → args[j]? = some v → Value.okWide Try.prog W .any base t v := hval0
  have hW' := hW
  obtain ⟨p, q, hA0, hV, rfl, hfz, hnd⟩ := hW
  have hA : DataW.TrodAll enc Try.prog W 0 (fun _ => true) true Try.f12.params.toList args.toList ds p := hA0
  rw [Try.params12] at hA hval
  obtain ⟨v0, vs0, d0, ds0, p0, q0, hargs, rfl, rfl, h0, r0⟩ := trodAll_cons hA
  obtain ⟨v1, vs1, d1, ds1, p1, q1, rfl, rfl, rfl, h1, r1⟩ := trodAll_cons r0
  obtain ⟨rfl, rfl, rfl⟩ := trodAll_nil r1
  obtain rfl : args = #[v0, v1] := by cases args; simp_all
  obtain ⟨rfl, rfl⟩ := trodVars_none hV
  have k0 := h0
  have lt0 : ∀ x ∈ p0, x.block < W.heap.size := by obtain ⟨m, hm⟩ := k0; exact DataW.trod_lt m _ _ _ hm
  obtain ⟨fuel0, hf0⟩ := h0
  obtain ⟨cs0, rfl, hsz0⟩ := okWide_struct Try.underlying24 (hval 0 24 v0 rfl rfl)
  obtain ⟨y0, hK0, hq0⟩ := o24 _ _ _ _ _ _ hf0
  obtain ⟨A0_3, c0_3, hcs0, hc0_3, hr0_3⟩ := k24_open hK0
  obtain rfl : cs0 = #[.int .i64 y0.f0, .int .i64 y0.f1, .int .i64 y0.f2, .slice A0_3 y0.f3.length c0_3] := by cases cs0; simpa [Value.cells] using hcs0
  have k1 := h1
  have lt1 : ∀ x ∈ p1, x.block < W.heap.size := by obtain ⟨m, hm⟩ := k1; exact DataW.trod_lt m _ _ _ hm
  obtain ⟨fuel1, hf1⟩ := h1
  obtain ⟨aa1, len1, cap1, rfl⟩ := okWide_slice Try.underlying78 (hval 1 78 v1 rfl rfl)
  obtain ⟨l1, ⟨A1, c1, hcs1, hc1, hr1⟩, hq1⟩ := (opens_slice Try.underlying78 (by kernel_rfl) og51) _ _ _ _ _ _ hf1
  have hcs1' : [Value.slice aa1 len1 cap1] = [.slice A1 l1.length c1] := hcs1
  injection hcs1' with hcs1' _
  injection hcs1' with e11 e21 e31
  subst e11 e21 e31
  clear hA0 hval0 hsz0
  obtain ⟨k, hh⟩ := Pure.FnExactFlattenLayers y0.f0 y0.f1 y0.f2 y0.f3 l1 hq0.1 hq0.2.1 hq0.2.2.1 hq0.2.2.2 hr0_3.2.1 hq1 hr1.2.1
  refine (Q.laws_FnExactFlattenLayers.calls k y0.f0 y0.f1 y0.f2 _ _ y0.f3 _ _ l1 true W hr0_3 hc0_3 hr1 hc1 hh).mono fun e W' hpost => ?_
  obtain ⟨he, bel0⟩ := hpost
  have bel : Below W.heap.size W W' := bel0
  subst he
  exact ⟨_, rfl, _, _, _, [], _, [], hW', trodAll_mk1 (shut_bool Try.underlying4 _), (trodAll_cons_mk (Below.trod laidOut (by kernel_rfl) (of_decide_eq_true (by kernel_rfl)) k0 bel lt0) (trodAll_cons_mk (Below.trod laidOut (by kernel_rfl) (of_decide_eq_true (by kernel_rfl)) k1 bel lt1) trodAll_mk0)), rfl, bel.frame _, fun h => by cases h⟩
set_option maxHeartbeats 4000000 in
theorem closed : joinedFacts Try.prog 12 Try.f12 Rows.fnExactFlattenLayersSpec Rows.fnExactFlattenLayersRow = true := by
  unfold joinedFacts
  rw [Head.mayEnter, Head.liftsFinal, Head.make]
  simp only [Bool.and_eq_true]
  repeat' apply And.intro
  all_goals first | exact True.intro | (as_aux_lemma => kernel_rfl)
set_option maxHeartbeats 4000000 in
theorem over : Rows.fnExactFlattenLayersRow.holds Try.pinned (OpenSpec.ofChange Rows.fnExactFlattenLayersSpec) :=
  OpenClaim.holds_of_wide 12 Try.f12 rfl rfl rfl rfl rfl rfl rfl ⟨rfl, rfl, rfl, rfl, rfl⟩ rfl rfl rfl rfl rfl (by kernel_rfl) Try.func12 closed
    (of_decide_eq_true (by kernel_rfl)) (by unfold Func.isWrapper; first | (rw [if_pos (by decide +kernel)]; kernel_rfl) | (rw [if_neg (by decide +kernel)]; exact ⟨rfl, rfl⟩))
    (fun os started H enc _ => lifted os started H enc)
theorem proved : Rows.FnExactFlattenLayersSaid := over
#print axioms proved
end Go.Proofs.Ytnofkbbcbpjhfaa.fnExactFlattenLayers
namespace Go.Proofs.Ytnofkbbcbpjhfaa
/-- The row, under a short name, for the claim. -/
theorem fnExactFlattenLayers_holds : Rows.FnExactFlattenLayersSaid := fnExactFlattenLayers.proved
end Go.Proofs.Ytnofkbbcbpjhfaa
