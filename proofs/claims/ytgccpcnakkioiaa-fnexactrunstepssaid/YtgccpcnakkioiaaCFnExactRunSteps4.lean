/- A part of the proof that the statement FnExactRunStepsSaid holds, under no condition of its own: The program's RunSteps and the reference's return the same, and what is returned is held by nobody else: over lists of numbers alone. -/
import Derived.Test.YtgccpcnakkioiaaCFnExactRunSteps1
import Derived.Test.YtgccpcnakkioiaaCFnExactRunSteps2
import Derived.Test.YtgccpcnakkioiaaCFnExactRunSteps3
import Derived.Deep.Slices
import Derived.Deep.Fields
import Derived.ChangeSame
import Derived.ProofKit
import Derived.OpenShut
import Derived.ShutString
import Derived.ChangeOld
import Derived.SizedLaws
import GoSem.Claim
namespace Go.Proofs.Ytgccpcnakkioiaa.Q
open Go.RowKit Go.Proofs.YtgccpcnakkioiaaW.PrintWords Go.Proofs.YtgccpcnakkioiaaW.PrintLast Go.Proofs.YtgccpcnakkioiaaW.PrintMore
open Go.Proofs.YtgccpcnakkioiaaW.PrintWords.Aside0 (mk)
attribute [local go_sem] max2_int min2_int max_two min_two max_three min_three max_four min_four
set_option linter.unusedVariables false
set_option linter.unusedSimpArgs false
def laws_toStep.f (k : Nat) (a0_0 : Int) (a0_1 : Int) (a0_2 : Int) (a0_3 : Int) (a0_4 : Int) (l0_5 : List Int) : Option (Int × Int × Int × Int × Int × List Int) := (laws_toBox.f a0_1 a0_2 a0_3 a0_4).bind fun bt34004 => ((laws_toIntS.f k l0_5).bind fun t34008 => (some (a0_0, bt34004.1, bt34004.2.1, bt34004.2.2.1, bt34004.2.2.2, t34008)))
theorem laws_toStep.mono : ∀ a0 a1 a2 a3 a4 a5 k, LeO (laws_toStep.f k a0 a1 a2 a3 a4 a5) (laws_toStep.f (k + 1) a0 a1 a2 a3 a4 a5) := by
 intro a0 a1 a2 a3 a4 a5 k
 unfold laws_toStep.f
 repeat' first | (with_reducible exact laws_toIntS.mono _ _) | (with_reducible exact LeO.refl _) | (with_reducible refine LeO.bind ?_ (fun _ => ?_))
set_option maxHeartbeats 8000000 in
set_option maxRecDepth 100000 in
theorem laws_toStep.calls (k : Nat) (a0_0 : Int) (a0_1 : Int) (a0_2 : Int) (a0_3 : Int) (a0_4 : Int) (A0_5 : Option Addr) (c0_5 : Nat) (l0_5 : List Int) (r1 : Int) (r2 : Int) (r3 : Int) (r4 : Int) (r5 : Int) (r6 : List Int) (w : World) (hr0_5 : Kd.C (Kd.int .i64) w A0_5 l0_5.length l0_5) (hc0_5 : l0_5.length ≤ c0_5) (h : laws_toStep.f k a0_0 a0_1 a0_2 a0_3 a0_4 l0_5 = some (r1, r2, r3, r4, r5, r6)) :
  Calls Try.prog 33 #[.agg #[.int .i64 a0_0, .int .i64 a0_1, .int .i64 a0_2, .int .i64 a0_3, .int .i64 a0_4, .slice A0_5 l0_5.length c0_5]] w fun e w' => ∃ v5_ : Value, e = .returned (.agg #[.int .i64 r1, .int .i64 r2, .int .i64 r3, .int .i64 r4, .int .i64 r5, v5_]) ∧ Kd.R (Kd.int .i64) 3 w' w.heap.size (fun _ => True) v5_ r6 ∧ Below w.heap.size w w' := by
 have hu57 := Try.underlying57
 have hu43 := Try.underlying43
 have hu55 := Try.underlying55
 have hu41 := Try.underlying41
 have HR0_5 := mk hr0_5
 have HC0_5 := mk hc0_5
 clear hr0_5 hc0_5
 have HB := mk (Below.refl w.heap.size w)
 have H : ((laws_toBox.f a0_1 a0_2 a0_3 a0_4).bind fun bt34004 => ((laws_toIntS.f k l0_5).bind fun t34008 => (some (a0_0, bt34004.1, bt34004.2.1, bt34004.2.2.1, bt34004.2.2.2, t34008)))) = some (r1, r2, r3, r4, r5, r6) := h
 clear h
 replace H := Option.bind_eq_some_iff.mp H
 obtain ⟨⟨t34004, t34005, t34006, t34007⟩, A20, H⟩ := H
 replace H : ((laws_toIntS.f k l0_5).bind fun t34008 => (some (a0_0, t34004, t34005, t34006, t34007, t34008))) = some (r1, r2, r3, r4, r5, r6) := H
 have A2 := mk A20
 clear A20
 replace H := Option.bind_eq_some_iff.mp H
 obtain ⟨t34008, A30, H⟩ := H
 replace H : (some (a0_0, t34004, t34005, t34006, t34007, t34008)) = some (r1, r2, r3, r4, r5, r6) := H
 have A3 := mk A30
 clear A30
 simp only [Option.some.injEq, Prod.mk.injEq] at H
 obtain ⟨rfl, rfl, rfl, rfl, rfl, rfl⟩ := H
 go_enter Try.func33, Try.ntmps33
 go_wp2_with (first | ((with_reducible refine gate_dst (N := 1) rfl ?_); refine box_event ?hg (N := 1) ?hd (cs := #[.int .i64 a0_0, .int .i64 a0_1, .int .i64 a0_2, .int .i64 a0_3, .int .i64 a0_4, .slice A0_5 l0_5.length c0_5]) (t := 57) ?hr ?_; (case hd => rfl); (case hg => rfl); (case hr => (go_simp; done)); intro gb34001 hg w4 hbox hb; have n0_ := mk (below_step HB.out hb); have n1_ := mk (hbox); have n2_ := mk ((by rw [hg]; exact (below_size HB.out) : w.heap.size ≤ gb34001)); have n3_ := mk ((by rw [hg]; exact (below_size HB.out) : w.heap.size ≤ gb34001)); clear HB; have HB := n0_; have BK34001 := n1_; have GW34001 := n2_; have GE34001 := n3_; clear n0_ n1_ n2_ n3_; clear hb hbox hg) | ((with_reducible refine gate_dst (N := 2) rfl ?_); refine box_event ?hg (N := 2) ?hd (cs := #[.int .i64 0, .int .i64 0, .int .i64 0, .int .i64 0, .int .i64 0, .slice none 0 0]) (t := 43) ?hr ?_; (case hd => rfl); (case hg => rfl); (case hr => (go_simp; done)); intro gb34002 hg w5 hbox hb; have n0_ := mk (blk_below BK34001.out hb); have n1_ := mk (below_step HB.out hb); have n2_ := mk (hbox); have n3_ := mk ((by rw [hg]; exact (below_size HB.out) : w.heap.size ≤ gb34002)); have n4_ := mk ((by rw [hg]; exact (below_size HB.out) : w.heap.size ≤ gb34002)); have n5_ := mk ((by rw [hg]; exact Nat.ne_of_lt (blk_lt BK34001.out) : gb34001 ≠ gb34002)); have n6_ := mk ((by rw [hg]; exact Nat.ne_of_gt (blk_lt BK34001.out) : gb34002 ≠ gb34001)); clear BK34001; clear HB; have BK34001 := n0_; have HB := n1_; have BK34002 := n2_; have GW34002 := n3_; have GE34002 := n4_; have NB34001_34002 := n5_; have NB34002_34001 := n6_; clear n0_ n1_ n2_ n3_ n4_ n5_ n6_; clear hb hbox hg) | ((with_reducible refine gate_dst (N := 3) rfl ?_); refine box_event ?hg (N := 3) ?hd (cs := #[.int .i64 0, .int .i64 0, .int .i64 0, .int .i64 0, .int .i64 0, .slice none 0 0]) (t := 43) ?hr ?_; (case hd => rfl); (case hg => rfl); (case hr => (go_simp; done)); intro gb34003 hg w6 hbox hb; have n0_ := mk (blk_below BK34001.out hb); have n1_ := mk (blk_below BK34002.out hb); have n2_ := mk (below_step HB.out hb); have n3_ := mk (hbox); have n4_ := mk ((by rw [hg]; exact (below_size HB.out) : w.heap.size ≤ gb34003)); have n5_ := mk ((by rw [hg]; exact (below_size HB.out) : w.heap.size ≤ gb34003)); have n6_ := mk ((by rw [hg]; exact Nat.ne_of_lt (blk_lt BK34001.out) : gb34001 ≠ gb34003)); have n7_ := mk ((by rw [hg]; exact Nat.ne_of_gt (blk_lt BK34001.out) : gb34003 ≠ gb34001)); have n8_ := mk ((by rw [hg]; exact Nat.ne_of_lt (blk_lt BK34002.out) : gb34002 ≠ gb34003)); have n9_ := mk ((by rw [hg]; exact Nat.ne_of_gt (blk_lt BK34002.out) : gb34003 ≠ gb34002)); clear BK34001; clear BK34002; clear HB; have BK34001 := n0_; have BK34002 := n1_; have HB := n2_; have BK34003 := n3_; have GW34003 := n4_; have GE34003 := n5_; have NB34001_34003 := n6_; have NB34003_34001 := n7_; have NB34002_34003 := n8_; have NB34003_34002 := n9_; clear n0_ n1_ n2_ n3_ n4_ n5_ n6_ n7_ n8_ n9_; clear hb hbox hg; have hnb7 := NB34001_34002.out; have hnc7 := NB34002_34001.out; have hnb8 := NB34001_34003.out; have hnc8 := NB34003_34001.out; have hcz9_0 : w6.cell? ⟨gb34001, 0, none⟩ = some (.int .i64 a0_0) := (blk_cell BK34001.out 0).trans rfl; have hcz9_1 : w6.cell? ⟨gb34001, 1, none⟩ = some (.int .i64 a0_1) := (blk_cell BK34001.out 1).trans rfl; have hcz9_2 : w6.cell? ⟨gb34001, 2, none⟩ = some (.int .i64 a0_2) := (blk_cell BK34001.out 2).trans rfl; have hcz9_3 : w6.cell? ⟨gb34001, 3, none⟩ = some (.int .i64 a0_3) := (blk_cell BK34001.out 3).trans rfl; have hcz9_4 : w6.cell? ⟨gb34001, 4, none⟩ = some (.int .i64 a0_4) := (blk_cell BK34001.out 4).trans rfl; have hcz9_5 : w6.cell? ⟨gb34001, 5, none⟩ = some (.slice A0_5 l0_5.length c0_5) := (blk_cell BK34001.out 5).trans rfl; have hfz9_0 := blk_frozen BK34001.out 0; have hfz9_1 := blk_frozen BK34001.out 1; have hfz9_2 := blk_frozen BK34001.out 2; have hfz9_3 := blk_frozen BK34001.out 3; have hfz9_4 := blk_frozen BK34001.out 4; have hfz9_5 := blk_frozen BK34001.out 5; have hnb10 := NB34003_34002.out; have hnc10 := NB34002_34003.out; have hcz11_0 : w6.cell? ⟨gb34003, 0, none⟩ = some (.int .i64 0) := (blk_cell BK34003.out 0).trans rfl; have hcz11_1 : w6.cell? ⟨gb34003, 1, none⟩ = some (.int .i64 0) := (blk_cell BK34003.out 1).trans rfl; have hcz11_2 : w6.cell? ⟨gb34003, 2, none⟩ = some (.int .i64 0) := (blk_cell BK34003.out 2).trans rfl; have hcz11_3 : w6.cell? ⟨gb34003, 3, none⟩ = some (.int .i64 0) := (blk_cell BK34003.out 3).trans rfl; have hcz11_4 : w6.cell? ⟨gb34003, 4, none⟩ = some (.int .i64 0) := (blk_cell BK34003.out 4).trans rfl; have hcz11_5 : w6.cell? ⟨gb34003, 5, none⟩ = some (.slice none 0 0) := (blk_cell BK34003.out 5).trans rfl; have hfz11_0 := blk_frozen BK34003.out 0; have hfz11_1 := blk_frozen BK34003.out 1; have hfz11_2 := blk_frozen BK34003.out 2; have hfz11_3 := blk_frozen BK34003.out 3; have hfz11_4 := blk_frozen BK34003.out 4; have hfz11_5 := blk_frozen BK34003.out 5) | ((with_reducible refine gate_callee (f := 64) rfl ?_); refine goesL_ (some 9) rfl rfl Try.func64 (by kernel_rfl) rfl #[.agg #[.int .i64 a0_1, .int .i64 a0_2, .int .i64 a0_3, .int .i64 a0_4]] rfl (by (try simp only [List.map_toArray, List.map_cons, List.map_nil]); rfl) ?_; (with_reducible refine (laws_toBox.calls a0_1 a0_2 a0_3 a0_4 t34004 t34005 t34006 t34007 _ A2.out).mono ?_); rintro e w12 ⟨rfl, hb⟩; refine ⟨_, rfl, ?_⟩; have n0_ := mk (blk_below (g := gb34001) (o := .cells #[.int .i64 a0_0, .int .i64 a0_1, .int .i64 a0_2, .int .i64 a0_3, .int .i64 a0_4, .slice A0_5 l0_5.length c0_5] 57 (0, 0)) (by refine blk_far ?_ NB34001_34003.out _; (with_reducible repeat (first | refine blk_drewN ?_ _ | refine blk_drew ?_ | refine blk_alloc ?_ _)); exact BK34001.out) hb); have n1_ := mk (blk_below (g := gb34002) (o := .cells #[.int .i64 0, .int .i64 0, .int .i64 0, .int .i64 0, .int .i64 0, .slice none 0 0] 43 (0, 0)) (by refine blk_far ?_ NB34002_34003.out _; (with_reducible repeat (first | refine blk_drewN ?_ _ | refine blk_drew ?_ | refine blk_alloc ?_ _)); exact BK34002.out) hb); have n2_ := mk (blk_below (g := gb34003) (o := .cells #[.int .i64 a0_0, .int .i64 0, .int .i64 0, .int .i64 0, .int .i64 0, .slice none 0 0] 43 (0, 0)) (by refine blk_put (cs := #[.int .i64 0, .int .i64 0, .int .i64 0, .int .i64 0, .int .i64 0, .slice none 0 0]) ?_ 0 _ rfl; (with_reducible repeat (first | refine blk_drewN ?_ _ | refine blk_drew ?_ | refine blk_alloc ?_ _)); exact BK34003.out) hb); have n3_ := mk (below_step (by repeat (with_reducible first | exact HB.out | refine below_set ?_ GE34003.out)) hb); clear BK34001; clear BK34002; clear BK34003; clear HB; have BK34001 := n0_; have BK34002 := n1_; have BK34003 := n2_; have HB := n3_; clear n0_ n1_ n2_ n3_; (try clear hb); have hcz13_0 : w12.cell? ⟨gb34003, 0, none⟩ = some (.int .i64 a0_0) := (blk_cell BK34003.out 0).trans rfl; have hcz13_1 : w12.cell? ⟨gb34003, 1, none⟩ = some (.int .i64 0) := (blk_cell BK34003.out 1).trans rfl; have hcz13_2 : w12.cell? ⟨gb34003, 2, none⟩ = some (.int .i64 0) := (blk_cell BK34003.out 2).trans rfl; have hcz13_3 : w12.cell? ⟨gb34003, 3, none⟩ = some (.int .i64 0) := (blk_cell BK34003.out 3).trans rfl; have hcz13_4 : w12.cell? ⟨gb34003, 4, none⟩ = some (.int .i64 0) := (blk_cell BK34003.out 4).trans rfl; have hcz13_5 : w12.cell? ⟨gb34003, 5, none⟩ = some (.slice none 0 0) := (blk_cell BK34003.out 5).trans rfl; have hfz13_0 := blk_frozen BK34003.out 0; have hfz13_1 := blk_frozen BK34003.out 1; have hfz13_2 := blk_frozen BK34003.out 2; have hfz13_3 := blk_frozen BK34003.out 3; have hfz13_4 := blk_frozen BK34003.out 4; have hfz13_5 := blk_frozen BK34003.out 5; have hcz14_0 : w12.cell? ⟨gb34001, 0, none⟩ = some (.int .i64 a0_0) := (blk_cell BK34001.out 0).trans rfl; have hcz14_1 : w12.cell? ⟨gb34001, 1, none⟩ = some (.int .i64 a0_1) := (blk_cell BK34001.out 1).trans rfl; have hcz14_2 : w12.cell? ⟨gb34001, 2, none⟩ = some (.int .i64 a0_2) := (blk_cell BK34001.out 2).trans rfl; have hcz14_3 : w12.cell? ⟨gb34001, 3, none⟩ = some (.int .i64 a0_3) := (blk_cell BK34001.out 3).trans rfl; have hcz14_4 : w12.cell? ⟨gb34001, 4, none⟩ = some (.int .i64 a0_4) := (blk_cell BK34001.out 4).trans rfl; have hcz14_5 : w12.cell? ⟨gb34001, 5, none⟩ = some (.slice A0_5 l0_5.length c0_5) := (blk_cell BK34001.out 5).trans rfl; have hfz14_0 := blk_frozen BK34001.out 0; have hfz14_1 := blk_frozen BK34001.out 1; have hfz14_2 := blk_frozen BK34001.out 2; have hfz14_3 := blk_frozen BK34001.out 3; have hfz14_4 := blk_frozen BK34001.out 4; have hfz14_5 := blk_frozen BK34001.out 5) | ((with_reducible refine gate_callee (f := 42) rfl ?_); refine goesL_ (some 13) rfl rfl Try.func42 (by kernel_rfl) rfl #[.slice A0_5 l0_5.length c0_5] rfl (by (try simp only [List.map_toArray, List.map_cons, List.map_nil]); rfl) ?_; (with_reducible refine (laws_toIntS.calls k _ _ l0_5 t34008 _ ?side1 ?side2 A3.out).mono ?_); (case side1 => exact Kd.C_below HR0_5.out (by repeat (with_reducible first | exact HB.out | refine below_set ?_ GE34003.out))); (case side2 => exact HC0_5.out); rintro e w15 ⟨v34009, rfl, ho0, hb⟩; refine ⟨_, rfl, ?_⟩; have n0_ := mk (Kd.R_lower ho0 (below_size (by repeat (with_reducible first | exact HB.out | refine below_set ?_ GE34003.out)))); have n1_ := mk (blk_below (g := gb34001) (o := .cells #[.int .i64 a0_0, .int .i64 a0_1, .int .i64 a0_2, .int .i64 a0_3, .int .i64 a0_4, .slice A0_5 l0_5.length c0_5] 57 (0, 0)) (by refine blk_far ?_ NB34001_34003.out _; (with_reducible repeat (first | refine blk_drewN ?_ _ | refine blk_drew ?_ | refine blk_alloc ?_ _)); refine blk_far ?_ NB34001_34003.out _; (with_reducible repeat (first | refine blk_drewN ?_ _ | refine blk_drew ?_ | refine blk_alloc ?_ _)); refine blk_far ?_ NB34001_34003.out _; (with_reducible repeat (first | refine blk_drewN ?_ _ | refine blk_drew ?_ | refine blk_alloc ?_ _)); refine blk_far ?_ NB34001_34003.out _; (with_reducible repeat (first | refine blk_drewN ?_ _ | refine blk_drew ?_ | refine blk_alloc ?_ _)); exact BK34001.out) hb); have n2_ := mk (blk_below (g := gb34002) (o := .cells #[.int .i64 0, .int .i64 0, .int .i64 0, .int .i64 0, .int .i64 0, .slice none 0 0] 43 (0, 0)) (by refine blk_far ?_ NB34002_34003.out _; (with_reducible repeat (first | refine blk_drewN ?_ _ | refine blk_drew ?_ | refine blk_alloc ?_ _)); refine blk_far ?_ NB34002_34003.out _; (with_reducible repeat (first | refine blk_drewN ?_ _ | refine blk_drew ?_ | refine blk_alloc ?_ _)); refine blk_far ?_ NB34002_34003.out _; (with_reducible repeat (first | refine blk_drewN ?_ _ | refine blk_drew ?_ | refine blk_alloc ?_ _)); refine blk_far ?_ NB34002_34003.out _; (with_reducible repeat (first | refine blk_drewN ?_ _ | refine blk_drew ?_ | refine blk_alloc ?_ _)); exact BK34002.out) hb); have n3_ := mk (blk_below (g := gb34003) (o := .cells #[.int .i64 a0_0, .int .i64 t34004, .int .i64 t34005, .int .i64 t34006, .int .i64 t34007, .slice none 0 0] 43 (0, 0)) (by refine blk_put (cs := #[.int .i64 a0_0, .int .i64 t34004, .int .i64 t34005, .int .i64 t34006, .int .i64 0, .slice none 0 0]) ?_ 4 _ rfl; (with_reducible repeat (first | refine blk_drewN ?_ _ | refine blk_drew ?_ | refine blk_alloc ?_ _)); refine blk_put (cs := #[.int .i64 a0_0, .int .i64 t34004, .int .i64 t34005, .int .i64 0, .int .i64 0, .slice none 0 0]) ?_ 3 _ rfl; (with_reducible repeat (first | refine blk_drewN ?_ _ | refine blk_drew ?_ | refine blk_alloc ?_ _)); refine blk_put (cs := #[.int .i64 a0_0, .int .i64 t34004, .int .i64 0, .int .i64 0, .int .i64 0, .slice none 0 0]) ?_ 2 _ rfl; (with_reducible repeat (first | refine blk_drewN ?_ _ | refine blk_drew ?_ | refine blk_alloc ?_ _)); refine blk_put (cs := #[.int .i64 a0_0, .int .i64 0, .int .i64 0, .int .i64 0, .int .i64 0, .slice none 0 0]) ?_ 1 _ rfl; (with_reducible repeat (first | refine blk_drewN ?_ _ | refine blk_drew ?_ | refine blk_alloc ?_ _)); exact BK34003.out) hb); have n4_ := mk (below_step (by repeat (with_reducible first | exact HB.out | refine below_set ?_ GE34003.out)) hb); clear BK34001; clear BK34002; clear BK34003; clear HB; have HO34010 := n0_; have BK34001 := n1_; have BK34002 := n2_; have BK34003 := n3_; have HB := n4_; clear n0_ n1_ n2_ n3_ n4_; (try clear hb); (try clear ho0); obtain ⟨Ao16, co16, eo16⟩ := Kd.R_slice HO34010.out; subst eo16; have hcz17_0 : w15.cell? ⟨gb34003, 0, none⟩ = some (.int .i64 a0_0) := (blk_cell BK34003.out 0).trans rfl; have hcz17_1 : w15.cell? ⟨gb34003, 1, none⟩ = some (.int .i64 t34004) := (blk_cell BK34003.out 1).trans rfl; have hcz17_2 : w15.cell? ⟨gb34003, 2, none⟩ = some (.int .i64 t34005) := (blk_cell BK34003.out 2).trans rfl; have hcz17_3 : w15.cell? ⟨gb34003, 3, none⟩ = some (.int .i64 t34006) := (blk_cell BK34003.out 3).trans rfl; have hcz17_4 : w15.cell? ⟨gb34003, 4, none⟩ = some (.int .i64 t34007) := (blk_cell BK34003.out 4).trans rfl; have hcz17_5 : w15.cell? ⟨gb34003, 5, none⟩ = some (.slice none 0 0) := (blk_cell BK34003.out 5).trans rfl; have hfz17_0 := blk_frozen BK34003.out 0; have hfz17_1 := blk_frozen BK34003.out 1; have hfz17_2 := blk_frozen BK34003.out 2; have hfz17_3 := blk_frozen BK34003.out 3; have hfz17_4 := blk_frozen BK34003.out 4; have hfz17_5 := blk_frozen BK34003.out 5; have hcz18_0 : w15.cell? ⟨gb34002, 0, none⟩ = some (.int .i64 0) := (blk_cell BK34002.out 0).trans rfl; have hcz18_1 : w15.cell? ⟨gb34002, 1, none⟩ = some (.int .i64 0) := (blk_cell BK34002.out 1).trans rfl; have hcz18_2 : w15.cell? ⟨gb34002, 2, none⟩ = some (.int .i64 0) := (blk_cell BK34002.out 2).trans rfl; have hcz18_3 : w15.cell? ⟨gb34002, 3, none⟩ = some (.int .i64 0) := (blk_cell BK34002.out 3).trans rfl; have hcz18_4 : w15.cell? ⟨gb34002, 4, none⟩ = some (.int .i64 0) := (blk_cell BK34002.out 4).trans rfl; have hcz18_5 : w15.cell? ⟨gb34002, 5, none⟩ = some (.slice none 0 0) := (blk_cell BK34002.out 5).trans rfl; have hfz18_0 := blk_frozen BK34002.out 0; have hfz18_1 := blk_frozen BK34002.out 1; have hfz18_2 := blk_frozen BK34002.out 2; have hfz18_3 := blk_frozen BK34002.out 3; have hfz18_4 := blk_frozen BK34002.out 4; have hfz18_5 := blk_frozen BK34002.out 5))
 refine bodyPost_ret (results_cell_row rfl _ _ gb34002 43 #[.int .i64 a0_0, .int .i64 t34004, .int .i64 t34005, .int .i64 t34006, .int .i64 t34007, .slice Ao16 t34008.length co16] (0, 0) _ rfl (by refine blk_put (cs := #[.int .i64 a0_0, .int .i64 t34004, .int .i64 t34005, .int .i64 t34006, .int .i64 t34007, .slice none 0 0]) ?_ 5 _ rfl; (with_reducible repeat (first | refine blk_drewN ?_ _ | refine blk_drew ?_ | refine blk_alloc ?_ _)); refine blk_put (cs := #[.int .i64 a0_0, .int .i64 t34004, .int .i64 t34005, .int .i64 t34006, .int .i64 0, .slice none 0 0]) ?_ 4 _ rfl; (with_reducible repeat (first | refine blk_drewN ?_ _ | refine blk_drew ?_ | refine blk_alloc ?_ _)); refine blk_put (cs := #[.int .i64 a0_0, .int .i64 t34004, .int .i64 t34005, .int .i64 0, .int .i64 0, .slice none 0 0]) ?_ 3 _ rfl; (with_reducible repeat (first | refine blk_drewN ?_ _ | refine blk_drew ?_ | refine blk_alloc ?_ _)); refine blk_put (cs := #[.int .i64 a0_0, .int .i64 t34004, .int .i64 0, .int .i64 0, .int .i64 0, .slice none 0 0]) ?_ 2 _ rfl; (with_reducible repeat (first | refine blk_drewN ?_ _ | refine blk_drew ?_ | refine blk_alloc ?_ _)); refine blk_put (cs := #[.int .i64 a0_0, .int .i64 0, .int .i64 0, .int .i64 0, .int .i64 0, .slice none 0 0]) ?_ 1 _ rfl; (with_reducible repeat (first | refine blk_drewN ?_ _ | refine blk_drew ?_ | refine blk_alloc ?_ _)); refine blk_put (cs := #[.int .i64 0, .int .i64 0, .int .i64 0, .int .i64 0, .int .i64 0, .slice none 0 0]) ?_ 0 _ rfl; (with_reducible repeat (first | refine blk_drewN ?_ _ | refine blk_drew ?_ | refine blk_alloc ?_ _)); refine blk_far ?_ NB34002_34003.out _; (with_reducible repeat (first | refine blk_drewN ?_ _ | refine blk_drew ?_ | refine blk_alloc ?_ _)); exact BK34002.out) Try.underlying43 rfl (by kernel_rfl)) rfl ?_
 exact ⟨_, by rfl, by (with_reducible repeat (first | apply Kd.R_alloc | apply Kd.R_drewN | apply Kd.R_drew)); exact Kd.R_mono (Kd.R_far (p := ⟨gb34002, 5, none⟩) (Kd.R_far (p := ⟨gb34002, 4, none⟩) (Kd.R_far (p := ⟨gb34002, 3, none⟩) (Kd.R_far (p := ⟨gb34002, 2, none⟩) (Kd.R_far (p := ⟨gb34002, 1, none⟩) (Kd.R_far (p := ⟨gb34002, 0, none⟩) (Kd.R_far (p := ⟨gb34003, 5, none⟩) (Kd.R_types (Kd.R_types HO34010.out BK34003.out (by decide)) BK34002.out (by decide)) (fun _ hk => hk.1.2) (.slice Ao16 t34008.length co16)) (fun _ hk => hk.2) (.int .i64 a0_0)) (fun _ hk => hk.2) (.int .i64 t34004)) (fun _ hk => hk.2) (.int .i64 t34005)) (fun _ hk => hk.2) (.int .i64 t34006)) (fun _ hk => hk.2) (.int .i64 t34007)) (fun _ hk => hk.2) (.slice Ao16 t34008.length co16)) (fun _ hk => trivial), by repeat (with_reducible first | exact HB.out | refine below_set ?_ GE34002.out | refine below_set ?_ GE34003.out)⟩


def laws_toStepS.l0 : Nat → List (S57) → List (S43) → Int → Option ((List (S43)))
 | 0, _, _, _ => none
 | k + 1, x0, x3, x4 => if x4 < (x0.length : Int) then (if 0 ≤ x4 then ((laws_toStep.f k ((rd_T57 x0 x4).f0) ((rd_T57 x0 x4).f1.f0) ((rd_T57 x0 x4).f1.f1) ((rd_T57 x0 x4).f1.f2) ((rd_T57 x0 x4).f1.f3) ((rd_T57 x0 x4).f2)).bind fun bt15005 => (if x4 < (x3.length : Int) then (laws_toStepS.l0 k x0 (x3.set (x4 : Int).toNat (⟨bt15005.1, (⟨bt15005.2.1, bt15005.2.2.1, bt15005.2.2.2.1, bt15005.2.2.2.2.1⟩ : S41), bt15005.2.2.2.2.2⟩ : S43)) (wrap64 (x4 + 1))) else (none))) else (none)) else (some x3)
def laws_toStepS.f (k : Nat) (l0 : List (S57)) : Option ((List (S43))) := if 0 ≤ (l0.length : Int) then (if ((l0.length : Int) : Int).toNat ≤ 4398046511104 then (laws_toStepS.l0 k l0 (List.replicate ((l0.length : Int) : Int).toNat z43) 0) else (none)) else (none)
theorem laws_toStepS.mono_l : ∀ k, (∀ y0 y1 y2, LeO (laws_toStepS.l0 k y0 y1 y2) (laws_toStepS.l0 (k + 1) y0 y1 y2))
 | 0 => fun _ _ _ r h => by simp [laws_toStepS.l0] at h
 | k + 1 => by
  have ih0 := laws_toStepS.mono_l k
  ·intro y0 y1 y2
   unfold laws_toStepS.l0
   repeat' first
   | (with_reducible exact ih0 _ _ _)
   | (with_reducible exact laws_toStep.mono _ _ _ _ _ _ _)
   | (with_reducible exact LeO.refl _)
   | (with_reducible exact LeO.none _)
   | (with_reducible refine LeO.ite ?_ ?_)
   | (with_reducible refine LeO.bind ?_ (fun _ => ?_))
   | exact ih0 _ _ _
   | exact laws_toStep.mono _ _ _ _ _ _ _
   | exact LeO.none _
   | refine LeO.ite ?_ ?_
   | refine LeO.bind ?_ (fun _ => ?_)
theorem laws_toStepS.mono : ∀ a0 k, LeO (laws_toStepS.f k a0) (laws_toStepS.f (k + 1) a0) := by
 intro a0 k
 have ih0 := laws_toStepS.mono_l k
 unfold laws_toStepS.f
 repeat' first
   | (with_reducible exact ih0 _ _ _)
   | (with_reducible exact laws_toStep.mono _ _ _ _ _ _ _)
   | (with_reducible exact LeO.refl _)
   | (with_reducible exact LeO.none _)
   | (with_reducible refine LeO.ite ?_ ?_)
   | (with_reducible refine LeO.bind ?_ (fun _ => ?_))
   | exact ih0 _ _ _
   | exact laws_toStep.mono _ _ _ _ _ _ _
   | exact LeO.none _
   | refine LeO.ite ?_ ?_
   | refine LeO.bind ?_ (fun _ => ?_)
set_option maxHeartbeats 8000000 in
set_option maxRecDepth 100000 in
theorem laws_toStepS.calls (k : Nat) (A0 : Option Addr) (c0 : Nat) (l0 : List (S57)) (r : List (S43)) (w : World) (hr0 : Kd.C k57 w A0 l0.length l0) (hc0 : l0.length ≤ c0) (h : laws_toStepS.f k l0 = some r) :
  Calls Try.prog 14 #[.slice A0 l0.length c0] w fun e w' => ∃ v0_ : Value, e = .returned (v0_) ∧ Kd.S k43 43 w' w.heap.size (fun _ => True) v0_ r ∧ Below w.heap.size w w' := by
 have hu57 := Try.underlying57
 have hu43 := Try.underlying43
 have HR0 := mk hr0
 have HC0 := mk hc0
 clear hr0 hc0
 have HB := mk (Below.refl w.heap.size w)
 have H : (if 0 ≤ (l0.length : Int) then (if ((l0.length : Int) : Int).toNat ≤ 4398046511104 then (laws_toStepS.l0 k l0 (List.replicate ((l0.length : Int) : Int).toNat z43) 0) else (none)) else (none)) = some r := h
 clear h
 by_cases c2 : 0 ≤ (l0.length : Int)
 ·rw [if_pos c2] at H
  have c2b0 := eq_true c2
  have c2b1 : decide (0 ≤ (l0.length : Int)) = true := decide_eq_true c2
  clear c2
  by_cases c3 : ((l0.length : Int) : Int).toNat ≤ 4398046511104
  ·rw [if_pos c3] at H
   have c3b0 := eq_true c3
   have c3b1 : decide (((l0.length : Int) : Int).toNat ≤ 4398046511104) = true := decide_eq_true c3
   clear c3
   obtain ⟨y15001, hy15001⟩ : ∃ y_ : List (S43), y_ = (List.replicate ((l0.length : Int) : Int).toNat z43) := ⟨_, rfl⟩
   replace H : (laws_toStepS.l0 k l0 y15001 0) = some r := by first | (rw [hy15001]; with_reducible exact H) | (have H2_ := (Option.bind_some _ _).symm.trans H; rw [hy15001]; with_reducible exact H2_) | (have H2_ := (Option.bind_some _ _).symm.trans H; with_reducible exact H2_) | with_reducible exact H | (rw [hy15001]; exact H) | exact H
   have Ny15001 := mk hy15001
   clear hy15001
   have H' := mk H
   clear H
   go_enter Try.func14, Try.ntmps14
   go_wp2_with (first | ((with_reducible refine gate_dst (N := 7) rfl ?_); refine Kd.S_make k43 _ 43 rfl (N := 7) rfl 32 _ _ rfl (l0.length : Int) rfl rfl Try.underlying32 (.agg #[(.int .i64 0), (.int .i64 0), (.int .i64 0), (.int .i64 0), (.int .i64 0), (.slice none 0 0)]) 64 info43 rfl (by decide) (by omega) z43 (ok := fun _ => True) (okp := fun _ => True) (k43_mkM _ _ _ z43 (Kd.R_nil _ _ _ _ _)) (fun _ hk => hk) trivial (of_decide_eq_true (by first | (with_reducible assumption) | assumption)) (Nat.le_trans (Nat.mul_le_mul_right _ (of_decide_eq_true (by first | (with_reducible assumption) | assumption) : (l0.length : Int).toNat ≤ 4398046511104)) (by omega)) (Below.refl _ _) (Nat.le_refl _) ?_; intro v15002 w4 ho5 hb hg_ hnew_; clear hg_ hnew_; (first | rw [← Ny15001.out] at ho5 | (simp only [Int.reduceToNat] at ho5; rw [← Ny15001.out] at ho5)); have n0_ := mk (Kd.S_lower ho5 (below_size (by repeat (first | (with_reducible first | exact HB.out | apply below_alloc | apply pw_below_drewN | apply below_drew1) | exact HB.out)))); have n1_ := mk (below_step (by repeat (first | (with_reducible first | exact HB.out | apply below_alloc | apply pw_below_drewN | apply below_drew1) | exact HB.out)) hb); clear HB; have HO15003 := n0_; have HB := n1_; clear n0_ n1_; clear hb ho5))
   go_loopg [4] k (fun kq v4 w' => ∃ (x3_1 : List (S43)) (x4_1 : Int), v4 = .int .i64 x4_1 ∧ Aside0 (laws_toStepS.l0 kq l0 x3_1 x4_1 = some r) ∧ Aside0 (kq ≤ k) ∧ Aside0 (Kd.S k43 43 w' w.heap.size (fun _ => True) v15002 x3_1) ∧ Aside0 (Below w.heap.size w w'))
   case atStart => exact ⟨(y15001), (0), (by first | rfl | (simp; done) | (simp [*]; done)), H', ⟨Nat.le_refl _⟩, ⟨by (with_reducible repeat (first | apply Kd.S_alloc | apply Kd.S_drewN | apply Kd.S_drew)); exact HO15003.out⟩, ⟨by repeat (first | (with_reducible first | exact HB.out | apply below_alloc | apply pw_below_drewN | apply below_drew1) | exact HB.out)⟩⟩
   case round =>
    clear H'
    try clear c1
    try clear c2
    try clear c2b0
    try clear c2b1
    try clear p2
    try clear c3
    try clear c3b0
    try clear c3b1
    obtain ⟨x3_1, x4_1, rfl, HA, HK1, HO_3, HB⟩ := hrel
    cases gk with
    | zero => exact absurd HA.out (by simp [laws_toStepS.l0])
    | succ k1 =>
     have H := HA.out
     clear HA
     simp only [laws_toStepS.l0] at H
     by_cases c6 : x4_1 < (l0.length : Int)
     ·rw [if_pos c6] at H
      have c6b0 : decide (x4_1 < (l0.length : Int)) = true := decide_eq_true c6
      clear c6
      by_cases c7 : 0 ≤ x4_1
      ·rw [if_pos c7] at H
       have c7b0 : decide (0 ≤ x4_1) = true := decide_eq_true c7
       clear c7
       replace H := Option.bind_eq_some_iff.mp H
       obtain ⟨⟨t15005, t15006, t15007, t15008, t15009, t15010⟩, A80, H⟩ := H
       replace H : (if x4_1 < (x3_1.length : Int) then (laws_toStepS.l0 k1 l0 (x3_1.set (x4_1 : Int).toNat (⟨t15005, (⟨t15006, t15007, t15008, t15009⟩ : S41), t15010⟩ : S43)) (wrap64 (x4_1 + 1))) else (none)) = some r := H
       have A8 := mk A80
       clear A80
       by_cases c9 : x4_1 < (x3_1.length : Int)
       ·rw [if_pos c9] at H
        have c9b0 : decide (x4_1 < (x3_1.length : Int)) = true := decide_eq_true c9
        clear c9
        obtain ⟨y15013, hy15013⟩ : ∃ y_ : List (S43), y_ = (x3_1.set (x4_1 : Int).toNat (⟨t15005, (⟨t15006, t15007, t15008, t15009⟩ : S41), t15010⟩ : S43)) := ⟨_, rfl⟩
        replace H : (laws_toStepS.l0 k1 l0 y15013 (wrap64 (x4_1 + 1))) = some r := by first | (rw [hy15013]; with_reducible exact H) | (have H2_ := (Option.bind_some _ _).symm.trans H; rw [hy15013]; with_reducible exact H2_) | (have H2_ := (Option.bind_some _ _).symm.trans H; with_reducible exact H2_) | with_reducible exact H | (rw [hy15013]; exact H) | exact H
        have Ny15013 := mk hy15013
        clear hy15013
        have H' := mk H
        clear H
        have p15004 : 0 ≤ (x4_1 : Int) := of_decide_eq_true (by first | (with_reducible assumption) | assumption)
        have q15004 : x4_1 < (l0.length : Int) := of_decide_eq_true (by first | (with_reducible assumption) | assumption)
        obtain ⟨ad15004, A15004_5, c15004_5, e15004, hx15004_0, hx15004_1, hx15004_2, hx15004_3, hx15004_4, hx15004_5, hl15004_5, hi15004_5⟩ := at_T57 HR0.out x4_1 p15004 q15004
        cases e15004
        replace hx15004_0 := (HB.out.cell (World.block_lt_of_cell? w _ hx15004_0)).trans hx15004_0
        replace hx15004_1 := (HB.out.cell (World.block_lt_of_cell? w _ hx15004_1)).trans hx15004_1
        replace hx15004_2 := (HB.out.cell (World.block_lt_of_cell? w _ hx15004_2)).trans hx15004_2
        replace hx15004_3 := (HB.out.cell (World.block_lt_of_cell? w _ hx15004_3)).trans hx15004_3
        replace hx15004_4 := (HB.out.cell (World.block_lt_of_cell? w _ hx15004_4)).trans hx15004_4
        replace hx15004_5 := (HB.out.cell (World.block_lt_of_cell? w _ hx15004_5)).trans hx15004_5
        have HR15004_5 := mk hi15004_5
        have HC15004_5 := mk hl15004_5
        clear hi15004_5 hl15004_5
        replace p15004 := eq_true p15004
        replace q15004 := eq_true q15004
        go_wp2_with (first | ((with_reducible refine gate_callee (f := 33) rfl ?_); refine goesL_ (some 20) rfl rfl Try.func33 (by kernel_rfl) rfl #[.agg #[.int .i64 ((rd_T57 l0 x4_1).f0), .int .i64 ((rd_T57 l0 x4_1).f1.f0), .int .i64 ((rd_T57 l0 x4_1).f1.f1), .int .i64 ((rd_T57 l0 x4_1).f1.f2), .int .i64 ((rd_T57 l0 x4_1).f1.f3), .slice A15004_5 ((rd_T57 l0 x4_1).f2).length c15004_5]] rfl (by (try simp only [List.map_toArray, List.map_cons, List.map_nil]); first | done | rfl | (simp only [List.length_drop, List.length_take]; rfl)) ?_; (with_reducible refine (laws_toStep.calls k1 ((rd_T57 l0 x4_1).f0) ((rd_T57 l0 x4_1).f1.f0) ((rd_T57 l0 x4_1).f1.f1) ((rd_T57 l0 x4_1).f1.f2) ((rd_T57 l0 x4_1).f1.f3) _ _ ((rd_T57 l0 x4_1).f2) t15005 t15006 t15007 t15008 t15009 t15010 _ ?side1 ?side2 A8.out).mono ?_); (case side1 => repeat (first | exact (Kd.C_below HR15004_5.out HB.out) | (with_reducible refine Kd.C_alloc ?_ _) | (with_reducible refine Kd.C_drewN ?_ _) | (with_reducible refine Kd.C_drew ?_))); (case side2 => exact HC15004_5.out); rintro e w11 ⟨V_, rfl, ho0, hb⟩; obtain ⟨Av15011, cv15011, ev_⟩ := Kd.R_slice ho0; subst ev_; refine ⟨_, rfl, ?_⟩; have n0_ := mk (Kd.S_elder' (by (with_reducible repeat (first | apply Kd.S_alloc | apply Kd.S_drewN | apply Kd.S_drew)); exact HO_3.out) (Kd.R_base ho0) hb); have n1_ := mk (Kd.R_lower ho0 (below_size (by repeat (first | (with_reducible first | exact HB.out | apply below_alloc | apply pw_below_drewN | apply below_drew1) | exact HB.out)))); have n2_ := mk (below_step (by repeat (first | (with_reducible first | exact HB.out | apply below_alloc | apply pw_below_drewN | apply below_drew1) | exact HB.out)) hb); clear HO_3; clear HB; have HO_3 := n0_; have HO15012 := n1_; have HB := n2_; clear n0_ n1_ n2_; (try clear hb); (try clear hb2); (try clear hk); (try clear hi); (try clear ho0); have p10 : 0 ≤ (x4_1 : Int) := of_decide_eq_true (by first | (with_reducible assumption) | assumption); have q10 : (x4_1 : Int) < ((x3_1.length : Int) : Int) := of_decide_eq_true (by first | (with_reducible assumption) | assumption); obtain ⟨go10, co10, eo10, gb10, gl10, cl10, HG10⟩ := Kd.S_form HO_3.out (by omega); (first | cases eo10 | (injection eo10 with ea_ en_ ec_; (first | subst ea_ | (injection ea_ with ea_; subst ea_)); subst ec_; clear en_)); have GB10 := mk gb10; have GG10 := mk HG10; clear gb10 gl10 HG10; obtain ⟨_, ce10, hcl10, hM10, hcc10, hfr10, _, _⟩ := Kd.S_elem HO_3.out z43 (x4_1 : Int) p10 q10; obtain ⟨ve10_5, rfl, ge10_5⟩ := k43_openM hM10; have hx10_0 : w11.cell? ⟨go10, (x4_1 : Int).toNat * 6, none⟩ = some (.int .i64 ((rd_T43 x3_1 x4_1).f0)) := hcc10 0 _ rfl; have hx10_1 : w11.cell? ⟨go10, (x4_1 : Int).toNat * 6 + 1, none⟩ = some (.int .i64 ((rd_T43 x3_1 x4_1).f1.f0)) := hcc10 1 _ rfl; have hx10_2 : w11.cell? ⟨go10, (x4_1 : Int).toNat * 6 + 2, none⟩ = some (.int .i64 ((rd_T43 x3_1 x4_1).f1.f1)) := hcc10 2 _ rfl; have hx10_3 : w11.cell? ⟨go10, (x4_1 : Int).toNat * 6 + 3, none⟩ = some (.int .i64 ((rd_T43 x3_1 x4_1).f1.f2)) := hcc10 3 _ rfl; have hx10_4 : w11.cell? ⟨go10, (x4_1 : Int).toNat * 6 + 4, none⟩ = some (.int .i64 ((rd_T43 x3_1 x4_1).f1.f3)) := hcc10 4 _ rfl; have hx10_5 : w11.cell? ⟨go10, (x4_1 : Int).toNat * 6 + 5, none⟩ = some (ve10_5) := hcc10 5 _ rfl; have hf10_0 : w11.frozen? ⟨go10, (x4_1 : Int).toNat * 6, none⟩ = false := hfr10 0; have hf10_1 : w11.frozen? ⟨go10, (x4_1 : Int).toNat * 6 + 1, none⟩ = false := hfr10 1; have hf10_2 : w11.frozen? ⟨go10, (x4_1 : Int).toNat * 6 + 2, none⟩ = false := hfr10 2; have hf10_3 : w11.frozen? ⟨go10, (x4_1 : Int).toNat * 6 + 3, none⟩ = false := hfr10 3; have hf10_4 : w11.frozen? ⟨go10, (x4_1 : Int).toNat * 6 + 4, none⟩ = false := hfr10 4; have hf10_5 : w11.frozen? ⟨go10, (x4_1 : Int).toNat * 6 + 5, none⟩ = false := hfr10 5; clear hcl10 hcc10 hfr10 hM10; replace p10 := eq_true p10; replace q10 := eq_true q10; have n_ := mk (Kd.S_mono (ok' := (fun k_ => some k_ ≠ ((.slice Av15011 (t15010).length cv15011) : Value).ownBlock)) HO_3.out (fun k_ hk => hk.2)); clear HO_3; have HO_3 := n_; clear n_; have HX12 := mk (show Kd.S k43 43 w11 w.heap.size (fun k_ => ((fun _ => True)) k_ ∧ ¬ ((fun k_ => some k_ = ((.slice Av15011 (t15010).length cv15011) : Value).ownBlock)) k_) (.slice (some ⟨go10, 0, none⟩) x3_1.length co10) x3_1 from (by (with_reducible repeat (first | apply Kd.S_alloc | apply Kd.S_drewN | apply Kd.S_drew)); exact Kd.S_mono HO_3.out (fun k_ hk => ⟨trivial, fun e_ => hk e_⟩))); obtain ⟨oki12, ce12, hcl12, hM12, hcc12, hfr12, hoki12, hH12⟩ := Kd.S_elem HX12.out z43 (x4_1 : Int) (of_decide_eq_true (by first | (with_reducible assumption) | assumption)) (by have h_ : (x4_1 : Int) < ((x3_1.length : Int) : Int) := of_decide_eq_true (by first | (with_reducible assumption) | assumption); first | exact h_ | (have e_ := (Kd.S_reads' HO_3.out).1; omega) | simpa using h_); obtain ⟨ve12_5, rfl, ge12_5⟩ := k43_openM hM12; have HP12 := Kd.S_seg hH12 (of_decide_eq_true (by first | (with_reducible assumption) | assumption)) (by have h_ : (x4_1 : Int) < ((x3_1.length : Int) : Int) := of_decide_eq_true (by first | (with_reducible assumption) | assumption); first | exact h_ | (have e_ := (Kd.S_reads' HO_3.out).1; omega) | simpa using h_) (seg := [.int .i64 t15005, .int .i64 t15006, .int .i64 t15007, .int .i64 t15008, .int .i64 t15009, (.slice Av15011 (t15010).length cv15011)]) (j := 0) (show 6 ≤ 6 from by decide) (x' := (⟨t15005, (⟨t15006, t15007, t15008, t15009⟩ : S41), t15010⟩ : S43)) (k43_mkM _ _ _ (⟨t15005, (⟨t15006, t15007, t15008, t15009⟩ : S41), t15010⟩ : S43) (Kd.R_mono (Kd.R_tight rfl (Kd.R_mono (ok' := fun k_ => ((fun _ => True)) k_ ∧ k_ ≠ go10) (Kd.R_apart' (HO15012.out) (Kd.S_typed HO_3.out) (by decide)) (fun k_ hk => ⟨trivial, fun e_ => (hk.2) (by rw [e_]; rfl)⟩))) (fun _ h_ => Or.inr (h_)))) (fun _ hk => hk) (fun k_ hk_ => ((Kd.R_mono (ok' := fun k_ => ((fun _ => True)) k_ ∧ k_ ≠ go10) (Kd.R_apart' (HO15012.out) (Kd.S_typed HO_3.out) (by decide)) (fun k_ hk => ⟨trivial, fun e_ => (hk.2) (by rw [e_]; rfl)⟩))).1 k_ hk_.symm); have hx12_0 := hcc12 0 _ rfl; (try simp only [show (k43).sz = 6 from rfl, Nat.mul_one, Nat.add_zero] at hx12_0); have hf12_0 := hfr12 0; (try simp only [show (k43).sz = 6 from rfl, Nat.mul_one, Nat.add_zero] at hf12_0); have hx12_1 := hcc12 1 _ rfl; (try simp only [show (k43).sz = 6 from rfl, Nat.mul_one, Nat.add_zero] at hx12_1); have hf12_1 := hfr12 1; (try simp only [show (k43).sz = 6 from rfl, Nat.mul_one, Nat.add_zero] at hf12_1); have hx12_2 := hcc12 2 _ rfl; (try simp only [show (k43).sz = 6 from rfl, Nat.mul_one, Nat.add_zero] at hx12_2); have hf12_2 := hfr12 2; (try simp only [show (k43).sz = 6 from rfl, Nat.mul_one, Nat.add_zero] at hf12_2); have hx12_3 := hcc12 3 _ rfl; (try simp only [show (k43).sz = 6 from rfl, Nat.mul_one, Nat.add_zero] at hx12_3); have hf12_3 := hfr12 3; (try simp only [show (k43).sz = 6 from rfl, Nat.mul_one, Nat.add_zero] at hf12_3); have hx12_4 := hcc12 4 _ rfl; (try simp only [show (k43).sz = 6 from rfl, Nat.mul_one, Nat.add_zero] at hx12_4); have hf12_4 := hfr12 4; (try simp only [show (k43).sz = 6 from rfl, Nat.mul_one, Nat.add_zero] at hf12_4); have hx12_5 := hcc12 5 _ rfl; (try simp only [show (k43).sz = 6 from rfl, Nat.mul_one, Nat.add_zero] at hx12_5); have hf12_5 := hfr12 5; (try simp only [show (k43).sz = 6 from rfl, Nat.mul_one, Nat.add_zero] at hf12_5); clear hcl12 hcc12 hfr12 hM12 hoki12 hH12) | ((with_reducible refine gate_store (t := 43) (p := 21) rfl ?_); refine store_event (t := 43) (p := 21) (v := ?vo_w13) (w1 := ((((((w11.setCell ⟨go10, (x4_1 : Int).toNat * 6, none⟩ (.int .i64 t15005)).setCell ⟨go10, (x4_1 : Int).toNat * 6 + 1, none⟩ (.int .i64 t15006)).setCell ⟨go10, (x4_1 : Int).toNat * 6 + 2, none⟩ (.int .i64 t15007)).setCell ⟨go10, (x4_1 : Int).toNat * 6 + 3, none⟩ (.int .i64 t15008)).setCell ⟨go10, (x4_1 : Int).toNat * 6 + 4, none⟩ (.int .i64 t15009)).setCell ⟨go10, (x4_1 : Int).toNat * 6 + 5, none⟩ ((.slice Av15011 (t15010).length cv15011)))) ?hg ?ho ?hn ?hr ?_; (case ho => rfl); (case hg => rfl); (case hn => rfl); (case hr => first | (go_simp; done) | (go_simp; rfl)); intro w13 hw; have hg : w11.grownBy w13 (some go10) := (by rw [hw]; exact HP12.2); have hp_ : Kd.S k43 43 w13 w.heap.size (fun _ => True) (.slice (some ⟨go10, 0, none⟩) x3_1.length co10) y15013 := (by rw [hw, Ny15013.out]; exact HP12.1); clear HP12; have n0_ := mk (hp_); have n1_ := mk ((by rw [hw]; exact below_set (below_set (below_set (below_set (below_set (below_set (HB.out) GB10.out) GB10.out) GB10.out) GB10.out) GB10.out) GB10.out : Below w.heap.size w w13)); clear HO_3; clear HB; clear HO15012; have HO_3 := n0_; have HB := n1_; clear n0_ n1_; clear hg hw hp_))
        go_roundg k1
        case measure => have := HK1.out; omega
        case rel => exact ⟨(y15013), (wrap64 (x4_1 + 1)), (by first | rfl | (simp; done) | (simp [*]; done)), H', ⟨by have := HK1.out; omega⟩, ⟨by (with_reducible repeat (first | apply Kd.S_alloc | apply Kd.S_drewN | apply Kd.S_drew)); exact HO_3.out⟩, ⟨by repeat (first | (with_reducible first | exact HB.out | apply below_alloc | apply pw_below_drewN | apply below_drew1) | exact HB.out)⟩⟩
       ·rw [if_neg c9] at H
        exact absurd H (by simp)
      ·rw [if_neg c7] at H
       exact absurd H (by simp)
     ·rw [if_neg c6] at H
      have c6b0 : decide (x4_1 < (l0.length : Int)) = false := decide_eq_false c6
      clear c6
      obtain rfl := Option.some.inj H
      go_wp2
      go_ret
      exact ⟨_, by first | rfl | (simp [errW_none, errW_some] <;> rfl) | (simp [*, errW_none, errW_some] <;> rfl), by (with_reducible repeat (first | apply Kd.S_alloc | apply Kd.S_drewN | apply Kd.S_drew)); exact HO_3.out, by repeat (first | (with_reducible first | exact HB.out | apply below_alloc | apply pw_below_drewN | apply below_drew1) | exact HB.out)⟩
  ·rw [if_neg c3] at H
   exact absurd H (by simp)
 ·rw [if_neg c2] at H
  exact absurd H (by simp)


def laws_eqBox.f (a0_0 : Int) (a0_1 : Int) (a0_2 : Int) (a0_3 : Int) (a1_0 : Int) (a1_1 : Int) (a1_2 : Int) (a1_3 : Int) : Option Bool := if a0_0 = a1_0 then (if a0_1 = a1_1 then (if a0_2 = a1_2 then (if a0_3 = a1_3 then (some true) else (some false)) else (some false)) else (some false)) else (some false)
set_option maxHeartbeats 8000000 in
set_option maxRecDepth 100000 in
theorem laws_eqBox.calls (a0_0 : Int) (a0_1 : Int) (a0_2 : Int) (a0_3 : Int) (a1_0 : Int) (a1_1 : Int) (a1_2 : Int) (a1_3 : Int) (r : Bool) (w : World) (h : laws_eqBox.f a0_0 a0_1 a0_2 a0_3 a1_0 a1_1 a1_2 a1_3 = some r) :
  Calls Try.prog 65 #[.agg #[.int .i64 a0_0, .int .i64 a0_1, .int .i64 a0_2, .int .i64 a0_3], .agg #[.int .i64 a1_0, .int .i64 a1_1, .int .i64 a1_2, .int .i64 a1_3]] w fun e w' => e = .returned (.bool r) ∧ Below w.heap.size w w' := by
 have hu41 := Try.underlying41
 have HB := mk (Below.refl w.heap.size w)
 have H : (if a0_0 = a1_0 then (if a0_1 = a1_1 then (if a0_2 = a1_2 then (if a0_3 = a1_3 then (some true) else (some false)) else (some false)) else (some false)) else (some false)) = some r := h
 clear h
 by_cases c3 : a0_0 = a1_0
 ·rw [if_pos c3] at H
  have c3b0 : (a0_0 == a1_0) = true := beq_iff_eq.mpr c3
  have c3b1 : (a0_0 != a1_0) = false := bne_eq_false_iff_eq.mpr c3
  clear c3
  by_cases c4 : a0_1 = a1_1
  ·rw [if_pos c4] at H
   have c4b0 : (a0_1 == a1_1) = true := beq_iff_eq.mpr c4
   have c4b1 : (a0_1 != a1_1) = false := bne_eq_false_iff_eq.mpr c4
   clear c4
   by_cases c5 : a0_2 = a1_2
   ·rw [if_pos c5] at H
    have c5b0 : (a0_2 == a1_2) = true := beq_iff_eq.mpr c5
    have c5b1 : (a0_2 != a1_2) = false := bne_eq_false_iff_eq.mpr c5
    clear c5
    by_cases c6 : a0_3 = a1_3
    ·rw [if_pos c6] at H
     have c6b0 : (a0_3 == a1_3) = true := beq_iff_eq.mpr c6
     have c6b1 : (a0_3 != a1_3) = false := bne_eq_false_iff_eq.mpr c6
     clear c6
     obtain rfl := Option.some.inj H
     go_enter Try.func65, Try.ntmps65
     go_wp2_with (first | ((with_reducible refine gate_dst (N := 2) rfl ?_); refine box_event ?hg (N := 2) ?hd (cs := #[.int .i64 a0_0, .int .i64 a0_1, .int .i64 a0_2, .int .i64 a0_3]) (t := 41) ?hr ?_; (case hd => rfl); (case hg => rfl); (case hr => (go_simp; done)); intro gb66001 hg w7 hbox hb; have n0_ := mk (below_step HB.out hb); have n1_ := mk (hbox); have n2_ := mk ((by rw [hg]; exact (below_size HB.out) : w.heap.size ≤ gb66001)); have n3_ := mk ((by rw [hg]; exact (below_size HB.out) : w.heap.size ≤ gb66001)); clear HB; have HB := n0_; have BK66001 := n1_; have GW66001 := n2_; have GE66001 := n3_; clear n0_ n1_ n2_ n3_; clear hb hbox hg) | ((with_reducible refine gate_dst (N := 3) rfl ?_); refine box_event ?hg (N := 3) ?hd (cs := #[.int .i64 a1_0, .int .i64 a1_1, .int .i64 a1_2, .int .i64 a1_3]) (t := 41) ?hr ?_; (case hd => rfl); (case hg => rfl); (case hr => (go_simp; done)); intro gb66002 hg w8 hbox hb; have n0_ := mk (blk_below BK66001.out hb); have n1_ := mk (below_step HB.out hb); have n2_ := mk (hbox); have n3_ := mk ((by rw [hg]; exact (below_size HB.out) : w.heap.size ≤ gb66002)); have n4_ := mk ((by rw [hg]; exact (below_size HB.out) : w.heap.size ≤ gb66002)); have n5_ := mk ((by rw [hg]; exact Nat.ne_of_lt (blk_lt BK66001.out) : gb66001 ≠ gb66002)); have n6_ := mk ((by rw [hg]; exact Nat.ne_of_gt (blk_lt BK66001.out) : gb66002 ≠ gb66001)); clear BK66001; clear HB; have BK66001 := n0_; have HB := n1_; have BK66002 := n2_; have GW66002 := n3_; have GE66002 := n4_; have NB66001_66002 := n5_; have NB66002_66001 := n6_; clear n0_ n1_ n2_ n3_ n4_ n5_ n6_; clear hb hbox hg; have hnb9 := NB66001_66002.out; have hnc9 := NB66002_66001.out; have hcz10_0 : w8.cell? ⟨gb66001, 0, none⟩ = some (.int .i64 a0_0) := (blk_cell BK66001.out 0).trans rfl; have hcz10_1 : w8.cell? ⟨gb66001, 1, none⟩ = some (.int .i64 a0_1) := (blk_cell BK66001.out 1).trans rfl; have hcz10_2 : w8.cell? ⟨gb66001, 2, none⟩ = some (.int .i64 a0_2) := (blk_cell BK66001.out 2).trans rfl; have hcz10_3 : w8.cell? ⟨gb66001, 3, none⟩ = some (.int .i64 a0_3) := (blk_cell BK66001.out 3).trans rfl; have hfz10_0 := blk_frozen BK66001.out 0; have hfz10_1 := blk_frozen BK66001.out 1; have hfz10_2 := blk_frozen BK66001.out 2; have hfz10_3 := blk_frozen BK66001.out 3; have hcz11_0 : w8.cell? ⟨gb66002, 0, none⟩ = some (.int .i64 a1_0) := (blk_cell BK66002.out 0).trans rfl; have hcz11_1 : w8.cell? ⟨gb66002, 1, none⟩ = some (.int .i64 a1_1) := (blk_cell BK66002.out 1).trans rfl; have hcz11_2 : w8.cell? ⟨gb66002, 2, none⟩ = some (.int .i64 a1_2) := (blk_cell BK66002.out 2).trans rfl; have hcz11_3 : w8.cell? ⟨gb66002, 3, none⟩ = some (.int .i64 a1_3) := (blk_cell BK66002.out 3).trans rfl; have hfz11_0 := blk_frozen BK66002.out 0; have hfz11_1 := blk_frozen BK66002.out 1; have hfz11_2 := blk_frozen BK66002.out 2; have hfz11_3 := blk_frozen BK66002.out 3))
     go_ret
     exact ⟨by rfl, by exact HB.out⟩
    ·rw [if_neg c6] at H
     have c6b0 : (a0_3 == a1_3) = false := beq_eq_false_iff_ne.mpr c6
     have c6b1 : (a0_3 != a1_3) = true := bne_iff_ne.mpr c6
     obtain rfl := Option.some.inj H
     go_enter Try.func65, Try.ntmps65
     go_wp2_with (first | ((with_reducible refine gate_dst (N := 2) rfl ?_); refine box_event ?hg (N := 2) ?hd (cs := #[.int .i64 a0_0, .int .i64 a0_1, .int .i64 a0_2, .int .i64 a0_3]) (t := 41) ?hr ?_; (case hd => rfl); (case hg => rfl); (case hr => (go_simp; done)); intro gb66001 hg w12 hbox hb; have n0_ := mk (below_step HB.out hb); have n1_ := mk (hbox); have n2_ := mk ((by rw [hg]; exact (below_size HB.out) : w.heap.size ≤ gb66001)); have n3_ := mk ((by rw [hg]; exact (below_size HB.out) : w.heap.size ≤ gb66001)); clear HB; have HB := n0_; have BK66001 := n1_; have GW66001 := n2_; have GE66001 := n3_; clear n0_ n1_ n2_ n3_; clear hb hbox hg) | ((with_reducible refine gate_dst (N := 3) rfl ?_); refine box_event ?hg (N := 3) ?hd (cs := #[.int .i64 a1_0, .int .i64 a1_1, .int .i64 a1_2, .int .i64 a1_3]) (t := 41) ?hr ?_; (case hd => rfl); (case hg => rfl); (case hr => (go_simp; done)); intro gb66002 hg w13 hbox hb; have n0_ := mk (blk_below BK66001.out hb); have n1_ := mk (below_step HB.out hb); have n2_ := mk (hbox); have n3_ := mk ((by rw [hg]; exact (below_size HB.out) : w.heap.size ≤ gb66002)); have n4_ := mk ((by rw [hg]; exact (below_size HB.out) : w.heap.size ≤ gb66002)); have n5_ := mk ((by rw [hg]; exact Nat.ne_of_lt (blk_lt BK66001.out) : gb66001 ≠ gb66002)); have n6_ := mk ((by rw [hg]; exact Nat.ne_of_gt (blk_lt BK66001.out) : gb66002 ≠ gb66001)); clear BK66001; clear HB; have BK66001 := n0_; have HB := n1_; have BK66002 := n2_; have GW66002 := n3_; have GE66002 := n4_; have NB66001_66002 := n5_; have NB66002_66001 := n6_; clear n0_ n1_ n2_ n3_ n4_ n5_ n6_; clear hb hbox hg; have hnb14 := NB66001_66002.out; have hnc14 := NB66002_66001.out; have hcz15_0 : w13.cell? ⟨gb66001, 0, none⟩ = some (.int .i64 a0_0) := (blk_cell BK66001.out 0).trans rfl; have hcz15_1 : w13.cell? ⟨gb66001, 1, none⟩ = some (.int .i64 a0_1) := (blk_cell BK66001.out 1).trans rfl; have hcz15_2 : w13.cell? ⟨gb66001, 2, none⟩ = some (.int .i64 a0_2) := (blk_cell BK66001.out 2).trans rfl; have hcz15_3 : w13.cell? ⟨gb66001, 3, none⟩ = some (.int .i64 a0_3) := (blk_cell BK66001.out 3).trans rfl; have hfz15_0 := blk_frozen BK66001.out 0; have hfz15_1 := blk_frozen BK66001.out 1; have hfz15_2 := blk_frozen BK66001.out 2; have hfz15_3 := blk_frozen BK66001.out 3; have hcz16_0 : w13.cell? ⟨gb66002, 0, none⟩ = some (.int .i64 a1_0) := (blk_cell BK66002.out 0).trans rfl; have hcz16_1 : w13.cell? ⟨gb66002, 1, none⟩ = some (.int .i64 a1_1) := (blk_cell BK66002.out 1).trans rfl; have hcz16_2 : w13.cell? ⟨gb66002, 2, none⟩ = some (.int .i64 a1_2) := (blk_cell BK66002.out 2).trans rfl; have hcz16_3 : w13.cell? ⟨gb66002, 3, none⟩ = some (.int .i64 a1_3) := (blk_cell BK66002.out 3).trans rfl; have hfz16_0 := blk_frozen BK66002.out 0; have hfz16_1 := blk_frozen BK66002.out 1; have hfz16_2 := blk_frozen BK66002.out 2; have hfz16_3 := blk_frozen BK66002.out 3))
     go_ret
     exact ⟨by rfl, by exact HB.out⟩
   ·rw [if_neg c5] at H
    have c5b0 : (a0_2 == a1_2) = false := beq_eq_false_iff_ne.mpr c5
    have c5b1 : (a0_2 != a1_2) = true := bne_iff_ne.mpr c5
    obtain rfl := Option.some.inj H
    go_enter Try.func65, Try.ntmps65
    go_wp2_with (first | ((with_reducible refine gate_dst (N := 2) rfl ?_); refine box_event ?hg (N := 2) ?hd (cs := #[.int .i64 a0_0, .int .i64 a0_1, .int .i64 a0_2, .int .i64 a0_3]) (t := 41) ?hr ?_; (case hd => rfl); (case hg => rfl); (case hr => (go_simp; done)); intro gb66001 hg w17 hbox hb; have n0_ := mk (below_step HB.out hb); have n1_ := mk (hbox); have n2_ := mk ((by rw [hg]; exact (below_size HB.out) : w.heap.size ≤ gb66001)); have n3_ := mk ((by rw [hg]; exact (below_size HB.out) : w.heap.size ≤ gb66001)); clear HB; have HB := n0_; have BK66001 := n1_; have GW66001 := n2_; have GE66001 := n3_; clear n0_ n1_ n2_ n3_; clear hb hbox hg) | ((with_reducible refine gate_dst (N := 3) rfl ?_); refine box_event ?hg (N := 3) ?hd (cs := #[.int .i64 a1_0, .int .i64 a1_1, .int .i64 a1_2, .int .i64 a1_3]) (t := 41) ?hr ?_; (case hd => rfl); (case hg => rfl); (case hr => (go_simp; done)); intro gb66002 hg w18 hbox hb; have n0_ := mk (blk_below BK66001.out hb); have n1_ := mk (below_step HB.out hb); have n2_ := mk (hbox); have n3_ := mk ((by rw [hg]; exact (below_size HB.out) : w.heap.size ≤ gb66002)); have n4_ := mk ((by rw [hg]; exact (below_size HB.out) : w.heap.size ≤ gb66002)); have n5_ := mk ((by rw [hg]; exact Nat.ne_of_lt (blk_lt BK66001.out) : gb66001 ≠ gb66002)); have n6_ := mk ((by rw [hg]; exact Nat.ne_of_gt (blk_lt BK66001.out) : gb66002 ≠ gb66001)); clear BK66001; clear HB; have BK66001 := n0_; have HB := n1_; have BK66002 := n2_; have GW66002 := n3_; have GE66002 := n4_; have NB66001_66002 := n5_; have NB66002_66001 := n6_; clear n0_ n1_ n2_ n3_ n4_ n5_ n6_; clear hb hbox hg; have hnb19 := NB66001_66002.out; have hnc19 := NB66002_66001.out; have hcz20_0 : w18.cell? ⟨gb66001, 0, none⟩ = some (.int .i64 a0_0) := (blk_cell BK66001.out 0).trans rfl; have hcz20_1 : w18.cell? ⟨gb66001, 1, none⟩ = some (.int .i64 a0_1) := (blk_cell BK66001.out 1).trans rfl; have hcz20_2 : w18.cell? ⟨gb66001, 2, none⟩ = some (.int .i64 a0_2) := (blk_cell BK66001.out 2).trans rfl; have hcz20_3 : w18.cell? ⟨gb66001, 3, none⟩ = some (.int .i64 a0_3) := (blk_cell BK66001.out 3).trans rfl; have hfz20_0 := blk_frozen BK66001.out 0; have hfz20_1 := blk_frozen BK66001.out 1; have hfz20_2 := blk_frozen BK66001.out 2; have hfz20_3 := blk_frozen BK66001.out 3; have hcz21_0 : w18.cell? ⟨gb66002, 0, none⟩ = some (.int .i64 a1_0) := (blk_cell BK66002.out 0).trans rfl; have hcz21_1 : w18.cell? ⟨gb66002, 1, none⟩ = some (.int .i64 a1_1) := (blk_cell BK66002.out 1).trans rfl; have hcz21_2 : w18.cell? ⟨gb66002, 2, none⟩ = some (.int .i64 a1_2) := (blk_cell BK66002.out 2).trans rfl; have hcz21_3 : w18.cell? ⟨gb66002, 3, none⟩ = some (.int .i64 a1_3) := (blk_cell BK66002.out 3).trans rfl; have hfz21_0 := blk_frozen BK66002.out 0; have hfz21_1 := blk_frozen BK66002.out 1; have hfz21_2 := blk_frozen BK66002.out 2; have hfz21_3 := blk_frozen BK66002.out 3))
    go_ret
    exact ⟨by rfl, by exact HB.out⟩
  ·rw [if_neg c4] at H
   have c4b0 : (a0_1 == a1_1) = false := beq_eq_false_iff_ne.mpr c4
   have c4b1 : (a0_1 != a1_1) = true := bne_iff_ne.mpr c4
   obtain rfl := Option.some.inj H
   go_enter Try.func65, Try.ntmps65
   go_wp2_with (first | ((with_reducible refine gate_dst (N := 2) rfl ?_); refine box_event ?hg (N := 2) ?hd (cs := #[.int .i64 a0_0, .int .i64 a0_1, .int .i64 a0_2, .int .i64 a0_3]) (t := 41) ?hr ?_; (case hd => rfl); (case hg => rfl); (case hr => (go_simp; done)); intro gb66001 hg w22 hbox hb; have n0_ := mk (below_step HB.out hb); have n1_ := mk (hbox); have n2_ := mk ((by rw [hg]; exact (below_size HB.out) : w.heap.size ≤ gb66001)); have n3_ := mk ((by rw [hg]; exact (below_size HB.out) : w.heap.size ≤ gb66001)); clear HB; have HB := n0_; have BK66001 := n1_; have GW66001 := n2_; have GE66001 := n3_; clear n0_ n1_ n2_ n3_; clear hb hbox hg) | ((with_reducible refine gate_dst (N := 3) rfl ?_); refine box_event ?hg (N := 3) ?hd (cs := #[.int .i64 a1_0, .int .i64 a1_1, .int .i64 a1_2, .int .i64 a1_3]) (t := 41) ?hr ?_; (case hd => rfl); (case hg => rfl); (case hr => (go_simp; done)); intro gb66002 hg w23 hbox hb; have n0_ := mk (blk_below BK66001.out hb); have n1_ := mk (below_step HB.out hb); have n2_ := mk (hbox); have n3_ := mk ((by rw [hg]; exact (below_size HB.out) : w.heap.size ≤ gb66002)); have n4_ := mk ((by rw [hg]; exact (below_size HB.out) : w.heap.size ≤ gb66002)); have n5_ := mk ((by rw [hg]; exact Nat.ne_of_lt (blk_lt BK66001.out) : gb66001 ≠ gb66002)); have n6_ := mk ((by rw [hg]; exact Nat.ne_of_gt (blk_lt BK66001.out) : gb66002 ≠ gb66001)); clear BK66001; clear HB; have BK66001 := n0_; have HB := n1_; have BK66002 := n2_; have GW66002 := n3_; have GE66002 := n4_; have NB66001_66002 := n5_; have NB66002_66001 := n6_; clear n0_ n1_ n2_ n3_ n4_ n5_ n6_; clear hb hbox hg; have hnb24 := NB66001_66002.out; have hnc24 := NB66002_66001.out; have hcz25_0 : w23.cell? ⟨gb66001, 0, none⟩ = some (.int .i64 a0_0) := (blk_cell BK66001.out 0).trans rfl; have hcz25_1 : w23.cell? ⟨gb66001, 1, none⟩ = some (.int .i64 a0_1) := (blk_cell BK66001.out 1).trans rfl; have hcz25_2 : w23.cell? ⟨gb66001, 2, none⟩ = some (.int .i64 a0_2) := (blk_cell BK66001.out 2).trans rfl; have hcz25_3 : w23.cell? ⟨gb66001, 3, none⟩ = some (.int .i64 a0_3) := (blk_cell BK66001.out 3).trans rfl; have hfz25_0 := blk_frozen BK66001.out 0; have hfz25_1 := blk_frozen BK66001.out 1; have hfz25_2 := blk_frozen BK66001.out 2; have hfz25_3 := blk_frozen BK66001.out 3; have hcz26_0 : w23.cell? ⟨gb66002, 0, none⟩ = some (.int .i64 a1_0) := (blk_cell BK66002.out 0).trans rfl; have hcz26_1 : w23.cell? ⟨gb66002, 1, none⟩ = some (.int .i64 a1_1) := (blk_cell BK66002.out 1).trans rfl; have hcz26_2 : w23.cell? ⟨gb66002, 2, none⟩ = some (.int .i64 a1_2) := (blk_cell BK66002.out 2).trans rfl; have hcz26_3 : w23.cell? ⟨gb66002, 3, none⟩ = some (.int .i64 a1_3) := (blk_cell BK66002.out 3).trans rfl; have hfz26_0 := blk_frozen BK66002.out 0; have hfz26_1 := blk_frozen BK66002.out 1; have hfz26_2 := blk_frozen BK66002.out 2; have hfz26_3 := blk_frozen BK66002.out 3))
   go_ret
   exact ⟨by rfl, by exact HB.out⟩
 ·rw [if_neg c3] at H
  have c3b0 : (a0_0 == a1_0) = false := beq_eq_false_iff_ne.mpr c3
  have c3b1 : (a0_0 != a1_0) = true := bne_iff_ne.mpr c3
  obtain rfl := Option.some.inj H
  go_enter Try.func65, Try.ntmps65
  go_wp2_with (first | ((with_reducible refine gate_dst (N := 2) rfl ?_); refine box_event ?hg (N := 2) ?hd (cs := #[.int .i64 a0_0, .int .i64 a0_1, .int .i64 a0_2, .int .i64 a0_3]) (t := 41) ?hr ?_; (case hd => rfl); (case hg => rfl); (case hr => (go_simp; done)); intro gb66001 hg w27 hbox hb; have n0_ := mk (below_step HB.out hb); have n1_ := mk (hbox); have n2_ := mk ((by rw [hg]; exact (below_size HB.out) : w.heap.size ≤ gb66001)); have n3_ := mk ((by rw [hg]; exact (below_size HB.out) : w.heap.size ≤ gb66001)); clear HB; have HB := n0_; have BK66001 := n1_; have GW66001 := n2_; have GE66001 := n3_; clear n0_ n1_ n2_ n3_; clear hb hbox hg) | ((with_reducible refine gate_dst (N := 3) rfl ?_); refine box_event ?hg (N := 3) ?hd (cs := #[.int .i64 a1_0, .int .i64 a1_1, .int .i64 a1_2, .int .i64 a1_3]) (t := 41) ?hr ?_; (case hd => rfl); (case hg => rfl); (case hr => (go_simp; done)); intro gb66002 hg w28 hbox hb; have n0_ := mk (blk_below BK66001.out hb); have n1_ := mk (below_step HB.out hb); have n2_ := mk (hbox); have n3_ := mk ((by rw [hg]; exact (below_size HB.out) : w.heap.size ≤ gb66002)); have n4_ := mk ((by rw [hg]; exact (below_size HB.out) : w.heap.size ≤ gb66002)); have n5_ := mk ((by rw [hg]; exact Nat.ne_of_lt (blk_lt BK66001.out) : gb66001 ≠ gb66002)); have n6_ := mk ((by rw [hg]; exact Nat.ne_of_gt (blk_lt BK66001.out) : gb66002 ≠ gb66001)); clear BK66001; clear HB; have BK66001 := n0_; have HB := n1_; have BK66002 := n2_; have GW66002 := n3_; have GE66002 := n4_; have NB66001_66002 := n5_; have NB66002_66001 := n6_; clear n0_ n1_ n2_ n3_ n4_ n5_ n6_; clear hb hbox hg; have hnb29 := NB66001_66002.out; have hnc29 := NB66002_66001.out; have hcz30_0 : w28.cell? ⟨gb66001, 0, none⟩ = some (.int .i64 a0_0) := (blk_cell BK66001.out 0).trans rfl; have hcz30_1 : w28.cell? ⟨gb66001, 1, none⟩ = some (.int .i64 a0_1) := (blk_cell BK66001.out 1).trans rfl; have hcz30_2 : w28.cell? ⟨gb66001, 2, none⟩ = some (.int .i64 a0_2) := (blk_cell BK66001.out 2).trans rfl; have hcz30_3 : w28.cell? ⟨gb66001, 3, none⟩ = some (.int .i64 a0_3) := (blk_cell BK66001.out 3).trans rfl; have hfz30_0 := blk_frozen BK66001.out 0; have hfz30_1 := blk_frozen BK66001.out 1; have hfz30_2 := blk_frozen BK66001.out 2; have hfz30_3 := blk_frozen BK66001.out 3; have hcz31_0 : w28.cell? ⟨gb66002, 0, none⟩ = some (.int .i64 a1_0) := (blk_cell BK66002.out 0).trans rfl; have hcz31_1 : w28.cell? ⟨gb66002, 1, none⟩ = some (.int .i64 a1_1) := (blk_cell BK66002.out 1).trans rfl; have hcz31_2 : w28.cell? ⟨gb66002, 2, none⟩ = some (.int .i64 a1_2) := (blk_cell BK66002.out 2).trans rfl; have hcz31_3 : w28.cell? ⟨gb66002, 3, none⟩ = some (.int .i64 a1_3) := (blk_cell BK66002.out 3).trans rfl; have hfz31_0 := blk_frozen BK66002.out 0; have hfz31_1 := blk_frozen BK66002.out 1; have hfz31_2 := blk_frozen BK66002.out 2; have hfz31_3 := blk_frozen BK66002.out 3))
  go_ret
  exact ⟨by rfl, by exact HB.out⟩


def laws_eqStep.f (k : Nat) (a0_0 : Int) (a0_1 : Int) (a0_2 : Int) (a0_3 : Int) (a0_4 : Int) (l0_5 : List Int) (a1_0 : Int) (a1_1 : Int) (a1_2 : Int) (a1_3 : Int) (a1_4 : Int) (l1_5 : List Int) : Option (Bool) := if a0_0 = a1_0 then ((laws_eqBox.f a0_1 a0_2 a0_3 a0_4 a1_1 a1_2 a1_3 a1_4).bind fun t35003 => (if t35003 = true then ((laws_eqIntS.f k l0_5 l1_5).bind fun t35004 => (if t35004 = true then (some true) else (some false))) else (some false))) else (some false)
theorem laws_eqStep.mono : ∀ a0 a1 a2 a3 a4 a5 a6 a7 a8 a9 a10 a11 k, LeO (laws_eqStep.f k a0 a1 a2 a3 a4 a5 a6 a7 a8 a9 a10 a11) (laws_eqStep.f (k + 1) a0 a1 a2 a3 a4 a5 a6 a7 a8 a9 a10 a11) := by
 intro a0 a1 a2 a3 a4 a5 a6 a7 a8 a9 a10 a11 k
 unfold laws_eqStep.f
 repeat' first
   | (with_reducible exact laws_eqIntS.mono _ _ _)
   | (with_reducible exact LeO.refl _)
   | (with_reducible exact LeO.none _)
   | (with_reducible refine LeO.ite ?_ ?_)
   | (with_reducible refine LeO.bind ?_ (fun _ => ?_))
   | exact laws_eqIntS.mono _ _ _
   | exact LeO.none _
   | refine LeO.ite ?_ ?_
   | refine LeO.bind ?_ (fun _ => ?_)
set_option maxHeartbeats 8000000 in
set_option maxRecDepth 100000 in
theorem laws_eqStep.calls (k : Nat) (a0_0 : Int) (a0_1 : Int) (a0_2 : Int) (a0_3 : Int) (a0_4 : Int) (A0_5 : Option Addr) (c0_5 : Nat) (l0_5 : List Int) (a1_0 : Int) (a1_1 : Int) (a1_2 : Int) (a1_3 : Int) (a1_4 : Int) (A1_5 : Option Addr) (c1_5 : Nat) (l1_5 : List Int) (r : Bool) (w : World) (hr0_5 : Kd.C (Kd.int .i64) w A0_5 l0_5.length l0_5) (hc0_5 : l0_5.length ≤ c0_5) (hr1_5 : Kd.C (Kd.int .i64) w A1_5 l1_5.length l1_5) (hc1_5 : l1_5.length ≤ c1_5) (h : laws_eqStep.f k a0_0 a0_1 a0_2 a0_3 a0_4 l0_5 a1_0 a1_1 a1_2 a1_3 a1_4 l1_5 = some r) (hrt : r = true) :
  Calls Try.prog 34 #[.agg #[.int .i64 a0_0, .int .i64 a0_1, .int .i64 a0_2, .int .i64 a0_3, .int .i64 a0_4, .slice A0_5 l0_5.length c0_5], .agg #[.int .i64 a1_0, .int .i64 a1_1, .int .i64 a1_2, .int .i64 a1_3, .int .i64 a1_4, .slice A1_5 l1_5.length c1_5]] w fun e w' => e = .returned (.bool r) ∧ Below w.heap.size w w' := by
 have HRT := mk hrt
 clear hrt
 have hu43 := Try.underlying43
 have hu41 := Try.underlying41
 have HR0_5 := mk hr0_5
 have HC0_5 := mk hc0_5
 clear hr0_5 hc0_5
 have HR1_5 := mk hr1_5
 have HC1_5 := mk hc1_5
 clear hr1_5 hc1_5
 have HB := mk (Below.refl w.heap.size w)
 have H : (if a0_0 = a1_0 then ((laws_eqBox.f a0_1 a0_2 a0_3 a0_4 a1_1 a1_2 a1_3 a1_4).bind fun t35003 => (if t35003 = true then ((laws_eqIntS.f k l0_5 l1_5).bind fun t35004 => (if t35004 = true then (some true) else (some false))) else (some false))) else (some false)) = some r := h
 clear h
 by_cases c3 : a0_0 = a1_0
 ·rw [if_pos c3] at H
  have c3b0 : (a0_0 == a1_0) = true := beq_iff_eq.mpr c3
  have c3b1 : (a0_0 != a1_0) = false := bne_eq_false_iff_eq.mpr c3
  clear c3
  replace H := Option.bind_eq_some_iff.mp H
  obtain ⟨t35003, A40, H⟩ := H
  replace H : (if t35003 = true then ((laws_eqIntS.f k l0_5 l1_5).bind fun t35004 => (if t35004 = true then (some true) else (some false))) else (some false)) = some r := H
  have A4 := mk A40
  clear A40
  by_cases c5 : t35003 = true
  ·subst c5
   have H1 : ((laws_eqIntS.f k l0_5 l1_5).bind fun t35004 => (if t35004 = true then (some true) else (some false))) = some r := by rw [if_pos rfl] at H; exact H
   clear H
   have H := H1
   clear H1
   replace H := Option.bind_eq_some_iff.mp H
   obtain ⟨t35004, A60, H⟩ := H
   replace H : (if t35004 = true then (some true) else (some false)) = some r := H
   have A6 := mk A60
   clear A60
   by_cases c7 : t35004 = true
   ·subst c7
    have H1 : (some true) = some r := by rw [if_pos rfl] at H; exact H
    clear H
    have H := H1
    clear H1
    obtain rfl := Option.some.inj H
    go_enter Try.func34, Try.ntmps34
    go_wp2_with (first | ((with_reducible refine gate_dst (N := 2) rfl ?_); refine box_event ?hg (N := 2) ?hd (cs := #[.int .i64 a0_0, .int .i64 a0_1, .int .i64 a0_2, .int .i64 a0_3, .int .i64 a0_4, .slice A0_5 l0_5.length c0_5]) (t := 43) ?hr ?_; (case hd => rfl); (case hg => rfl); (case hr => first | (go_simp; done) | (go_simp; rfl)); intro gb35001 hg w8 hbox hb; have n0_ := mk (below_step (by repeat (first | (with_reducible first | exact HB.out | apply below_alloc | apply pw_below_drewN | apply below_drew1) | exact HB.out)) hb); have n1_ := mk (hbox); have n2_ := mk ((by rw [hg]; exact (below_size (by repeat (first | (with_reducible first | exact HB.out | apply below_alloc | apply pw_below_drewN | apply below_drew1) | exact HB.out))) : w.heap.size ≤ gb35001)); have n3_ := mk ((by rw [hg]; exact (below_size (by repeat (first | (with_reducible first | exact HB.out | apply below_alloc | apply pw_below_drewN | apply below_drew1) | exact HB.out))) : w.heap.size ≤ gb35001)); clear HB; have HB := n0_; have BK35001 := n1_; have GW35001 := n2_; have GE35001 := n3_; clear n0_ n1_ n2_ n3_; clear hb hbox hg) | ((with_reducible refine gate_dst (N := 3) rfl ?_); refine box_event ?hg (N := 3) ?hd (cs := #[.int .i64 a1_0, .int .i64 a1_1, .int .i64 a1_2, .int .i64 a1_3, .int .i64 a1_4, .slice A1_5 l1_5.length c1_5]) (t := 43) ?hr ?_; (case hd => rfl); (case hg => rfl); (case hr => first | (go_simp; done) | (go_simp; rfl)); intro gb35002 hg w9 hbox hb; have n0_ := mk (blk_below (g := gb35001) (o := .cells #[.int .i64 a0_0, .int .i64 a0_1, .int .i64 a0_2, .int .i64 a0_3, .int .i64 a0_4, .slice A0_5 l0_5.length c0_5] 43 (0, 0)) (by (with_reducible repeat (first | refine blk_drewN ?_ _ | refine blk_drew ?_ | refine blk_alloc ?_ _)); exact BK35001.out) hb); have n1_ := mk (below_step (by repeat (first | (with_reducible first | exact HB.out | apply below_alloc | apply pw_below_drewN | apply below_drew1 | refine below_set ?_ GE35001.out) | exact HB.out)) hb); have n2_ := mk (hbox); have n3_ := mk ((by rw [hg]; exact (below_size (by repeat (first | (with_reducible first | exact HB.out | apply below_alloc | apply pw_below_drewN | apply below_drew1 | refine below_set ?_ GE35001.out) | exact HB.out))) : w.heap.size ≤ gb35002)); have n4_ := mk ((by rw [hg]; exact (below_size (by repeat (first | (with_reducible first | exact HB.out | apply below_alloc | apply pw_below_drewN | apply below_drew1 | refine below_set ?_ GE35001.out) | exact HB.out))) : w.heap.size ≤ gb35002)); have n5_ := mk ((by rw [hg]; exact Nat.ne_of_lt (blk_lt (g := gb35001) (o := .cells #[.int .i64 a0_0, .int .i64 a0_1, .int .i64 a0_2, .int .i64 a0_3, .int .i64 a0_4, .slice A0_5 l0_5.length c0_5] 43 (0, 0)) (by (with_reducible repeat (first | refine blk_drewN ?_ _ | refine blk_drew ?_ | refine blk_alloc ?_ _)); exact BK35001.out)) : gb35001 ≠ gb35002)); have n6_ := mk ((by rw [hg]; exact Nat.ne_of_gt (blk_lt (g := gb35001) (o := .cells #[.int .i64 a0_0, .int .i64 a0_1, .int .i64 a0_2, .int .i64 a0_3, .int .i64 a0_4, .slice A0_5 l0_5.length c0_5] 43 (0, 0)) (by (with_reducible repeat (first | refine blk_drewN ?_ _ | refine blk_drew ?_ | refine blk_alloc ?_ _)); exact BK35001.out)) : gb35002 ≠ gb35001)); clear BK35001; clear HB; have BK35001 := n0_; have HB := n1_; have BK35002 := n2_; have GW35002 := n3_; have GE35002 := n4_; have NB35001_35002 := n5_; have NB35002_35001 := n6_; clear n0_ n1_ n2_ n3_ n4_ n5_ n6_; clear hb hbox hg; have hnb10 := NB35001_35002.out; have hnc10 := NB35002_35001.out; have hcz11_0 : w9.cell? ⟨gb35001, 0, none⟩ = some (.int .i64 a0_0) := (blk_cell BK35001.out 0).trans rfl; have hcz11_1 : w9.cell? ⟨gb35001, 1, none⟩ = some (.int .i64 a0_1) := (blk_cell BK35001.out 1).trans rfl; have hcz11_2 : w9.cell? ⟨gb35001, 2, none⟩ = some (.int .i64 a0_2) := (blk_cell BK35001.out 2).trans rfl; have hcz11_3 : w9.cell? ⟨gb35001, 3, none⟩ = some (.int .i64 a0_3) := (blk_cell BK35001.out 3).trans rfl; have hcz11_4 : w9.cell? ⟨gb35001, 4, none⟩ = some (.int .i64 a0_4) := (blk_cell BK35001.out 4).trans rfl; have hcz11_5 : w9.cell? ⟨gb35001, 5, none⟩ = some (.slice A0_5 l0_5.length c0_5) := (blk_cell BK35001.out 5).trans rfl; have hfz11_0 := blk_frozen BK35001.out 0; have hfz11_1 := blk_frozen BK35001.out 1; have hfz11_2 := blk_frozen BK35001.out 2; have hfz11_3 := blk_frozen BK35001.out 3; have hfz11_4 := blk_frozen BK35001.out 4; have hfz11_5 := blk_frozen BK35001.out 5; have hcz12_0 : w9.cell? ⟨gb35002, 0, none⟩ = some (.int .i64 a1_0) := (blk_cell BK35002.out 0).trans rfl; have hcz12_1 : w9.cell? ⟨gb35002, 1, none⟩ = some (.int .i64 a1_1) := (blk_cell BK35002.out 1).trans rfl; have hcz12_2 : w9.cell? ⟨gb35002, 2, none⟩ = some (.int .i64 a1_2) := (blk_cell BK35002.out 2).trans rfl; have hcz12_3 : w9.cell? ⟨gb35002, 3, none⟩ = some (.int .i64 a1_3) := (blk_cell BK35002.out 3).trans rfl; have hcz12_4 : w9.cell? ⟨gb35002, 4, none⟩ = some (.int .i64 a1_4) := (blk_cell BK35002.out 4).trans rfl; have hcz12_5 : w9.cell? ⟨gb35002, 5, none⟩ = some (.slice A1_5 l1_5.length c1_5) := (blk_cell BK35002.out 5).trans rfl; have hfz12_0 := blk_frozen BK35002.out 0; have hfz12_1 := blk_frozen BK35002.out 1; have hfz12_2 := blk_frozen BK35002.out 2; have hfz12_3 := blk_frozen BK35002.out 3; have hfz12_4 := blk_frozen BK35002.out 4; have hfz12_5 := blk_frozen BK35002.out 5) | ((with_reducible refine gate_callee (f := 65) rfl ?_); refine goesL_ (some 14) rfl rfl Try.func65 (by kernel_rfl) rfl #[.agg #[.int .i64 a0_1, .int .i64 a0_2, .int .i64 a0_3, .int .i64 a0_4], .agg #[.int .i64 a1_1, .int .i64 a1_2, .int .i64 a1_3, .int .i64 a1_4]] rfl (by (try simp only [List.map_toArray, List.map_cons, List.map_nil]); first | done | rfl | (simp only [List.length_drop, List.length_take]; rfl)) ?_; (with_reducible refine (laws_eqBox.calls a0_1 a0_2 a0_3 a0_4 a1_1 a1_2 a1_3 a1_4 true _ A4.out).mono ?_); rintro e w13 ⟨rfl, hb⟩; refine ⟨_, rfl, ?_⟩; have n0_ := mk (blk_below (g := gb35001) (o := .cells #[.int .i64 a0_0, .int .i64 a0_1, .int .i64 a0_2, .int .i64 a0_3, .int .i64 a0_4, .slice A0_5 l0_5.length c0_5] 43 (0, 0)) (by (with_reducible repeat (first | refine blk_drewN ?_ _ | refine blk_drew ?_ | refine blk_alloc ?_ _)); exact BK35001.out) hb); have n1_ := mk (blk_below (g := gb35002) (o := .cells #[.int .i64 a1_0, .int .i64 a1_1, .int .i64 a1_2, .int .i64 a1_3, .int .i64 a1_4, .slice A1_5 l1_5.length c1_5] 43 (0, 0)) (by (with_reducible repeat (first | refine blk_drewN ?_ _ | refine blk_drew ?_ | refine blk_alloc ?_ _)); exact BK35002.out) hb); have n2_ := mk (below_step (by repeat (first | (with_reducible first | exact HB.out | apply below_alloc | apply pw_below_drewN | apply below_drew1 | refine below_set ?_ GE35001.out | refine below_set ?_ GE35002.out) | exact HB.out)) hb); clear BK35001; clear BK35002; clear HB; have BK35001 := n0_; have BK35002 := n1_; have HB := n2_; clear n0_ n1_ n2_; (try clear hb); (try clear hb2); (try clear hk); (try clear hi); have hcz14_0 : w13.cell? ⟨gb35001, 0, none⟩ = some (.int .i64 a0_0) := (blk_cell BK35001.out 0).trans rfl; have hcz14_1 : w13.cell? ⟨gb35001, 1, none⟩ = some (.int .i64 a0_1) := (blk_cell BK35001.out 1).trans rfl; have hcz14_2 : w13.cell? ⟨gb35001, 2, none⟩ = some (.int .i64 a0_2) := (blk_cell BK35001.out 2).trans rfl; have hcz14_3 : w13.cell? ⟨gb35001, 3, none⟩ = some (.int .i64 a0_3) := (blk_cell BK35001.out 3).trans rfl; have hcz14_4 : w13.cell? ⟨gb35001, 4, none⟩ = some (.int .i64 a0_4) := (blk_cell BK35001.out 4).trans rfl; have hcz14_5 : w13.cell? ⟨gb35001, 5, none⟩ = some (.slice A0_5 l0_5.length c0_5) := (blk_cell BK35001.out 5).trans rfl; have hfz14_0 := blk_frozen BK35001.out 0; have hfz14_1 := blk_frozen BK35001.out 1; have hfz14_2 := blk_frozen BK35001.out 2; have hfz14_3 := blk_frozen BK35001.out 3; have hfz14_4 := blk_frozen BK35001.out 4; have hfz14_5 := blk_frozen BK35001.out 5; have hcz15_0 : w13.cell? ⟨gb35002, 0, none⟩ = some (.int .i64 a1_0) := (blk_cell BK35002.out 0).trans rfl; have hcz15_1 : w13.cell? ⟨gb35002, 1, none⟩ = some (.int .i64 a1_1) := (blk_cell BK35002.out 1).trans rfl; have hcz15_2 : w13.cell? ⟨gb35002, 2, none⟩ = some (.int .i64 a1_2) := (blk_cell BK35002.out 2).trans rfl; have hcz15_3 : w13.cell? ⟨gb35002, 3, none⟩ = some (.int .i64 a1_3) := (blk_cell BK35002.out 3).trans rfl; have hcz15_4 : w13.cell? ⟨gb35002, 4, none⟩ = some (.int .i64 a1_4) := (blk_cell BK35002.out 4).trans rfl; have hcz15_5 : w13.cell? ⟨gb35002, 5, none⟩ = some (.slice A1_5 l1_5.length c1_5) := (blk_cell BK35002.out 5).trans rfl; have hfz15_0 := blk_frozen BK35002.out 0; have hfz15_1 := blk_frozen BK35002.out 1; have hfz15_2 := blk_frozen BK35002.out 2; have hfz15_3 := blk_frozen BK35002.out 3; have hfz15_4 := blk_frozen BK35002.out 4; have hfz15_5 := blk_frozen BK35002.out 5) | ((with_reducible refine gate_callee (f := 46) rfl ?_); refine goesL_ (some 20) rfl rfl Try.func46 (by kernel_rfl) rfl #[.slice A0_5 l0_5.length c0_5, .slice A1_5 l1_5.length c1_5] rfl (by (try simp only [List.map_toArray, List.map_cons, List.map_nil]); first | done | rfl | (simp only [List.length_drop, List.length_take]; rfl)) ?_; (with_reducible refine (laws_eqIntS.calls k _ _ l0_5 _ _ l1_5 true _ ?side1 ?side2 ?side3 ?side4 A6.out).mono ?_); (case side1 => repeat (first | exact (Kd.C_below HR0_5.out HB.out) | (with_reducible refine Kd.C_alloc ?_ _) | (with_reducible refine Kd.C_drewN ?_ _) | (with_reducible refine Kd.C_drew ?_))); (case side2 => exact HC0_5.out); (case side3 => repeat (first | exact (Kd.C_below HR1_5.out HB.out) | (with_reducible refine Kd.C_alloc ?_ _) | (with_reducible refine Kd.C_drewN ?_ _) | (with_reducible refine Kd.C_drew ?_))); (case side4 => exact HC1_5.out); rintro e w' ⟨rfl, ⟨nd, rfl⟩⟩; refine ⟨_, rfl, ?_⟩))
    go_ret
    exact ⟨by first | rfl | (simp [errW_none, errW_some] <;> rfl) | (simp [*, errW_none, errW_some] <;> rfl), by repeat (first | (with_reducible first | exact HB.out | apply below_alloc | apply pw_below_drewN | apply below_drew1 | refine below_set ?_ GE35001.out | refine below_set ?_ GE35002.out) | exact HB.out)⟩
   ·replace c7 := Bool.eq_false_iff.mpr c7
    subst c7
    have H1 : (some false) = some r := by rw [if_neg (show ¬ (false = true) by decide)] at H; exact H
    clear H
    have H := H1
    clear H1
    exact absurd ((Option.some.inj H).trans HRT.out) (by decide)
  ·replace c5 := Bool.eq_false_iff.mpr c5
   subst c5
   have H1 : (some false) = some r := by rw [if_neg (show ¬ (false = true) by decide)] at H; exact H
   clear H
   have H := H1
   clear H1
   exact absurd ((Option.some.inj H).trans HRT.out) (by decide)
 ·rw [if_neg c3] at H
  have c3b0 : (a0_0 == a1_0) = false := beq_eq_false_iff_ne.mpr c3
  have c3b1 : (a0_0 != a1_0) = true := bne_iff_ne.mpr c3
  exact absurd ((Option.some.inj H).trans HRT.out) (by decide)


def laws_eqStepS.l0 : Nat → List (S43) → List (S43) → Int → Option (Bool)
 | 0, _, _, _ => none
 | k + 1, x0, x1, x5 => if x5 < (x0.length : Int) then (if 0 ≤ x5 then (if x5 < (x1.length : Int) then ((laws_eqStep.f k ((rd_T43 x0 x5).f0) ((rd_T43 x0 x5).f1.f0) ((rd_T43 x0 x5).f1.f1) ((rd_T43 x0 x5).f1.f2) ((rd_T43 x0 x5).f1.f3) ((rd_T43 x0 x5).f2) ((rd_T43 x1 x5).f0) ((rd_T43 x1 x5).f1.f0) ((rd_T43 x1 x5).f1.f1) ((rd_T43 x1 x5).f1.f2) ((rd_T43 x1 x5).f1.f3) ((rd_T43 x1 x5).f2)).bind fun t18003 => (if t18003 = true then (laws_eqStepS.l0 k x0 x1 (wrap64 (x5 + 1))) else (some false))) else (none)) else (none)) else (some true)
def laws_eqStepS.f (k : Nat) (l0 : List (S43)) (l1 : List (S43)) : Option (Bool) := if (l0.length : Int) = (l1.length : Int) then (laws_eqStepS.l0 k l0 l1 0) else (some false)
theorem laws_eqStepS.mono_l : ∀ k, (∀ y0 y1 y2, LeO (laws_eqStepS.l0 k y0 y1 y2) (laws_eqStepS.l0 (k + 1) y0 y1 y2))
 | 0 => fun _ _ _ r h => by simp [laws_eqStepS.l0] at h
 | k + 1 => by
  have ih0 := laws_eqStepS.mono_l k
  ·intro y0 y1 y2
   unfold laws_eqStepS.l0
   repeat' first
   | (with_reducible exact ih0 _ _ _)
   | (with_reducible exact laws_eqStep.mono _ _ _ _ _ _ _ _ _ _ _ _ _)
   | (with_reducible exact LeO.refl _)
   | (with_reducible exact LeO.none _)
   | (with_reducible refine LeO.ite ?_ ?_)
   | (with_reducible refine LeO.bind ?_ (fun _ => ?_))
   | exact ih0 _ _ _
   | exact laws_eqStep.mono _ _ _ _ _ _ _ _ _ _ _ _ _
   | exact LeO.none _
   | refine LeO.ite ?_ ?_
   | refine LeO.bind ?_ (fun _ => ?_)
theorem laws_eqStepS.mono : ∀ a0 a1 k, LeO (laws_eqStepS.f k a0 a1) (laws_eqStepS.f (k + 1) a0 a1) := by
 intro a0 a1 k
 have ih0 := laws_eqStepS.mono_l k
 unfold laws_eqStepS.f
 repeat' first
   | (with_reducible exact ih0 _ _ _)
   | (with_reducible exact laws_eqStep.mono _ _ _ _ _ _ _ _ _ _ _ _ _)
   | (with_reducible exact LeO.refl _)
   | (with_reducible exact LeO.none _)
   | (with_reducible refine LeO.ite ?_ ?_)
   | (with_reducible refine LeO.bind ?_ (fun _ => ?_))
   | exact ih0 _ _ _
   | exact laws_eqStep.mono _ _ _ _ _ _ _ _ _ _ _ _ _
   | exact LeO.none _
   | refine LeO.ite ?_ ?_
   | refine LeO.bind ?_ (fun _ => ?_)
def laws_eqStepS.T6 : Bool × List (List Nat × List Nat) := (true, [([], []), ([], []), ([0, 1], [0, 1]), ([2], [2]), ([], []), ([], []), ([4, 5], [4, 5]), ([6], [6]), ([3, 7], [3, 7]), ([8], [8])])
def laws_eqStepS.B6 : List Nat := [0, 0, 3, 7, 0, 0, 48, 112, 255, 511]
theorem laws_eqStepS.tab6 : rtab .any (opsOf Try.f17 6) = laws_eqStepS.T6 := by kernel_rfl
theorem laws_eqStepS.bits6 : waitsOk laws_eqStepS.T6.2 laws_eqStepS.B6 = true := by kernel_rfl
set_option maxHeartbeats 8000000 in
set_option maxRecDepth 100000 in
theorem laws_eqStepS.calls (k : Nat) (A0 : Option Addr) (c0 : Nat) (l0 : List (S43)) (A1 : Option Addr) (c1 : Nat) (l1 : List (S43)) (r : Bool) (w : World) (hr0 : Kd.C k43 w A0 l0.length l0) (hc0 : l0.length ≤ c0) (hr1 : Kd.C k43 w A1 l1.length l1) (hc1 : l1.length ≤ c1) (h : laws_eqStepS.f k l0 l1 = some r) (hrt : r = true) :
  Calls Try.prog 17 #[.slice A0 l0.length c0, .slice A1 l1.length c1] w fun e w' => e = .returned (.bool r) ∧ Below w.heap.size w w' := by
 have HRT := mk hrt
 clear hrt
 have hu43 := Try.underlying43
 have HR0 := mk hr0
 have HC0 := mk hc0
 clear hr0 hc0
 have HR1 := mk hr1
 have HC1 := mk hc1
 clear hr1 hc1
 have HB := mk (Below.refl w.heap.size w)
 have H : (if (l0.length : Int) = (l1.length : Int) then (laws_eqStepS.l0 k l0 l1 0) else (some false)) = some r := h
 clear h
 by_cases c3 : (l0.length : Int) = (l1.length : Int)
 ·rw [if_pos c3] at H
  have c3b0 : ((l0.length : Int) == (l1.length : Int)) = true := beq_iff_eq.mpr c3
  have c3b1 : ((l0.length : Int) != (l1.length : Int)) = false := bne_eq_false_iff_eq.mpr c3
  have c3b2 : (l0.length == l1.length) = true := by first | simpa using c3 | (simp at c3 ⊢; omega)
  clear c3
  have H' := mk H
  clear H
  go_enter Try.func17, Try.ntmps17
  go_wp2
  go_loopg [5] k (fun kq v5 w' => ∃ (x5_1 : Int), v5 = .int .i64 x5_1 ∧ Aside0 (laws_eqStepS.l0 kq l0 l1 x5_1 = some r) ∧ Aside0 (kq ≤ k) ∧ Aside0 (Below w.heap.size w w'))
  case atStart => exact ⟨(0), (by first | rfl | (simp; done) | (simp [*]; done)), H', ⟨Nat.le_refl _⟩, ⟨by repeat (first | (with_reducible first | exact HB.out | apply below_alloc | apply pw_below_drewN | apply below_drew1) | exact HB.out)⟩⟩
  case round =>
   clear H'
   try clear c1
   try clear p2
   try clear c3
   try clear c3b0
   try clear c3b1
   try clear c3b2
   obtain ⟨x5_1, rfl, HA, HK1, HB⟩ := hrel
   cases gk with
   | zero => exact absurd HA.out (by simp [laws_eqStepS.l0])
   | succ k1 =>
    have H := HA.out
    clear HA
    simp only [laws_eqStepS.l0] at H
    by_cases c4 : x5_1 < (l0.length : Int)
    ·rw [if_pos c4] at H
     have c4b0 : decide (x5_1 < (l0.length : Int)) = true := decide_eq_true c4
     clear c4
     by_cases c5 : 0 ≤ x5_1
     ·rw [if_pos c5] at H
      have c5b0 : decide (0 ≤ x5_1) = true := decide_eq_true c5
      clear c5
      by_cases c6 : x5_1 < (l1.length : Int)
      ·rw [if_pos c6] at H
       have c6b0 : decide (x5_1 < (l1.length : Int)) = true := decide_eq_true c6
       clear c6
       replace H := Option.bind_eq_some_iff.mp H
       obtain ⟨t18003, A70, H⟩ := H
       replace H : (if t18003 = true then (laws_eqStepS.l0 k1 l0 l1 (wrap64 (x5_1 + 1))) else (some false)) = some r := H
       have A7 := mk A70
       clear A70
       by_cases c8 : t18003 = true
       ·subst c8
        have H1 : (laws_eqStepS.l0 k1 l0 l1 (wrap64 (x5_1 + 1))) = some r := by rw [if_pos rfl] at H; exact H
        clear H
        have H := H1
        clear H1
        have H' := mk H
        clear H
        try go_wp2
        have n0_ := mk (below_drew1 HB.out)
        clear HB
        have HB := n0_
        clear n0_
        have p18001 : 0 ≤ (x5_1 : Int) := of_decide_eq_true (by first | (with_reducible assumption) | assumption)
        have q18001 : x5_1 < (l0.length : Int) := of_decide_eq_true (by first | (with_reducible assumption) | assumption)
        obtain ⟨ad18001, A18001_5, c18001_5, e18001, hx18001_0, hx18001_1, hx18001_2, hx18001_3, hx18001_4, hx18001_5, hl18001_5, hi18001_5⟩ := at_T43 HR0.out x5_1 p18001 q18001
        have hw18001_5 := hx18001_5
        have hw18001_4 := hx18001_4
        have hw18001_3 := hx18001_3
        have hw18001_2 := hx18001_2
        have hw18001_1 := hx18001_1
        have hw18001_0 := hx18001_0
        cases e18001
        replace hx18001_0 := (HB.out.cell (World.block_lt_of_cell? w _ hx18001_0)).trans hx18001_0
        replace hx18001_1 := (HB.out.cell (World.block_lt_of_cell? w _ hx18001_1)).trans hx18001_1
        replace hx18001_2 := (HB.out.cell (World.block_lt_of_cell? w _ hx18001_2)).trans hx18001_2
        replace hx18001_3 := (HB.out.cell (World.block_lt_of_cell? w _ hx18001_3)).trans hx18001_3
        replace hx18001_4 := (HB.out.cell (World.block_lt_of_cell? w _ hx18001_4)).trans hx18001_4
        replace hx18001_5 := (HB.out.cell (World.block_lt_of_cell? w _ hx18001_5)).trans hx18001_5
        have HR18001_5 := mk hi18001_5
        have HC18001_5 := mk hl18001_5
        clear hi18001_5 hl18001_5
        replace p18001 := eq_true p18001
        replace q18001 := eq_true q18001
        have p18002 : 0 ≤ (x5_1 : Int) := of_decide_eq_true (by first | (with_reducible assumption) | assumption)
        have q18002 : x5_1 < (l1.length : Int) := of_decide_eq_true (by first | (with_reducible assumption) | assumption)
        obtain ⟨ad18002, A18002_5, c18002_5, e18002, hx18002_0, hx18002_1, hx18002_2, hx18002_3, hx18002_4, hx18002_5, hl18002_5, hi18002_5⟩ := at_T43 HR1.out x5_1 p18002 q18002
        have hw18002_5 := hx18002_5
        have hw18002_4 := hx18002_4
        have hw18002_3 := hx18002_3
        have hw18002_2 := hx18002_2
        have hw18002_1 := hx18002_1
        have hw18002_0 := hx18002_0
        cases e18002
        replace hx18002_0 := (HB.out.cell (World.block_lt_of_cell? w _ hx18002_0)).trans hx18002_0
        replace hx18002_1 := (HB.out.cell (World.block_lt_of_cell? w _ hx18002_1)).trans hx18002_1
        replace hx18002_2 := (HB.out.cell (World.block_lt_of_cell? w _ hx18002_2)).trans hx18002_2
        replace hx18002_3 := (HB.out.cell (World.block_lt_of_cell? w _ hx18002_3)).trans hx18002_3
        replace hx18002_4 := (HB.out.cell (World.block_lt_of_cell? w _ hx18002_4)).trans hx18002_4
        replace hx18002_5 := (HB.out.cell (World.block_lt_of_cell? w _ hx18002_5)).trans hx18002_5
        have HR18002_5 := mk hi18002_5
        have HC18002_5 := mk hl18002_5
        clear hi18002_5 hl18002_5
        replace p18002 := eq_true p18002
        replace q18002 := eq_true q18002
        refine start_ (n := 10) (S := fun w' => w'.cell? (ad18001.add ((x5_1).toNat * 6)) = some (.int .i64 ((rd_T43 l0 x5_1).f0)) ∧ w'.cell? ⟨(ad18001.add ((x5_1).toNat * 6)).block, (ad18001.add ((x5_1).toNat * 6)).off + 1, none⟩ = some (.int .i64 ((rd_T43 l0 x5_1).f1.f0)) ∧ w'.cell? ⟨(ad18001.add ((x5_1).toNat * 6)).block, (ad18001.add ((x5_1).toNat * 6)).off + 2, none⟩ = some (.int .i64 ((rd_T43 l0 x5_1).f1.f1)) ∧ w'.cell? ⟨(ad18001.add ((x5_1).toNat * 6)).block, (ad18001.add ((x5_1).toNat * 6)).off + 3, none⟩ = some (.int .i64 ((rd_T43 l0 x5_1).f1.f2)) ∧ w'.cell? ⟨(ad18001.add ((x5_1).toNat * 6)).block, (ad18001.add ((x5_1).toNat * 6)).off + 4, none⟩ = some (.int .i64 ((rd_T43 l0 x5_1).f1.f3)) ∧ w'.cell? ⟨(ad18001.add ((x5_1).toNat * 6)).block, (ad18001.add ((x5_1).toNat * 6)).off + 5, none⟩ = some (.slice A18001_5 ((rd_T43 l0 x5_1).f2).length c18001_5) ∧ w'.cell? (ad18002.add ((x5_1).toNat * 6)) = some (.int .i64 ((rd_T43 l1 x5_1).f0)) ∧ w'.cell? ⟨(ad18002.add ((x5_1).toNat * 6)).block, (ad18002.add ((x5_1).toNat * 6)).off + 1, none⟩ = some (.int .i64 ((rd_T43 l1 x5_1).f1.f0)) ∧ w'.cell? ⟨(ad18002.add ((x5_1).toNat * 6)).block, (ad18002.add ((x5_1).toNat * 6)).off + 2, none⟩ = some (.int .i64 ((rd_T43 l1 x5_1).f1.f1)) ∧ w'.cell? ⟨(ad18002.add ((x5_1).toNat * 6)).block, (ad18002.add ((x5_1).toNat * 6)).off + 3, none⟩ = some (.int .i64 ((rd_T43 l1 x5_1).f1.f2)) ∧ w'.cell? ⟨(ad18002.add ((x5_1).toNat * 6)).block, (ad18002.add ((x5_1).toNat * 6)).off + 4, none⟩ = some (.int .i64 ((rd_T43 l1 x5_1).f1.f3)) ∧ w'.cell? ⟨(ad18002.add ((x5_1).toNat * 6)).block, (ad18002.add ((x5_1).toNat * 6)).off + 5, none⟩ = some (.slice A18002_5 ((rd_T43 l1 x5_1).f2).length c18002_5)) (ds := []) #[false, false, false, false, false, false, false, false, false, false] (by kernel_rfl) rfl rfl ⟨((HB.out.cell (World.block_lt_of_cell? w _ hw18001_0)).trans hw18001_0), ((HB.out.cell (World.block_lt_of_cell? w _ hw18001_1)).trans hw18001_1), ((HB.out.cell (World.block_lt_of_cell? w _ hw18001_2)).trans hw18001_2), ((HB.out.cell (World.block_lt_of_cell? w _ hw18001_3)).trans hw18001_3), ((HB.out.cell (World.block_lt_of_cell? w _ hw18001_4)).trans hw18001_4), ((HB.out.cell (World.block_lt_of_cell? w _ hw18001_5)).trans hw18001_5), ((HB.out.cell (World.block_lt_of_cell? w _ hw18002_0)).trans hw18002_0), ((HB.out.cell (World.block_lt_of_cell? w _ hw18002_1)).trans hw18002_1), ((HB.out.cell (World.block_lt_of_cell? w _ hw18002_2)).trans hw18002_2), ((HB.out.cell (World.block_lt_of_cell? w _ hw18002_3)).trans hw18002_3), ((HB.out.cell (World.block_lt_of_cell? w _ hw18002_4)).trans hw18002_4), ((HB.out.cell (World.block_lt_of_cell? w _ hw18002_5)).trans hw18002_5)⟩ (fun hHeld => ?_); refine with_tabW laws_eqStepS.tab6 laws_eqStepS.bits6 (fun HT_ HW_ => ?_)
        generalize wr.drew = w9 at HB HR18001_5 HR18002_5 hx18001_0 hx18001_1 hx18001_2 hx18001_3 hx18001_4 hx18001_5 hx18002_0 hx18002_1 hx18002_2 hx18002_3 hx18002_4 hx18002_5 hHeld ⊢
        refine pure_ (i := 0) (N := some 17) (v := ?_) (a' := ?_) #[true, false, false, false, false, false, false, false, false, false] rfl rfl (any_of HT_.out (by kernel_rfl)) (fun _ _ _ h => h) (Or.inl ⟨by rfl, ?_⟩) ?_ ?_
        rotate_left
        ·intro w'
         go_simp
         with_reducible rfl
        rotate_left
        ·simp only [Act.put, List.setIfInBounds_toArray, List.set_cons_zero, List.set_cons_succ, i64_w, i32_w]
         rfl
        refine pure_ (i := 1) (N := some 18) (v := ?_) (a' := ?_) #[true, true, false, false, false, false, false, false, false, false] rfl rfl (any_of HT_.out (by kernel_rfl)) (fun _ _ _ h => h) (Or.inl ⟨by rfl, ?_⟩) ?_ ?_
        rotate_left
        ·intro w'
         go_simp
         with_reducible rfl
        rotate_left
        ·simp only [Act.put, List.setIfInBounds_toArray, List.set_cons_zero, List.set_cons_succ, i64_w, i32_w]
         rfl
        refine pure_ (i := 2) (N := some 19) (v := ?_) (a' := ?_) #[true, true, true, false, false, false, false, false, false, false] rfl rfl (any_of HT_.out (by kernel_rfl)) (fun _ _ _ h => h) (Or.inl ⟨by rfl, ?_⟩) ?_ ?_
        rotate_left
        ·intro w'
         go_simp
         with_reducible rfl
        rotate_left
        ·simp only [Act.put, List.setIfInBounds_toArray, List.set_cons_zero, List.set_cons_succ, i64_w, i32_w]
         rfl
        refine pure_ (i := 4) (N := some 21) (v := ?_) (a' := ?_) #[true, true, true, false, true, false, false, false, false, false] rfl rfl (any_of HT_.out (by kernel_rfl)) (fun _ _ _ h => h) (Or.inl ⟨by rfl, ?_⟩) ?_ ?_
        rotate_left
        ·intro w'
         go_simp
         with_reducible rfl
        rotate_left
        ·simp only [Act.put, List.setIfInBounds_toArray, List.set_cons_zero, List.set_cons_succ, i64_w, i32_w]
         rfl
        refine pure_ (i := 5) (N := some 22) (v := ?_) (a' := ?_) #[true, true, true, false, true, true, false, false, false, false] rfl rfl (any_of HT_.out (by kernel_rfl)) (fun _ _ _ h => h) (Or.inl ⟨by rfl, ?_⟩) ?_ ?_
        rotate_left
        ·intro w'
         go_simp
         with_reducible rfl
        rotate_left
        ·simp only [Act.put, List.setIfInBounds_toArray, List.set_cons_zero, List.set_cons_succ, i64_w, i32_w]
         rfl
        refine pure_ (i := 6) (N := some 23) (v := ?_) (a' := ?_) #[true, true, true, false, true, true, true, false, false, false] rfl rfl (any_of HT_.out (by kernel_rfl)) (fun _ _ _ h => h) (Or.inl ⟨by rfl, ?_⟩) ?_ ?_
        rotate_left
        ·intro w'
         go_simp
         with_reducible rfl
        rotate_left
        ·simp only [Act.put, List.setIfInBounds_toArray, List.set_cons_zero, List.set_cons_succ, i64_w, i32_w]
         rfl
        refine take_ (i := 3) (N := some 20) (v := ?_) (a' := ?_) #[true, true, true, true, true, true, true, false, false, false] rfl rfl (take_ofW HT_.out HW_.out (by kernel_rfl)) (fun _ _ _ h => h) (Or.inl ⟨by rfl, ?_⟩) hHeld ?_ ?_
        rotate_left
        ·rintro w' ⟨s0, s1, s2, s3, s4, s5, s6, s7, s8, s9, s10, s11⟩
         go_simp
         with_reducible rfl
        rotate_left
        ·simp only [Act.put, List.setIfInBounds_toArray, List.set_cons_zero, List.set_cons_succ, i64_w, i32_w]
         rfl
        refine take_ (i := 7) (N := some 24) (v := ?_) (a' := ?_) #[true, true, true, true, true, true, true, true, false, false] rfl rfl (take_ofW HT_.out HW_.out (by kernel_rfl)) (fun _ _ _ h => h) (Or.inl ⟨by rfl, ?_⟩) hHeld ?_ ?_
        rotate_left
        ·rintro w' ⟨s0, s1, s2, s3, s4, s5, s6, s7, s8, s9, s10, s11⟩
         go_simp
         with_reducible rfl
        rotate_left
        ·simp only [Act.put, List.setIfInBounds_toArray, List.set_cons_zero, List.set_cons_succ, i64_w, i32_w]
         rfl
        refine one_ (i := 8) (N := some 25) #[true, true, true, true, true, true, true, true, true, false] rfl rfl (one_of HT_.out (by kernel_rfl)) (by decide) (fun K hK => ?_)
        refine goes_ Try.func34 (by kernel_rfl) rfl #[.agg #[.int .i64 ((rd_T43 l0 x5_1).f0), .int .i64 ((rd_T43 l0 x5_1).f1.f0), .int .i64 ((rd_T43 l0 x5_1).f1.f1), .int .i64 ((rd_T43 l0 x5_1).f1.f2), .int .i64 ((rd_T43 l0 x5_1).f1.f3), .slice A18001_5 ((rd_T43 l0 x5_1).f2).length c18001_5], .agg #[.int .i64 ((rd_T43 l1 x5_1).f0), .int .i64 ((rd_T43 l1 x5_1).f1.f0), .int .i64 ((rd_T43 l1 x5_1).f1.f1), .int .i64 ((rd_T43 l1 x5_1).f1.f2), .int .i64 ((rd_T43 l1 x5_1).f1.f3), .slice A18002_5 ((rd_T43 l1 x5_1).f2).length c18002_5]] (by rfl) rfl rfl (by (try simp only [List.map_toArray, List.map_cons, List.map_nil]); first | done | rfl | (simp only [List.length_drop, List.length_take]; rfl)) ?_
        with_reducible refine (laws_eqStep.calls k1 ((rd_T43 l0 x5_1).f0) ((rd_T43 l0 x5_1).f1.f0) ((rd_T43 l0 x5_1).f1.f1) ((rd_T43 l0 x5_1).f1.f2) ((rd_T43 l0 x5_1).f1.f3) _ _ ((rd_T43 l0 x5_1).f2) ((rd_T43 l1 x5_1).f0) ((rd_T43 l1 x5_1).f1.f0) ((rd_T43 l1 x5_1).f1.f1) ((rd_T43 l1 x5_1).f1.f2) ((rd_T43 l1 x5_1).f1.f3) _ _ ((rd_T43 l1 x5_1).f2) true _ ?side1 ?side2 ?side3 ?side4 A7.out rfl).mono ?_
        (case side1 => repeat (first | exact (Kd.C_below HR18001_5.out HB.out) | (with_reducible refine Kd.C_alloc ?_ _) | (with_reducible refine Kd.C_drewN ?_ _) | (with_reducible refine Kd.C_drew ?_)))
        (case side2 => exact HC18001_5.out)
        (case side3 => repeat (first | exact (Kd.C_below HR18002_5.out HB.out) | (with_reducible refine Kd.C_alloc ?_ _) | (with_reducible refine Kd.C_drewN ?_ _) | (with_reducible refine Kd.C_drew ?_)))
        (case side4 => exact HC18002_5.out)
        rintro e w10 ⟨rfl, hb⟩
        refine ⟨_, rfl, ?_⟩
        have n0_ := mk (below_step (by repeat (first | (with_reducible first | exact HB.out | apply below_alloc | apply pw_below_drewN | apply below_drew1) | exact HB.out)) hb)
        clear HB
        have HB := n0_
        clear n0_
        (try clear hb)
        (try clear hb2)
        (try clear hk)
        (try clear hi)
        refine hK.out _ _ ⟨((HB.out.cell (World.block_lt_of_cell? w _ hw18001_0)).trans hw18001_0), ((HB.out.cell (World.block_lt_of_cell? w _ hw18001_1)).trans hw18001_1), ((HB.out.cell (World.block_lt_of_cell? w _ hw18001_2)).trans hw18001_2), ((HB.out.cell (World.block_lt_of_cell? w _ hw18001_3)).trans hw18001_3), ((HB.out.cell (World.block_lt_of_cell? w _ hw18001_4)).trans hw18001_4), ((HB.out.cell (World.block_lt_of_cell? w _ hw18001_5)).trans hw18001_5), ((HB.out.cell (World.block_lt_of_cell? w _ hw18002_0)).trans hw18002_0), ((HB.out.cell (World.block_lt_of_cell? w _ hw18002_1)).trans hw18002_1), ((HB.out.cell (World.block_lt_of_cell? w _ hw18002_2)).trans hw18002_2), ((HB.out.cell (World.block_lt_of_cell? w _ hw18002_3)).trans hw18002_3), ((HB.out.cell (World.block_lt_of_cell? w _ hw18002_4)).trans hw18002_4), ((HB.out.cell (World.block_lt_of_cell? w _ hw18002_5)).trans hw18002_5)⟩ (fun hHeld => ?_)
        clear hK K
        refine norm_ (a' := ?_) ?_ ?_
        rotate_left
        ·show Act.put _ (some 25) _ = _
         simp only [Act.put, List.setIfInBounds_toArray, List.set_cons_zero, List.set_cons_succ, i64_w, i32_w]
         rfl
        refine pure_ (i := 9) (N := some 26) (v := ?_) (a' := ?_) #[true, true, true, true, true, true, true, true, true, true] rfl rfl (any_of HT_.out (by kernel_rfl)) (fun _ _ _ h => h) (Or.inl ⟨by rfl, ?_⟩) ?_ ?_
        rotate_left
        ·intro w'
         go_simp
         with_reducible rfl
        rotate_left
        ·simp only [Act.put, List.setIfInBounds_toArray, List.set_cons_zero, List.set_cons_succ, i64_w, i32_w]
         rfl
        refine done_ (done_of HT_.out (by kernel_rfl)) ?_
        try go_wp2
        go_roundg k1
        case measure => have := HK1.out; omega
        case rel => exact ⟨(wrap64 (x5_1 + 1)), (by first | rfl | (simp; done) | (simp [*]; done)), H', ⟨by have := HK1.out; omega⟩, ⟨by repeat (first | (with_reducible first | exact HB.out | apply below_alloc | apply pw_below_drewN | apply below_drew1) | exact HB.out)⟩⟩
       ·replace c8 := Bool.eq_false_iff.mpr c8
        subst c8
        have H1 : (some false) = some r := by rw [if_neg (show ¬ (false = true) by decide)] at H; exact H
        clear H
        have H := H1
        clear H1
        exact absurd ((Option.some.inj H).trans HRT.out) (by decide)
      ·rw [if_neg c6] at H
       exact absurd H (by simp)
     ·rw [if_neg c5] at H
      exact absurd H (by simp)
    ·rw [if_neg c4] at H
     have c4b0 : decide (x5_1 < (l0.length : Int)) = false := decide_eq_false c4
     clear c4
     obtain rfl := Option.some.inj H
     go_wp2
     go_ret
     exact ⟨by first | rfl | (simp [errW_none, errW_some] <;> rfl) | (simp [*, errW_none, errW_some] <;> rfl), by repeat (first | (with_reducible first | exact HB.out | apply below_alloc | apply pw_below_drewN | apply below_drew1) | exact HB.out)⟩
 ·rw [if_neg c3] at H
  have c3b0 : ((l0.length : Int) == (l1.length : Int)) = false := beq_eq_false_iff_ne.mpr c3
  have c3b1 : ((l0.length : Int) != (l1.length : Int)) = true := bne_iff_ne.mpr c3
  have c3b2 : (l0.length == l1.length) = false := by first | simpa using c3 | (simp at c3 ⊢; omega)
  exact absurd ((Option.some.inj H).trans HRT.out) (by decide)


/- Numbers written into every place of a row whose elements lead to rows (StepS). -/

def laws_markStepS.l0 : Nat → List (S43) → Int → Int → Option (Int × List (S43))
 | 0, _, _, _ => none
 | k + 1, x0, x1, x5 => if x5 < (x0.length : Int) then (if 0 ≤ x5 then ((laws_markIntS.f k (rd_T43 x0 x5).f2 (wrap64 ((wrap64 ((wrap64 ((wrap64 ((wrap64 (x1 + 1)) + 1)) + 1)) + 1)) + 1))).bind fun bt => laws_markStepS.l0 k (x0.set (x5 : Int).toNat (⟨x1, ⟨(wrap64 (x1 + 1)), (wrap64 ((wrap64 (x1 + 1)) + 1)), (wrap64 ((wrap64 ((wrap64 (x1 + 1)) + 1)) + 1)), (wrap64 ((wrap64 ((wrap64 ((wrap64 (x1 + 1)) + 1)) + 1)) + 1))⟩, bt.2⟩ : S43)) bt.1 (wrap64 (x5 + 1))) else none) else some (x1, x0)
def laws_markStepS.f (k : Nat) (l0 : List (S43)) (a1 : Int) : Option (Int × List (S43)) := laws_markStepS.l0 k l0 a1 0
set_option maxHeartbeats 8000000 in
set_option maxRecDepth 100000 in
theorem laws_markStepS.calls (k : Nat) (P0_ : Nat → Prop) (u9000_ : Value) (l0 : List (S43)) (a1 : Int) (r1 : Int) (r2 : List (S43)) (w0 w : World) (hB : Below w0.heap.size w0 w) (ho0 : Kd.S k43 43 w w0.heap.size (fun k_ => P0_ k_) u9000_ l0) (h : laws_markStepS.f k l0 a1 = some (r1, r2)) :
  Calls Try.prog 19 #[u9000_, .int .i64 a1] w fun e w' => e = .returned (.int .i64 r1) ∧ Kd.S k43 43 w' w0.heap.size (fun k_ => (P0_ k_ ∨ w.heap.size ≤ k_)) u9000_ r2 ∧ Below w0.heap.size w0 w' ∧ Kept w w' (fun k_ => P0_ k_) := by
 have HO := mk ho0
 have HK := mk (Kept.refl w (fun k_ => P0_ k_))
 have HB := mk hB
 have H' := mk (show laws_markStepS.l0 k l0 a1 0 = some (r1, r2) from h)
 clear h ho0 hB
 go_enter Try.func19, Try.ntmps19
 go_wp2
 go_loopg [1, 5] k (fun kq v1 v5 w' => ∃ (x0_1 : List (S43)) (x1_1 : Int) (x5_1 : Int), v1 = .int .i64 x1_1 ∧ v5 = .int .i64 x5_1 ∧ Aside0 (laws_markStepS.l0 kq x0_1 x1_1 x5_1 = some (r1, r2)) ∧ Aside0 (kq ≤ k) ∧ Aside0 (Kd.S k43 43 w' w0.heap.size (fun k_ => P0_ k_) u9000_ x0_1) ∧ Aside0 (Kept w w' (fun k_ => P0_ k_)) ∧ Aside0 (Below w0.heap.size w0 w'))
 case atStart => exact ⟨(l0), (a1), (0), (by first | rfl | (simp; done) | (simp [*]; done)), (by first | rfl | (simp; done) | (simp [*]; done)), H', ⟨Nat.le_refl _⟩, HO, HK, HB⟩
 case round =>
  clear H' HO HK HB
  try clear c2
  try clear p2
  obtain ⟨x0_1, x1_1, x5_1, rfl, rfl, HA, HK1, HO, HK, HB⟩ := hrel
  cases gk with
  | zero => exact absurd HA.out (by simp [laws_markStepS.l0])
  | succ k1 =>
   have H := HA.out
   clear HA
   simp only [laws_markStepS.l0] at H
   obtain ⟨Ao8, co8, eo8⟩ := Kd.S_slice HO.out
   subst eo8
   by_cases c3 : x5_1 < (x0_1.length : Int)
   ·rw [if_pos c3] at H
    have c3b0 : decide (x5_1 < (x0_1.length : Int)) = true := decide_eq_true c3
    by_cases c4 : 0 ≤ x5_1
    ·rw [if_pos c4] at H
     have c4b0 : decide (0 ≤ x5_1) = true := decide_eq_true c4
     replace H := Option.bind_eq_some_iff.mp H
     obtain ⟨⟨t1, t2⟩, hm_, H⟩ := H
     have HM := mk hm_
     have H' := mk H
     have P5 := mk c4
     have Q5 := mk (show x5_1 < ((x0_1.length : Int) : Int) from c3)
     clear H hm_
     obtain ⟨go5, co5, eo5, gb5, gl5, cl5, HG5⟩ := Kd.S_form HO.out (by omega)
     (first | cases eo5 | (injection eo5 with ea_ en_ ec_; (first | subst ea_ | (injection ea_ with ea_; subst ea_)); subst ec_; clear en_))
     have GB := mk gb5
     have HP0 := mk ((Kd.S_R HO.out).1 go5 rfl)
     obtain ⟨oki_, ce_, hcl_, hM_, _, _, hok_, hH_⟩ := Kd.S_elem HO.out z43 (x5_1 : Int) P5.out Q5.out
     have hO_ := k43_openM hM_
     obtain ⟨ve_, rfl, hR_⟩ := hO_
     obtain ⟨Av_, cv_, ev_⟩ := Kd.R_slice hR_
     subst ev_
     have HR := mk (show Kd.R (Kd.int .i64) 3 wr w0.heap.size oki_ (.slice Av_ (rd_T43 x0_1 x5_1).f2.length cv_) (rd_T43 x0_1 x5_1).f2 from hR_)
     have HOK := mk hok_
     have HH := mk (show Kd.H k43 43 wr w0.heap.size (fun k_ => P0_ k_) (.slice (some ⟨go5, 0, none⟩) x0_1.length co8) x0_1 (x5_1 : Int) oki_ [.int .i64 (rd_T43 x0_1 x5_1).f0, .int .i64 (rd_T43 x0_1 x5_1).f1.f0, .int .i64 (rd_T43 x0_1 x5_1).f1.f1, .int .i64 (rd_T43 x0_1 x5_1).f1.f2, .int .i64 (rd_T43 x0_1 x5_1).f1.f3, (.slice Av_ (rd_T43 x0_1 x5_1).f2.length cv_)] from hH_)
     have p5_ := eq_true c4
     have q5_ := eq_true c3
     clear gb5 gl5 HG5 hcl_ hok_ hH_ hR_ c3 c4 HO; try clear hM_
     have hx_ : wr.cell? ⟨go5, (x5_1 : Int).toNat * 6, none⟩ = some (.int .i64 (rd_T43 x0_1 x5_1).f0) := (Kd.H_at HH.out P5.out Q5.out).1 0 _ rfl; have hf_ : wr.frozen? ⟨go5, (x5_1 : Int).toNat * 6, none⟩ = false := (Kd.H_at HH.out P5.out Q5.out).2 0
     go_wp2_with (first
      | ((with_reducible refine gate_store (t := 3) (p := 16) rfl ?_); refine store_event (t := 3) (p := 16) (v := ?vo_w1) (w1 := (wr.setCell ⟨go5, (x5_1 : Int).toNat * 6, none⟩ (.int .i64 x1_1))) ?hg ?ho ?hn ?hr ?_; (case ho => rfl); (case hg => rfl); (case hn => rfl); (case hr => first | (go_simp; done) | (go_simp; rfl)); intro w1 hw; obtain ⟨hh, hg⟩ := Kd.H_seg HH.out P5.out Q5.out (seg := [.int .i64 x1_1]) (j := 0) (show 1 ≤ 6 from by decide) (by simp [Value.oneCell']); replace hg : wr.grownBy w1 (some go5) := (by rw [hw]; exact hg); replace HH := mk (show Kd.H k43 43 w1 w0.heap.size (fun k_ => P0_ k_) (.slice (some ⟨go5, 0, none⟩) x0_1.length co8) x0_1 (x5_1 : Int) oki_ [.int .i64 x1_1, .int .i64 (rd_T43 x0_1 x5_1).f1.f0, .int .i64 (rd_T43 x0_1 x5_1).f1.f1, .int .i64 (rd_T43 x0_1 x5_1).f1.f2, .int .i64 (rd_T43 x0_1 x5_1).f1.f3, (.slice Av_ (rd_T43 x0_1 x5_1).f2.length cv_)] from (by rw [hw]; exact hh)); replace HR := mk (Kd.R_grown HR.out hg (fun k_ hk_ e_ => (HOK.out k_ hk_).2 (by injection e_))); replace HB := mk (show Below w0.heap.size w0 w1 from (by rw [hw]; exact below_set HB.out GB.out)); replace HK := mk (Kept.of_grown (S := fun k_ => P0_ k_) hg HK.out (fun k_ e_ => .inl (by injection e_ with e_; rw [← e_]; exact HP0.out))); clear hh hg hw hx_ hf_; have hx_ : w1.cell? ⟨go5, (x5_1 : Int).toNat * 6 + 1, none⟩ = some (.int .i64 (rd_T43 x0_1 x5_1).f1.f0) := (Kd.H_at HH.out P5.out Q5.out).1 1 _ rfl; have hf_ : w1.frozen? ⟨go5, (x5_1 : Int).toNat * 6 + 1, none⟩ = false := (Kd.H_at HH.out P5.out Q5.out).2 1)
      | ((with_reducible refine gate_store (t := 3) (p := 24) rfl ?_); refine store_event (t := 3) (p := 24) (v := ?vo_w2) (w1 := (w1.setCell ⟨go5, (x5_1 : Int).toNat * 6 + 1, none⟩ (.int .i64 (wrap64 (x1_1 + 1))))) ?hg ?ho ?hn ?hr ?_; (case ho => rfl); (case hg => rfl); (case hn => rfl); (case hr => first | (go_simp; done) | (go_simp; rfl)); intro w2 hw; obtain ⟨hh, hg⟩ := Kd.H_seg HH.out P5.out Q5.out (seg := [.int .i64 (wrap64 (x1_1 + 1))]) (j := 1) (show 2 ≤ 6 from by decide) (by simp [Value.oneCell']); replace hg : w1.grownBy w2 (some go5) := (by rw [hw]; exact hg); replace HH := mk (show Kd.H k43 43 w2 w0.heap.size (fun k_ => P0_ k_) (.slice (some ⟨go5, 0, none⟩) x0_1.length co8) x0_1 (x5_1 : Int) oki_ [.int .i64 x1_1, .int .i64 (wrap64 (x1_1 + 1)), .int .i64 (rd_T43 x0_1 x5_1).f1.f1, .int .i64 (rd_T43 x0_1 x5_1).f1.f2, .int .i64 (rd_T43 x0_1 x5_1).f1.f3, (.slice Av_ (rd_T43 x0_1 x5_1).f2.length cv_)] from (by rw [hw]; exact hh)); replace HR := mk (Kd.R_grown HR.out hg (fun k_ hk_ e_ => (HOK.out k_ hk_).2 (by injection e_))); replace HB := mk (show Below w0.heap.size w0 w2 from (by rw [hw]; exact below_set HB.out GB.out)); replace HK := mk (Kept.of_grown (S := fun k_ => P0_ k_) hg HK.out (fun k_ e_ => .inl (by injection e_ with e_; rw [← e_]; exact HP0.out))); clear hh hg hw hx_ hf_; have hx_ : w2.cell? ⟨go5, (x5_1 : Int).toNat * 6 + 1 + 1, none⟩ = some (.int .i64 (rd_T43 x0_1 x5_1).f1.f1) := (Kd.H_at HH.out P5.out Q5.out).1 2 _ rfl; have hf_ : w2.frozen? ⟨go5, (x5_1 : Int).toNat * 6 + 1 + 1, none⟩ = false := (Kd.H_at HH.out P5.out Q5.out).2 2)
      | ((with_reducible refine gate_store (t := 3) (p := 32) rfl ?_); refine store_event (t := 3) (p := 32) (v := ?vo_w3) (w1 := (w2.setCell ⟨go5, (x5_1 : Int).toNat * 6 + 1 + 1, none⟩ (.int .i64 (wrap64 ((wrap64 (x1_1 + 1)) + 1))))) ?hg ?ho ?hn ?hr ?_; (case ho => rfl); (case hg => rfl); (case hn => rfl); (case hr => first | (go_simp; done) | (go_simp; rfl)); intro w3 hw; obtain ⟨hh, hg⟩ := Kd.H_seg HH.out P5.out Q5.out (seg := [.int .i64 (wrap64 ((wrap64 (x1_1 + 1)) + 1))]) (j := 2) (show 3 ≤ 6 from by decide) (by simp [Value.oneCell']); replace hg : w2.grownBy w3 (some go5) := (by rw [hw]; exact hg); replace HH := mk (show Kd.H k43 43 w3 w0.heap.size (fun k_ => P0_ k_) (.slice (some ⟨go5, 0, none⟩) x0_1.length co8) x0_1 (x5_1 : Int) oki_ [.int .i64 x1_1, .int .i64 (wrap64 (x1_1 + 1)), .int .i64 (wrap64 ((wrap64 (x1_1 + 1)) + 1)), .int .i64 (rd_T43 x0_1 x5_1).f1.f2, .int .i64 (rd_T43 x0_1 x5_1).f1.f3, (.slice Av_ (rd_T43 x0_1 x5_1).f2.length cv_)] from (by rw [hw]; exact hh)); replace HR := mk (Kd.R_grown HR.out hg (fun k_ hk_ e_ => (HOK.out k_ hk_).2 (by injection e_))); replace HB := mk (show Below w0.heap.size w0 w3 from (by rw [hw]; exact below_set HB.out GB.out)); replace HK := mk (Kept.of_grown (S := fun k_ => P0_ k_) hg HK.out (fun k_ e_ => .inl (by injection e_ with e_; rw [← e_]; exact HP0.out))); clear hh hg hw hx_ hf_; have hx_ : w3.cell? ⟨go5, (x5_1 : Int).toNat * 6 + 1 + 2, none⟩ = some (.int .i64 (rd_T43 x0_1 x5_1).f1.f2) := (Kd.H_at HH.out P5.out Q5.out).1 3 _ rfl; have hf_ : w3.frozen? ⟨go5, (x5_1 : Int).toNat * 6 + 1 + 2, none⟩ = false := (Kd.H_at HH.out P5.out Q5.out).2 3)
      | ((with_reducible refine gate_store (t := 3) (p := 40) rfl ?_); refine store_event (t := 3) (p := 40) (v := ?vo_w4) (w1 := (w3.setCell ⟨go5, (x5_1 : Int).toNat * 6 + 1 + 2, none⟩ (.int .i64 (wrap64 ((wrap64 ((wrap64 (x1_1 + 1)) + 1)) + 1))))) ?hg ?ho ?hn ?hr ?_; (case ho => rfl); (case hg => rfl); (case hn => rfl); (case hr => first | (go_simp; done) | (go_simp; rfl)); intro w4 hw; obtain ⟨hh, hg⟩ := Kd.H_seg HH.out P5.out Q5.out (seg := [.int .i64 (wrap64 ((wrap64 ((wrap64 (x1_1 + 1)) + 1)) + 1))]) (j := 3) (show 4 ≤ 6 from by decide) (by simp [Value.oneCell']); replace hg : w3.grownBy w4 (some go5) := (by rw [hw]; exact hg); replace HH := mk (show Kd.H k43 43 w4 w0.heap.size (fun k_ => P0_ k_) (.slice (some ⟨go5, 0, none⟩) x0_1.length co8) x0_1 (x5_1 : Int) oki_ [.int .i64 x1_1, .int .i64 (wrap64 (x1_1 + 1)), .int .i64 (wrap64 ((wrap64 (x1_1 + 1)) + 1)), .int .i64 (wrap64 ((wrap64 ((wrap64 (x1_1 + 1)) + 1)) + 1)), .int .i64 (rd_T43 x0_1 x5_1).f1.f3, (.slice Av_ (rd_T43 x0_1 x5_1).f2.length cv_)] from (by rw [hw]; exact hh)); replace HR := mk (Kd.R_grown HR.out hg (fun k_ hk_ e_ => (HOK.out k_ hk_).2 (by injection e_))); replace HB := mk (show Below w0.heap.size w0 w4 from (by rw [hw]; exact below_set HB.out GB.out)); replace HK := mk (Kept.of_grown (S := fun k_ => P0_ k_) hg HK.out (fun k_ e_ => .inl (by injection e_ with e_; rw [← e_]; exact HP0.out))); clear hh hg hw hx_ hf_; have hx_ : w4.cell? ⟨go5, (x5_1 : Int).toNat * 6 + 1 + 3, none⟩ = some (.int .i64 (rd_T43 x0_1 x5_1).f1.f3) := (Kd.H_at HH.out P5.out Q5.out).1 4 _ rfl; have hf_ : w4.frozen? ⟨go5, (x5_1 : Int).toNat * 6 + 1 + 3, none⟩ = false := (Kd.H_at HH.out P5.out Q5.out).2 4)
      | ((with_reducible refine gate_store (t := 3) (p := 48) rfl ?_); refine store_event (t := 3) (p := 48) (v := ?vo_w5) (w1 := (w4.setCell ⟨go5, (x5_1 : Int).toNat * 6 + 1 + 3, none⟩ (.int .i64 (wrap64 ((wrap64 ((wrap64 ((wrap64 (x1_1 + 1)) + 1)) + 1)) + 1))))) ?hg ?ho ?hn ?hr ?_; (case ho => rfl); (case hg => rfl); (case hn => rfl); (case hr => first | (go_simp; done) | (go_simp; rfl)); intro w5 hw; obtain ⟨hh, hg⟩ := Kd.H_seg HH.out P5.out Q5.out (seg := [.int .i64 (wrap64 ((wrap64 ((wrap64 ((wrap64 (x1_1 + 1)) + 1)) + 1)) + 1))]) (j := 4) (show 5 ≤ 6 from by decide) (by simp [Value.oneCell']); replace hg : w4.grownBy w5 (some go5) := (by rw [hw]; exact hg); replace HH := mk (show Kd.H k43 43 w5 w0.heap.size (fun k_ => P0_ k_) (.slice (some ⟨go5, 0, none⟩) x0_1.length co8) x0_1 (x5_1 : Int) oki_ [.int .i64 x1_1, .int .i64 (wrap64 (x1_1 + 1)), .int .i64 (wrap64 ((wrap64 (x1_1 + 1)) + 1)), .int .i64 (wrap64 ((wrap64 ((wrap64 (x1_1 + 1)) + 1)) + 1)), .int .i64 (wrap64 ((wrap64 ((wrap64 ((wrap64 (x1_1 + 1)) + 1)) + 1)) + 1)), (.slice Av_ (rd_T43 x0_1 x5_1).f2.length cv_)] from (by rw [hw]; exact hh)); replace HR := mk (Kd.R_grown HR.out hg (fun k_ hk_ e_ => (HOK.out k_ hk_).2 (by injection e_))); replace HB := mk (show Below w0.heap.size w0 w5 from (by rw [hw]; exact below_set HB.out GB.out)); replace HK := mk (Kept.of_grown (S := fun k_ => P0_ k_) hg HK.out (fun k_ e_ => .inl (by injection e_ with e_; rw [← e_]; exact HP0.out))); clear hh hg hw hx_ hf_; have hx_ : w5.cell? ⟨go5, (x5_1 : Int).toNat * 6 + 5, none⟩ = some ((.slice Av_ (rd_T43 x0_1 x5_1).f2.length cv_)) := (Kd.H_at HH.out P5.out Q5.out).1 5 _ rfl; have hf_ : w5.frozen? ⟨go5, (x5_1 : Int).toNat * 6 + 5, none⟩ = false := (Kd.H_at HH.out P5.out Q5.out).2 5)
      | (go_at_call 47; (with_reducible refine (laws_markIntS.calls k1 oki_ (.slice Av_ (rd_T43 x0_1 x5_1).f2.length cv_) (rd_T43 x0_1 x5_1).f2 (wrap64 ((wrap64 ((wrap64 ((wrap64 ((wrap64 (x1_1 + 1)) + 1)) + 1)) + 1)) + 1)) t1 t2 w0 w5 HB.out HR.out HM.out).mono ?_); rintro e w6 ⟨rfl, hr, hb, hk⟩; replace HB := mk hb; replace HR := mk (Kd.R_reok rfl hr (fun k_ e_ => HR.out.1 k_ e_)); replace HH := mk (Kd.H_step HH.out (fun k_ _ hn_ hlt_ => hk.2 k_ hlt_ hn_)); replace HK := mk (Kept.then_ (S := fun k_ => P0_ k_) HK.out hk (fun k_ hs_ => .inl (HOK.out k_ hs_).1)); clear hr hb hk hx_ hf_))
     go_roundg k1
     case measure => have := HK1.out; omega
     case rel => exact ⟨x0_1.set (x5_1 : Int).toNat (⟨x1_1, ⟨(wrap64 (x1_1 + 1)), (wrap64 ((wrap64 (x1_1 + 1)) + 1)), (wrap64 ((wrap64 ((wrap64 (x1_1 + 1)) + 1)) + 1)), (wrap64 ((wrap64 ((wrap64 ((wrap64 (x1_1 + 1)) + 1)) + 1)) + 1))⟩, t2⟩ : S43), t1, wrap64 (x5_1 + 1), (by first | rfl | (simp; done) | (simp [*]; done)), (by first | rfl | (simp; done) | (simp [*]; done)), H', ⟨by have := HK1.out; omega⟩, ⟨Kd.H_back HH.out (k43_mkM _ _ _ (⟨x1_1, ⟨(wrap64 (x1_1 + 1)), (wrap64 ((wrap64 (x1_1 + 1)) + 1)), (wrap64 ((wrap64 ((wrap64 (x1_1 + 1)) + 1)) + 1)), (wrap64 ((wrap64 ((wrap64 ((wrap64 (x1_1 + 1)) + 1)) + 1)) + 1))⟩, t2⟩ : S43) HR.out) (fun _ h_ => h_)⟩, HK, HB⟩
    ·rw [if_neg c4] at H
     cases H
   ·rw [if_neg c3] at H
    have c3b0 : decide (x5_1 < (x0_1.length : Int)) = false := decide_eq_false c3
    clear c3
    simp only [Option.some.injEq, Prod.mk.injEq] at H
    obtain ⟨rfl, rfl⟩ := H
    go_wp2
    go_ret
    exact ⟨by first | rfl | (simp; done), Kd.S_mono HO.out (fun _ h_ => .inl h_), HB.out, HK.out⟩
end Go.Proofs.Ytgccpcnakkioiaa.Q

namespace Go.Proofs.Ytgccpcnakkioiaa.Q
open Go.RowKit Go.Proofs.YtgccpcnakkioiaaW.PrintWords Go.Proofs.YtgccpcnakkioiaaW.PrintLast Go.Proofs.YtgccpcnakkioiaaW.PrintMore
attribute [local go_sem] max2_int min2_int max_two min_two max_three min_three max_four min_four
set_option linter.unusedVariables false
set_option linter.unusedSimpArgs false
def laws_heldIntS.l0 : Nat → List Int → Int → Int → Option (Int)
 | 0, _, _, _ => none
 | k + 1, x0, x1, x5 => if x5 < (x0.length : Int) then (if 0 ≤ x5 then (if (rd x0 x5) = x1 then (laws_heldIntS.l0 k x0 (wrap64 (x1 + 1)) (wrap64 (x5 + 1))) else (some (-1))) else (none)) else (some x1)
def laws_heldIntS.f (k : Nat) (l0 : List Int) (a1 : Int) : Option (Int) := laws_heldIntS.l0 k l0 a1 0
theorem laws_heldIntS.mono_l : ∀ k, (∀ y0 y1 y2, LeO (laws_heldIntS.l0 k y0 y1 y2) (laws_heldIntS.l0 (k + 1) y0 y1 y2))
 | 0 => fun _ _ _ r h => by simp [laws_heldIntS.l0] at h
 | k + 1 => by
  have ih0 := laws_heldIntS.mono_l k
  ·intro y0 y1 y2
   unfold laws_heldIntS.l0
   repeat' first
   | (with_reducible exact ih0 _ _ _)
   | (with_reducible exact LeO.refl _)
   | (with_reducible exact LeO.none _)
   | (with_reducible refine LeO.ite ?_ ?_)
   | (with_reducible refine LeO.bind ?_ (fun _ => ?_))
   | exact ih0 _ _ _
   | exact LeO.none _
   | refine LeO.ite ?_ ?_
   | refine LeO.bind ?_ (fun _ => ?_)
theorem laws_heldIntS.mono : ∀ a0 a1 k, LeO (laws_heldIntS.f k a0 a1) (laws_heldIntS.f (k + 1) a0 a1) := by
 intro a0 a1 k
 have ih0 := laws_heldIntS.mono_l k
 unfold laws_heldIntS.f
 repeat' first
   | (with_reducible exact ih0 _ _ _)
   | (with_reducible exact LeO.refl _)
   | (with_reducible exact LeO.none _)
   | (with_reducible refine LeO.ite ?_ ?_)
   | (with_reducible refine LeO.bind ?_ (fun _ => ?_))
   | exact ih0 _ _ _
   | exact LeO.none _
   | refine LeO.ite ?_ ?_
   | refine LeO.bind ?_ (fun _ => ?_)
set_option maxHeartbeats 8000000 in
set_option maxRecDepth 100000 in
theorem laws_heldIntS.calls (k : Nat) (A0 : Option Addr) (c0 : Nat) (l0 : List Int) (a1 : Int) (r : Int) (w : World) (hr0 : Kd.C (Kd.int .i64) w A0 l0.length l0) (hc0 : l0.length ≤ c0) (h : laws_heldIntS.f k l0 a1 = some r) :
  Calls Try.prog 48 #[.slice A0 l0.length c0, .int .i64 a1] w fun e w' => e = .returned (.int .i64 r) ∧ Drawn0 w w' := by
 have HR0 := Aside0.mk hr0
 have HC0 := Aside0.mk hc0
 clear hr0 hc0
 have H : (laws_heldIntS.l0 k l0 a1 0) = some r := h
 clear h
 have H' := Aside0.mk H
 clear H
 go_enter Try.func48, Try.ntmps48
 go_wp2
 go_loopg [1, 5] k (fun kq v1 v5 w' => ∃ (x1_1 : Int) (x5_1 : Int), v1 = .int .i64 x1_1 ∧ v5 = .int .i64 x5_1 ∧ Aside0 (laws_heldIntS.l0 kq l0 x1_1 x5_1 = some r) ∧ Aside0 (kq ≤ k) ∧ Drawn0 w w')
 case atStart => exact ⟨(a1), (0), (by first | rfl | (simp; done) | (simp [*]; done)), (by first | rfl | (simp; done) | (simp [*]; done)), H', ⟨Nat.le_refl _⟩, by repeat (first | exact Drawn0.refl _ | apply Drawn0.step)⟩
 case round =>
  clear H'
  try clear p2
  obtain ⟨x1_1, x5_1, rfl, rfl, HA, HK1, ⟨m1, rfl⟩⟩ := hrel
  cases gk with
  | zero => exact absurd HA.out (by simp [laws_heldIntS.l0])
  | succ k1 =>
   have H := HA.out
   clear HA
   simp only [laws_heldIntS.l0] at H
   by_cases c3 : x5_1 < (l0.length : Int)
   ·rw [if_pos c3] at H
    have c3b0 : decide (x5_1 < (l0.length : Int)) = true := decide_eq_true c3
    clear c3
    by_cases c4 : 0 ≤ x5_1
    ·rw [if_pos c4] at H
     have c4b0 : decide (0 ≤ x5_1) = true := decide_eq_true c4
     clear c4
     by_cases c5 : (rd l0 x5_1) = x1_1
     ·rw [if_pos c5] at H
      have c5b0 : ((rd l0 x5_1) == x1_1) = true := beq_iff_eq.mpr c5
      have c5b1 : ((rd l0 x5_1) != x1_1) = false := bne_eq_false_iff_eq.mpr c5
      clear c5
      have H' := Aside0.mk H
      clear H
      have p49001 : 0 ≤ (x5_1 : Int) := of_decide_eq_true (by first | (with_reducible assumption) | assumption)
      have q49001 : x5_1 < (l0.length : Int) := of_decide_eq_true (by first | (with_reducible assumption) | assumption)
      obtain ⟨ad49001, e49001, hx49001_0⟩ := Kd.at_int HR0.out x5_1 p49001 q49001
      cases e49001
      replace p49001 := eq_true p49001
      replace q49001 := eq_true q49001
      go_wp2
      go_roundg k1
      case measure => have := HK1.out; omega
      case rel => exact ⟨(wrap64 (x1_1 + 1)), (wrap64 (x5_1 + 1)), (by first | rfl | (simp; done) | (simp [*]; done)), (by first | rfl | (simp; done) | (simp [*]; done)), H', ⟨by have := HK1.out; omega⟩, by repeat (first | exact Drawn0.refl _ | apply Drawn0.step)⟩
     ·rw [if_neg c5] at H
      have c5b0 : ((rd l0 x5_1) == x1_1) = false := beq_eq_false_iff_ne.mpr c5
      have c5b1 : ((rd l0 x5_1) != x1_1) = true := bne_iff_ne.mpr c5
      obtain rfl := Option.some.inj H
      have p49001 : 0 ≤ (x5_1 : Int) := of_decide_eq_true (by first | (with_reducible assumption) | assumption)
      have q49001 : x5_1 < (l0.length : Int) := of_decide_eq_true (by first | (with_reducible assumption) | assumption)
      obtain ⟨ad49001, e49001, hx49001_0⟩ := Kd.at_int HR0.out x5_1 p49001 q49001
      cases e49001
      replace p49001 := eq_true p49001
      replace q49001 := eq_true q49001
      go_wp2
      go_ret
      exact ⟨by first | rfl | (simp; done) | (simp [*]; done), by repeat (first | exact Drawn0.refl _ | apply Drawn0.step)⟩
    ·rw [if_neg c4] at H
     exact absurd H (by simp)
   ·rw [if_neg c3] at H
    have c3b0 : decide (x5_1 < (l0.length : Int)) = false := decide_eq_false c3
    clear c3
    obtain rfl := Option.some.inj H
    go_wp2
    go_ret
    exact ⟨by first | rfl | (simp; done) | (simp [*]; done), by repeat (first | exact Drawn0.refl _ | apply Drawn0.step)⟩

end Go.Proofs.Ytgccpcnakkioiaa.Q

namespace Go.Proofs.Ytgccpcnakkioiaa.Q
open Go.RowKit Go.Proofs.YtgccpcnakkioiaaW.PrintWords Go.Proofs.YtgccpcnakkioiaaW.PrintLast Go.Proofs.YtgccpcnakkioiaaW.PrintMore
open Go.Proofs.YtgccpcnakkioiaaW.PrintWords.Aside0 (mk)
attribute [local go_sem] max2_int min2_int max_two min_two max_three min_three max_four min_four
set_option linter.unusedVariables false
set_option linter.unusedSimpArgs false
def laws_heldImage.f (k : Nat) (a0_0 : Int) (a0_1 : Int) (a0_2 : Int) (l0_3 : List Int) (a1 : Int) : Option (Int) := (laws_heldIntS.f k l0_3 a1).bind fun t21002 => (if t21002 < 0 then (some (-1)) else (some t21002))
theorem laws_heldImage.mono : ∀ a0 a1 a2 a3 a4 k, LeO (laws_heldImage.f k a0 a1 a2 a3 a4) (laws_heldImage.f (k + 1) a0 a1 a2 a3 a4) := by
 intro a0 a1 a2 a3 a4 k
 unfold laws_heldImage.f
 repeat' first
   | (with_reducible exact laws_heldIntS.mono _ _ _)
   | (with_reducible exact LeO.refl _)
   | (with_reducible exact LeO.none _)
   | (with_reducible refine LeO.ite ?_ ?_)
   | (with_reducible refine LeO.bind ?_ (fun _ => ?_))
   | exact laws_heldIntS.mono _ _ _
   | exact LeO.none _
   | refine LeO.ite ?_ ?_
   | refine LeO.bind ?_ (fun _ => ?_)
set_option maxHeartbeats 8000000 in
set_option maxRecDepth 100000 in
theorem laws_heldImage.calls (k : Nat) (a0_0 : Int) (a0_1 : Int) (a0_2 : Int) (A0_3 : Option Addr) (c0_3 : Nat) (l0_3 : List Int) (a1 : Int) (r : Int) (w : World) (hr0_3 : Kd.C (Kd.int .i64) w A0_3 l0_3.length l0_3) (hc0_3 : l0_3.length ≤ c0_3) (h : laws_heldImage.f k a0_0 a0_1 a0_2 l0_3 a1 = some r) :
  Calls Try.prog 20 #[.agg #[.int .i64 a0_0, .int .i64 a0_1, .int .i64 a0_2, .slice A0_3 l0_3.length c0_3], .int .i64 a1] w fun e w' => e = .returned (.int .i64 r) ∧ Below w.heap.size w w' := by
 have hu28 := Try.underlying28
 have HR0_3 := mk hr0_3
 have HC0_3 := mk hc0_3
 clear hr0_3 hc0_3
 have HB := mk (Below.refl w.heap.size w)
 have H : ((laws_heldIntS.f k l0_3 a1).bind fun t21002 => (if t21002 < 0 then (some (-1)) else (some t21002))) = some r := h
 clear h
 replace H := Option.bind_eq_some_iff.mp H
 obtain ⟨t21002, A30, H⟩ := H
 replace H : (if t21002 < 0 then (some (-1)) else (some t21002)) = some r := H
 have A3 := mk A30
 clear A30
 by_cases c4 : t21002 < 0
 ·rw [if_pos c4] at H
  have c4b0 : decide (t21002 < 0) = true := decide_eq_true c4
  clear c4
  obtain rfl := Option.some.inj H
  go_enter Try.func20, Try.ntmps20
  go_wp2_with (first | ((with_reducible refine gate_dst (N := 2) rfl ?_); refine box_event ?hg (N := 2) ?hd (cs := #[.int .i64 a0_0, .int .i64 a0_1, .int .i64 a0_2, .slice A0_3 l0_3.length c0_3]) (t := 28) ?hr ?_; (case hd => rfl); (case hg => rfl); (case hr => first | (go_simp; done) | (go_simp; rfl)); intro gb21001 hg w5 hbox hb; have n0_ := mk (below_step (by repeat (first | (with_reducible first | exact HB.out | apply below_alloc | apply pw_below_drewN | apply below_drew1) | exact HB.out)) hb); have n1_ := mk (hbox); have n2_ := mk ((by rw [hg]; exact (below_size (by repeat (first | (with_reducible first | exact HB.out | apply below_alloc | apply pw_below_drewN | apply below_drew1) | exact HB.out))) : w.heap.size ≤ gb21001)); have n3_ := mk ((by rw [hg]; exact (below_size (by repeat (first | (with_reducible first | exact HB.out | apply below_alloc | apply pw_below_drewN | apply below_drew1) | exact HB.out))) : w.heap.size ≤ gb21001)); clear HB; have HB := n0_; have BK21001 := n1_; have GW21001 := n2_; have GE21001 := n3_; clear n0_ n1_ n2_ n3_; clear hb hbox hg; have hcz6_0 : w5.cell? ⟨gb21001, 0, none⟩ = some (.int .i64 a0_0) := (blk_cell BK21001.out 0).trans rfl; have hcz6_1 : w5.cell? ⟨gb21001, 1, none⟩ = some (.int .i64 a0_1) := (blk_cell BK21001.out 1).trans rfl; have hcz6_2 : w5.cell? ⟨gb21001, 2, none⟩ = some (.int .i64 a0_2) := (blk_cell BK21001.out 2).trans rfl; have hcz6_3 : w5.cell? ⟨gb21001, 3, none⟩ = some (.slice A0_3 l0_3.length c0_3) := (blk_cell BK21001.out 3).trans rfl; have hfz6_0 := blk_frozen BK21001.out 0; have hfz6_1 := blk_frozen BK21001.out 1; have hfz6_2 := blk_frozen BK21001.out 2; have hfz6_3 := blk_frozen BK21001.out 3) | ((with_reducible refine gate_callee (f := 48) rfl ?_); refine goesL_ (some 8) rfl rfl Try.func48 (by kernel_rfl) rfl #[.slice A0_3 l0_3.length c0_3, .int .i64 a1] rfl (by (try simp only [List.map_toArray, List.map_cons, List.map_nil]); first | done | rfl | (simp only [List.length_drop, List.length_take]; rfl)) ?_; (with_reducible refine (laws_heldIntS.calls k _ _ l0_3 a1 t21002 _ ?side1 ?side2 A3.out).mono ?_); (case side1 => repeat (first | exact (Kd.C_below HR0_3.out HB.out) | (with_reducible refine Kd.C_alloc ?_ _) | (with_reducible refine Kd.C_drewN ?_ _) | (with_reducible refine Kd.C_drew ?_))); (case side2 => exact HC0_3.out); rintro e w' ⟨rfl, ⟨nd, rfl⟩⟩; refine ⟨_, rfl, ?_⟩))
  go_ret
  exact ⟨by first | rfl | (simp [errW_none, errW_some] <;> rfl) | (simp [*, errW_none, errW_some] <;> rfl), by repeat (first | (with_reducible first | exact HB.out | apply below_alloc | apply pw_below_drewN | apply below_drew1 | refine below_set ?_ GE21001.out) | exact HB.out)⟩
 ·rw [if_neg c4] at H
  have c4b0 : decide (t21002 < 0) = false := decide_eq_false c4
  clear c4
  obtain rfl := Option.some.inj H
  go_enter Try.func20, Try.ntmps20
  go_wp2_with (first | ((with_reducible refine gate_dst (N := 2) rfl ?_); refine box_event ?hg (N := 2) ?hd (cs := #[.int .i64 a0_0, .int .i64 a0_1, .int .i64 a0_2, .slice A0_3 l0_3.length c0_3]) (t := 28) ?hr ?_; (case hd => rfl); (case hg => rfl); (case hr => first | (go_simp; done) | (go_simp; rfl)); intro gb21001 hg w7 hbox hb; have n0_ := mk (below_step (by repeat (first | (with_reducible first | exact HB.out | apply below_alloc | apply pw_below_drewN | apply below_drew1) | exact HB.out)) hb); have n1_ := mk (hbox); have n2_ := mk ((by rw [hg]; exact (below_size (by repeat (first | (with_reducible first | exact HB.out | apply below_alloc | apply pw_below_drewN | apply below_drew1) | exact HB.out))) : w.heap.size ≤ gb21001)); have n3_ := mk ((by rw [hg]; exact (below_size (by repeat (first | (with_reducible first | exact HB.out | apply below_alloc | apply pw_below_drewN | apply below_drew1) | exact HB.out))) : w.heap.size ≤ gb21001)); clear HB; have HB := n0_; have BK21001 := n1_; have GW21001 := n2_; have GE21001 := n3_; clear n0_ n1_ n2_ n3_; clear hb hbox hg; have hcz8_0 : w7.cell? ⟨gb21001, 0, none⟩ = some (.int .i64 a0_0) := (blk_cell BK21001.out 0).trans rfl; have hcz8_1 : w7.cell? ⟨gb21001, 1, none⟩ = some (.int .i64 a0_1) := (blk_cell BK21001.out 1).trans rfl; have hcz8_2 : w7.cell? ⟨gb21001, 2, none⟩ = some (.int .i64 a0_2) := (blk_cell BK21001.out 2).trans rfl; have hcz8_3 : w7.cell? ⟨gb21001, 3, none⟩ = some (.slice A0_3 l0_3.length c0_3) := (blk_cell BK21001.out 3).trans rfl; have hfz8_0 := blk_frozen BK21001.out 0; have hfz8_1 := blk_frozen BK21001.out 1; have hfz8_2 := blk_frozen BK21001.out 2; have hfz8_3 := blk_frozen BK21001.out 3) | ((with_reducible refine gate_callee (f := 48) rfl ?_); refine goesL_ (some 8) rfl rfl Try.func48 (by kernel_rfl) rfl #[.slice A0_3 l0_3.length c0_3, .int .i64 a1] rfl (by (try simp only [List.map_toArray, List.map_cons, List.map_nil]); first | done | rfl | (simp only [List.length_drop, List.length_take]; rfl)) ?_; (with_reducible refine (laws_heldIntS.calls k _ _ l0_3 a1 t21002 _ ?side1 ?side2 A3.out).mono ?_); (case side1 => repeat (first | exact (Kd.C_below HR0_3.out HB.out) | (with_reducible refine Kd.C_alloc ?_ _) | (with_reducible refine Kd.C_drewN ?_ _) | (with_reducible refine Kd.C_drew ?_))); (case side2 => exact HC0_3.out); rintro e w' ⟨rfl, ⟨nd, rfl⟩⟩; refine ⟨_, rfl, ?_⟩))
  go_ret
  exact ⟨by first | rfl | (simp [errW_none, errW_some] <;> rfl) | (simp [*, errW_none, errW_some] <;> rfl), by repeat (first | (with_reducible first | exact HB.out | apply below_alloc | apply pw_below_drewN | apply below_drew1 | refine below_set ?_ GE21001.out) | exact HB.out)⟩


/- The law FnExactRunSteps: its walk. -/

def laws_FnExactRunSteps.Goes (k : Nat) (a0_0 : Int) (a0_1 : Int) (a0_2 : Int) (l0_3 : List Int) (l1_0 : List S57) : Prop := (∃ s0 : Int, laws_szImage.f a0_0 a0_1 a0_2 l0_3 1048576 = some s0 ∧ s0 < 0) ∨ (∃ s0 s1 : Int, laws_szImage.f a0_0 a0_1 a0_2 l0_3 1048576 = some s0 ∧ ¬ s0 < 0 ∧ laws_szStepS.f k l1_0 s0 = some s1 ∧ s1 < 0) ∨ (∃ (s0 : Int) (s1 : Int) (x0_0 : Int) (x0_1 : Int) (x0_2 : Int) (x0_3 : List Int) (x1_0 : List S43) (v0 : Int) (v1 : Int) (v2 : Int) (v3 : List Int) (vok : Int) (k0 : Int) (y0 : List Int) (k1 : Int) (y1 : List S43) (m : Int) (u : List Int), laws_szImage.f a0_0 a0_1 a0_2 l0_3 1048576 = some s0 ∧ ¬ s0 < 0 ∧ laws_szStepS.f k l1_0 s0 = some s1 ∧ ¬ s1 < 0 ∧ laws_toImage.f k a0_0 a0_1 a0_2 l0_3 = some (x0_0, x0_1, x0_2, x0_3) ∧ laws_toStepS.f k l1_0 = some x1_0 ∧ spec_RunSteps.f k x0_0 x0_1 x0_2 x0_3 x1_0 = some (v0, v1, v2, v3, vok) ∧ impl_RunSteps.f k x0_0 x0_1 x0_2 x0_3 x1_0 = some (v0, v1, v2, v3, vok) ∧ laws_eqImage.f k v0 v1 v2 v3 v0 v1 v2 v3 = some true ∧ laws_eqImage.f k x0_0 x0_1 x0_2 x0_3 x0_0 x0_1 x0_2 x0_3 = some true ∧ laws_eqStepS.f k x1_0 x1_0 = some true ∧ laws_markImage.f k x0_0 x0_1 x0_2 x0_3 1 = some (k0, y0) ∧ laws_markStepS.f k x1_0 k0 = some (k1, y1) ∧ ¬ k1 < 0 ∧ laws_markImage.f k v0 v1 v2 v3 1 = some (m, u) ∧ laws_heldImage.f k v0 v1 v2 u 1 = some m ∧ ¬ m < 0)
noncomputable def laws_FnExactRunSteps.f (k : Nat) (a0_0 : Int) (a0_1 : Int) (a0_2 : Int) (l0_3 : List Int) (l1_0 : List S57) : Option Bool := @ite _ (laws_FnExactRunSteps.Goes k a0_0 a0_1 a0_2 l0_3 l1_0) (Classical.propDecidable _) (some true) none
theorem laws_FnExactRunSteps.f_of {k : Nat} {a0_0 : Int} {a0_1 : Int} {a0_2 : Int} {l0_3 : List Int} {l1_0 : List S57} (h : laws_FnExactRunSteps.Goes k a0_0 a0_1 a0_2 l0_3 l1_0) : laws_FnExactRunSteps.f k a0_0 a0_1 a0_2 l0_3 l1_0 = some true := by unfold laws_FnExactRunSteps.f; rw [if_pos h]
set_option maxHeartbeats 8000000 in
set_option maxRecDepth 100000 in
theorem laws_FnExactRunSteps.big0 (k : Nat) (a0_0 : Int) (a0_1 : Int) (a0_2 : Int) (A0_3 : Option Addr) (c0_3 : Nat) (l0_3 : List Int) (A1_0 : Option Addr) (c1_0 : Nat) (l1_0 : List S57) (w : World) (hr0 : Kd.C (Kd.int .i64) w A0_3 l0_3.length l0_3) (hc0 : l0_3.length ≤ c0_3) (hr1 : Kd.C k57 w A1_0 l1_0.length l1_0) (hc1 : l1_0.length ≤ c1_0) (s0 : Int) (hs0 : laws_szImage.f a0_0 a0_1 a0_2 l0_3 1048576 = some s0) (hn0 : s0 < 0) : Calls Try.prog 3 #[.agg #[.int .i64 a0_0, .int .i64 a0_1, .int .i64 a0_2, .slice A0_3 l0_3.length c0_3], .slice A1_0 l1_0.length c1_0] w fun e w' => e = .returned (.bool true) ∧ Below w.heap.size w w' := by
 have HC0 := mk hc0
 have HR0 := mk hr0
 have HC1 := mk hc1
 have HR1 := mk hr1
 have HB := mk (Below.refl w.heap.size w)
 clear hc0 hr0 hc1 hr1
 have hu0 := Try.underlying28
 have hu1 := Try.underlying24
 have HS0 := mk hs0
 have dn0 : decide (s0 < 0) = true := decide_eq_true hn0
 clear hs0 hn0
 go_enter Try.func3, Try.ntmps3
 go_wp2_with (first
  | ((with_reducible refine gate_dst (N := 2) rfl ?_); refine box_event ?hg (N := 2) ?hd (cs := #[.int .i64 a0_0, .int .i64 a0_1, .int .i64 a0_2, .slice A0_3 l0_3.length c0_3]) (t := 24) ?hr ?_; (case hd => rfl); (case hg => rfl); (case hr => first | (go_simp; done) | (go_simp; rfl)); intro gb0 hg_ wb0 hbox hb; have Kgb0 := mk hbox; have HB := mk (below_then HB.out HB.out.size hb); have cb0_0 : wb0.cell? ⟨gb0, 0, none⟩ = some (.int .i64 a0_0) := (blk_cell Kgb0.out 0).trans rfl; have cb0_1 : wb0.cell? ⟨gb0, 1, none⟩ = some (.int .i64 a0_1) := (blk_cell Kgb0.out 1).trans rfl; have cb0_2 : wb0.cell? ⟨gb0, 2, none⟩ = some (.int .i64 a0_2) := (blk_cell Kgb0.out 2).trans rfl; have cb0_3 : wb0.cell? ⟨gb0, 3, none⟩ = some (.slice A0_3 l0_3.length c0_3) := (blk_cell Kgb0.out 3).trans rfl; clear hbox hb hg_)
  | (go_at_call 10; (with_reducible refine (laws_szImage.calls a0_0 a0_1 a0_2 A0_3 c0_3 l0_3 1048576 s0 wb0 (Kd.C_below HR0.out HB.out) HC0.out HS0.out).mono ?_); rintro e wz0 ⟨rfl, hb⟩; have Kgb0 := mk (blk_below Kgb0.out hb); have HB := mk (below_then HB.out HB.out.size hb); have cb0_0 : wz0.cell? ⟨gb0, 0, none⟩ = some (.int .i64 a0_0) := (blk_cell Kgb0.out 0).trans rfl; have cb0_1 : wz0.cell? ⟨gb0, 1, none⟩ = some (.int .i64 a0_1) := (blk_cell Kgb0.out 1).trans rfl; have cb0_2 : wz0.cell? ⟨gb0, 2, none⟩ = some (.int .i64 a0_2) := (blk_cell Kgb0.out 2).trans rfl; have cb0_3 : wz0.cell? ⟨gb0, 3, none⟩ = some (.slice A0_3 l0_3.length c0_3) := (blk_cell Kgb0.out 3).trans rfl; clear hb))
 go_ret
 exact ⟨rfl, HB.out⟩
set_option maxHeartbeats 8000000 in
set_option maxRecDepth 100000 in
theorem laws_FnExactRunSteps.big1 (k : Nat) (a0_0 : Int) (a0_1 : Int) (a0_2 : Int) (A0_3 : Option Addr) (c0_3 : Nat) (l0_3 : List Int) (A1_0 : Option Addr) (c1_0 : Nat) (l1_0 : List S57) (w : World) (hr0 : Kd.C (Kd.int .i64) w A0_3 l0_3.length l0_3) (hc0 : l0_3.length ≤ c0_3) (hr1 : Kd.C k57 w A1_0 l1_0.length l1_0) (hc1 : l1_0.length ≤ c1_0) (s0 : Int) (s1 : Int) (hs0 : laws_szImage.f a0_0 a0_1 a0_2 l0_3 1048576 = some s0) (hn0 : ¬ s0 < 0) (hs1 : laws_szStepS.f k l1_0 s0 = some s1) (hn1 : s1 < 0) : Calls Try.prog 3 #[.agg #[.int .i64 a0_0, .int .i64 a0_1, .int .i64 a0_2, .slice A0_3 l0_3.length c0_3], .slice A1_0 l1_0.length c1_0] w fun e w' => e = .returned (.bool true) ∧ Below w.heap.size w w' := by
 have HC0 := mk hc0
 have HR0 := mk hr0
 have HC1 := mk hc1
 have HR1 := mk hr1
 have HB := mk (Below.refl w.heap.size w)
 clear hc0 hr0 hc1 hr1
 have hu0 := Try.underlying28
 have hu1 := Try.underlying24
 have HS0 := mk hs0
 have dn0 : decide (s0 < 0) = false := decide_eq_false hn0
 have HS1 := mk hs1
 have dn1 : decide (s1 < 0) = true := decide_eq_true hn1
 clear hs0 hn0 hs1 hn1
 go_enter Try.func3, Try.ntmps3
 go_wp2_with (first
  | ((with_reducible refine gate_dst (N := 2) rfl ?_); refine box_event ?hg (N := 2) ?hd (cs := #[.int .i64 a0_0, .int .i64 a0_1, .int .i64 a0_2, .slice A0_3 l0_3.length c0_3]) (t := 24) ?hr ?_; (case hd => rfl); (case hg => rfl); (case hr => first | (go_simp; done) | (go_simp; rfl)); intro gb0 hg_ wb0 hbox hb; have Kgb0 := mk hbox; have HB := mk (below_then HB.out HB.out.size hb); have cb0_0 : wb0.cell? ⟨gb0, 0, none⟩ = some (.int .i64 a0_0) := (blk_cell Kgb0.out 0).trans rfl; have cb0_1 : wb0.cell? ⟨gb0, 1, none⟩ = some (.int .i64 a0_1) := (blk_cell Kgb0.out 1).trans rfl; have cb0_2 : wb0.cell? ⟨gb0, 2, none⟩ = some (.int .i64 a0_2) := (blk_cell Kgb0.out 2).trans rfl; have cb0_3 : wb0.cell? ⟨gb0, 3, none⟩ = some (.slice A0_3 l0_3.length c0_3) := (blk_cell Kgb0.out 3).trans rfl; clear hbox hb hg_)
  | (go_at_call 10; (with_reducible refine (laws_szImage.calls a0_0 a0_1 a0_2 A0_3 c0_3 l0_3 1048576 s0 wb0 (Kd.C_below HR0.out HB.out) HC0.out HS0.out).mono ?_); rintro e wz0 ⟨rfl, hb⟩; have Kgb0 := mk (blk_below Kgb0.out hb); have HB := mk (below_then HB.out HB.out.size hb); have cb0_0 : wz0.cell? ⟨gb0, 0, none⟩ = some (.int .i64 a0_0) := (blk_cell Kgb0.out 0).trans rfl; have cb0_1 : wz0.cell? ⟨gb0, 1, none⟩ = some (.int .i64 a0_1) := (blk_cell Kgb0.out 1).trans rfl; have cb0_2 : wz0.cell? ⟨gb0, 2, none⟩ = some (.int .i64 a0_2) := (blk_cell Kgb0.out 2).trans rfl; have cb0_3 : wz0.cell? ⟨gb0, 3, none⟩ = some (.slice A0_3 l0_3.length c0_3) := (blk_cell Kgb0.out 3).trans rfl; clear hb)
  | (go_at_call 11; (with_reducible refine (laws_szStepS.calls k A1_0 c1_0 l1_0 s0 s1 wz0 (Kd.C_below HR1.out HB.out) HC1.out HS1.out).mono ?_); rintro e wz1 ⟨rfl, hb⟩; have Kgb0 := mk (blk_below Kgb0.out hb); have HB := mk (below_then HB.out HB.out.size hb); have cb0_0 : wz1.cell? ⟨gb0, 0, none⟩ = some (.int .i64 a0_0) := (blk_cell Kgb0.out 0).trans rfl; have cb0_1 : wz1.cell? ⟨gb0, 1, none⟩ = some (.int .i64 a0_1) := (blk_cell Kgb0.out 1).trans rfl; have cb0_2 : wz1.cell? ⟨gb0, 2, none⟩ = some (.int .i64 a0_2) := (blk_cell Kgb0.out 2).trans rfl; have cb0_3 : wz1.cell? ⟨gb0, 3, none⟩ = some (.slice A0_3 l0_3.length c0_3) := (blk_cell Kgb0.out 3).trans rfl; clear hb))
 go_ret
 exact ⟨rfl, HB.out⟩
set_option maxHeartbeats 8000000 in
set_option maxRecDepth 100000 in
theorem laws_FnExactRunSteps.way (k : Nat) (a0_0 : Int) (a0_1 : Int) (a0_2 : Int) (A0_3 : Option Addr) (c0_3 : Nat) (l0_3 : List Int) (A1_0 : Option Addr) (c1_0 : Nat) (l1_0 : List S57) (w : World) (hr0 : Kd.C (Kd.int .i64) w A0_3 l0_3.length l0_3) (hc0 : l0_3.length ≤ c0_3) (hr1 : Kd.C k57 w A1_0 l1_0.length l1_0) (hc1 : l1_0.length ≤ c1_0) (s0 : Int) (s1 : Int) (x0_0 : Int) (x0_1 : Int) (x0_2 : Int) (x0_3 : List Int) (x1_0 : List S43) (v0 : Int) (v1 : Int) (v2 : Int) (v3 : List Int) (vok : Int) (k0 : Int) (y0 : List Int) (k1 : Int) (y1 : List S43) (m : Int) (u : List Int) (HS0 : laws_szImage.f a0_0 a0_1 a0_2 l0_3 1048576 = some s0) (HN0 : ¬ s0 < 0) (HS1 : laws_szStepS.f k l1_0 s0 = some s1) (HN1 : ¬ s1 < 0) (HT0 : laws_toImage.f k a0_0 a0_1 a0_2 l0_3 = some (x0_0, x0_1, x0_2, x0_3)) (HT1 : laws_toStepS.f k l1_0 = some x1_0) (HSP : spec_RunSteps.f k x0_0 x0_1 x0_2 x0_3 x1_0 = some (v0, v1, v2, v3, vok)) (HIM : impl_RunSteps.f k x0_0 x0_1 x0_2 x0_3 x1_0 = some (v0, v1, v2, v3, vok)) (HEV : laws_eqImage.f k v0 v1 v2 v3 v0 v1 v2 v3 = some true) (HE0 : laws_eqImage.f k x0_0 x0_1 x0_2 x0_3 x0_0 x0_1 x0_2 x0_3 = some true) (HE1 : laws_eqStepS.f k x1_0 x1_0 = some true) (HM0 : laws_markImage.f k x0_0 x0_1 x0_2 x0_3 1 = some (k0, y0)) (HM1 : laws_markStepS.f k x1_0 k0 = some (k1, y1)) (HKN : ¬ k1 < 0) (HMR : laws_markImage.f k v0 v1 v2 v3 1 = some (m, u)) (HHR : laws_heldImage.f k v0 v1 v2 u 1 = some m) (HMN : ¬ m < 0) : Calls Try.prog 3 #[.agg #[.int .i64 a0_0, .int .i64 a0_1, .int .i64 a0_2, .slice A0_3 l0_3.length c0_3], .slice A1_0 l1_0.length c1_0] w fun e w' => e = .returned (.bool true) ∧ Below w.heap.size w w' := by
 have HC0 := mk hc0
 have HR0 := mk hr0
 have HC1 := mk hc1
 have HR1 := mk hr1
 have HB := mk (Below.refl w.heap.size w)
 clear hc0 hr0 hc1 hr1
 have hu0 := Try.underlying28
 have hu1 := Try.underlying24
 replace HS0 := mk HS0
 replace HN0 := mk HN0
 replace HS1 := mk HS1
 replace HN1 := mk HN1
 replace HT0 := mk HT0
 replace HT1 := mk HT1
 replace HSP := mk HSP
 replace HIM := mk HIM
 replace HEV := mk HEV
 replace HE0 := mk HE0
 replace HE1 := mk HE1
 replace HM0 := mk HM0
 replace HM1 := mk HM1
 replace HKN := mk HKN
 replace HMR := mk HMR
 replace HHR := mk HHR
 replace HMN := mk HMN
 have dn0 : decide (s0 < 0) = false := decide_eq_false HN0.out
 have dn1 : decide (s1 < 0) = false := decide_eq_false HN1.out
 have dk : decide (k1 < 0) = false := decide_eq_false HKN.out
 have dm : decide (m < 0) = false := decide_eq_false HMN.out
 go_enter Try.func3, Try.ntmps3
 go_upto_region 8 with (first
  | ((with_reducible refine gate_dst (N := 2) rfl ?_); refine box_event ?hg (N := 2) ?hd (cs := #[.int .i64 a0_0, .int .i64 a0_1, .int .i64 a0_2, .slice A0_3 l0_3.length c0_3]) (t := 24) ?hr ?_; (case hd => rfl); (case hg => rfl); (case hr => first | (go_simp; done) | (go_simp; rfl)); intro gb0 hg_ wb0 hbox hb; have Kgb0 := mk hbox; have HB := mk (below_then HB.out HB.out.size hb); have cb0_0 : wb0.cell? ⟨gb0, 0, none⟩ = some (.int .i64 a0_0) := (blk_cell Kgb0.out 0).trans rfl; have cb0_1 : wb0.cell? ⟨gb0, 1, none⟩ = some (.int .i64 a0_1) := (blk_cell Kgb0.out 1).trans rfl; have cb0_2 : wb0.cell? ⟨gb0, 2, none⟩ = some (.int .i64 a0_2) := (blk_cell Kgb0.out 2).trans rfl; have cb0_3 : wb0.cell? ⟨gb0, 3, none⟩ = some (.slice A0_3 l0_3.length c0_3) := (blk_cell Kgb0.out 3).trans rfl; clear hbox hb hg_)
  | (go_at_call 10; (with_reducible refine (laws_szImage.calls a0_0 a0_1 a0_2 A0_3 c0_3 l0_3 1048576 s0 wb0 (Kd.C_below HR0.out HB.out) HC0.out HS0.out).mono ?_); rintro e wz0 ⟨rfl, hb⟩; have Kgb0 := mk (blk_below Kgb0.out hb); have HB := mk (below_then HB.out HB.out.size hb); have cb0_0 : wz0.cell? ⟨gb0, 0, none⟩ = some (.int .i64 a0_0) := (blk_cell Kgb0.out 0).trans rfl; have cb0_1 : wz0.cell? ⟨gb0, 1, none⟩ = some (.int .i64 a0_1) := (blk_cell Kgb0.out 1).trans rfl; have cb0_2 : wz0.cell? ⟨gb0, 2, none⟩ = some (.int .i64 a0_2) := (blk_cell Kgb0.out 2).trans rfl; have cb0_3 : wz0.cell? ⟨gb0, 3, none⟩ = some (.slice A0_3 l0_3.length c0_3) := (blk_cell Kgb0.out 3).trans rfl; clear hb)
  | (go_at_call 11; (with_reducible refine (laws_szStepS.calls k A1_0 c1_0 l1_0 s0 s1 wz0 (Kd.C_below HR1.out HB.out) HC1.out HS1.out).mono ?_); rintro e wz1 ⟨rfl, hb⟩; have Kgb0 := mk (blk_below Kgb0.out hb); have HB := mk (below_then HB.out HB.out.size hb); have cb0_0 : wz1.cell? ⟨gb0, 0, none⟩ = some (.int .i64 a0_0) := (blk_cell Kgb0.out 0).trans rfl; have cb0_1 : wz1.cell? ⟨gb0, 1, none⟩ = some (.int .i64 a0_1) := (blk_cell Kgb0.out 1).trans rfl; have cb0_2 : wz1.cell? ⟨gb0, 2, none⟩ = some (.int .i64 a0_2) := (blk_cell Kgb0.out 2).trans rfl; have cb0_3 : wz1.cell? ⟨gb0, 3, none⟩ = some (.slice A0_3 l0_3.length c0_3) := (blk_cell Kgb0.out 3).trans rfl; clear hb))
 have HBSw := mk HB.out.size
 have QKgb0 := mk (show gb0 < wz1.heap.size from blk_lt Kgb0.out)
 have cgb0wz1_0 : wz1.cell? ⟨gb0, 0, none⟩ = some (.int .i64 a0_0) := (blk_cell Kgb0.out 0).trans rfl; have cgb0wz1_1 : wz1.cell? ⟨gb0, 1, none⟩ = some (.int .i64 a0_1) := (blk_cell Kgb0.out 1).trans rfl; have cgb0wz1_2 : wz1.cell? ⟨gb0, 2, none⟩ = some (.int .i64 a0_2) := (blk_cell Kgb0.out 2).trans rfl; have cgb0wz1_3 : wz1.cell? ⟨gb0, 3, none⟩ = some (.slice A0_3 l0_3.length c0_3) := (blk_cell Kgb0.out 3).trans rfl
 go_upto_region 9 with (first
  | (go_at_call 13; (with_reducible refine (laws_toImage.calls k a0_0 a0_1 a0_2 A0_3 c0_3 l0_3 x0_0 x0_1 x0_2 x0_3 wz1 (Kd.C_below HR0.out HB.out) HC0.out HT0.out).mono ?_); rintro e w1 ⟨vt_, rfl, hr, hb⟩; obtain ⟨At0, ct0, rfl, hl_, hC_⟩ := Kd.R_reads hr; replace HB := mk (below_then HB.out HB.out.size hb); replace Kgb0 := mk (blk_below Kgb0.out hb); have Zw1 := mk hb.size; have HT_0 := mk hC_; have HL_0 := mk hl_; have cgb0w1_0 : w1.cell? ⟨gb0, 0, none⟩ = some (.int .i64 a0_0) := (blk_cell Kgb0.out 0).trans rfl; have cgb0w1_1 : w1.cell? ⟨gb0, 1, none⟩ = some (.int .i64 a0_1) := (blk_cell Kgb0.out 1).trans rfl; have cgb0w1_2 : w1.cell? ⟨gb0, 2, none⟩ = some (.int .i64 a0_2) := (blk_cell Kgb0.out 2).trans rfl; have cgb0w1_3 : w1.cell? ⟨gb0, 3, none⟩ = some (.slice A0_3 l0_3.length c0_3) := (blk_cell Kgb0.out 3).trans rfl; clear hr hb hl_ hC_)
  | (go_at_call 14; (with_reducible refine (laws_toStepS.calls k A1_0 c1_0 l1_0 x1_0 w1 (Kd.C_below HR1.out HB.out) HC1.out HT1.out).mono ?_); rintro e w2 ⟨vt_, rfl, hr, hb⟩; obtain ⟨At1, ct1, rfl, hl_, hC_⟩ := Kd.S_reads hr; replace HT_0 := mk (Kd.C_below HT_0.out hb); replace HB := mk (below_then HB.out HB.out.size hb); replace Kgb0 := mk (blk_below Kgb0.out hb); have Zw2 := mk hb.size; have HT_1 := mk hC_; have HL_1 := mk hl_; have cgb0w2_0 : w2.cell? ⟨gb0, 0, none⟩ = some (.int .i64 a0_0) := (blk_cell Kgb0.out 0).trans rfl; have cgb0w2_1 : w2.cell? ⟨gb0, 1, none⟩ = some (.int .i64 a0_1) := (blk_cell Kgb0.out 1).trans rfl; have cgb0w2_2 : w2.cell? ⟨gb0, 2, none⟩ = some (.int .i64 a0_2) := (blk_cell Kgb0.out 2).trans rfl; have cgb0w2_3 : w2.cell? ⟨gb0, 3, none⟩ = some (.slice A0_3 l0_3.length c0_3) := (blk_cell Kgb0.out 3).trans rfl; clear hr hb hl_ hC_)
  | (go_at_call 12; (with_reducible refine (spec_RunSteps.calls k x0_0 x0_1 x0_2 At0 ct0 x0_3 At1 ct1 x1_0 v0 v1 v2 v3 vok w2 HT_0.out HL_0.out HT_1.out HL_1.out HSP.out).mono ?_); rintro e w3 ⟨v_, rfl, hr, hb⟩; obtain ⟨Aw, cw, ev_⟩ := Kd.R_slice hr; subst ev_; have Rw := mk (Kd.R_lower (Kd.R_mono (Kd.R_bound hr) (fun k_ hk_ => (⟨hk_.2.1, hk_.2.2.1⟩ : w2.heap.size ≤ k_ ∧ k_ < w3.heap.size))) HB.out.size); replace HB := mk (below_then HB.out HB.out.size hb); replace Kgb0 := mk (blk_below Kgb0.out hb); have Zw3 := mk hb.size; clear hr hb HT_0 HL_0 HT_1 HL_1))
 try clear cgb0wz1_0 cgb0wz1_1 cgb0wz1_2 cgb0wz1_3
 try clear cgb0w1_0 cgb0w1_1 cgb0w1_2 cgb0w1_3 cgb0w2_0 cgb0w2_1 cgb0w2_2 cgb0w2_3
 obtain ⟨w4, hw4⟩ : ∃ W, W = w3.alloc (.cells #[.int .i64 v0, .int .i64 v1, .int .i64 v2, .slice Aw v3.length cw] 28) := ⟨_, rfl⟩
 obtain ⟨gw, hgw⟩ : ∃ g, g = w3.heap.size := ⟨_, rfl⟩
 rw [← hw4, ← hgw]
 have Kgw := mk (show w4.heap[gw]? = some (.cells #[.int .i64 v0, .int .i64 v1, .int .i64 v2, .slice Aw v3.length cw] 28 (0, 0)) from by rw [hw4, hgw]; exact blk_new _ _)
 replace HB := mk (show Below w.heap.size w w4 from by rw [hw4]; exact below_alloc HB.out _)
 replace Kgb0 := mk (show w4.heap[gb0]? = some (.cells #[.int .i64 a0_0, .int .i64 a0_1, .int .i64 a0_2, .slice A0_3 l0_3.length c0_3] 24 (0, 0)) from by rw [hw4]; exact blk_alloc Kgb0.out _)
 replace Rw := mk (show Kd.R (Kd.int .i64) 3 w4 w.heap.size (fun k_ => w2.heap.size ≤ k_ ∧ k_ < w3.heap.size) (.slice Aw v3.length cw) v3 from by rw [hw4]; exact Kd.R_alloc Rw.out _)
 have Zw4 := mk (show w3.heap.size < w4.heap.size from by rw [hw4]; simp [World.size_alloc])
 have Zgw := mk (show w3.heap.size ≤ gw from Nat.le_of_eq hgw.symm)
 have ZLgw := mk (blk_lt Kgw.out)
 clear hw4 hgw
 have cgb0w4_0 : w4.cell? ⟨gb0, 0, none⟩ = some (.int .i64 a0_0) := (blk_cell Kgb0.out 0).trans rfl; have cgb0w4_1 : w4.cell? ⟨gb0, 1, none⟩ = some (.int .i64 a0_1) := (blk_cell Kgb0.out 1).trans rfl; have cgb0w4_2 : w4.cell? ⟨gb0, 2, none⟩ = some (.int .i64 a0_2) := (blk_cell Kgb0.out 2).trans rfl; have cgb0w4_3 : w4.cell? ⟨gb0, 3, none⟩ = some (.slice A0_3 l0_3.length c0_3) := (blk_cell Kgb0.out 3).trans rfl
 go_upto_region 10 with (first
  | (go_at_call 13; (with_reducible refine (laws_toImage.calls k a0_0 a0_1 a0_2 A0_3 c0_3 l0_3 x0_0 x0_1 x0_2 x0_3 w4 (Kd.C_below HR0.out HB.out) HC0.out HT0.out).mono ?_); rintro e w5 ⟨v_, rfl, hr, hb⟩; obtain ⟨Ax0, cx0, ev_⟩ := Kd.R_slice hr; subst ev_; have Rx0 := mk (Kd.R_lower (Kd.R_mono (Kd.R_bound hr) (fun k_ hk_ => (⟨hk_.2.1, hk_.2.2.1⟩ : w4.heap.size ≤ k_ ∧ k_ < w5.heap.size))) HB.out.size); replace HB := mk (below_then HB.out HB.out.size hb); replace Kgb0 := mk (blk_below Kgb0.out hb); replace Kgw := mk (blk_below Kgw.out hb); replace Rw := mk (Kd.R_below Rw.out hb); have Zw5 := mk hb.size; clear hr hb))
 try clear cgb0w4_0 cgb0w4_1 cgb0w4_2 cgb0w4_3
 obtain ⟨w6, hw6⟩ : ∃ W, W = w5.alloc (.cells #[.int .i64 x0_0, .int .i64 x0_1, .int .i64 x0_2, .slice Ax0 x0_3.length cx0] 28) := ⟨_, rfl⟩
 obtain ⟨gx0, hgx0⟩ : ∃ g, g = w5.heap.size := ⟨_, rfl⟩
 rw [← hw6, ← hgx0]
 have Kgx0 := mk (show w6.heap[gx0]? = some (.cells #[.int .i64 x0_0, .int .i64 x0_1, .int .i64 x0_2, .slice Ax0 x0_3.length cx0] 28 (0, 0)) from by rw [hw6, hgx0]; exact blk_new _ _)
 replace HB := mk (show Below w.heap.size w w6 from by rw [hw6]; exact below_alloc HB.out _)
 replace Kgb0 := mk (show w6.heap[gb0]? = some (.cells #[.int .i64 a0_0, .int .i64 a0_1, .int .i64 a0_2, .slice A0_3 l0_3.length c0_3] 24 (0, 0)) from by rw [hw6]; exact blk_alloc Kgb0.out _)
 replace Kgw := mk (show w6.heap[gw]? = some (.cells #[.int .i64 v0, .int .i64 v1, .int .i64 v2, .slice Aw v3.length cw] 28 (0, 0)) from by rw [hw6]; exact blk_alloc Kgw.out _)
 replace Rw := mk (show Kd.R (Kd.int .i64) 3 w6 w.heap.size (fun k_ => w2.heap.size ≤ k_ ∧ k_ < w3.heap.size) (.slice Aw v3.length cw) v3 from by rw [hw6]; exact Kd.R_alloc Rw.out _)
 replace Rx0 := mk (show Kd.R (Kd.int .i64) 3 w6 w.heap.size (fun k_ => w4.heap.size ≤ k_ ∧ k_ < w5.heap.size) (.slice Ax0 x0_3.length cx0) x0_3 from by rw [hw6]; exact Kd.R_alloc Rx0.out _)
 have Zw6 := mk (show w5.heap.size < w6.heap.size from by rw [hw6]; simp [World.size_alloc])
 have Zgx0 := mk (show w5.heap.size ≤ gx0 from Nat.le_of_eq hgx0.symm)
 have ZLgx0 := mk (blk_lt Kgx0.out)
 clear hw6 hgx0
 go_upto_region 11 with (first
  | (go_at_call 14; (with_reducible refine (laws_toStepS.calls k A1_0 c1_0 l1_0 x1_0 w6 (Kd.C_below HR1.out HB.out) HC1.out HT1.out).mono ?_); rintro e w7 ⟨v_, rfl, hr, hb⟩; obtain ⟨Ax1, cx1, ev_⟩ := Kd.S_slice hr; subst ev_; have Rx1 := mk (Kd.S_lower (Kd.S_mono (Kd.S_bound hr) (fun k_ hk_ => (⟨hk_.2.1, hk_.2.2.1⟩ : w6.heap.size ≤ k_ ∧ k_ < w7.heap.size))) HB.out.size); replace HB := mk (below_then HB.out HB.out.size hb); replace Kgb0 := mk (blk_below Kgb0.out hb); replace Kgw := mk (blk_below Kgw.out hb); replace Kgx0 := mk (blk_below Kgx0.out hb); replace Rw := mk (Kd.R_below Rw.out hb); replace Rx0 := mk (Kd.R_below Rx0.out hb); have Zw7 := mk hb.size; clear hr hb))
 have cgx0w7_0 : w7.cell? ⟨gx0, 0, none⟩ = some (.int .i64 x0_0) := (blk_cell Kgx0.out 0).trans rfl; have cgx0w7_1 : w7.cell? ⟨gx0, 1, none⟩ = some (.int .i64 x0_1) := (blk_cell Kgx0.out 1).trans rfl; have cgx0w7_2 : w7.cell? ⟨gx0, 2, none⟩ = some (.int .i64 x0_2) := (blk_cell Kgx0.out 2).trans rfl; have cgx0w7_3 : w7.cell? ⟨gx0, 3, none⟩ = some (.slice Ax0 x0_3.length cx0) := (blk_cell Kgx0.out 3).trans rfl
 go_upto_region 12 with (first
  | (go_at_call 15; (with_reducible refine (impl_RunSteps.calls k x0_0 x0_1 x0_2 Ax0 cx0 x0_3 Ax1 cx1 x1_0 v0 v1 v2 v3 vok w7 (Kd.R_reads' Rx0.out).2.2 (Kd.R_reads' Rx0.out).2.1 (Kd.S_reads' Rx1.out).2.2 (Kd.S_reads' Rx1.out).2.1 HIM.out).mono ?_); rintro e w8 ⟨v_, rfl, hr, hb⟩; obtain ⟨Ag, cg, ev_⟩ := Kd.R_slice hr; subst ev_; have Rg := mk (Kd.R_lower (Kd.R_mono (Kd.R_bound hr) (fun k_ hk_ => (⟨hk_.2.1, hk_.2.2.1⟩ : w7.heap.size ≤ k_ ∧ k_ < w8.heap.size))) HB.out.size); replace HB := mk (below_then HB.out HB.out.size hb); replace Kgb0 := mk (blk_below Kgb0.out hb); replace Kgw := mk (blk_below Kgw.out hb); replace Kgx0 := mk (blk_below Kgx0.out hb); replace Rw := mk (Kd.R_below Rw.out hb); replace Rx0 := mk (Kd.R_below Rx0.out hb); replace Rx1 := mk (Kd.S_below Rx1.out hb); have Zw8 := mk hb.size; clear hr hb))
 try clear cgx0w7_0 cgx0w7_1 cgx0w7_2 cgx0w7_3
 obtain ⟨w9, hw9⟩ : ∃ W, W = w8.alloc (.cells #[.int .i64 v0, .int .i64 v1, .int .i64 v2, .slice Ag v3.length cg] 28) := ⟨_, rfl⟩
 obtain ⟨gg, hgg⟩ : ∃ g, g = w8.heap.size := ⟨_, rfl⟩
 rw [← hw9, ← hgg]
 have Kgg := mk (show w9.heap[gg]? = some (.cells #[.int .i64 v0, .int .i64 v1, .int .i64 v2, .slice Ag v3.length cg] 28 (0, 0)) from by rw [hw9, hgg]; exact blk_new _ _)
 replace HB := mk (show Below w.heap.size w w9 from by rw [hw9]; exact below_alloc HB.out _)
 replace Kgb0 := mk (show w9.heap[gb0]? = some (.cells #[.int .i64 a0_0, .int .i64 a0_1, .int .i64 a0_2, .slice A0_3 l0_3.length c0_3] 24 (0, 0)) from by rw [hw9]; exact blk_alloc Kgb0.out _)
 replace Kgw := mk (show w9.heap[gw]? = some (.cells #[.int .i64 v0, .int .i64 v1, .int .i64 v2, .slice Aw v3.length cw] 28 (0, 0)) from by rw [hw9]; exact blk_alloc Kgw.out _)
 replace Kgx0 := mk (show w9.heap[gx0]? = some (.cells #[.int .i64 x0_0, .int .i64 x0_1, .int .i64 x0_2, .slice Ax0 x0_3.length cx0] 28 (0, 0)) from by rw [hw9]; exact blk_alloc Kgx0.out _)
 replace Rw := mk (show Kd.R (Kd.int .i64) 3 w9 w.heap.size (fun k_ => w2.heap.size ≤ k_ ∧ k_ < w3.heap.size) (.slice Aw v3.length cw) v3 from by rw [hw9]; exact Kd.R_alloc Rw.out _)
 replace Rx0 := mk (show Kd.R (Kd.int .i64) 3 w9 w.heap.size (fun k_ => w4.heap.size ≤ k_ ∧ k_ < w5.heap.size) (.slice Ax0 x0_3.length cx0) x0_3 from by rw [hw9]; exact Kd.R_alloc Rx0.out _)
 replace Rx1 := mk (show Kd.S k43 43 w9 w.heap.size (fun k_ => w6.heap.size ≤ k_ ∧ k_ < w7.heap.size) (.slice Ax1 x1_0.length cx1) x1_0 from by rw [hw9]; exact Kd.S_alloc Rx1.out _)
 replace Rg := mk (show Kd.R (Kd.int .i64) 3 w9 w.heap.size (fun k_ => w7.heap.size ≤ k_ ∧ k_ < w8.heap.size) (.slice Ag v3.length cg) v3 from by rw [hw9]; exact Kd.R_alloc Rg.out _)
 have Zw9 := mk (show w8.heap.size < w9.heap.size from by rw [hw9]; simp [World.size_alloc])
 have Zgg := mk (show w8.heap.size ≤ gg from Nat.le_of_eq hgg.symm)
 have ZLgg := mk (blk_lt Kgg.out)
 clear hw9 hgg
 have hbn : (vok != vok) = false := by simp
 have cggw9_0 : w9.cell? ⟨gg, 0, none⟩ = some (.int .i64 v0) := (blk_cell Kgg.out 0).trans rfl; have cggw9_1 : w9.cell? ⟨gg, 1, none⟩ = some (.int .i64 v1) := (blk_cell Kgg.out 1).trans rfl; have cggw9_2 : w9.cell? ⟨gg, 2, none⟩ = some (.int .i64 v2) := (blk_cell Kgg.out 2).trans rfl; have cggw9_3 : w9.cell? ⟨gg, 3, none⟩ = some (.slice Ag v3.length cg) := (blk_cell Kgg.out 3).trans rfl
 have cgww9_0 : w9.cell? ⟨gw, 0, none⟩ = some (.int .i64 v0) := (blk_cell Kgw.out 0).trans rfl; have cgww9_1 : w9.cell? ⟨gw, 1, none⟩ = some (.int .i64 v1) := (blk_cell Kgw.out 1).trans rfl; have cgww9_2 : w9.cell? ⟨gw, 2, none⟩ = some (.int .i64 v2) := (blk_cell Kgw.out 2).trans rfl; have cgww9_3 : w9.cell? ⟨gw, 3, none⟩ = some (.slice Aw v3.length cw) := (blk_cell Kgw.out 3).trans rfl
 go_upto_region 14 with (first
  | (go_at_call 16; (with_reducible refine (laws_eqImage.calls k v0 v1 v2 Ag cg v3 v0 v1 v2 Aw cw v3 true w9 (Kd.R_reads' Rg.out).2.2 (Kd.R_reads' Rg.out).2.1 (Kd.R_reads' Rw.out).2.2 (Kd.R_reads' Rw.out).2.1 HEV.out rfl).mono ?_); rintro e w10 ⟨rfl, hb⟩; replace HB := mk (below_then HB.out HB.out.size hb); replace Kgb0 := mk (blk_below Kgb0.out hb); replace Kgw := mk (blk_below Kgw.out hb); replace Kgx0 := mk (blk_below Kgx0.out hb); replace Kgg := mk (blk_below Kgg.out hb); replace Rw := mk (Kd.R_below Rw.out hb); replace Rx0 := mk (Kd.R_below Rx0.out hb); replace Rx1 := mk (Kd.S_below Rx1.out hb); replace Rg := mk (Kd.R_below Rg.out hb); have Zw10 := mk hb.size; clear hb))
 try clear cggw9_0 cggw9_1 cggw9_2 cggw9_3 cgww9_0 cgww9_1 cgww9_2 cgww9_3
 replace HB := mk (below_drew HB.out)
 replace Kgb0 := mk (blk_below Kgb0.out (below_drew (Below.refl _ _)))
 replace Kgw := mk (blk_below Kgw.out (below_drew (Below.refl _ _)))
 replace Kgx0 := mk (blk_below Kgx0.out (below_drew (Below.refl _ _)))
 replace Kgg := mk (blk_below Kgg.out (below_drew (Below.refl _ _)))
 replace Rw := mk (Kd.R_drew Rw.out)
 replace Rx0 := mk (Kd.R_drew Rx0.out)
 replace Rx1 := mk (Kd.S_drew Rx1.out)
 replace Rg := mk (Kd.R_drew Rg.out)
 refine start_ (n := 5) (S := fun w' => w'.cell? ⟨gx0, 0, none⟩ = some (.int .i64 x0_0) ∧ w'.cell? ⟨gx0, 1, none⟩ = some (.int .i64 x0_1) ∧ w'.cell? ⟨gx0, 2, none⟩ = some (.int .i64 x0_2) ∧ w'.cell? ⟨gx0, 3, none⟩ = some (.slice Ax0 x0_3.length cx0) ∧ w'.cell? ⟨gb0, 0, none⟩ = some (.int .i64 a0_0) ∧ w'.cell? ⟨gb0, 1, none⟩ = some (.int .i64 a0_1) ∧ w'.cell? ⟨gb0, 2, none⟩ = some (.int .i64 a0_2) ∧ w'.cell? ⟨gb0, 3, none⟩ = some (.slice A0_3 l0_3.length c0_3)) (ds := []) #[false, false, false, false, false] (by kernel_rfl) rfl rfl ⟨((blk_cell Kgx0.out 0).trans rfl), ((blk_cell Kgx0.out 1).trans rfl), ((blk_cell Kgx0.out 2).trans rfl), ((blk_cell Kgx0.out 3).trans rfl), ((blk_cell Kgb0.out 0).trans rfl), ((blk_cell Kgb0.out 1).trans rfl), ((blk_cell Kgb0.out 2).trans rfl), ((blk_cell Kgb0.out 3).trans rfl)⟩ (fun hHeld => ?_)
 refine take_ (i := 0) (N := some 54) (v := ?_) (a' := ?_) #[true, false, false, false, false] rfl rfl (by kernel_rfl) (fun _ _ _ h => h) (Or.inl ⟨by rfl, ?_⟩) hHeld ?_ ?_
 rotate_left
 ·rintro w' ⟨s0, s1, s2, s3, s4, s5, s6, s7⟩
  go_simp
  with_reducible rfl
 rotate_left
 ·simp only [Act.put, List.setIfInBounds_toArray, List.set_cons_zero, List.set_cons_succ, i64_w, i32_w]
  rfl
 refine take_ (i := 1) (N := some 55) (v := ?_) (a' := ?_) #[true, true, false, false, false] rfl rfl (by kernel_rfl) (fun _ _ _ h => h) (Or.inl ⟨by rfl, ?_⟩) hHeld ?_ ?_
 rotate_left
 ·rintro w' ⟨s0, s1, s2, s3, s4, s5, s6, s7⟩
  go_simp
  with_reducible rfl
 rotate_left
 ·simp only [Act.put, List.setIfInBounds_toArray, List.set_cons_zero, List.set_cons_succ, i64_w, i32_w]
  rfl
 refine one_ (i := 2) (N := some 56) #[true, true, true, false, false] rfl rfl (by kernel_rfl) (by decide) (fun K hK => ?_)
 refine goes_ Try.func13 (by kernel_rfl) rfl #[.agg #[.int .i64 a0_0, .int .i64 a0_1, .int .i64 a0_2, .slice A0_3 l0_3.length c0_3]] (by rfl) rfl rfl (by simp only [List.map_toArray, List.map_cons, List.map_nil]; rfl) ?_
 with_reducible refine (laws_toImage.calls k a0_0 a0_1 a0_2 A0_3 c0_3 l0_3 x0_0 x0_1 x0_2 x0_3 _ (Kd.C_below HR0.out HB.out) HC0.out HT0.out).mono ?_
 rintro e w11 ⟨vt_, rfl, hr_, hb_⟩
 refine ⟨_, rfl, ?_⟩
 obtain ⟨At_, ct_, rfl, hl_, hC_⟩ := Kd.R_reads hr_
 replace HB := mk (below_then HB.out HB.out.size hb_)
 replace Kgb0 := mk (blk_below Kgb0.out hb_)
 replace Kgw := mk (blk_below Kgw.out hb_)
 replace Kgx0 := mk (blk_below Kgx0.out hb_)
 replace Kgg := mk (blk_below Kgg.out hb_)
 replace Rw := mk (Kd.R_below Rw.out hb_)
 replace Rx0 := mk (Kd.R_below Rx0.out hb_)
 replace Rx1 := mk (Kd.S_below Rx1.out hb_)
 replace Rg := mk (Kd.R_below Rg.out hb_)
 have Zw11 := mk hb_.size
 have HT_ := mk hC_
 have HL_ := mk hl_
 clear hr_ hb_ hl_ hC_
 refine hK.out _ _ ⟨((blk_cell Kgx0.out 0).trans rfl), ((blk_cell Kgx0.out 1).trans rfl), ((blk_cell Kgx0.out 2).trans rfl), ((blk_cell Kgx0.out 3).trans rfl), ((blk_cell Kgb0.out 0).trans rfl), ((blk_cell Kgb0.out 1).trans rfl), ((blk_cell Kgb0.out 2).trans rfl), ((blk_cell Kgb0.out 3).trans rfl)⟩ (fun hHeld => ?_)
 clear hK K
 refine norm_ (a' := ?_) ?_ ?_
 rotate_left
 ·show Act.put _ (some 56) _ = _
  simp only [Act.put, List.setIfInBounds_toArray, List.set_cons_zero, List.set_cons_succ, i64_w, i32_w]
  rfl
 refine one_ (i := 3) (N := some 57) #[true, true, true, true, false] rfl rfl (by kernel_rfl) (by decide) (fun K hK => ?_)
 refine goes_ Try.func16 (by kernel_rfl) rfl #[.agg #[.int .i64 x0_0, .int .i64 x0_1, .int .i64 x0_2, .slice Ax0 x0_3.length cx0], .agg #[.int .i64 x0_0, .int .i64 x0_1, .int .i64 x0_2, .slice At_ x0_3.length ct_]] (by rfl) rfl rfl (by simp only [List.map_toArray, List.map_cons, List.map_nil]; rfl) ?_
 with_reducible refine (laws_eqImage.calls k x0_0 x0_1 x0_2 Ax0 cx0 x0_3 x0_0 x0_1 x0_2 At_ ct_ x0_3 true _ (Kd.R_reads' Rx0.out).2.2 (Kd.R_reads' Rx0.out).2.1 HT_.out HL_.out HE0.out rfl).mono ?_
 rintro e w12 ⟨rfl, hb_⟩
 refine ⟨_, rfl, ?_⟩
 replace HB := mk (below_then HB.out HB.out.size hb_)
 replace Kgb0 := mk (blk_below Kgb0.out hb_)
 replace Kgw := mk (blk_below Kgw.out hb_)
 replace Kgx0 := mk (blk_below Kgx0.out hb_)
 replace Kgg := mk (blk_below Kgg.out hb_)
 replace Rw := mk (Kd.R_below Rw.out hb_)
 replace Rx0 := mk (Kd.R_below Rx0.out hb_)
 replace Rx1 := mk (Kd.S_below Rx1.out hb_)
 replace Rg := mk (Kd.R_below Rg.out hb_)
 have Zw12 := mk hb_.size
 clear hb_ HT_ HL_
 refine hK.out _ _ ⟨((blk_cell Kgx0.out 0).trans rfl), ((blk_cell Kgx0.out 1).trans rfl), ((blk_cell Kgx0.out 2).trans rfl), ((blk_cell Kgx0.out 3).trans rfl), ((blk_cell Kgb0.out 0).trans rfl), ((blk_cell Kgb0.out 1).trans rfl), ((blk_cell Kgb0.out 2).trans rfl), ((blk_cell Kgb0.out 3).trans rfl)⟩ (fun hHeld => ?_)
 clear hK K
 refine norm_ (a' := ?_) ?_ ?_
 rotate_left
 ·show Act.put _ (some 57) _ = _
  simp only [Act.put, List.setIfInBounds_toArray, List.set_cons_zero, List.set_cons_succ, i64_w, i32_w]
  rfl
 refine pure_ (i := 4) (N := some 58) (v := ?_) (a' := ?_) #[true, true, true, true, true] rfl rfl (by kernel_rfl) (fun _ _ _ h => h) (Or.inl ⟨by rfl, ?_⟩) ?_ ?_
 rotate_left
 ·intro w'
  go_simp
  with_reducible rfl
 rotate_left
 ·simp only [Act.put, List.setIfInBounds_toArray, List.set_cons_zero, List.set_cons_succ, i64_w, i32_w]
  rfl
 refine done_ (by kernel_rfl) ?_
 clear hHeld
 go_upto_region 16 with (first
  | (fail))
 go_upto_region 18 with (first
  | (go_at_call 14; (with_reducible refine (laws_toStepS.calls k A1_0 c1_0 l1_0 x1_0 w12 (Kd.C_below HR1.out HB.out) HC1.out HT1.out).mono ?_); rintro e w13 ⟨vt_, rfl, hr, hb⟩; obtain ⟨At_, ct_, rfl, hl_, hC_⟩ := Kd.S_reads hr; replace HB := mk (below_then HB.out HB.out.size hb); replace Kgb0 := mk (blk_below Kgb0.out hb); replace Kgw := mk (blk_below Kgw.out hb); replace Kgx0 := mk (blk_below Kgx0.out hb); replace Kgg := mk (blk_below Kgg.out hb); replace Rw := mk (Kd.R_below Rw.out hb); replace Rx0 := mk (Kd.R_below Rx0.out hb); replace Rx1 := mk (Kd.S_below Rx1.out hb); replace Rg := mk (Kd.R_below Rg.out hb); have Zw13 := mk hb.size; have HT_ := mk hC_; have HL_ := mk hl_; clear hr hb hl_ hC_)
  | (go_at_call 17; (with_reducible refine (laws_eqStepS.calls k Ax1 cx1 x1_0 At_ ct_ x1_0 true w13 (Kd.S_reads' Rx1.out).2.2 (Kd.S_reads' Rx1.out).2.1 HT_.out HL_.out HE1.out rfl).mono ?_); rintro e w14 ⟨rfl, hb⟩; replace HB := mk (below_then HB.out HB.out.size hb); replace Kgb0 := mk (blk_below Kgb0.out hb); replace Kgw := mk (blk_below Kgw.out hb); replace Kgx0 := mk (blk_below Kgx0.out hb); replace Kgg := mk (blk_below Kgg.out hb); replace Rw := mk (Kd.R_below Rw.out hb); replace Rx0 := mk (Kd.R_below Rx0.out hb); replace Rx1 := mk (Kd.S_below Rx1.out hb); replace Rg := mk (Kd.R_below Rg.out hb); have Zw14 := mk hb.size; clear hb HT_ HL_))
 have Zb0 := mk QKgb0.out
 have z0_ := Zw1.out; have z1_ := Zw2.out; have z2_ := Zw3.out; have z3_ := Zw4.out; have z4_ := Zgw.out; have z5_ := ZLgw.out; have z6_ := Zw5.out; have z7_ := Zw6.out; have z8_ := Zgx0.out; have z9_ := ZLgx0.out; have z10_ := Zw7.out; have z11_ := Zw8.out; have z12_ := Zw9.out; have z13_ := Zgg.out; have z14_ := ZLgg.out; have z15_ := Zw10.out; have z16_ := Zw11.out; have z17_ := Zw12.out; have z18_ := Zw13.out; have z19_ := Zw14.out; have z20_ := Zb0.out
 have cgx0w14_0 : w14.cell? ⟨gx0, 0, none⟩ = some (.int .i64 x0_0) := (blk_cell Kgx0.out 0).trans rfl; have cgx0w14_1 : w14.cell? ⟨gx0, 1, none⟩ = some (.int .i64 x0_1) := (blk_cell Kgx0.out 1).trans rfl; have cgx0w14_2 : w14.cell? ⟨gx0, 2, none⟩ = some (.int .i64 x0_2) := (blk_cell Kgx0.out 2).trans rfl; have cgx0w14_3 : w14.cell? ⟨gx0, 3, none⟩ = some (.slice Ax0 x0_3.length cx0) := (blk_cell Kgx0.out 3).trans rfl
 go_upto_region 20 with (first
  | (go_at_call 18; (with_reducible refine (laws_markImage.calls k x0_0 x0_1 x0_2 (fun k_ => w4.heap.size ≤ k_ ∧ k_ < w5.heap.size) (.slice Ax0 x0_3.length cx0) x0_3 1 k0 y0 w w14 HB.out Rx0.out HM0.out).mono ?_); rintro e w15 ⟨rfl, hr, hb, hK⟩; replace Kgb0 := mk ((hK.2 gb0 (blk_lt Kgb0.out) (by have b_ := blk_lt Kgb0.out; rintro ⟨h1_, h2_⟩; omega)).trans Kgb0.out); replace Kgw := mk ((hK.2 gw (blk_lt Kgw.out) (by have b_ := blk_lt Kgw.out; rintro ⟨h1_, h2_⟩; omega)).trans Kgw.out); replace Kgx0 := mk ((hK.2 gx0 (blk_lt Kgx0.out) (by have b_ := blk_lt Kgx0.out; rintro ⟨h1_, h2_⟩; omega)).trans Kgx0.out); replace Kgg := mk ((hK.2 gg (blk_lt Kgg.out) (by have b_ := blk_lt Kgg.out; rintro ⟨h1_, h2_⟩; omega)).trans Kgg.out); replace Rw := mk (Kd.R_kept Rw.out hK (by rintro k_ ⟨h1_, h2_⟩ ⟨h3_, h4_⟩; omega)); replace Rx1 := mk (Kd.S_kept Rx1.out hK (by rintro k_ ⟨h1_, h2_⟩ ⟨h3_, h4_⟩; omega)); replace Rg := mk (Kd.R_kept Rg.out hK (by rintro k_ ⟨h1_, h2_⟩ ⟨h3_, h4_⟩; omega)); replace HB := mk hb; replace Rx0 := mk hr; have Zw15 := mk hK.1; clear hr hb hK))
 try clear cgx0w14_0 cgx0w14_1 cgx0w14_2 cgx0w14_3
 clear z0_ z1_ z2_ z3_ z4_ z5_ z6_ z7_ z8_ z9_ z10_ z11_ z12_ z13_ z14_ z15_ z16_ z17_ z18_ z19_ z20_
 have z0_ := Zw1.out; have z1_ := Zw2.out; have z2_ := Zw3.out; have z3_ := Zw4.out; have z4_ := Zgw.out; have z5_ := ZLgw.out; have z6_ := Zw5.out; have z7_ := Zw6.out; have z8_ := Zgx0.out; have z9_ := ZLgx0.out; have z10_ := Zw7.out; have z11_ := Zw8.out; have z12_ := Zw9.out; have z13_ := Zgg.out; have z14_ := ZLgg.out; have z15_ := Zw10.out; have z16_ := Zw11.out; have z17_ := Zw12.out; have z18_ := Zw13.out; have z19_ := Zw14.out; have z20_ := Zb0.out; have z21_ := Zw15.out
 go_upto_region 21 with (first
  | (go_at_call 19; (with_reducible refine (laws_markStepS.calls k (fun k_ => w6.heap.size ≤ k_ ∧ k_ < w7.heap.size) (.slice Ax1 x1_0.length cx1) x1_0 k0 k1 y1 w w15 HB.out Rx1.out HM1.out).mono ?_); rintro e w16 ⟨rfl, hr, hb, hK⟩; replace Kgb0 := mk ((hK.2 gb0 (blk_lt Kgb0.out) (by have b_ := blk_lt Kgb0.out; rintro ⟨h1_, h2_⟩; omega)).trans Kgb0.out); replace Kgw := mk ((hK.2 gw (blk_lt Kgw.out) (by have b_ := blk_lt Kgw.out; rintro ⟨h1_, h2_⟩; omega)).trans Kgw.out); replace Kgx0 := mk ((hK.2 gx0 (blk_lt Kgx0.out) (by have b_ := blk_lt Kgx0.out; rintro ⟨h1_, h2_⟩; omega)).trans Kgx0.out); replace Kgg := mk ((hK.2 gg (blk_lt Kgg.out) (by have b_ := blk_lt Kgg.out; rintro ⟨h1_, h2_⟩; omega)).trans Kgg.out); replace Rw := mk (Kd.R_kept Rw.out hK (by rintro k_ ⟨h1_, h2_⟩ ⟨h3_, h4_⟩; omega)); replace Rg := mk (Kd.R_kept Rg.out hK (by rintro k_ ⟨h1_, h2_⟩ ⟨h3_, h4_⟩; omega)); replace HB := mk hb; replace Rx1 := mk hr; have Zw16 := mk hK.1; clear hr hb hK))
 clear z0_ z1_ z2_ z3_ z4_ z5_ z6_ z7_ z8_ z9_ z10_ z11_ z12_ z13_ z14_ z15_ z16_ z17_ z18_ z19_ z20_ z21_
 have cggw16_0 : w16.cell? ⟨gg, 0, none⟩ = some (.int .i64 v0) := (blk_cell Kgg.out 0).trans rfl; have cggw16_1 : w16.cell? ⟨gg, 1, none⟩ = some (.int .i64 v1) := (blk_cell Kgg.out 1).trans rfl; have cggw16_2 : w16.cell? ⟨gg, 2, none⟩ = some (.int .i64 v2) := (blk_cell Kgg.out 2).trans rfl; have cggw16_3 : w16.cell? ⟨gg, 3, none⟩ = some (.slice Ag v3.length cg) := (blk_cell Kgg.out 3).trans rfl
 have cgww16_0 : w16.cell? ⟨gw, 0, none⟩ = some (.int .i64 v0) := (blk_cell Kgw.out 0).trans rfl; have cgww16_1 : w16.cell? ⟨gw, 1, none⟩ = some (.int .i64 v1) := (blk_cell Kgw.out 1).trans rfl; have cgww16_2 : w16.cell? ⟨gw, 2, none⟩ = some (.int .i64 v2) := (blk_cell Kgw.out 2).trans rfl; have cgww16_3 : w16.cell? ⟨gw, 3, none⟩ = some (.slice Aw v3.length cw) := (blk_cell Kgw.out 3).trans rfl
 go_upto_region 23 with (first
  | (go_at_call 16; (with_reducible refine (laws_eqImage.calls k v0 v1 v2 Ag cg v3 v0 v1 v2 Aw cw v3 true w16 (Kd.R_reads' Rg.out).2.2 (Kd.R_reads' Rg.out).2.1 (Kd.R_reads' Rw.out).2.2 (Kd.R_reads' Rw.out).2.1 HEV.out rfl).mono ?_); rintro e w17 ⟨rfl, hb⟩; replace HB := mk (below_then HB.out HB.out.size hb); replace Kgb0 := mk (blk_below Kgb0.out hb); replace Kgw := mk (blk_below Kgw.out hb); replace Kgx0 := mk (blk_below Kgx0.out hb); replace Kgg := mk (blk_below Kgg.out hb); replace Rw := mk (Kd.R_below Rw.out hb); replace Rg := mk (Kd.R_below Rg.out hb); have Zw17 := mk hb.size; clear hb))
 try clear cggw16_0 cggw16_1 cggw16_2 cggw16_3 cgww16_0 cgww16_1 cgww16_2 cgww16_3
 have z0_ := Zw1.out; have z1_ := Zw2.out; have z2_ := Zw3.out; have z3_ := Zw4.out; have z4_ := Zgw.out; have z5_ := ZLgw.out; have z6_ := Zw5.out; have z7_ := Zw6.out; have z8_ := Zgx0.out; have z9_ := ZLgx0.out; have z10_ := Zw7.out; have z11_ := Zw8.out; have z12_ := Zw9.out; have z13_ := Zgg.out; have z14_ := ZLgg.out; have z15_ := Zw10.out; have z16_ := Zw11.out; have z17_ := Zw12.out; have z18_ := Zw13.out; have z19_ := Zw14.out; have z20_ := Zb0.out; have z21_ := Zw15.out; have z22_ := Zw16.out; have z23_ := Zw17.out
 have cggw17_0 : w17.cell? ⟨gg, 0, none⟩ = some (.int .i64 v0) := (blk_cell Kgg.out 0).trans rfl; have cggw17_1 : w17.cell? ⟨gg, 1, none⟩ = some (.int .i64 v1) := (blk_cell Kgg.out 1).trans rfl; have cggw17_2 : w17.cell? ⟨gg, 2, none⟩ = some (.int .i64 v2) := (blk_cell Kgg.out 2).trans rfl; have cggw17_3 : w17.cell? ⟨gg, 3, none⟩ = some (.slice Ag v3.length cg) := (blk_cell Kgg.out 3).trans rfl
 go_upto_region 25 with (first
  | (go_at_call 18; (with_reducible refine (laws_markImage.calls k v0 v1 v2 (fun k_ => w7.heap.size ≤ k_ ∧ k_ < w8.heap.size) (.slice Ag v3.length cg) v3 1 m u w w17 HB.out Rg.out HMR.out).mono ?_); rintro e w18 ⟨rfl, hr, hb, hK⟩; replace Kgb0 := mk ((hK.2 gb0 (blk_lt Kgb0.out) (by have b_ := blk_lt Kgb0.out; rintro ⟨h1_, h2_⟩; omega)).trans Kgb0.out); replace Kgw := mk ((hK.2 gw (blk_lt Kgw.out) (by have b_ := blk_lt Kgw.out; rintro ⟨h1_, h2_⟩; omega)).trans Kgw.out); replace Kgx0 := mk ((hK.2 gx0 (blk_lt Kgx0.out) (by have b_ := blk_lt Kgx0.out; rintro ⟨h1_, h2_⟩; omega)).trans Kgx0.out); replace Kgg := mk ((hK.2 gg (blk_lt Kgg.out) (by have b_ := blk_lt Kgg.out; rintro ⟨h1_, h2_⟩; omega)).trans Kgg.out); replace Rw := mk (Kd.R_kept Rw.out hK (by rintro k_ ⟨h1_, h2_⟩ ⟨h3_, h4_⟩; omega)); replace HB := mk hb; replace Rg := mk hr; have Zw18 := mk hK.1; clear hr hb hK))
 try clear cggw17_0 cggw17_1 cggw17_2 cggw17_3
 clear z0_ z1_ z2_ z3_ z4_ z5_ z6_ z7_ z8_ z9_ z10_ z11_ z12_ z13_ z14_ z15_ z16_ z17_ z18_ z19_ z20_ z21_ z22_ z23_
 have eu := mk (Kd.R_reads' Rg.out).1
 replace Kgg := mk (show w18.heap[gg]? = some (.cells #[.int .i64 v0, .int .i64 v1, .int .i64 v2, .slice Ag u.length cg] 28 (0, 0)) from by rw [← eu.out]; exact Kgg.out)
 replace Rg := mk (show Kd.R (Kd.int .i64) 3 w18 w.heap.size (fun k_ => 0 ≤ k_ ∧ k_ < w18.heap.size) (.slice Ag u.length cg) u from by rw [← eu.out]; exact Kd.R_mono (Kd.R_bound Rg.out) (fun k_ hk_ => ⟨Nat.zero_le _, hk_.2.2.1⟩))
 clear eu
 have cggw18_0 : w18.cell? ⟨gg, 0, none⟩ = some (.int .i64 v0) := (blk_cell Kgg.out 0).trans rfl; have cggw18_1 : w18.cell? ⟨gg, 1, none⟩ = some (.int .i64 v1) := (blk_cell Kgg.out 1).trans rfl; have cggw18_2 : w18.cell? ⟨gg, 2, none⟩ = some (.int .i64 v2) := (blk_cell Kgg.out 2).trans rfl; have cggw18_3 : w18.cell? ⟨gg, 3, none⟩ = some (.slice Ag u.length cg) := (blk_cell Kgg.out 3).trans rfl
 go_upto_region 31 with (first
  | (go_at_call 20; (with_reducible refine (laws_heldImage.calls k v0 v1 v2 Ag cg u 1 m w18 (Kd.R_reads' Rg.out).2.2 (Kd.R_reads' Rg.out).2.1 HHR.out).mono ?_); rintro e w19 ⟨rfl, hb⟩; replace HB := mk (below_then HB.out HB.out.size hb); replace Kgb0 := mk (blk_below Kgb0.out hb); replace Kgw := mk (blk_below Kgw.out hb); replace Kgg := mk (blk_below Kgg.out hb); replace Rw := mk (Kd.R_below Rw.out hb); replace Rg := mk (Kd.R_below Rg.out hb); have Zw19 := mk hb.size; clear hb))
 try clear cggw18_0 cggw18_1 cggw18_2 cggw18_3
 have HBSh := mk HB.out.size
 have QKgb0 := mk (show gb0 < w19.heap.size from blk_lt Kgb0.out)
 have QKgw := mk (show gw < w19.heap.size from blk_lt Kgw.out)
 have QKgg := mk (show gg < w19.heap.size from blk_lt Kgg.out)
 have cgb0w19_0 : w19.cell? ⟨gb0, 0, none⟩ = some (.int .i64 a0_0) := (blk_cell Kgb0.out 0).trans rfl; have cgb0w19_1 : w19.cell? ⟨gb0, 1, none⟩ = some (.int .i64 a0_1) := (blk_cell Kgb0.out 1).trans rfl; have cgb0w19_2 : w19.cell? ⟨gb0, 2, none⟩ = some (.int .i64 a0_2) := (blk_cell Kgb0.out 2).trans rfl; have cgb0w19_3 : w19.cell? ⟨gb0, 3, none⟩ = some (.slice A0_3 l0_3.length c0_3) := (blk_cell Kgb0.out 3).trans rfl
 go_upto_region 32 with (first
  | (go_at_call 13; (with_reducible refine (laws_toImage.calls k a0_0 a0_1 a0_2 A0_3 c0_3 l0_3 x0_0 x0_1 x0_2 x0_3 w19 (Kd.C_below HR0.out HB.out) HC0.out HT0.out).mono ?_); rintro e w20 ⟨vt_, rfl, hr, hb⟩; obtain ⟨At0, ct0, rfl, hl_, hC_⟩ := Kd.R_reads hr; replace HB := mk (below_then HB.out HB.out.size hb); replace Kgb0 := mk (blk_below Kgb0.out hb); replace Kgw := mk (blk_below Kgw.out hb); replace Kgg := mk (blk_below Kgg.out hb); replace Rw := mk (Kd.R_below Rw.out hb); replace Rg := mk (Kd.R_below Rg.out hb); have Zw20 := mk hb.size; have HT_0 := mk hC_; have HL_0 := mk hl_; have cgb0w20_0 : w20.cell? ⟨gb0, 0, none⟩ = some (.int .i64 a0_0) := (blk_cell Kgb0.out 0).trans rfl; have cgb0w20_1 : w20.cell? ⟨gb0, 1, none⟩ = some (.int .i64 a0_1) := (blk_cell Kgb0.out 1).trans rfl; have cgb0w20_2 : w20.cell? ⟨gb0, 2, none⟩ = some (.int .i64 a0_2) := (blk_cell Kgb0.out 2).trans rfl; have cgb0w20_3 : w20.cell? ⟨gb0, 3, none⟩ = some (.slice A0_3 l0_3.length c0_3) := (blk_cell Kgb0.out 3).trans rfl; clear hr hb hl_ hC_)
  | (go_at_call 14; (with_reducible refine (laws_toStepS.calls k A1_0 c1_0 l1_0 x1_0 w20 (Kd.C_below HR1.out HB.out) HC1.out HT1.out).mono ?_); rintro e w21 ⟨vt_, rfl, hr, hb⟩; obtain ⟨At1, ct1, rfl, hl_, hC_⟩ := Kd.S_reads hr; replace HT_0 := mk (Kd.C_below HT_0.out hb); replace HB := mk (below_then HB.out HB.out.size hb); replace Kgb0 := mk (blk_below Kgb0.out hb); replace Kgw := mk (blk_below Kgw.out hb); replace Kgg := mk (blk_below Kgg.out hb); replace Rw := mk (Kd.R_below Rw.out hb); replace Rg := mk (Kd.R_below Rg.out hb); have Zw21 := mk hb.size; have HT_1 := mk hC_; have HL_1 := mk hl_; have cgb0w21_0 : w21.cell? ⟨gb0, 0, none⟩ = some (.int .i64 a0_0) := (blk_cell Kgb0.out 0).trans rfl; have cgb0w21_1 : w21.cell? ⟨gb0, 1, none⟩ = some (.int .i64 a0_1) := (blk_cell Kgb0.out 1).trans rfl; have cgb0w21_2 : w21.cell? ⟨gb0, 2, none⟩ = some (.int .i64 a0_2) := (blk_cell Kgb0.out 2).trans rfl; have cgb0w21_3 : w21.cell? ⟨gb0, 3, none⟩ = some (.slice A0_3 l0_3.length c0_3) := (blk_cell Kgb0.out 3).trans rfl; clear hr hb hl_ hC_)
  | (go_at_call 15; (with_reducible refine (impl_RunSteps.calls k x0_0 x0_1 x0_2 At0 ct0 x0_3 At1 ct1 x1_0 v0 v1 v2 v3 vok w21 HT_0.out HL_0.out HT_1.out HL_1.out HIM.out).mono ?_); rintro e w22 ⟨v_, rfl, hr, hb⟩; obtain ⟨Ah, ch, ev_⟩ := Kd.R_slice hr; subst ev_; have Rh := mk (Kd.R_lower (Kd.R_mono (Kd.R_bound hr) (fun k_ hk_ => (⟨hk_.2.1, hk_.2.2.1⟩ : w21.heap.size ≤ k_ ∧ k_ < w22.heap.size))) HB.out.size); replace HB := mk (below_then HB.out HB.out.size hb); replace Kgb0 := mk (blk_below Kgb0.out hb); replace Kgw := mk (blk_below Kgw.out hb); replace Kgg := mk (blk_below Kgg.out hb); replace Rw := mk (Kd.R_below Rw.out hb); replace Rg := mk (Kd.R_below Rg.out hb); have Zw22 := mk hb.size; clear hr hb HT_0 HL_0 HT_1 HL_1))
 try clear cgb0w19_0 cgb0w19_1 cgb0w19_2 cgb0w19_3
 try clear cgb0w20_0 cgb0w20_1 cgb0w20_2 cgb0w20_3 cgb0w21_0 cgb0w21_1 cgb0w21_2 cgb0w21_3
 obtain ⟨w23, hw23⟩ : ∃ W, W = w22.alloc (.cells #[.int .i64 v0, .int .i64 v1, .int .i64 v2, .slice Ah v3.length ch] 28) := ⟨_, rfl⟩
 obtain ⟨gh, hgh⟩ : ∃ g, g = w22.heap.size := ⟨_, rfl⟩
 rw [← hw23, ← hgh]
 have Kgh := mk (show w23.heap[gh]? = some (.cells #[.int .i64 v0, .int .i64 v1, .int .i64 v2, .slice Ah v3.length ch] 28 (0, 0)) from by rw [hw23, hgh]; exact blk_new _ _)
 replace HB := mk (show Below w.heap.size w w23 from by rw [hw23]; exact below_alloc HB.out _)
 replace Kgb0 := mk (show w23.heap[gb0]? = some (.cells #[.int .i64 a0_0, .int .i64 a0_1, .int .i64 a0_2, .slice A0_3 l0_3.length c0_3] 24 (0, 0)) from by rw [hw23]; exact blk_alloc Kgb0.out _)
 replace Kgw := mk (show w23.heap[gw]? = some (.cells #[.int .i64 v0, .int .i64 v1, .int .i64 v2, .slice Aw v3.length cw] 28 (0, 0)) from by rw [hw23]; exact blk_alloc Kgw.out _)
 replace Kgg := mk (show w23.heap[gg]? = some (.cells #[.int .i64 v0, .int .i64 v1, .int .i64 v2, .slice Ag u.length cg] 28 (0, 0)) from by rw [hw23]; exact blk_alloc Kgg.out _)
 replace Rw := mk (show Kd.R (Kd.int .i64) 3 w23 w.heap.size (fun k_ => w2.heap.size ≤ k_ ∧ k_ < w3.heap.size) (.slice Aw v3.length cw) v3 from by rw [hw23]; exact Kd.R_alloc Rw.out _)
 replace Rg := mk (show Kd.R (Kd.int .i64) 3 w23 w.heap.size (fun k_ => 0 ≤ k_ ∧ k_ < w18.heap.size) (.slice Ag u.length cg) u from by rw [hw23]; exact Kd.R_alloc Rg.out _)
 replace Rh := mk (show Kd.R (Kd.int .i64) 3 w23 w.heap.size (fun k_ => w21.heap.size ≤ k_ ∧ k_ < w22.heap.size) (.slice Ah v3.length ch) v3 from by rw [hw23]; exact Kd.R_alloc Rh.out _)
 have Zw23 := mk (show w22.heap.size < w23.heap.size from by rw [hw23]; simp [World.size_alloc])
 have Zgh := mk (show w22.heap.size ≤ gh from Nat.le_of_eq hgh.symm)
 have ZLgh := mk (blk_lt Kgh.out)
 clear hw23 hgh
 have cghw23_0 : w23.cell? ⟨gh, 0, none⟩ = some (.int .i64 v0) := (blk_cell Kgh.out 0).trans rfl; have cghw23_1 : w23.cell? ⟨gh, 1, none⟩ = some (.int .i64 v1) := (blk_cell Kgh.out 1).trans rfl; have cghw23_2 : w23.cell? ⟨gh, 2, none⟩ = some (.int .i64 v2) := (blk_cell Kgh.out 2).trans rfl; have cghw23_3 : w23.cell? ⟨gh, 3, none⟩ = some (.slice Ah v3.length ch) := (blk_cell Kgh.out 3).trans rfl
 have cgww23_0 : w23.cell? ⟨gw, 0, none⟩ = some (.int .i64 v0) := (blk_cell Kgw.out 0).trans rfl; have cgww23_1 : w23.cell? ⟨gw, 1, none⟩ = some (.int .i64 v1) := (blk_cell Kgw.out 1).trans rfl; have cgww23_2 : w23.cell? ⟨gw, 2, none⟩ = some (.int .i64 v2) := (blk_cell Kgw.out 2).trans rfl; have cgww23_3 : w23.cell? ⟨gw, 3, none⟩ = some (.slice Aw v3.length cw) := (blk_cell Kgw.out 3).trans rfl
 go_upto_region 34 with (first
  | (go_at_call 16; (with_reducible refine (laws_eqImage.calls k v0 v1 v2 Ah ch v3 v0 v1 v2 Aw cw v3 true w23 (Kd.R_reads' Rh.out).2.2 (Kd.R_reads' Rh.out).2.1 (Kd.R_reads' Rw.out).2.2 (Kd.R_reads' Rw.out).2.1 HEV.out rfl).mono ?_); rintro e w24 ⟨rfl, hb⟩; replace HB := mk (below_then HB.out HB.out.size hb); replace Kgb0 := mk (blk_below Kgb0.out hb); replace Kgw := mk (blk_below Kgw.out hb); replace Kgg := mk (blk_below Kgg.out hb); replace Kgh := mk (blk_below Kgh.out hb); replace Rw := mk (Kd.R_below Rw.out hb); replace Rg := mk (Kd.R_below Rg.out hb); replace Rh := mk (Kd.R_below Rh.out hb); have Zw24 := mk hb.size; clear hb))
 try clear cghw23_0 cghw23_1 cghw23_2 cghw23_3 cgww23_0 cgww23_1 cgww23_2 cgww23_3
 have cggw24_0 : w24.cell? ⟨gg, 0, none⟩ = some (.int .i64 v0) := (blk_cell Kgg.out 0).trans rfl; have cggw24_1 : w24.cell? ⟨gg, 1, none⟩ = some (.int .i64 v1) := (blk_cell Kgg.out 1).trans rfl; have cggw24_2 : w24.cell? ⟨gg, 2, none⟩ = some (.int .i64 v2) := (blk_cell Kgg.out 2).trans rfl; have cggw24_3 : w24.cell? ⟨gg, 3, none⟩ = some (.slice Ag u.length cg) := (blk_cell Kgg.out 3).trans rfl
 go_wp2_with (first
  | (go_at_call 20; (with_reducible refine (laws_heldImage.calls k v0 v1 v2 Ag cg u 1 m w24 (Kd.R_reads' Rg.out).2.2 (Kd.R_reads' Rg.out).2.1 HHR.out).mono ?_); rintro e w25 ⟨rfl, hb⟩; replace HB := mk (below_then HB.out HB.out.size hb); replace Kgb0 := mk (blk_below Kgb0.out hb); replace Kgw := mk (blk_below Kgw.out hb); replace Kgg := mk (blk_below Kgg.out hb); replace Kgh := mk (blk_below Kgh.out hb); replace Rw := mk (Kd.R_below Rw.out hb); replace Rg := mk (Kd.R_below Rg.out hb); replace Rh := mk (Kd.R_below Rh.out hb); have Zw25 := mk hb.size; clear hb))
 go_ret
 exact ⟨rfl, HB.out⟩
theorem laws_FnExactRunSteps.calls (k : Nat) (a0_0 : Int) (a0_1 : Int) (a0_2 : Int) (A0_3 : Option Addr) (c0_3 : Nat) (l0_3 : List Int) (A1_0 : Option Addr) (c1_0 : Nat) (l1_0 : List S57) (r : Bool) (w : World) (hr0 : Kd.C (Kd.int .i64) w A0_3 l0_3.length l0_3) (hc0 : l0_3.length ≤ c0_3) (hr1 : Kd.C k57 w A1_0 l1_0.length l1_0) (hc1 : l1_0.length ≤ c1_0) (h : laws_FnExactRunSteps.f k a0_0 a0_1 a0_2 l0_3 l1_0 = some r) : Calls Try.prog 3 #[.agg #[.int .i64 a0_0, .int .i64 a0_1, .int .i64 a0_2, .slice A0_3 l0_3.length c0_3], .slice A1_0 l1_0.length c1_0] w fun e w' => e = .returned (.bool r) ∧ Below w.heap.size w w' := by
 unfold laws_FnExactRunSteps.f at h
 by_cases hg : laws_FnExactRunSteps.Goes k a0_0 a0_1 a0_2 l0_3 l1_0
 ·rw [if_pos hg] at h
  obtain rfl : true = r := Option.some.inj h
  clear h
  unfold laws_FnExactRunSteps.Goes at hg
  rcases hg with ⟨s0, hs0, hn0⟩ | ⟨s0, s1, hs0, hn0, hs1, hn1⟩ | ⟨s0, s1, x0_0, x0_1, x0_2, x0_3, x1_0, v0, v1, v2, v3, vok, k0, y0, k1, y1, m, u, HS0, HN0, HS1, HN1, HT0, HT1, HSP, HIM, HEV, HE0, HE1, HM0, HM1, HKN, HMR, HHR, HMN⟩
  ·exact laws_FnExactRunSteps.big0 k a0_0 a0_1 a0_2 A0_3 c0_3 l0_3 A1_0 c1_0 l1_0 w hr0 hc0 hr1 hc1 s0 hs0 hn0
  ·exact laws_FnExactRunSteps.big1 k a0_0 a0_1 a0_2 A0_3 c0_3 l0_3 A1_0 c1_0 l1_0 w hr0 hc0 hr1 hc1 s0 s1 hs0 hn0 hs1 hn1
  ·exact laws_FnExactRunSteps.way k a0_0 a0_1 a0_2 A0_3 c0_3 l0_3 A1_0 c1_0 l1_0 w hr0 hc0 hr1 hc1 s0 s1 x0_0 x0_1 x0_2 x0_3 x1_0 v0 v1 v2 v3 vok k0 y0 k1 y1 m u HS0 HN0 HS1 HN1 HT0 HT1 HSP HIM HEV HE0 HE1 HM0 HM1 HKN HMR HHR HMN
 ·rw [if_neg hg] at h; cases h
end Go.Proofs.Ytgccpcnakkioiaa.Q

/- What an argument's reading as data tells: numbers, bools, slices and structs of them, by their kinds. -/
namespace Go.Proofs.Ytgccpcnakkioiaa.Q
open Go.RowKit Go.Proofs.YtgccpcnakkioiaaW.PrintWords Go.Proofs.YtgccpcnakkioiaaW.PrintLast Go.Proofs.YtgccpcnakkioiaaW.PrintMore
attribute [local go_sem] max2_int min2_int max_two min_two max_three min_three max_four min_four
set_option linter.unusedVariables false
set_option linter.unusedSimpArgs false
open Go.ChangeShapes Go.WideShapes Go.Deep

/-- A number of 64 bits. -/
def I64 (n : Int) : Prop := -9223372036854775808 ≤ n ∧ n ≤ 9223372036854775807
theorem i64_of (n : Int) (h : (Lit.int .i64 n).wf = true) : I64 n := by
  simp only [Lit.wf, Bool.and_eq_true, decide_eq_true_eq] at h
  have e1 : IntKind.min .i64 = -9223372036854775808 := by decide
  have e2 : IntKind.max .i64 = 9223372036854775807 := by decide
  unfold I64
  omega
/-- Whatever reads at type t as data is a y of this kind, of which Q holds. -/
def Opens {α : Type} (P : Program) (t : TypeId) (d : Kd α) (Q : α → Prop) : Prop :=
  ∀ (H : Type) (enc : TypeId × Value → H) (w : World) (fuel : Nat) (cs : List Value) (x : DataW H × List MemPlace),
    DataW.trod enc P w 0 (fun _ => true) true fuel t cs = some x → ∃ y : α, d.K w y cs ∧ Q y
section
variable {P : Program} {t : TypeId} {α β : Type}
theorem opens_i64 (ht : P.underlying t = some (.int .i64)) : Opens P t (Kd.int .i64) I64 := by
  intro H enc w fuel cs x h
  obtain ⟨n, rfl, _, hw⟩ := DataW.trod_int ht h
  exact ⟨n, rfl, i64_of n hw⟩
theorem opens_bool (ht : P.underlying t = some .bool) : Opens P t Kd.bool (fun _ => True) := by
  intro H enc w fuel cs x h
  obtain ⟨b, rfl, _⟩ := DataW.trod_bool ht h
  exact ⟨b, rfl, trivial⟩
theorem opens_sliceB {e : TypeId} {d : Kd α} {Q : α → Prop} (ht : P.underlying t = some (.slice e)) (hc : P.cellsOf e = d.sz) (ho : Opens P e d Q) :
    Opens P t (Kd.slice e d) (fun l => (∀ x ∈ l, Q x) ∧ l.length ≤ 9223372036854775807) := by
  intro H enc w fuel cs x h
  rcases open_slice ht h with ⟨rfl, _⟩ | ⟨a, len, cap, m, n, D, Pl, rfl, _, hl, hm, hmm, _, hi⟩
  · exact ⟨[], ⟨none, 0, rfl, Nat.le_refl _, rfl, by simp, fun h0 => absurd h0 (by simp)⟩, ⟨fun x hx => absurd hx (by simp), by simp⟩⟩
  · have hmc : m = cap := by simpa using hmm
    subst hmc
    have each : ∀ i, i < len → ∃ y : α, (∃ c, c.length = d.sz ∧ d.K w y c ∧ ∀ j u, c[j]? = some u → w.cell? (a.add (i * d.sz + j)) = some u) ∧ Q y := by
      intro i hil
      obtain ⟨cs', hcs, htr⟩ := hi i (by omega)
      rw [hc] at hcs
      obtain ⟨_, hcl, hat⟩ := World.cells?_some hcs
      obtain ⟨y, hK, hQ⟩ := ho H enc w n cs' _ htr
      refine ⟨y, ⟨cs', hcl, hK, fun j u hu => ?_⟩, hQ⟩
      have hj : j < d.sz := by rw [← hcl]; exact (List.getElem?_eq_some_iff.1 hu).1
      rw [← Go.Deep.add_add, hat j hj, hu]
    have hY : ∃ ys : List α, ys.length = len ∧ ∀ i, i < len → ∃ y, ys[i]? = some y ∧ (∃ c, c.length = d.sz ∧ d.K w y c ∧ ∀ j u, c[j]? = some u → w.cell? (a.add (i * d.sz + j)) = some u) ∧ Q y := by
      have key : ∀ q, q ≤ len → ∃ ys : List α, ys.length = q ∧ ∀ i, i < q → ∃ y, ys[i]? = some y ∧ (∃ c, c.length = d.sz ∧ d.K w y c ∧ ∀ j u, c[j]? = some u → w.cell? (a.add (i * d.sz + j)) = some u) ∧ Q y := by
        intro q
        induction q with
        | zero => intro _; exact ⟨[], rfl, fun i hi' => absurd hi' (by omega)⟩
        | succ q ih =>
          intro hq
          obtain ⟨ys, hyl, hys⟩ := ih (by omega)
          obtain ⟨y, hy⟩ := each q (by omega)
          refine ⟨ys ++ [y], by simp [hyl], fun i hi' => ?_⟩
          by_cases e : i = q
          · subst e
            exact ⟨y, by rw [List.getElem?_append_right (by omega)]; simp [hyl], hy⟩
          · obtain ⟨z, hz, hz2⟩ := hys i (by omega)
            exact ⟨z, by rw [List.getElem?_append_left (by omega)]; exact hz, hz2⟩
      exact key len (Nat.le_refl _)
    obtain ⟨ys, hyl, hys⟩ := hY
    refine ⟨ys, ⟨some a, m, by rw [hyl], by omega, rfl, by rw [hyl]; simp only [maxLen] at hm; omega, fun _ => ⟨a, rfl, fun j p hj => ?_⟩⟩, ⟨fun x hx => ?_, by rw [hyl]; simp only [maxLen] at hm; omega⟩⟩
    · have hjl : j < len := by rw [← hyl]; exact (List.getElem?_eq_some_iff.1 hj).1
      obtain ⟨y, hy, hc2, _⟩ := hys j hjl
      rw [hy] at hj
      obtain rfl := Option.some.inj hj
      exact hc2
    · obtain ⟨j, hj, rfl⟩ := List.getElem_of_mem hx
      obtain ⟨y, hy, _, hq⟩ := hys j (by omega)
      rw [List.getElem?_eq_getElem hj] at hy
      obtain rfl := Option.some.inj hy
      exact hq
theorem opens_slice {e : TypeId} {d : Kd α} {Q : α → Prop} (ht : P.underlying t = some (.slice e)) (hc : P.cellsOf e = d.sz) (ho : Opens P e d Q) :
    Opens P t (Kd.slice e d) (fun l => ∀ x ∈ l, Q x) := by
  intro H enc w fuel cs x h
  obtain ⟨y, h1, h2, _⟩ := opens_sliceB ht hc ho H enc w fuel cs x h
  exact ⟨y, h1, h2⟩
/-- Fields in line, from the cell 'off' on. -/
def OpensF (P : Program) (fs : List Field) (off : Nat) (d : Kd α) (Q : α → Prop) : Prop :=
  ∀ (H : Type) (enc : TypeId × Value → H) (w : World) (n : Nat) (cs : List Value), cs.length = off + d.sz →
    (∀ f ∈ fs, ∃ x, DataW.trod enc P w 0 (fun _ => true) true n f.type ((cs.drop f.offset).take (P.cellsOf f.type)) = some x) → ∃ y : α, d.K w y (cs.drop off) ∧ Q y
theorem opensF_one {f : Field} {off : Nat} {d : Kd α} {Q : α → Prop} (ho : f.offset = off) (hc : P.cellsOf f.type = d.sz) (h : Opens P f.type d Q) : OpensF P [f] off d Q := by
  intro H enc w n cs hl hf
  obtain ⟨x, hx⟩ := hf f (by simp)
  rw [ho, hc, List.take_of_length_le (by rw [List.length_drop]; omega)] at hx
  exact h H enc w n _ _ hx
theorem opensF_cons {f : Field} {fs : List Field} {off : Nat} {d : Kd α} {Q : α → Prop} {d' : Kd β} {Q' : β → Prop} (ho : f.offset = off) (hc : P.cellsOf f.type = d.sz) (h : Opens P f.type d Q) (h' : OpensF P fs (off + d.sz) d' Q') :
    OpensF P (f :: fs) off (Kd.pair d d') (fun p => Q p.1 ∧ Q' p.2) := by
  intro H enc w n cs hl hf
  have hl' : cs.length = off + (d.sz + d'.sz) := hl
  obtain ⟨x, hx⟩ := hf f (by simp)
  rw [ho, hc] at hx
  obtain ⟨y, hK, hQ⟩ := h H enc w n _ _ hx
  obtain ⟨y', hK', hQ'⟩ := h' H enc w n cs (by omega) (fun g hg => hf g (by simp [hg]))
  refine ⟨(y, y'), ⟨(cs.drop off).take d.sz, cs.drop (off + d.sz), ?_, hK, hK'⟩, hQ, hQ'⟩
  rw [← List.drop_drop, List.take_append_drop]
theorem opens_struct {fs : Array Field} {d : Kd α} {Q : α → Prop} (ht : P.underlying t = some (.struct fs)) (hc : P.cellsOf t = d.sz) (h : OpensF P fs.toList 0 d Q) : Opens P t d Q := by
  intro H enc w fuel cs x hx
  obtain ⟨xs, n, _, _, hcl, hxl, hg⟩ := DataW.trod_struct ht hx
  obtain ⟨y, hK, hQ⟩ := h H enc w n cs (by omega) (fun f hf => by
    obtain ⟨i, hi, rfl⟩ := List.getElem_of_mem hf
    have hi' : i < fs.size := by simpa using hi
    have h1 := hg i (fs.toList[i]) (by simp [hi'])
    rw [List.getElem?_eq_getElem (by omega)] at h1
    exact ⟨_, h1⟩)
  exact ⟨y, by simpa using hK, hQ⟩
theorem opens_iso {d : Kd α} {Q : α → Prop} (f : β → α) (g : α → β) (hfg : ∀ a, f (g a) = a) (h : Opens P t d Q) : Opens P t (Kd.iso d f) (fun b => Q (f b)) := by
  intro H enc w fuel cs x hx
  obtain ⟨y, hK, hQ⟩ := h H enc w fuel cs x hx
  refine ⟨g y, ?_, ?_⟩
  · show d.K w (f (g y)) cs
    rw [hfg]; exact hK
  · show Q (f (g y))
    rw [hfg]; exact hQ
end
end Go.Proofs.Ytgccpcnakkioiaa.Q

/- What is known of structs that came in. -/
namespace Go.Proofs.Ytgccpcnakkioiaa.Q
open Go.RowKit Go.Proofs.YtgccpcnakkioiaaW.PrintWords Go.Proofs.YtgccpcnakkioiaaW.PrintLast Go.Proofs.YtgccpcnakkioiaaW.PrintMore
attribute [local go_sem] max2_int min2_int max_two min_two max_three min_three max_four min_four
set_option linter.unusedVariables false
set_option linter.unusedSimpArgs false
def wf24 (x : S24) : Prop := I64 x.f0 ∧ I64 x.f1 ∧ I64 x.f2 ∧ (∀ y ∈ x.f3, I64 y)
theorem o24 : Opens Try.prog 24 k24 wf24 :=
  opens_iso (fun x : S24 => (x.f0, x.f1, x.f2, x.f3)) (fun p => (⟨p.1, p.2.1, p.2.2.1, p.2.2.2⟩ : S24)) (fun _ => rfl) (opens_struct Try.underlying24 (by kernel_rfl) (opensF_cons rfl (by kernel_rfl) (opens_i64 Try.underlying3) (opensF_cons rfl (by kernel_rfl) (opens_i64 Try.underlying3) (opensF_cons rfl (by kernel_rfl) (opens_i64 Try.underlying3) (opensF_one rfl (by kernel_rfl) (opens_slice Try.underlying22 (by kernel_rfl) (opens_i64 Try.underlying3)))))))
def wf55 (x : S55) : Prop := I64 x.f0 ∧ I64 x.f1 ∧ I64 x.f2 ∧ I64 x.f3
theorem o55 : Opens Try.prog 55 k55 wf55 :=
  opens_iso (fun x : S55 => (x.f0, x.f1, x.f2, x.f3)) (fun p => (⟨p.1, p.2.1, p.2.2.1, p.2.2.2⟩ : S55)) (fun _ => rfl) (opens_struct Try.underlying55 (by kernel_rfl) (opensF_cons rfl (by kernel_rfl) (opens_i64 Try.underlying3) (opensF_cons rfl (by kernel_rfl) (opens_i64 Try.underlying3) (opensF_cons rfl (by kernel_rfl) (opens_i64 Try.underlying3) (opensF_one rfl (by kernel_rfl) (opens_i64 Try.underlying3))))))
def wg57 (x : S57) : Prop := I64 x.f0 ∧ wf55 x.f1 ∧ ((∀ y ∈ x.f2, I64 y) ∧ x.f2.length ≤ 9223372036854775807)
theorem og57 : Opens Try.prog 57 k57 wg57 :=
  opens_iso (fun x : S57 => (x.f0, x.f1, x.f2)) (fun p => (⟨p.1, p.2.1, p.2.2⟩ : S57)) (fun _ => rfl) (opens_struct Try.underlying57 (by kernel_rfl) (opensF_cons rfl (by kernel_rfl) (opens_i64 Try.underlying3) (opensF_cons rfl (by kernel_rfl) o55 (opensF_one rfl (by kernel_rfl) (opens_sliceB Try.underlying22 (by kernel_rfl) (opens_i64 Try.underlying3))))))
def wf57 (x : S57) : Prop := I64 x.f0 ∧ wf55 x.f1 ∧ (∀ y ∈ x.f2, I64 y)
theorem o57 : Opens Try.prog 57 k57 wf57 :=
  opens_iso (fun x : S57 => (x.f0, x.f1, x.f2)) (fun p => (⟨p.1, p.2.1, p.2.2⟩ : S57)) (fun _ => rfl) (opens_struct Try.underlying57 (by kernel_rfl) (opensF_cons rfl (by kernel_rfl) (opens_i64 Try.underlying3) (opensF_cons rfl (by kernel_rfl) o55 (opensF_one rfl (by kernel_rfl) (opens_slice Try.underlying22 (by kernel_rfl) (opens_i64 Try.underlying3))))))

/- The statement over plain lists and numbers that is left of the law FnExactRunSteps. -/
def laws_FnExactRunSteps.Pure : Prop := ∀ (a0_0 : Int) (a0_1 : Int) (a0_2 : Int) (l0_3 : List Int) (l1 : List (S57)), I64 a0_0 → I64 a0_1 → I64 a0_2 → (∀ y ∈ l0_3, I64 y) → l0_3.length ≤ 9223372036854775807 → (∀ y ∈ l1, wg57 y) → l1.length ≤ 9223372036854775807 → ∃ k, laws_FnExactRunSteps.f k a0_0 a0_1 a0_2 l0_3 l1 = some true
end Go.Proofs.Ytgccpcnakkioiaa.Q

/- Images as pixels: lists of numbers cut into equal parts. -/
namespace Go.Proofs.Ytgccpcnakkioiaa.Pure
open Go.RowKit Go.Proofs.Ytgccpcnakkioiaa.Q Go.Proofs.YtgccpcnakkioiaaW.PrintWords Go.Proofs.YtgccpcnakkioiaaW.PrintLast Go.Proofs.YtgccpcnakkioiaaW.PrintMore
set_option linter.unusedVariables false
set_option linter.unusedSimpArgs false

def nx (n : Nat) (d : List Int) (i : Nat) : List Int := (d.drop (i * n)).take n
theorem nx_length {n m : Nat} {d : List Int} (hd : d.length = m * n) {i : Nat} (hi : i < m) : (nx n d i).length = n := by
 unfold nx
 have h : (i + 1) * n ≤ m * n := Nat.mul_le_mul_right n hi
 rw [Nat.add_mul, Nat.one_mul] at h
 rw [List.length_take, List.length_drop, hd]
 omega
theorem fm_length (f : Nat → List Int) (n : Nat) : ∀ m, (∀ i, i < m → (f i).length = n) → ((List.range m).flatMap f).length = m * n := by
 intro m
 induction m with
 | zero => intro _; simp
 | succ m ih =>
  intro h
  rw [List.range_succ, List.flatMap_append, List.length_append, ih (fun i hi => h i (by omega))]
  simp [h m (by omega), Nat.add_mul]
theorem fm_get (f : Nat → List Int) (n : Nat) : ∀ m, (∀ i, i < m → (f i).length = n) → ∀ i, i < m → nx n ((List.range m).flatMap f) i = f i := by
 intro m
 induction m with
 | zero => intro _ i hi; omega
 | succ m ih =>
  intro h i hi
  have hl := fm_length f n m (fun i hi => h i (by omega))
  rw [List.range_succ, List.flatMap_append]
  unfold nx
  by_cases c : i < m
  ·have h1 : (i + 1) * n ≤ m * n := Nat.mul_le_mul_right n c
   rw [Nat.add_mul, Nat.one_mul] at h1
   rw [List.drop_append_of_le_length (by omega), List.take_append_of_le_length (by rw [List.length_drop]; omega)]
   exact ih (fun i hi => h i (by omega)) i c
  ·have : i = m := by omega
   subst this
   rw [← hl, List.drop_left]
   simp only [List.flatMap_cons, List.flatMap_nil, List.append_nil]
   exact List.take_of_length_le (by rw [h i (by omega)]; exact Nat.le_refl _)
theorem fm_cut (n : Nat) : ∀ (m : Nat) (d : List Int), d.length = m * n → (List.range m).flatMap (nx n d) = d := by
 intro m
 induction m with
 | zero => intro d hd; simp at hd; simp [hd]
 | succ m ih =>
  intro d hd
  rw [Nat.add_mul, Nat.one_mul] at hd
  have h1 : (List.range m).flatMap (nx n d) = (List.range m).flatMap (nx n (d.take (m * n))) := by
   rw [List.flatMap_def, List.flatMap_def]
   congr 1
   refine List.map_congr_left (fun i hi => ?_)
   have hi' := List.mem_range.1 hi
   have h1 : (i + 1) * n ≤ m * n := Nat.mul_le_mul_right n hi'
   rw [Nat.add_mul, Nat.one_mul] at h1
   unfold nx
   rw [List.drop_take, List.take_take, Nat.min_eq_left (by omega)]
  rw [List.range_succ, List.flatMap_append, h1, ih _ (by rw [List.length_take]; omega)]
  simp only [List.flatMap_cons, List.flatMap_nil, List.append_nil]
  unfold nx
  rw [List.take_of_length_le (l := d.drop (m * n)) (by rw [List.length_drop]; omega), List.take_append_drop]
theorem ext_nx {n m : Nat} {d e : List Int} (hd : d.length = m * n) (he : e.length = m * n) (h : ∀ i, i < m → nx n d i = nx n e i) : d = e := by
 rw [← fm_cut n m d hd, ← fm_cut n m e he, List.flatMap_def, List.flatMap_def]
 congr 1
 exact List.map_congr_left (fun i hi => h i (List.mem_range.1 hi))
theorem imgD_congr {f g : Nat → Nat → List Int} {a b : Nat} (h : ∀ x y, x < a → y < b → f x y = g x y) : imgD f a b = imgD g a b := by
 unfold imgD rowD
 rw [List.flatMap_def, List.flatMap_def]
 congr 1
 refine List.map_congr_left (fun y hy => ?_)
 rw [List.flatMap_def, List.flatMap_def]
 congr 1
 exact List.map_congr_left (fun x hx => h x y (List.mem_range.1 hx) (List.mem_range.1 hy))
theorem rowD_length {px : Nat → Nat → List Int} {a n y : Nat} (h : ∀ x, x < a → (px x y).length = n) : (rowD px a y).length = a * n := fm_length _ n a h
theorem imgD_length {px : Nat → Nat → List Int} {a b n : Nat} (h : ∀ x y, x < a → y < b → (px x y).length = n) : (imgD px a b).length = (b * a) * n := by
 rw [Nat.mul_assoc]
 exact fm_length _ (a * n) b (fun y hy => rowD_length (fun x hx => h x y hx hy))
theorem nx_imgD {px : Nat → Nat → List Int} {a b n : Nat} (h : ∀ x y, x < a → y < b → (px x y).length = n) {x y : Nat} (hx : x < a) (hy : y < b) : nx n (imgD px a b) (y * a + x) = px x y := by
 have h1 := fm_get (rowD px a) (a * n) b (fun y hy => rowD_length (fun x hx => h x y hx hy)) y hy
 have h2 := fm_get (fun x => px x y) n a (fun x hx => h x y hx hy) x hx
 have h3 : (x + 1) * n ≤ a * n := Nat.mul_le_mul_right n hx
 rw [Nat.add_mul, Nat.one_mul] at h3
 show nx n ((List.range b).flatMap (rowD px a)) (y * a + x) = px x y
 rw [← h2]
 show _ = nx n (rowD px a y) x
 rw [← h1]
 unfold nx
 rw [List.drop_take, List.take_take, Nat.min_eq_left (by omega), List.drop_drop, Nat.add_mul, Nat.mul_assoc]
theorem lin_lt {a b x y : Nat} (hx : x < a) (hy : y < b) : y * a + x < b * a := by
 have : (y + 1) * a ≤ b * a := Nat.mul_le_mul_right a hy
 rw [Nat.add_mul, Nat.one_mul] at this
 omega
theorem lin_ne {a x y x' y' : Nat} (hx : x < a) (hx' : x' < a) (h : y * a + x = y' * a + x') : x = x' ∧ y = y' := by
 have ha : 0 < a := by omega
 have e1 := congrArg (· % a) h
 have e2 := congrArg (· / a) h
 simp only [Nat.mul_comm _ a, Nat.mul_add_mod, Nat.mul_add_div ha, Nat.mod_eq_of_lt hx, Nat.mod_eq_of_lt hx', Nat.div_eq_of_lt hx, Nat.div_eq_of_lt hx', Nat.add_zero] at e1 e2
 exact ⟨e1, e2⟩
theorem lin_of {a b i : Nat} (h : i < b * a) : i % a < a ∧ i / a < b ∧ (i / a) * a + i % a = i := by
 have ha : 0 < a := by
  rcases Nat.eq_zero_or_pos a with rfl | h'
  ·simp at h
  ·exact h'
 refine ⟨Nat.mod_lt _ ha, (Nat.div_lt_iff_lt_mul ha).2 h, ?_⟩
 rw [Nat.mul_comm]; exact Nat.div_add_mod i a
theorem ext_img {n a b : Nat} {d e : List Int} (hd : d.length = (b * a) * n) (he : e.length = (b * a) * n) (h : ∀ x y, x < a → y < b → nx n d (y * a + x) = nx n e (y * a + x)) : d = e := by
 refine ext_nx hd he (fun i hi => ?_)
 obtain ⟨h1, h2, h3⟩ := lin_of hi
 rw [← h3]
 exact h _ _ h1 h2
theorem nx_laid {n m : Nat} {d ys : List Int} (hd : d.length = m * n) (hy : ys.length = n) {j : Nat} (hj : j < m) {i : Nat} (hi : i < m) : nx n (laidOver d (j * n) ys) i = if i = j then ys else nx n d i := by
 have hj1 : (j + 1) * n ≤ m * n := Nat.mul_le_mul_right n hj
 have hi1 : (i + 1) * n ≤ m * n := Nat.mul_le_mul_right n hi
 rw [Nat.add_mul, Nat.one_mul] at hj1 hi1
 unfold nx laidOver
 have hlt : (d.take (j * n)).length = j * n := by rw [List.length_take]; omega
 by_cases c : i = j
 ·subst c
  rw [if_pos rfl]
  have e1 : (d.take (i * n) ++ (ys ++ d.drop (i * n + ys.length))).drop (i * n) = ys ++ d.drop (i * n + ys.length) := by
   rw [List.drop_append, List.drop_eq_nil_of_le (by omega), hlt, Nat.sub_self, List.drop_zero, List.nil_append]
  rw [e1, ← hy, List.take_left]
 ·rw [if_neg c]
  by_cases c2 : i < j
  ·have h1 : (i + 1) * n ≤ j * n := Nat.mul_le_mul_right n c2
   rw [Nat.add_mul, Nat.one_mul] at h1
   rw [List.drop_append_of_le_length (by omega), List.take_append_of_le_length (by rw [List.length_drop]; omega), List.drop_take, List.take_take, Nat.min_eq_left (by omega)]
  ·have h1 : (j + 1) * n ≤ i * n := Nat.mul_le_mul_right n (by omega)
   rw [Nat.add_mul, Nat.one_mul] at h1
   rw [← List.append_assoc, List.drop_append, List.drop_eq_nil_of_le (by rw [List.length_append, hlt, hy]; omega), List.nil_append, List.drop_drop, List.length_append, hlt, hy]
   congr 2
   omega
theorem nat_of {a b p : Int} {d : List Int} (hv : validI a b p d = true) : ∃ an bn pn : Nat, a = an ∧ b = bn ∧ p = pn ∧ 1 ≤ an ∧ an ≤ 16 ∧ 1 ≤ bn ∧ bn ≤ 16 ∧ 1 ≤ pn ∧ pn ≤ 4 ∧ d.length = (bn * an) * pn := by
 obtain ⟨hs, hl, _⟩ := (validI_iff a b p d).1 hv
 obtain ⟨an, rfl⟩ := Int.eq_ofNat_of_zero_le (show 0 ≤ a by omega)
 obtain ⟨bn, rfl⟩ := Int.eq_ofNat_of_zero_le (show 0 ≤ b by omega)
 obtain ⟨pn, rfl⟩ := Int.eq_ofNat_of_zero_le (show 0 ≤ p by omega)
 refine ⟨an, bn, pn, rfl, rfl, rfl, by omega, by omega, by omega, by omega, by omega, by omega, ?_⟩
 have : (d.length : Int) = ((an * bn * pn : Nat) : Int) := by rw [hl]; push_cast; rfl
 rw [Nat.mul_comm bn an]
 exact Int.ofNat.inj this
theorem small {an bn pn : Nat} (h1 : an ≤ 16) (h2 : bn ≤ 16) (h3 : pn ≤ 4) : (bn * an) * pn ≤ 1024 := by
 have := Nat.mul_le_mul (Nat.mul_le_mul h2 h1) h3
 omega
theorem pixJ_nat {an bn pn x y : Nat} (h1 : an ≤ 16) (h2 : bn ≤ 16) (h3 : pn ≤ 4) (hx : x < an) (hy : y < bn) : pixJ an pn x y = (((y * an + x) * pn : Nat) : Int) ∧ (y * an + x) * pn + pn ≤ (bn * an) * pn := by
 have hl := lin_lt hx hy
 have hm : (y * an + x + 1) * pn ≤ (bn * an) * pn := Nat.mul_le_mul_right pn hl
 rw [Nat.add_mul, Nat.one_mul] at hm
 have hs := small h1 h2 h3
 have hya : y * an ≤ 16 * 16 := Nat.mul_le_mul (by omega) (by omega)
 refine ⟨?_, hm⟩
 unfold pixJ
 have e1 : ((y : Int) * (an : Int)) = ((y * an : Nat) : Int) := by push_cast; rfl
 rw [e1, w64 (x := ((y * an : Nat) : Int)) (by omega) (by omega)]
 have e2 : ((y * an : Nat) : Int) + (x : Int) = ((y * an + x : Nat) : Int) := by push_cast; rfl
 rw [e2, w64 (x := ((y * an + x : Nat) : Int)) (by omega) (by omega)]
 have e3 : ((y * an + x : Nat) : Int) * (pn : Int) = (((y * an + x) * pn : Nat) : Int) := by push_cast; rfl
 rw [e3, w64 (by omega) (by omega)]
theorem pxAt_nat {an bn pn x y : Nat} (h1 : an ≤ 16) (h2 : bn ≤ 16) (h3 : pn ≤ 4) (hx : x < an) (hy : y < bn) (d : List Int) : pxAt an pn d x y = nx pn d (y * an + x) := by
 obtain ⟨hj, hm⟩ := pixJ_nat h1 h2 h3 hx hy
 have hs := small h1 h2 h3
 unfold pxAt pixT nx
 rw [hj, w64 (by omega) (by omega)]
 have : ((((y * an + x) * pn : Nat) : Int) + (pn : Int)).toNat = (y * an + x) * pn + pn := by omega
 rw [this, Int.toNat_natCast, List.drop_take]
 congr 1
 omega

/- What the reference does with pixels: reads, writes, parts and pastes. -/

theorem ev_run {σ ρ : Type} (n : Nat) (L : Nat → Nat → σ → Option ρ) (E : σ → Nat → Option ρ) (Inv : Nat → σ → Prop)
  (step : ∀ i s, i < n → Inv i s → ∃ s', Inv (i + 1) s' ∧ ∀ r, Ev (fun k => L k (i + 1) s') r → Ev (fun k => L k i s) r)
  (last : ∀ s, Inv n s → ∀ r, Ev (E s) r → Ev (fun k => L k n s) r) :
  ∀ d i s, i + d = n → Inv i s → ∃ s', Inv n s' ∧ ∀ r, Ev (E s') r → Ev (fun k => L k i s) r := by
 intro d
 induction d with
 | zero =>
  intro i s hi hinv
  have : i = n := by omega
  subst this
  exact ⟨s, hinv, last s hinv⟩
 | succ d ih =>
  intro i s hi hinv
  obtain ⟨s1, h1, h2⟩ := step i s (by omega) hinv
  obtain ⟨s2, h3, h4⟩ := ih (i + 1) s1 (by omega) h1
  exact ⟨s2, h3, fun r hr => h2 r (h4 r hr)⟩
theorem copyInts_px (l : List Int) (hl : l.length ≤ 1000000) : spec_copyInts.f l = some l := by
 unfold spec_copyInts.f
 simp only [Option.bind_some]
 rw [if_pos (by simp; omega)]
 simp
theorem laid_set (d ys : List Int) (j i : Nat) (hi : i < ys.length) (hj : j + ys.length ≤ d.length) : (laidOver d j (ys.take i)).set (j + i) ys[i] = laidOver d j (ys.take (i + 1)) := by
 have h1 : (ys.take i).length = i := by rw [List.length_take]; omega
 have h2 : (ys.take (i + 1)).length = i + 1 := by rw [List.length_take]; omega
 have h3 : (d.take j).length = j := by rw [List.length_take]; omega
 unfold laidOver
 rw [h1, h2, List.set_append_right _ _ (by omega), h3, Nat.add_sub_cancel_left, List.set_append_right _ _ (by omega), h1, Nat.sub_self, List.drop_eq_getElem_cons (show j + i < d.length by omega), List.set_cons_zero, List.take_succ_eq_append_getElem hi, List.append_assoc]
 rfl
theorem setPixel_ev {an bn pn x y : Nat} (h1 : an ≤ 16) (h2 : bn ≤ 16) (h3 : pn ≤ 4) (hx : x < an) (hy : y < bn) (d ys : List Int) (hd : d.length = (bn * an) * pn) (hys : ys.length = pn) :
  Ev (fun k => spec_setPixel.f k an bn pn d x y ys) (laidOver d ((y * an + x) * pn) ys) := by
 obtain ⟨hj, hm⟩ := pixJ_nat h1 h2 h3 hx hy
 have hs := small h1 h2 h3
 have hJ : wrap64 ((wrap64 ((wrap64 ((y : Int) * (an : Int))) + (x : Int))) * (pn : Int)) = (((y * an + x) * pn : Nat) : Int) := hj
 generalize hjj : (y * an + x) * pn = j at *
 have HJ := Aside0.mk hJ
 clear hJ hj hjj
 have key := ev_up pn (fun k i s => spec_setPixel.l0 k (x : Int) (y : Int) ys (i : Int) an bn pn s) (fun i s => s = laidOver d j (ys.take i)) (fun _ _ => laidOver d j ys)
  (by
   intro i s hi hinv
   subst hinv
   right
   refine ⟨_, fun k => ?_, laid_set d ys j i (by omega) (by omega), rfl⟩
   simp only [spec_setPixel.l0]
   have e : (((j : Nat) : Int) + (i : Int)) = ((j + i : Nat) : Int) := by push_cast; rfl
   have hl : (laidOver d j (ys.take i)).length = d.length := laidOver_length d j _ (by rw [List.length_take]; omega)
   rw [HJ.out, e, w64 (x := ((j + i : Nat) : Int)) (by omega) (by omega), hl, if_pos (by omega), if_pos (by omega), if_pos (by omega), if_pos (by omega), if_pos (by omega), rd_nat ys i (by omega), w64n i (by omega), Int.toNat_natCast])
  (by
   intro s hinv
   subst hinv
   refine Ev.step (f := fun _ => some (laidOver d j ys)) (fun k => ?_) (Ev.now _)
   simp only [spec_setPixel.l0]
   rw [if_neg (by omega), List.take_of_length_le (by omega)])
  pn 0 d (by omega) (by unfold laidOver; simp)
 unfold spec_setPixel.f
 exact key
theorem pixelAt_eq {an bn pn x y : Nat} (h1 : an ≤ 16) (h2 : bn ≤ 16) (h3 : pn ≤ 4) (hx : x < an) (hy : y < bn) (d : List Int) (hd : d.length = (bn * an) * pn) : spec_pixelAt.f an bn pn d x y = some (nx pn d (y * an + x)) := by
 obtain ⟨hj, hm⟩ := pixJ_nat h1 h2 h3 hx hy
 have hs := small h1 h2 h3
 have hJ : wrap64 ((wrap64 ((wrap64 ((y : Int) * (an : Int))) + (x : Int))) * (pn : Int)) = (((y * an + x) * pn : Nat) : Int) := hj
 have e : ((((y * an + x) * pn : Nat) : Int) + (pn : Int)) = (((y * an + x) * pn + pn : Nat) : Int) := by push_cast; rfl
 have HJ := Aside0.mk hJ
 clear hJ hj
 unfold spec_pixelAt.f nx
 generalize (y * an + x) * pn = j at *
 rw [HJ.out, e, w64 (x := ((j + pn : Nat) : Int)) (by omega) (by omega), if_pos (by omega), if_pos (by omega), if_pos (by omega), Int.toNat_natCast, Int.toNat_natCast, copyInts_px _ (by rw [List.length_drop, List.length_take]; omega)]
 simp only [Option.bind_some]
 congr 1
 rw [List.drop_take]
 congr 1
 omega
theorem newImg_eq {wn hn pn : Nat} (h1 : wn ≤ 16) (h2 : hn ≤ 16) (h3 : pn ≤ 4) : spec_newImage.f wn hn pn = some ((wn : Int), (hn : Int), (pn : Int), List.replicate ((hn * wn) * pn) 0) := by
 have hs := small h1 h2 h3
 have hw : hn * wn ≤ 16 * 16 := Nat.mul_le_mul h2 h1
 have e1 : (wn : Int) * (hn : Int) = ((hn * wn : Nat) : Int) := by rw [Nat.mul_comm]; push_cast; rfl
 have e2 : ((hn * wn : Nat) : Int) * (pn : Int) = (((hn * wn) * pn : Nat) : Int) := by push_cast; rfl
 unfold spec_newImage.f
 rw [e1, w64 (x := ((hn * wn : Nat) : Int)) (by omega) (by omega), e2, w64 (by omega) (by omega), if_pos (by omega), Int.toNat_natCast, if_pos (by omega)]
def cropD (an pn : Nat) (d : List Int) (X Y wn hn : Nat) : List Int := imgD (fun x y => nx pn d ((Y + y) * an + (X + x))) wn hn
theorem cropD_len {an bn pn X Y wn hn : Nat} {d : List Int} (hd : d.length = (bn * an) * pn) (hX : X + wn ≤ an) (hY : Y + hn ≤ bn) : ∀ x y, x < wn → y < hn → (nx pn d ((Y + y) * an + (X + x))).length = pn := fun x y hx hy => nx_length hd (lin_lt (by omega) (by omega))
theorem crop_ev {an bn pn X Y wn hn : Nat} (h1 : an ≤ 16) (h2 : bn ≤ 16) (h3 : pn ≤ 4) (hX : X + wn ≤ an) (hY : Y + hn ≤ bn) (d : List Int) (hd : d.length = (bn * an) * pn) :
  Ev (fun k => spec_crop.f k an bn pn d X Y wn hn) ((wn : Int), (hn : Int), (pn : Int), cropD an pn d X Y wn hn) := by
 unfold spec_crop.f
 refine ev_now (newImg_eq (by omega) (by omega) h3) ?_
 have hlen := cropD_len hd hX hY
 have hfl : (cropD an pn d X Y wn hn).length = (hn * wn) * pn := imgD_length hlen
 have inner : ∀ (r : Nat), r < hn → ∀ s : List Int, (s.length = (hn * wn) * pn ∧ ∀ x y, x < wn → y < r → nx pn s (y * wn + x) = nx pn d ((Y + y) * an + (X + x))) →
   ∃ s' : List Int, (s'.length = (hn * wn) * pn ∧ ∀ x y, x < wn → y < r + 1 → nx pn s' (y * wn + x) = nx pn d ((Y + y) * an + (X + x))) ∧
    ∀ res, Ev (fun k => spec_crop.l0 k X Y wn hn ((r + 1 : Nat) : Int) an bn pn d wn hn pn s') res → Ev (fun k => spec_crop.l1 k X Y wn hn (r : Int) 0 an bn pn d wn hn pn s) res := by
  intro r hr s hs
  obtain ⟨s', h4, h5⟩ := ev_run wn (fun k c s => spec_crop.l1 k X Y wn hn (r : Int) (c : Int) an bn pn d wn hn pn s) (fun s k => spec_crop.l0 k X Y wn hn ((r + 1 : Nat) : Int) an bn pn d wn hn pn s)
   (fun c s => s.length = (hn * wn) * pn ∧ (∀ x y, x < wn → y < r → nx pn s (y * wn + x) = nx pn d ((Y + y) * an + (X + x))) ∧ ∀ x, x < c → nx pn s (r * wn + x) = nx pn d ((Y + r) * an + (X + x)))
   (by
    intro c s hc ⟨hsl, i1, i2⟩
    have hyl : (nx pn d ((Y + r) * an + (X + c))).length = pn := hlen c r hc hr
    have hlin := lin_lt hc hr
    have hm : (r * wn + c + 1) * pn ≤ (hn * wn) * pn := Nat.mul_le_mul_right pn hlin
    rw [Nat.add_mul, Nat.one_mul] at hm
    refine ⟨laidOver s ((r * wn + c) * pn) (nx pn d ((Y + r) * an + (X + c))), ⟨by rw [laidOver_length _ _ _ (by rw [hyl, hsl]; exact hm)]; exact hsl, ?_, ?_⟩, ?_⟩
    ·intro x y hx hy
     rw [nx_laid hsl hyl hlin (lin_lt hx (by omega)), if_neg (fun e => by have := (lin_ne hx hc e).2; omega)]
     exact i1 x y hx hy
    ·intro x hx
     rw [nx_laid hsl hyl hlin (lin_lt (by omega) hr)]
     by_cases e : x = c
     ·subst e; rw [if_pos rfl]
     ·rw [if_neg (by omega)]; exact i2 x (by omega)
    ·intro res hres
     refine Ev.step (f := fun k => (spec_pixelAt.f an bn pn d ((X + c : Nat) : Int) ((Y + r : Nat) : Int)).bind fun t => (spec_setPixel.f k wn hn pn s (c : Int) (r : Int) t).bind fun u => spec_crop.l1 k X Y wn hn (r : Int) ((c + 1 : Nat) : Int) an bn pn d wn hn pn u) (fun k => ?_) (ev_now (pixelAt_eq h1 h2 h3 (by omega) (by omega) d hd) (ev_bind (setPixel_ev (by omega) (by omega) h3 hc hr s _ hsl hyl) hres))
     simp only [spec_crop.l1]
     rw [if_pos (by omega), w64 (x := (X : Int) + (c : Int)) (by omega) (by omega), w64 (x := (Y : Int) + (r : Int)) (by omega) (by omega), w64n c (by omega)]
     push_cast
     rfl)
   (by
    intro s _ res hres
    refine Ev.step (fun k => ?_) hres
    simp only [spec_crop.l1]
    rw [if_neg (by omega), w64n r (by omega)])
   wn 0 s (by omega) ⟨hs.1, hs.2, fun x hx => by omega⟩
  refine ⟨s', ⟨h4.1, fun x y hx hy => ?_⟩, h5⟩
  by_cases e : y = r
  ·subst e; exact h4.2.2 x hx
  ·exact h4.2.1 x y hx (by omega)
 obtain ⟨s', h4, h5⟩ := ev_run hn (fun k r s => spec_crop.l0 k X Y wn hn (r : Int) an bn pn d wn hn pn s) (fun s _ => some ((wn : Int), (hn : Int), (pn : Int), s))
  (fun r s => s.length = (hn * wn) * pn ∧ ∀ x y, x < wn → y < r → nx pn s (y * wn + x) = nx pn d ((Y + y) * an + (X + x)))
  (by
   intro r s hr hs
   obtain ⟨s', i1, i2⟩ := inner r hr s hs
   refine ⟨s', i1, fun res hres => Ev.step (fun k => ?_) (i2 res hres)⟩
   simp only [spec_crop.l0]
   rw [if_pos (by omega)])
  (by
   intro s _ res hres
   refine Ev.step (fun k => ?_) hres
   simp only [spec_crop.l0]
   rw [if_neg (by omega)])
  hn 0 (List.replicate ((hn * wn) * pn) 0) (by omega) ⟨by simp, fun x y hx hy => by omega⟩
 have e : s' = cropD an pn d X Y wn hn := ext_img h4.1 hfl (fun x y hx hy => by rw [h4.2 x y hx hy]; unfold cropD; rw [nx_imgD hlen hx hy])
 subst e
 exact h5 _ (Ev.now _)
def pastePx (an pn : Nat) (d : List Int) (X Y : Int) (wn hn : Nat) (e : List Int) (x y : Nat) : List Int :=
 if X ≤ (x : Int) ∧ (x : Int) < X + wn ∧ Y ≤ (y : Int) ∧ (y : Int) < Y + hn then nx pn e (((y : Int) - Y).toNat * wn + ((x : Int) - X).toNat) else nx pn d (y * an + x)
theorem pastePx_len {an bn pn wn hn : Nat} {d e : List Int} {X Y : Int} (hd : d.length = (bn * an) * pn) (he : e.length = (hn * wn) * pn) : ∀ x y, x < an → y < bn → (pastePx an pn d X Y wn hn e x y).length = pn := by
 intro x y hx hy
 unfold pastePx
 split
 ·exact nx_length he (lin_lt (by omega) (by omega))
 ·exact nx_length hd (lin_lt hx hy)
theorem onImage_eq {an bn : Nat} (h1 : 1 ≤ an ∧ an ≤ 16) (h2 : 1 ≤ bn ∧ bn ≤ 16) (p : Int) (d : List Int) (x y : Int) : spec_onImage.f an bn p d x y = some (decide (0 ≤ x ∧ x < an ∧ 0 ≤ y ∧ y < bn)) := by
 unfold spec_onImage.f
 rw [w64 (x := (an : Int) - 1) (by omega) (by omega), w64 (x := (bn : Int) - 1) (by omega) (by omega), spec_inRangeI_eq, spec_inRangeI_eq]
 simp only [Option.bind_some]
 by_cases c : 0 ≤ x ∧ x ≤ (an : Int) - 1
 ·rw [if_pos (by simpa using c)]; congr 1; rw [Bool.eq_iff_iff]; simp; omega
 ·rw [if_neg (by simpa using c), decide_eq_false (by omega)]
theorem paste_ev {an bn pn wn hn : Nat} {X Y : Int} (h1 : 1 ≤ an ∧ an ≤ 16) (h2 : 1 ≤ bn ∧ bn ≤ 16) (h3 : pn ≤ 4) (h4 : wn ≤ 16) (h5 : hn ≤ 16) (hX : -16 ≤ X ∧ X ≤ 16) (hY : -16 ≤ Y ∧ Y ≤ 16) (d e : List Int) (hd : d.length = (bn * an) * pn) (he : e.length = (hn * wn) * pn) :
  Ev (fun k => spec_paste.f k an bn pn d X Y wn hn pn e) (imgD (pastePx an pn d X Y wn hn e) an bn) := by
 unfold spec_paste.f
 have hlen := pastePx_len (X := X) (Y := Y) hd he
 let I : Nat → Nat → List Int → Prop := fun r c s => s.length = (bn * an) * pn ∧ ∀ x y : Nat, x < an → y < bn → nx pn s (y * an + x) = if X ≤ (x : Int) ∧ (x : Int) < X + wn ∧ Y ≤ (y : Int) ∧ (y : Int) < Y + hn ∧ ((y : Int) < Y + r ∨ ((y : Int) = Y + r ∧ (x : Int) < X + c)) then nx pn e (((y : Int) - Y).toNat * wn + ((x : Int) - X).toNat) else nx pn d (y * an + x)
 have inner : ∀ (r : Nat), r < hn → ∀ s : List Int, I r 0 s → ∃ s' : List Int, I (r + 1) 0 s' ∧
    ∀ res, Ev (fun k => spec_paste.l0 k X Y ((r + 1 : Nat) : Int) an bn pn s' wn hn pn e) res → Ev (fun k => spec_paste.l1 k X Y (r : Int) 0 an bn pn s wn hn pn e) res := by
  intro r hr s hs
  obtain ⟨s', i4, i5⟩ := ev_run wn (fun k c s => spec_paste.l1 k X Y (r : Int) (c : Int) an bn pn s wn hn pn e) (fun s k => spec_paste.l0 k X Y ((r + 1 : Nat) : Int) an bn pn s wn hn pn e) (fun c s => I r c s)
   (by
    intro c s hc ⟨hsl, i1⟩
    have w1 := w64 (x := X + (c : Int)) (by omega) (by omega)
    have w2 := w64 (x := Y + (r : Int)) (by omega) (by omega)
    by_cases on : 0 ≤ X + (c : Int) ∧ X + (c : Int) < an ∧ 0 ≤ Y + (r : Int) ∧ Y + (r : Int) < bn
    ·obtain ⟨x0, hx0⟩ := Int.eq_ofNat_of_zero_le on.1
     obtain ⟨y0, hy0⟩ := Int.eq_ofNat_of_zero_le on.2.2.1
     have hx0a : x0 < an := by omega
     have hy0b : y0 < bn := by omega
     have hyl : (nx pn e (r * wn + c)).length = pn := nx_length he (lin_lt hc hr)
     have hlin := lin_lt hx0a hy0b
     have hm : (y0 * an + x0 + 1) * pn ≤ (bn * an) * pn := Nat.mul_le_mul_right pn hlin
     rw [Nat.add_mul, Nat.one_mul] at hm
     refine ⟨laidOver s ((y0 * an + x0) * pn) (nx pn e (r * wn + c)), ⟨by rw [laidOver_length _ _ _ (by rw [hyl, hsl]; exact hm)]; exact hsl, ?_⟩, ?_⟩
     ·intro x y hx hy
      rw [nx_laid hsl hyl hlin (lin_lt hx hy)]
      by_cases q : x = x0 ∧ y = y0
      ·obtain ⟨rfl, rfl⟩ := q
       rw [if_pos rfl, if_pos (by omega), show ((y : Int) - Y).toNat = r by omega, show ((x : Int) - X).toNat = c by omega]
      ·rw [if_neg (fun z => q (lin_ne hx hx0a z)), i1 x y hx hy]
       by_cases z : X ≤ (x : Int) ∧ (x : Int) < X + wn ∧ Y ≤ (y : Int) ∧ (y : Int) < Y + hn ∧ ((y : Int) < Y + r ∨ ((y : Int) = Y + r ∧ (x : Int) < X + c))
       ·rw [if_pos z, if_pos (by omega)]
       ·rw [if_neg z, if_neg (by omega)]
     ·intro res hres
      refine Ev.step (f := fun k => (spec_onImage.f an bn pn s (X + (c : Int)) (Y + (r : Int))).bind fun u => if u = true then ((spec_pixelAt.f wn hn pn e (c : Int) (r : Int)).bind fun t => (spec_setPixel.f k an bn pn s (X + (c : Int)) (Y + (r : Int)) t).bind fun v => spec_paste.l1 k X Y (r : Int) ((c + 1 : Nat) : Int) an bn pn v wn hn pn e) else spec_paste.l1 k X Y (r : Int) ((c + 1 : Nat) : Int) an bn pn s wn hn pn e) (fun k => ?_) (ev_now (onImage_eq h1 h2 _ _ _ _) (ev_pos (decide_eq_true on) (ev_now (pixelAt_eq h4 h5 h3 hc hr e he) (ev_bind ?_ hres))))
      ·simp only [spec_paste.l1]
       rw [if_pos (by omega), w1, w2, w64n c (by omega)]
      ·rw [hx0, hy0]
       exact setPixel_ev h1.2 h2.2 h3 hx0a hy0b s _ hsl hyl
    ·refine ⟨s, ⟨hsl, fun x y hx hy => ?_⟩, ?_⟩
     ·rw [i1 x y hx hy]
      by_cases z : X ≤ (x : Int) ∧ (x : Int) < X + wn ∧ Y ≤ (y : Int) ∧ (y : Int) < Y + hn ∧ ((y : Int) < Y + r ∨ ((y : Int) = Y + r ∧ (x : Int) < X + c))
      ·rw [if_pos z, if_pos (by omega)]
      ·rw [if_neg z, if_neg (by omega)]
     ·intro res hres
      refine Ev.step (f := fun k => (spec_onImage.f an bn pn s (X + (c : Int)) (Y + (r : Int))).bind fun u => if u = true then ((spec_pixelAt.f wn hn pn e (c : Int) (r : Int)).bind fun t => (spec_setPixel.f k an bn pn s (X + (c : Int)) (Y + (r : Int)) t).bind fun v => spec_paste.l1 k X Y (r : Int) ((c + 1 : Nat) : Int) an bn pn v wn hn pn e) else spec_paste.l1 k X Y (r : Int) ((c + 1 : Nat) : Int) an bn pn s wn hn pn e) (fun k => ?_) (ev_now (onImage_eq h1 h2 _ _ _ _) (ev_neg (by simpa using on) hres))
      simp only [spec_paste.l1]
      rw [if_pos (by omega), w1, w2, w64n c (by omega)])
   (by
    intro s _ res hres
    refine Ev.step (fun k => ?_) hres
    simp only [spec_paste.l1]
    rw [if_neg (by omega), w64n r (by omega)])
   wn 0 s (by omega) hs
  refine ⟨s', ⟨i4.1, fun x y hx hy => ?_⟩, i5⟩
  rw [i4.2 x y hx hy]
  by_cases z : X ≤ (x : Int) ∧ (x : Int) < X + wn ∧ Y ≤ (y : Int) ∧ (y : Int) < Y + hn ∧ ((y : Int) < Y + r ∨ ((y : Int) = Y + r ∧ (x : Int) < X + wn))
  ·rw [if_pos z, if_pos (by omega)]
  ·rw [if_neg z, if_neg (by omega)]
 obtain ⟨s', i4, i5⟩ := ev_run hn (fun k r s => spec_paste.l0 k X Y (r : Int) an bn pn s wn hn pn e) (fun s _ => some s) (fun r s => I r 0 s)
  (by
   intro r s hr hs
   obtain ⟨s', i1, i2⟩ := inner r hr s hs
   refine ⟨s', i1, fun res hres => Ev.step (fun k => ?_) (i2 res hres)⟩
   simp only [spec_paste.l0]
   rw [if_pos (by omega)])
  (by
   intro s _ res hres
   refine Ev.step (fun k => ?_) hres
   simp only [spec_paste.l0]
   rw [if_neg (by omega)])
  hn 0 d (by omega) ⟨hd, fun x y hx hy => by rw [if_neg (by omega)]⟩
 have q : s' = imgD (pastePx an pn d X Y wn hn e) an bn := ext_img i4.1 (imgD_length hlen) (fun x y hx hy => by
  rw [i4.2 x y hx hy, nx_imgD hlen hx hy]
  unfold pastePx
  by_cases z : X ≤ (x : Int) ∧ (x : Int) < X + wn ∧ Y ≤ (y : Int) ∧ (y : Int) < Y + hn
  ·rw [if_pos z, if_pos (by omega)]
  ·rw [if_neg z, if_neg (by omega)])
 subst q
 exact i5 _ (Ev.now _)

/- One step, as the program and the reference have it. -/

theorem copyImage_px (a b p : Int) (d : List Int) (hl : d.length ≤ 1000000) : spec_copyImage.f a b p d = some (a, b, p, d) := by
 unfold spec_copyImage.f
 rw [copyInts_px d hl]
 rfl
def mirD (an bn pn : Nat) (d : List Int) : List Int := imgD (fun x y => nx pn d (y * an + (an - 1 - x))) an bn
theorem mirD_len {an bn pn : Nat} {d : List Int} (h1 : 1 ≤ an) (h2 : 1 ≤ bn) (hd : d.length = (bn * an) * pn) : ∀ x y, x < an → y < bn → (nx pn d (y * an + (an - 1 - x))).length = pn := fun x y hx hy => nx_length hd (lin_lt (by omega) (by omega))
theorem mirror_ev {an bn pn : Nat} (h1 : 1 ≤ an ∧ an ≤ 16) (h2 : 1 ≤ bn ∧ bn ≤ 16) (h3 : pn ≤ 4) (d : List Int) (hd : d.length = (bn * an) * pn) : Ev (fun k => spec_mirror.f k an bn pn d) ((an : Int), (bn : Int), (pn : Int), mirD an bn pn d) := by
 have sm := small h1.2 h2.2 h3
 unfold spec_mirror.f
 refine ev_now (copyImage_px _ _ _ d (by omega)) ?_
 have hlen := mirD_len h1.1 h2.1 hd
 let I : Nat → Nat → List Int → Prop := fun r c s => s.length = (bn * an) * pn ∧ ∀ x y : Nat, x < an → y < bn → (y < r ∨ (y = r ∧ x < c)) → nx pn s (y * an + (an - 1 - x)) = nx pn d (y * an + x)
 have inner : ∀ (r : Nat), r < bn → ∀ s : List Int, I r 0 s → ∃ s' : List Int, I (r + 1) 0 s' ∧
    ∀ res, Ev (fun k => spec_mirror.l0 k ((r + 1 : Nat) : Int) an bn pn d an bn pn s') res → Ev (fun k => spec_mirror.l1 k (r : Int) 0 an bn pn d an bn pn s) res := by
  intro r hr s hs
  obtain ⟨s', i4, i5⟩ := ev_run an (fun k c s => spec_mirror.l1 k (r : Int) (c : Int) an bn pn d an bn pn s) (fun s k => spec_mirror.l0 k ((r + 1 : Nat) : Int) an bn pn d an bn pn s) (fun c s => I r c s)
   (by
    intro c s hc ⟨hsl, i1⟩
    have hyl : (nx pn d (r * an + c)).length = pn := nx_length hd (lin_lt hc hr)
    have htx : an - 1 - c < an := by omega
    have hty : r < bn := by omega
    have hlin := lin_lt htx hty
    have hm : (r * an + (an - 1 - c) + 1) * pn ≤ (bn * an) * pn := Nat.mul_le_mul_right pn hlin
    rw [Nat.add_mul, Nat.one_mul] at hm
    refine ⟨laidOver s ((r * an + (an - 1 - c)) * pn) (nx pn d (r * an + c)), ⟨by rw [laidOver_length _ _ _ (by rw [hyl, hsl]; exact hm)]; exact hsl, ?_⟩, ?_⟩
    ·intro x y hx hy hdn
     have hxy : an - 1 - x < an := by omega
     rw [nx_laid hsl hyl hlin (lin_lt hxy (by omega))]
     by_cases q : x = c ∧ y = r
     ·obtain ⟨rfl, rfl⟩ := q
      rw [if_pos rfl]
     ·rw [if_neg (fun z => q (by have t := lin_ne hxy htx z; omega))]
      exact i1 x y hx hy (by omega)
    ·intro res hres
     clear hm hlin i1
     refine Ev.step (f := fun k => (spec_pixelAt.f an bn pn d (c : Int) (r : Int)).bind fun t => (spec_setPixel.f k an bn pn s ((an - 1 - c : Nat) : Int) ((r : Nat) : Int) t).bind fun u => spec_mirror.l1 k (r : Int) ((c + 1 : Nat) : Int) an bn pn d an bn pn u) (fun k => ?_) (ev_now (pixelAt_eq h1.2 h2.2 h3 hc hr d hd) (ev_bind (setPixel_ev (by omega) (by omega) h3 htx hty s _ hsl hyl) hres))
     simp only [spec_mirror.l1]
     rw [if_pos (by omega), w64 (x := (an : Int) - 1) (by omega) (by omega), w64 (x := (an : Int) - 1 - (c : Int)) (by omega) (by omega), show (an : Int) - 1 - (c : Int) = ((an - 1 - c : Nat) : Int) by omega, w64n c (by omega)])
   (by
    intro s _ res hres
    refine Ev.step (fun k => ?_) hres
    simp only [spec_mirror.l1]
    rw [if_neg (by omega), w64n r (by omega)])
   an 0 s (by omega) hs
  exact ⟨s', ⟨i4.1, fun x y hx hy hdn => i4.2 x y hx hy (by omega)⟩, i5⟩
 obtain ⟨s', i4, i5⟩ := ev_run bn (fun k r s => spec_mirror.l0 k (r : Int) an bn pn d an bn pn s) (fun s _ => some ((an : Int), (bn : Int), (pn : Int), s)) (fun r s => I r 0 s)
  (by
   intro r s hr hs
   obtain ⟨s', i1, i2⟩ := inner r hr s hs
   refine ⟨s', i1, fun res hres => Ev.step (fun k => ?_) (i2 res hres)⟩
   simp only [spec_mirror.l0]
   rw [if_pos (by omega)])
  (by
   intro s _ res hres
   refine Ev.step (fun k => ?_) hres
   simp only [spec_mirror.l0]
   rw [if_neg (by omega)])
  bn 0 (d) (by omega) ⟨by first | exact hd | simp, fun x y hx hy hdn => by omega⟩
 have q : s' = mirD an bn pn d := ext_img i4.1 (imgD_length hlen) (fun x y hx hy => by
  rw [show mirD an bn pn d = imgD (fun x y => nx pn d (y * an + (an - 1 - x))) an bn from rfl, nx_imgD hlen hx hy]
  have z := i4.2 (an - 1 - x) y (by omega) hy (by omega)
  rw [show an - 1 - (an - 1 - x) = x by omega] at z
  exact z)
 subst q
 exact i5 _ (Ev.now _)
def turnD (an bn pn : Nat) (d : List Int) : List Int := imgD (fun x y => nx pn d ((bn - 1 - x) * an + y)) bn an
theorem turnD_len {an bn pn : Nat} {d : List Int} (h1 : 1 ≤ an) (h2 : 1 ≤ bn) (hd : d.length = (bn * an) * pn) : ∀ x y, x < bn → y < an → (nx pn d ((bn - 1 - x) * an + y)).length = pn := fun x y hx hy => nx_length hd (lin_lt (by omega) (by omega))
theorem turn_ev {an bn pn : Nat} (h1 : 1 ≤ an ∧ an ≤ 16) (h2 : 1 ≤ bn ∧ bn ≤ 16) (h3 : pn ≤ 4) (d : List Int) (hd : d.length = (bn * an) * pn) : Ev (fun k => spec_turn.f k an bn pn d) ((bn : Int), (an : Int), (pn : Int), turnD an bn pn d) := by
 have sm := small h1.2 h2.2 h3
 unfold spec_turn.f
 refine ev_now (newImg_eq h2.2 h1.2 h3) ?_
 have hlen := turnD_len h1.1 h2.1 hd
 let I : Nat → Nat → List Int → Prop := fun r c s => s.length = (an * bn) * pn ∧ ∀ x y : Nat, x < an → y < bn → (y < r ∨ (y = r ∧ x < c)) → nx pn s (x * bn + (bn - 1 - y)) = nx pn d (y * an + x)
 have inner : ∀ (r : Nat), r < bn → ∀ s : List Int, I r 0 s → ∃ s' : List Int, I (r + 1) 0 s' ∧
    ∀ res, Ev (fun k => spec_turn.l0 k ((r + 1 : Nat) : Int) an bn pn d bn an pn s') res → Ev (fun k => spec_turn.l1 k (r : Int) 0 an bn pn d bn an pn s) res := by
  intro r hr s hs
  obtain ⟨s', i4, i5⟩ := ev_run an (fun k c s => spec_turn.l1 k (r : Int) (c : Int) an bn pn d bn an pn s) (fun s k => spec_turn.l0 k ((r + 1 : Nat) : Int) an bn pn d bn an pn s) (fun c s => I r c s)
   (by
    intro c s hc ⟨hsl, i1⟩
    have hyl : (nx pn d (r * an + c)).length = pn := nx_length hd (lin_lt hc hr)
    have htx : bn - 1 - r < bn := by omega
    have hty : c < an := by omega
    have hlin := lin_lt htx hty
    have hm : (c * bn + (bn - 1 - r) + 1) * pn ≤ (an * bn) * pn := Nat.mul_le_mul_right pn hlin
    rw [Nat.add_mul, Nat.one_mul] at hm
    refine ⟨laidOver s ((c * bn + (bn - 1 - r)) * pn) (nx pn d (r * an + c)), ⟨by rw [laidOver_length _ _ _ (by rw [hyl, hsl]; exact hm)]; exact hsl, ?_⟩, ?_⟩
    ·intro x y hx hy hdn
     have hxy : bn - 1 - y < bn := by omega
     rw [nx_laid hsl hyl hlin (lin_lt hxy (by omega))]
     by_cases q : x = c ∧ y = r
     ·obtain ⟨rfl, rfl⟩ := q
      rw [if_pos rfl]
     ·rw [if_neg (fun z => q (by have t := lin_ne hxy htx z; omega))]
      exact i1 x y hx hy (by omega)
    ·intro res hres
     clear hm hlin i1
     refine Ev.step (f := fun k => (spec_pixelAt.f an bn pn d (c : Int) (r : Int)).bind fun t => (spec_setPixel.f k bn an pn s ((bn - 1 - r : Nat) : Int) ((c : Nat) : Int) t).bind fun u => spec_turn.l1 k (r : Int) ((c + 1 : Nat) : Int) an bn pn d bn an pn u) (fun k => ?_) (ev_now (pixelAt_eq h1.2 h2.2 h3 hc hr d hd) (ev_bind (setPixel_ev (by omega) (by omega) h3 htx hty s _ hsl hyl) hres))
     simp only [spec_turn.l1]
     rw [if_pos (by omega), w64 (x := (bn : Int) - 1) (by omega) (by omega), w64 (x := (bn : Int) - 1 - (r : Int)) (by omega) (by omega), show (bn : Int) - 1 - (r : Int) = ((bn - 1 - r : Nat) : Int) by omega, w64n c (by omega)])
   (by
    intro s _ res hres
    refine Ev.step (fun k => ?_) hres
    simp only [spec_turn.l1]
    rw [if_neg (by omega), w64n r (by omega)])
   an 0 s (by omega) hs
  exact ⟨s', ⟨i4.1, fun x y hx hy hdn => i4.2 x y hx hy (by omega)⟩, i5⟩
 obtain ⟨s', i4, i5⟩ := ev_run bn (fun k r s => spec_turn.l0 k (r : Int) an bn pn d bn an pn s) (fun s _ => some ((bn : Int), (an : Int), (pn : Int), s)) (fun r s => I r 0 s)
  (by
   intro r s hr hs
   obtain ⟨s', i1, i2⟩ := inner r hr s hs
   refine ⟨s', i1, fun res hres => Ev.step (fun k => ?_) (i2 res hres)⟩
   simp only [spec_turn.l0]
   rw [if_pos (by omega)])
  (by
   intro s _ res hres
   refine Ev.step (fun k => ?_) hres
   simp only [spec_turn.l0]
   rw [if_neg (by omega)])
  bn 0 (List.replicate ((an * bn) * pn) 0) (by omega) ⟨by first | exact hd | simp, fun x y hx hy hdn => by omega⟩
 have q : s' = turnD an bn pn d := ext_img i4.1 (imgD_length hlen) (fun x y hx hy => by
  rw [show turnD an bn pn d = imgD (fun x y => nx pn d ((bn - 1 - x) * an + y)) bn an from rfl, nx_imgD hlen hx hy]
  have z := i4.2 y (bn - 1 - x) hy (by omega) (by omega)
  rw [show bn - 1 - (bn - 1 - x) = x by omega] at z
  exact z)
 subst q
 exact i5 _ (Ev.now _)
theorem set_map (f : Int → Int) (d : List Int) (i : Nat) (hi : i < d.length) : ((d.take i).map f ++ d.drop i).set i (f d[i]) = (d.take (i + 1)).map f ++ d.drop (i + 1) := by
 have h1 : ((d.take i).map f).length = i := by rw [List.length_map, List.length_take]; omega
 rw [List.set_append_right _ _ (by omega), h1, Nat.sub_self, List.drop_eq_getElem_cons hi, List.set_cons_zero, List.take_succ_eq_append_getElem hi, List.map_append, List.append_assoc]
 rfl
theorem invert_ev (a b p : Int) (d : List Int) (hv : validI a b p d = true) (hl : d.length ≤ 1000000) : Ev (fun k => spec_InvertImage.f k a b p d) (a, b, p, invD d) := by
 unfold spec_InvertImage.f
 have hv0 := spec_validImage_ev a b p d (by omega)
 rw [hv] at hv0
 refine ev_bind hv0 (ev_pos rfl (ev_now (copyImage_px a b p d hl) ?_))
 refine ev_up d.length (fun k i s => spec_InvertImage.l0 k (i : Int) a b p d a b p s) (fun i s => s = (d.take i).map (fun n => wrap64 (255 - n)) ++ d.drop i) (fun _ _ => (a, b, p, invD d))
  (by
   intro i s hi hinv
   right
   refine ⟨(d.take (i + 1)).map (fun n => wrap64 (255 - n)) ++ d.drop (i + 1), fun k => ?_, rfl, rfl⟩
   have hsl : s.length = d.length := by rw [hinv, List.length_append, List.length_map, List.length_take, List.length_drop]; omega
   simp only [spec_InvertImage.l0]
   rw [if_pos (by rw [hsl]; omega), if_pos (by omega), if_pos (by omega), rd_nat d i hi, w64n i (by omega), Int.toNat_natCast, hinv, set_map (fun n => wrap64 (255 - n)) d i hi])
  (by
   intro s hinv
   have hsl : s.length = d.length := by rw [hinv, List.length_append, List.length_map, List.length_take, List.length_drop]; omega
   refine Ev.step (f := fun _ => some (a, b, p, invD d)) (fun k => ?_) (Ev.now _)
   simp only [spec_InvertImage.l0]
   rw [if_neg (by rw [hsl]; omega), hinv, List.take_length, List.drop_length, List.append_nil]
   rfl)
  d.length 0 d (by omega) (by simp)
theorem validBox_on {a b p : Int} {d : List Int} (hs : 1 ≤ a ∧ a ≤ 16 ∧ 1 ≤ b ∧ b ≤ 16) (x y wd hg : Int) : spec_validBox.f a b p d x y wd hg = some (boxOn a b x y wd hg) := by
 unfold spec_validBox.f boxOn
 simp only [spec_inRangeI_eq, Option.bind_some]
 rw [w64 (x := a - 1) (by omega) (by omega), w64 (x := b - 1) (by omega) (by omega)]
 by_cases c1 : 0 ≤ x ∧ x ≤ a - 1
 ·rw [if_pos (by simpa using c1), w64 (x := a - x) (by omega) (by omega)]
  by_cases c2 : 0 ≤ y ∧ y ≤ b - 1
  ·rw [if_pos (by simpa using c2), w64 (x := b - y) (by omega) (by omega)]
   by_cases c3 : 1 ≤ wd ∧ wd ≤ a - x
   ·rw [if_pos (by simpa using c3)]
    congr 1; rw [Bool.eq_iff_iff]; simp; omega
   ·rw [if_neg (by simpa using c3), decide_eq_false (by omega)]
  ·rw [if_neg (by simpa using c2), decide_eq_false (by omega)]
 ·rw [if_neg (by simpa using c1), decide_eq_false (by omega)]
theorem fill_ev {wn hn pn : Nat} (h1 : 1 ≤ wn ∧ wn ≤ 16) (h2 : 1 ≤ hn ∧ hn ≤ 16) (h3 : 1 ≤ pn ∧ pn ≤ 4) (pix : List Int) (hp : pix.length = pn) (hb : pix.all byteI = true) :
  ∃ e : List Int, e.length = (hn * wn) * pn ∧ (∀ x y, x < wn → y < hn → nx pn e (y * wn + x) = pix) ∧ Ev (fun k => spec_FillImage.f k wn hn pix) ((wn : Int), (hn : Int), (pn : Int), e) := by
 have sm := small h1.2 h2.2 h3.2
 obtain ⟨s', i4, i5⟩ := ev_run ((hn * wn) * pn) (fun k i s => spec_FillImage.l0 k pix (i : Int) wn hn pn s) (fun s _ => some ((wn : Int), (hn : Int), (pn : Int), s)) (fun i s => s.length = (hn * wn) * pn ∧ ∀ q, q < i → s.getD q 0 = pix.getD (q % pn) 0)
  (by
   intro i s hi ⟨hsl, i1⟩
   have hmod : i % pn < pn := Nat.mod_lt _ (by omega)
   have htm : Int.tmod (i : Int) (pix.length : Int) = ((i % pn : Nat) : Int) := by rw [hp]; rfl
   refine ⟨s.set i (pix.getD (i % pn) 0), ⟨by rw [List.length_set]; exact hsl, fun q hq => ?_⟩, fun res hres => Ev.step (fun k => ?_) hres⟩
   ·by_cases e : q = i
    ·subst e
     rw [List.getD_eq_getElem?_getD, List.getElem?_set_self (by omega)]
     rfl
    ·rw [List.getD_eq_getElem?_getD, List.getElem?_set_ne (by omega), ← List.getD_eq_getElem?_getD]
     exact i1 q (by omega)
   ·simp only [spec_FillImage.l0]
    rw [htm, if_pos (by omega), if_neg (by omega), if_pos (by omega), if_pos (by omega), if_pos (by omega), w64n i (by omega), Int.toNat_natCast]
    rfl)
  (by
   intro s ⟨hsl, _⟩ res hres
   refine Ev.step (fun k => ?_) hres
   simp only [spec_FillImage.l0]
   rw [if_neg (by omega)])
  ((hn * wn) * pn) 0 (List.replicate ((hn * wn) * pn) 0) (by omega) ⟨by simp, fun q hq => by omega⟩
 refine ⟨s', i4.1, fun x y hx hy => ?_, ?_⟩
 ·have hl := lin_lt hx hy
  have hn1 : (nx pn s' (y * wn + x)).length = pn := nx_length i4.1 hl
  have hm : (y * wn + x + 1) * pn ≤ (hn * wn) * pn := Nat.mul_le_mul_right pn hl
  rw [Nat.add_mul, Nat.one_mul] at hm
  refine List.ext_getElem (by rw [hn1, hp]) (fun q hq1 hq2 => ?_)
  have z := i4.2 ((y * wn + x) * pn + q) (by omega)
  rw [Nat.mul_comm (y * wn + x) pn, Nat.mul_add_mod, Nat.mod_eq_of_lt (show q < pn by omega), Nat.mul_comm pn (y * wn + x)] at z
  have z1 : (nx pn s' (y * wn + x)).getD q 0 = pix.getD q 0 := by
   rw [← z]
   unfold nx
   rw [List.getD_eq_getElem?_getD, List.getElem?_take, if_pos (by omega), List.getElem?_drop, List.getD_eq_getElem?_getD]
  rw [List.getD_eq_getElem?_getD, List.getElem?_eq_getElem hq1, List.getD_eq_getElem?_getD, List.getElem?_eq_getElem hq2] at z1
  exact z1
 ·unfold spec_FillImage.f
  have hsh : shapeI wn hn (pix.length : Int) = true := (shapeI_iff _ _ _).2 (by omega)
  have hb0 := spec_allInI_ev pix (by omega)
  rw [hb] at hb0
  refine ev_now ((spec_validShape_eq wn hn (pix.length : Int)).trans (by rw [hsh])) (ev_pos rfl (ev_bind hb0 ?_))
  refine Ev.step (f := fun k => (spec_newImage.f wn hn (pix.length : Int)).bind fun t => spec_FillImage.l0 k pix 0 t.1 t.2.1 t.2.2.1 t.2.2.2) (fun k => ?_) (ev_now (by rw [hp]; exact newImg_eq h1.2 h2.2 h3.2) (i5 _ (Ev.now _)))
  simp only [spec_FillImage.j0, Bool.not_true]
  rw [if_neg (by simp)]
theorem spec_doStep_ev (a b p : Int) (d : List Int) (kind x y wd hg : Int) (pix : List Int) (hv : validI a b p d = true) (hpl : pix.length ≤ 1000000000) : Ev (fun k => spec_doStep.f k a b p d kind x y wd hg pix) (doStepV a b p d kind x y wd hg pix) := by
 have hs := ((validI_iff a b p d).1 hv).1
 have hs' : 1 ≤ a ∧ a ≤ 16 ∧ 1 ≤ b ∧ b ≤ 16 := by omega
 have hvb := fun x y wd hg => validBox_on (p := p) (d := d) hs' x y wd hg
 have hv1 := hv
 obtain ⟨an, bn, pn, ea, eb, ep, q1, q2, q3, q4, q5, q6, q7⟩ := nat_of hv
 have sm := small q2 q4 q6
 unfold spec_doStep.f doStepV
 by_cases k0 : kind = 0
 ·rw [if_pos k0]
  refine ev_pos k0 ?_
  subst ea eb ep
  rw [show imgD (mirPx an pn d) (an : Int).toNat (bn : Int).toNat = mirD an bn pn d from imgD_congr (fun x y hx hy => by
   simp only [Int.toNat_natCast] at hx hy
   unfold mirPx
   rw [show ((an : Int) - 1 - (x : Int)).toNat = an - 1 - x by omega, pxAt_nat q2 q4 q6 (by omega) hy])]
  exact ev_bind (mirror_ev ⟨q1, q2⟩ ⟨q3, q4⟩ q6 d q7) (Ev.now _)
 ·rw [if_neg k0]
  refine ev_neg k0 ?_
  by_cases k1 : kind = 1
  ·rw [if_pos k1]
   refine ev_pos k1 ?_
   subst ea eb ep
   rw [show imgD (turnPx an bn pn d) (bn : Int).toNat (an : Int).toNat = turnD an bn pn d from imgD_congr (fun x y hx hy => by
    simp only [Int.toNat_natCast] at hx hy
    unfold turnPx
    rw [show ((bn : Int) - 1 - (x : Int)).toNat = bn - 1 - x by omega, pxAt_nat q2 q4 q6 hy (by omega)])]
   exact ev_bind (turn_ev ⟨q1, q2⟩ ⟨q3, q4⟩ q6 d q7) (Ev.now _)
  ·rw [if_neg k1]
   refine ev_neg k1 ?_
   by_cases k2 : kind = 2
   ·rw [if_pos k2]
    exact ev_pos k2 (ev_bind (invert_ev a b p d hv (by omega)) (Ev.now _))
   ·rw [if_neg k2]
    refine ev_neg k2 ?_
    by_cases k3 : kind = 3
    ·rw [if_pos k3]
     refine ev_pos k3 ?_
     unfold spec_CropImage.f
     have hv0 := spec_validImage_ev a b p d (by omega)
     rw [hv] at hv0
     by_cases c : boxOn a b x y wd hg = true
     ·rw [if_pos c]
      obtain ⟨b1, b2, b3, b4, b5, b6, b7, b8⟩ := (boxOn_iff _ _ _ _ _ _).1 c
      obtain ⟨X, eX⟩ := Int.eq_ofNat_of_zero_le b1
      obtain ⟨Y, eY⟩ := Int.eq_ofNat_of_zero_le b3
      obtain ⟨wn, ew⟩ := Int.eq_ofNat_of_zero_le (show 0 ≤ wd by omega)
      obtain ⟨hn, eh⟩ := Int.eq_ofNat_of_zero_le (show 0 ≤ hg by omega)
      subst ea eb ep eX eY ew eh
      rw [show imgD (cropPx an pn d (X : Int).toNat (Y : Int).toNat) (wn : Int).toNat (hn : Int).toNat = cropD an pn d X Y wn hn from imgD_congr (fun x y hx hy => by
       simp only [Int.toNat_natCast] at hx hy ⊢
       unfold cropPx
       rw [pxAt_nat q2 q4 q6 (by omega) (by omega)])]
      exact ev_bind (ev_bind hv0 (ev_pos rfl (ev_now (hvb _ _ _ _) (ev_pos c (ev_bind (crop_ev q2 q4 q6 (by omega) (by omega) d q7) (Ev.now _)))))) (Ev.now _)
     ·rw [if_neg c]
      exact ev_bind (ev_bind hv0 (ev_pos rfl (ev_now (hvb _ _ _ _) (ev_neg c (Ev.now _))))) (Ev.now _)
    ·rw [if_neg k3]
     refine ev_neg k3 ?_
     by_cases k4 : kind = 4
     ·rw [if_pos k4]
      refine ev_pos k4 ?_
      have stop : ∀ q, ¬ (boxOn a b x y wd hg = true ∧ (pix.length : Int) = p ∧ pix.all byteI = true) → q = true → Ev (fun k => spec_doStep.j0 k q a b p d kind x y wd hg pix) (if boxOn a b x y wd hg = true ∧ (pix.length : Int) = p ∧ pix.all byteI = true then (a, b, p, imgD (fillPx a p d x.toNat y.toNat wd.toNat hg.toNat pix) a.toNat b.toNat, true) else (0, 0, 0, [], false)) := by
       intro q hn hq
       subst hq
       rw [if_neg hn]
       refine Ev.step (f := fun _ => some (0, 0, 0, [], false)) (fun k => ?_) (Ev.now _)
       simp only [spec_doStep.j0]
       rw [if_pos trivial]
      refine ev_now (hvb _ _ _ _) ?_
      by_cases c : boxOn a b x y wd hg = true
      ·refine ev_pos c ?_
       by_cases c2 : (pix.length : Int) = p
       ·refine ev_pos c2 (ev_bind (spec_allInI_ev pix (by omega)) ?_)
        by_cases c3 : pix.all byteI = true
        ·rw [c3, if_pos ⟨c, c2, rfl⟩]
         obtain ⟨b1, b2, b3, b4, b5, b6, b7, b8⟩ := (boxOn_iff _ _ _ _ _ _).1 c
         obtain ⟨X, eX⟩ := Int.eq_ofNat_of_zero_le b1
         obtain ⟨Y, eY⟩ := Int.eq_ofNat_of_zero_le b3
         obtain ⟨wn, ew⟩ := Int.eq_ofNat_of_zero_le (show 0 ≤ wd by omega)
         obtain ⟨hn, eh⟩ := Int.eq_ofNat_of_zero_le (show 0 ≤ hg by omega)
         subst ea eb ep eX eY ew eh
         have c2 := Int.ofNat.inj c2
         obtain ⟨e, e1, e2, e3⟩ := fill_ev (wn := wn) (hn := hn) ⟨by omega, by omega⟩ ⟨by omega, by omega⟩ ⟨q5, q6⟩ pix c2 c3
         rw [show imgD (fillPx an pn d (X : Int).toNat (Y : Int).toNat (wn : Int).toNat (hn : Int).toNat pix) (an : Int).toNat (bn : Int).toNat = imgD (pastePx an pn d X Y wn hn e) an bn from imgD_congr (fun x y hx hy => by
          simp only [Int.toNat_natCast] at hx hy ⊢
          unfold fillPx inBox pastePx
          by_cases z : X ≤ x ∧ x < X + wn ∧ Y ≤ y ∧ y < Y + hn
          ·rw [if_pos (decide_eq_true z), if_pos (by omega), e2 _ _ (by omega) (by omega)]
          ·rw [if_neg (by simpa using z), if_neg (by omega), pxAt_nat q2 q4 q6 hx hy])]
         refine Ev.step (f := fun k => (spec_copyImage.f an bn pn d).bind fun t => (spec_FillImage.f k wn hn pix).bind fun u => (spec_paste.f k t.1 t.2.1 t.2.2.1 t.2.2.2 X Y u.1 u.2.1 u.2.2.1 u.2.2.2).bind fun v => some (t.1, t.2.1, t.2.2.1, v, true)) (fun k => ?_) (ev_now (copyImage_px _ _ _ d (by omega)) (ev_bind e3 (ev_bind (paste_ev ⟨q1, q2⟩ ⟨q3, q4⟩ q6 (by omega) (by omega) ⟨by omega, by omega⟩ ⟨by omega, by omega⟩ d e q7 e1) (Ev.now _))))
         simp only [spec_doStep.j0, Bool.not_true]
         rw [if_neg (by simp)]
        ·rw [Bool.eq_false_iff.2 c3]
         have z := stop true (fun h => c3 h.2.2) rfl
         rw [Bool.eq_false_iff.2 c3] at z
         exact z
       ·exact ev_neg c2 (stop _ (fun h => c2 h.2.1) rfl)
      ·exact ev_neg c (stop _ (fun h => c h.1) rfl)
     ·rw [if_neg k4]
      exact ev_neg k4 (Ev.now _)
def doneV (a b p : Int) (d : List Int) (kind x y wd hg : Int) (pix : List Int) : Int × Int × Int × List Int × Bool := if validI a b p d = true then doStepV a b p d kind x y wd hg pix else (0, 0, 0, [], false)

/- Steps, one after the other: what the program and the reference make of an image. -/

def AllBy (l : List Int) : Prop := ∀ n ∈ l, 0 ≤ n ∧ n ≤ 255
theorem allBy_nx {d : List Int} (h : AllBy d) (n i : Nat) : AllBy (nx n d i) := fun x hx => h x (List.mem_of_mem_drop (List.mem_of_mem_take hx))
theorem valid_img {an bn pn : Nat} {px : Nat → Nat → List Int} (h1 : 1 ≤ an ∧ an ≤ 16) (h2 : 1 ≤ bn ∧ bn ≤ 16) (h3 : 1 ≤ pn ∧ pn ≤ 4) (hl : ∀ x y, x < an → y < bn → (px x y).length = pn) (hb : ∀ x y, x < an → y < bn → AllBy (px x y)) : validI an bn pn (imgD px an bn) = true := by
 refine (validI_iff _ _ _ _).2 ⟨by omega, by rw [imgD_length hl, Nat.mul_comm bn an]; push_cast; rfl, fun n hn => ?_⟩
 unfold imgD rowD at hn
 obtain ⟨y, hy, hn⟩ := List.mem_flatMap.1 hn
 obtain ⟨x, hx, hn⟩ := List.mem_flatMap.1 hn
 exact hb x y (List.mem_range.1 hx) (List.mem_range.1 hy) n hn
theorem done_valid {a b p : Int} {d : List Int} {kind x y wd hg : Int} {pix : List Int} (h : (doneV a b p d kind x y wd hg pix).2.2.2.2 = true) : validI a b p d = true ∧ validI (doneV a b p d kind x y wd hg pix).1 (doneV a b p d kind x y wd hg pix).2.1 (doneV a b p d kind x y wd hg pix).2.2.1 (doneV a b p d kind x y wd hg pix).2.2.2.1 = true := by
 unfold doneV at h ⊢
 by_cases c : validI a b p d = true
 ·rw [if_pos c] at h ⊢
  refine ⟨c, ?_⟩
  have hb := ((validI_iff _ _ _ _).1 c).2.2
  obtain ⟨an, bn, pn, ea, eb, ep, q1, q2, q3, q4, q5, q6, q7⟩ := nat_of c
  subst ea eb ep
  unfold doStepV at h ⊢
  by_cases k0 : kind = 0
  ·rw [if_pos k0]
   refine valid_img ⟨q1, q2⟩ ⟨q3, q4⟩ ⟨q5, q6⟩ (fun i j hi hj => ?_) (fun i j hi hj => ?_)
   all_goals
    unfold mirPx
    try simp only [Int.toNat_natCast] at hi hj
    rw [pxAt_nat q2 q4 q6 (by omega) hj]
   ·exact nx_length q7 (lin_lt (by omega) hj)
   ·exact allBy_nx hb _ _
  ·rw [if_neg k0] at h ⊢
   by_cases k1 : kind = 1
   ·rw [if_pos k1]
    refine valid_img ⟨q3, q4⟩ ⟨q1, q2⟩ ⟨q5, q6⟩ (fun i j hi hj => ?_) (fun i j hi hj => ?_)
    all_goals
     unfold turnPx
     try simp only [Int.toNat_natCast] at hi hj
     rw [pxAt_nat q2 q4 q6 hj (by omega)]
    ·exact nx_length q7 (lin_lt hj (by omega))
    ·exact allBy_nx hb _ _
   ·rw [if_neg k1] at h ⊢
    by_cases k2 : kind = 2
    ·rw [if_pos k2]
     refine (validI_iff _ _ _ _).2 ⟨((validI_iff _ _ _ _).1 c).1, by show ((invD d).length : Int) = _; unfold invD; rw [List.length_map]; exact ((validI_iff _ _ _ _).1 c).2.1, fun n hn => ?_⟩
     have hn : n ∈ invD d := hn
     unfold invD at hn
     obtain ⟨m, hm, rfl⟩ := List.mem_map.1 hn
     have := hb m hm
     rw [w64 (by omega) (by omega)]
     omega
    ·rw [if_neg k2] at h ⊢
     by_cases k3 : kind = 3
     ·rw [if_pos k3] at h ⊢
      by_cases cb : boxOn an bn x y wd hg = true
      ·rw [if_pos cb]
       obtain ⟨b1, b2, b3, b4, b5, b6, b7, b8⟩ := (boxOn_iff _ _ _ _ _ _).1 cb
       obtain ⟨X, eX⟩ := Int.eq_ofNat_of_zero_le b1
       obtain ⟨Y, eY⟩ := Int.eq_ofNat_of_zero_le b3
       obtain ⟨wn, ew⟩ := Int.eq_ofNat_of_zero_le (show 0 ≤ wd by omega)
       obtain ⟨hn, eh⟩ := Int.eq_ofNat_of_zero_le (show 0 ≤ hg by omega)
       subst eX eY ew eh
       refine valid_img (an := wn) (bn := hn) ⟨by omega, by omega⟩ ⟨by omega, by omega⟩ ⟨q5, q6⟩ (fun i j hi hj => ?_) (fun i j hi hj => ?_)
       all_goals
        unfold cropPx
        try simp only [Int.toNat_natCast] at hi hj ⊢
        rw [pxAt_nat q2 q4 q6 (by omega) (by omega)]
       ·exact nx_length q7 (lin_lt (by omega) (by omega))
       ·exact allBy_nx hb _ _
      ·rw [if_neg cb] at h; cases h
     ·rw [if_neg k3] at h ⊢
      by_cases k4 : kind = 4
      ·rw [if_pos k4] at h ⊢
       by_cases cb : boxOn an bn x y wd hg = true ∧ (pix.length : Int) = pn ∧ pix.all byteI = true
       ·rw [if_pos cb]
        obtain ⟨cb, cl, ca⟩ := cb
        have cl := Int.ofNat.inj cl
        refine valid_img ⟨q1, q2⟩ ⟨q3, q4⟩ ⟨q5, q6⟩ (fun i j hi hj => ?_) (fun i j hi hj => ?_)
        all_goals
         unfold fillPx
         try simp only [Int.toNat_natCast] at hi hj
         split
        ·exact cl
        ·rw [pxAt_nat q2 q4 q6 hi hj]
         exact nx_length q7 (lin_lt hi hj)
        ·exact fun n hn => (byteI_iff n).1 (List.all_eq_true.1 ca n hn)
        ·rw [pxAt_nat q2 q4 q6 hi hj]
         exact allBy_nx hb _ _
       ·rw [if_neg cb] at h; cases h
      ·rw [if_neg k4] at h; cases h
 ·rw [if_neg c] at h; cases h
abbrev Step := S43
def stepV (a b p : Int) (d : List Int) (s : Step) : Int × Int × Int × List Int × Bool := doStepV a b p d s.f0 s.f1.f0 s.f1.f1 s.f1.f2 s.f1.f3 s.f2
def runV : Int → Int → Int → List Int → List Step → Int → Int × Int × Int × List Int × Int
 | a, b, p, d, [], n => (a, b, p, d, n)
 | a, b, p, d, s :: l, n => if (stepV a b p d s).2.2.2.2 = true then runV (stepV a b p d s).1 (stepV a b p d s).2.1 (stepV a b p d s).2.2.1 (stepV a b p d s).2.2.2.1 l (n + 1) else (a, b, p, d, n)
def runsV (a b p : Int) (d : List Int) (l : List Step) : Int × Int × Int × List Int × Int := if validI a b p d = true ∧ l.length ≤ 12 then runV a b p d l 0 else (0, 0, 0, [], -1)
theorem done_step {a b p : Int} {d : List Int} (hv : validI a b p d = true) (s : Step) : doneV a b p d s.f0 s.f1.f0 s.f1.f1 s.f1.f2 s.f1.f3 s.f2 = stepV a b p d s := by unfold doneV stepV; rw [if_pos hv]
theorem step_valid {a b p : Int} {d : List Int} {s : Step} (hv : validI a b p d = true) (h : (stepV a b p d s).2.2.2.2 = true) : validI (stepV a b p d s).1 (stepV a b p d s).2.1 (stepV a b p d s).2.2.1 (stepV a b p d s).2.2.2.1 = true := by
 rw [← done_step hv] at h ⊢
 exact (done_valid h).2
theorem impl_step {a b p : Int} {d : List Int} (hv : validI a b p d = true) (s : Step) : impl_doStep.f a b p d s.f0 s.f1.f0 s.f1.f1 s.f1.f2 s.f1.f3 s.f2 = some (stepV a b p d s) := by unfold impl_doStep.f stepV; rw [if_pos hv]
theorem spec_step {a b p : Int} {d : List Int} (hv : validI a b p d = true) (s : Step) (hl : s.f2.length ≤ 1000000000) : Ev (fun k => spec_doStep.f k a b p d s.f0 s.f1.f0 s.f1.f1 s.f1.f2 s.f1.f3 s.f2) (stepV a b p d s) := spec_doStep_ev _ _ _ _ _ _ _ _ _ _ hv hl
theorem rdS_nat (l : List Step) (i : Nat) (h : i < l.length) : rd_T43 l (i : Int) = l[i] := by simp [rd_T43, h]
theorem drop_at (l : List Step) (i : Nat) (h : i < l.length) : l.drop i = l[i] :: l.drop (i + 1) := List.drop_eq_getElem_cons h
theorem valid_len {a b p : Int} {d : List Int} (hv : validI a b p d = true) : d.length ≤ 1024 := by
 obtain ⟨an, bn, pn, _, _, _, q1, q2, q3, q4, q5, q6, q7⟩ := nat_of hv
 rw [q7]
 exact Nat.mul_le_mul (Nat.mul_le_mul q4 q2) q6
theorem impl_copyImage_px (a b p : Int) (d : List Int) (hl : d.length ≤ 1000000) : impl_copyImage.f a b p d = some (a, b, p, d) := by
 unfold impl_copyImage.f
 simp only [Option.bind_some]
 rw [if_pos (by simp; omega)]
 simp
theorem specRun_loop (l : List Step) (hs : ∀ s ∈ l, s.f2.length ≤ 1000000000) (hl : l.length ≤ 1000000000) : ∀ (n i : Nat) (a b p : Int) (d : List Int), i + n = l.length → validI a b p d = true →
  Ev (fun k => spec_RunSteps.l0 k l (i : Int) a b p d) (runV a b p d (l.drop i) i)
 | 0, i, a, b, p, d, hi, hv => by
  rw [List.drop_of_length_le (by omega)]
  refine Ev.step (f := fun _ => some (a, b, p, d, (l.length : Int))) (fun k => by simp only [spec_RunSteps.l0]; rw [if_neg (by omega)]) (ev_val (Ev.now _) ?_)
  unfold runV
  rw [show i = l.length by omega]
 | n + 1, i, a, b, p, d, hi, hv => by
  have hlt : i < l.length := by omega
  have hS := spec_step hv l[i] (hs _ (List.getElem_mem hlt))
  rw [drop_at l i hlt, runV]
  by_cases c : (stepV a b p d l[i]).2.2.2.2 = true
  ·rw [if_pos c]
   have ih := specRun_loop l hs hl n (i + 1) _ _ _ _ (by omega) (step_valid hv c)
   refine Ev.step (f := fun k => (spec_doStep.f k a b p d l[i].f0 l[i].f1.f0 l[i].f1.f1 l[i].f1.f2 l[i].f1.f3 l[i].f2).bind fun t => if t.2.2.2.2 = true then spec_RunSteps.l0 k l ((i + 1 : Nat) : Int) t.1 t.2.1 t.2.2.1 t.2.2.2.1 else some (a, b, p, d, (i : Int))) (fun k => ?_) (ev_bind hS (ev_pos c ih))
   simp only [spec_RunSteps.l0]
   rw [if_pos (by omega), if_pos (by omega), rdS_nat l i hlt, w64n i (by omega)]
  ·rw [if_neg c]
   refine Ev.step (f := fun k => (spec_doStep.f k a b p d l[i].f0 l[i].f1.f0 l[i].f1.f1 l[i].f1.f2 l[i].f1.f3 l[i].f2).bind fun t => if t.2.2.2.2 = true then spec_RunSteps.l0 k l ((i + 1 : Nat) : Int) t.1 t.2.1 t.2.2.1 t.2.2.2.1 else some (a, b, p, d, (i : Int))) (fun k => ?_) (ev_bind hS (ev_neg c (Ev.now _)))
   simp only [spec_RunSteps.l0]
   rw [if_pos (by omega), if_pos (by omega), rdS_nat l i hlt, w64n i (by omega)]
theorem spec_RunSteps_ev (a b p : Int) (d : List Int) (l : List Step) (hd : d.length ≤ 2000000) (hs : ∀ s ∈ l, s.f2.length ≤ 1000000000) : Ev (fun k => spec_RunSteps.f k a b p d l) (runsV a b p d l) := by
 unfold spec_RunSteps.f runsV
 refine ev_bind (spec_validImage_ev a b p d (by omega)) ?_
 by_cases c : validI a b p d = true
 ·refine ev_pos c ?_
  by_cases c2 : l.length ≤ 12
  ·rw [if_pos ⟨c, c2⟩]
   have h := specRun_loop l hs (by omega) l.length 0 a b p d (by omega) c
   rw [List.drop_zero] at h
   refine Ev.step (f := fun k => (spec_copyImage.f a b p d).bind fun t => spec_RunSteps.l0 k l 0 t.1 t.2.1 t.2.2.1 t.2.2.2) (fun k => ?_) (ev_now (copyImage_px a b p d (by have := valid_len c; omega)) h)
   simp only [spec_RunSteps.j0]
   rw [if_neg (by simp; omega)]
  ·rw [if_neg (fun h => c2 h.2)]
   refine Ev.step (f := fun _ => some (0, 0, 0, [], -1)) (fun k => ?_) (Ev.now _)
   simp only [spec_RunSteps.j0]
   rw [if_pos (by simp; omega)]
 ·rw [if_neg (fun h => c h.1)]
  refine ev_neg c (Ev.step (f := fun _ => some (0, 0, 0, [], -1)) (fun k => ?_) (Ev.now _))
  simp only [spec_RunSteps.j0]
  rw [if_pos trivial]
theorem implRun_loop (l : List Step) (hl : l.length ≤ 1000000000) : ∀ (n i : Nat) (a b p : Int) (d : List Int), i + n = l.length → validI a b p d = true →
  Ev (fun k => impl_RunSteps.l0 k l l (l.length : Int) (i : Int) a b p d) (runV a b p d (l.drop i) i)
 | 0, i, a, b, p, d, hi, hv => by
  rw [List.drop_of_length_le (by omega)]
  refine Ev.step (f := fun _ => some (a, b, p, d, (l.length : Int))) (fun k => by simp only [impl_RunSteps.l0]; rw [if_neg (by omega)]) (ev_val (Ev.now _) ?_)
  unfold runV
  rw [show i = l.length by omega]
 | n + 1, i, a, b, p, d, hi, hv => by
  have hlt : i < l.length := by omega
  have hS := impl_step hv l[i]
  rw [drop_at l i hlt, runV]
  by_cases c : (stepV a b p d l[i]).2.2.2.2 = true
  ·rw [if_pos c]
   have ih := implRun_loop l hl n (i + 1) _ _ _ _ (by omega) (step_valid hv c)
   refine Ev.step (f := fun k => (impl_doStep.f a b p d l[i].f0 l[i].f1.f0 l[i].f1.f1 l[i].f1.f2 l[i].f1.f3 l[i].f2).bind fun t => if t.2.2.2.2 = true then impl_RunSteps.l0 k l l (l.length : Int) ((i + 1 : Nat) : Int) t.1 t.2.1 t.2.2.1 t.2.2.2.1 else some (a, b, p, d, (i : Int))) (fun k => ?_) (ev_now hS (ev_pos c ih))
   simp only [impl_RunSteps.l0]
   rw [if_pos (by omega), if_pos (by omega), if_pos (by omega), rdS_nat l i hlt, w64n i (by omega)]
  ·rw [if_neg c]
   refine Ev.step (f := fun k => (impl_doStep.f a b p d l[i].f0 l[i].f1.f0 l[i].f1.f1 l[i].f1.f2 l[i].f1.f3 l[i].f2).bind fun t => if t.2.2.2.2 = true then impl_RunSteps.l0 k l l (l.length : Int) ((i + 1 : Nat) : Int) t.1 t.2.1 t.2.2.1 t.2.2.2.1 else some (a, b, p, d, (i : Int))) (fun k => ?_) (ev_now hS (ev_neg c (Ev.now _)))
   simp only [impl_RunSteps.l0]
   rw [if_pos (by omega), if_pos (by omega), if_pos (by omega), rdS_nat l i hlt, w64n i (by omega)]
theorem impl_RunSteps_ev (a b p : Int) (d : List Int) (l : List Step) : Ev (fun k => impl_RunSteps.f k a b p d l) (runsV a b p d l) := by
 unfold impl_RunSteps.f runsV
 refine ev_now (impl_isImage_eq a b p d) ?_
 by_cases c : validI a b p d = true
 ·refine ev_pos c ?_
  by_cases c2 : l.length ≤ 12
  ·rw [if_pos ⟨c, c2⟩]
   have h := implRun_loop l (by omega) l.length 0 a b p d (by omega) c
   rw [List.drop_zero] at h
   refine Ev.step (f := fun k => (impl_copyImage.f a b p d).bind fun t => impl_RunSteps.l0 k l l (l.length : Int) 0 t.1 t.2.1 t.2.2.1 t.2.2.2) (fun k => ?_) (ev_now (impl_copyImage_px a b p d (by have := valid_len c; omega)) h)
   simp only [impl_RunSteps.j0]
   rw [if_neg (by simp; omega)]
  ·rw [if_neg (fun h => c2 h.2)]
   refine Ev.step (f := fun _ => some (0, 0, 0, [], -1)) (fun k => ?_) (Ev.now _)
   simp only [impl_RunSteps.j0]
   rw [if_pos (by simp; omega)]
 ·rw [if_neg (fun h => c h.1)]
  refine ev_neg c (Ev.step (f := fun _ => some (0, 0, 0, [], -1)) (fun k => ?_) (Ev.now _))
  simp only [impl_RunSteps.j0]
  rw [if_pos trivial]

/- Copies of an image: they are the image; marks on an image. -/

theorem toIntS_ev (l : List Int) (hl : l.length ≤ 2000000) : Ev (fun k => laws_toIntS.f k l) l := by
 have key := ev_up l.length (fun k i s => laws_toIntS.l0 k l s (i : Int)) (fun i s => s.length = l.length ∧ s.take i = l.take i) (fun i s => l)
  (by
   intro i s hi hs
   refine .inr ⟨s.set i l[i], fun k => ?_, ⟨by simpa using hs.1, ?_⟩, rfl⟩
   ·simp only [laws_toIntS.l0]
    rw [if_pos (by omega), if_pos (by omega), rd_nat l i hi, if_pos (by omega), w64n i (by omega), Int.toNat_natCast]
   ·rw [take_set s i _ (by omega), hs.2, List.take_succ_eq_append_getElem hi])
  (by
   intro s hs
   refine Ev.step (f := fun _ => some s) (fun k => ?_) (ev_const ?_)
   ·simp only [laws_toIntS.l0]
    rw [if_neg (by omega)]
   ·rw [← List.take_length (l := s), hs.1, hs.2, List.take_length])
  l.length 0 (List.replicate l.length 0) (by omega) ⟨by simp, by simp⟩
 unfold laws_toIntS.f
 refine Ev.congr (fun k => ?_) key
 rw [if_pos (by omega), if_pos (by omega)]
 simp
theorem eqIntS_ev (l : List Int) (hl : l.length ≤ 1000000000000) : Ev (fun k => laws_eqIntS.f k l l) true := by
 have key := ev_up l.length (fun k i (_ : Unit) => laws_eqIntS.l0 k l l (i : Int)) (fun _ _ => True) (fun _ _ => true)
  (by
   intro i s hi _
   refine .inr ⟨(), fun k => ?_, trivial, rfl⟩
   simp only [laws_eqIntS.l0]
   rw [if_pos (by omega), if_pos (by omega), if_pos (by omega), if_pos trivial, w64n i (by omega)])
  (by
   intro s _
   refine Ev.step (f := fun _ => some true) (fun k => ?_) (Ev.now true)
   simp only [laws_eqIntS.l0]
   rw [if_neg (by omega)])
  l.length 0 () (by omega) trivial
 unfold laws_eqIntS.f
 exact ev_pos rfl (by simpa using key)
theorem szIntS_eq (l : List Int) (n : Int) (h0 : 0 ≤ n) (h1 : n ≤ 1048576) (hl : l.length ≤ 9223372036854775807) :
  (l.length ≤ 1048576 ∧ n - (l.length : Int) ≥ 0 ∧ laws_szIntS.f l n = some (n - (l.length : Int))) ∨ laws_szIntS.f l n = some (-1) := by
 unfold laws_szIntS.f
 by_cases c : (l.length : Int) ≤ n
 ·left
  rw [w64 (by omega) (by omega), if_neg (by omega)]
  exact ⟨by omega, by omega, rfl⟩
 ·right
  rw [w64 (by omega) (by omega), if_pos (by omega)]
theorem szImage_eq (w h p : Int) (d : List Int) (n : Int) (h0 : 0 ≤ n) (h1 : n ≤ 1048576) (hl : d.length ≤ 9223372036854775807) :
  (d.length ≤ 1048576 ∧ n - (d.length : Int) ≥ 0 ∧ laws_szImage.f w h p d n = some (n - (d.length : Int))) ∨ laws_szImage.f w h p d n = some (-1) := by
 unfold laws_szImage.f
 rcases szIntS_eq d n h0 h1 hl with ⟨a, b, c⟩ | c
 ·left
  rw [c]
  simp only [Option.bind_some]
  rw [if_neg (by omega)]
  exact ⟨a, b, rfl⟩
 ·right
  rw [c]
  simp only [Option.bind_some]
  rw [if_pos (by omega)]
theorem toImage_ev (w h p : Int) (d : List Int) (hl : d.length ≤ 2000000) : Ev (fun k => laws_toImage.f k w h p d) (w, h, p, d) := by
 unfold laws_toImage.f
 exact ev_bind (toIntS_ev d hl) (Ev.now _)
theorem eqImage_ev (w h p : Int) (d : List Int) (hl : d.length ≤ 1000000000000) : Ev (fun k => laws_eqImage.f k w h p d w h p d) true := by
 unfold laws_eqImage.f
 exact ev_pos rfl (ev_pos rfl (ev_pos rfl (ev_bind (eqIntS_ev d hl) (ev_pos rfl (Ev.now _)))))

/- Marks on numbers: what is written into a list, and read again. -/

def markedI (m : Nat) (n : Int) : List Int := (List.range m).map (fun j => n + ((j : Nat) : Int))
theorem markedI_length (m : Nat) (n : Int) : (markedI m n).length = m := by simp [markedI]
theorem markIntS_is (l : List Int) (n : Int) (hl : l.length ≤ 1000000000) (h0 : 0 ≤ n) (h1 : n ≤ 1000000000000) : Ev (fun k => laws_markIntS.f k l n) (n + (l.length : Int), markedI l.length n) := by
 have key := ev_up l.length (fun k i (s : List Int) => laws_markIntS.l0 k s (n + (i : Int)) (i : Int)) (fun i s => s.length = l.length ∧ s.take i = markedI i n) (fun _ _ => (n + (l.length : Int), markedI l.length n))
  (by
   intro i s hi hs
   refine .inr ⟨s.set i (n + (i : Int)), fun k => ?_, ⟨by simpa using hs.1, by rw [take_set s i _ (by omega), hs.2]; unfold markedI; rw [List.range_succ, List.map_append]; rfl⟩, rfl⟩
   simp only [laws_markIntS.l0]
   rw [if_pos (by omega), if_pos (by omega), w64n i (by omega), w64 (x := n + (i : Int) + 1) (by omega) (by omega), Int.toNat_natCast, show n + (i : Int) + 1 = n + ((i + 1 : Nat) : Int) by omega])
  (by
   intro s hs
   refine Ev.step (f := fun _ => some (n + (l.length : Int), s)) (fun k => ?_) (ev_const ?_)
   ·simp only [laws_markIntS.l0]
    rw [if_neg (by omega)]
   ·rw [← hs.2, ← hs.1, List.take_length])
  l.length 0 l (by omega) ⟨rfl, by simp [markedI]⟩
 unfold laws_markIntS.f
 simpa using key
theorem heldIntS_ev (m : Nat) (n : Int) (hl : m ≤ 1000000000) (h0 : 0 ≤ n) (h1 : n ≤ 1000000000000) : Ev (fun k => laws_heldIntS.f k (markedI m n) n) (n + (m : Int)) := by
 have key := ev_up m (fun k i (_ : Unit) => laws_heldIntS.l0 k (markedI m n) (n + (i : Int)) (i : Int)) (fun _ _ => True) (fun _ _ => n + (m : Int))
  (by
   intro i s hi _
   right
   refine ⟨(), fun k => ?_, trivial, rfl⟩
   simp only [laws_heldIntS.l0]
   have hr : rd (markedI m n) (i : Int) = n + (i : Int) := by
    rw [rd_nat _ i (by rw [markedI_length]; omega)]
    simp [markedI]
   rw [if_pos (by rw [markedI_length]; omega), if_pos (by omega), hr, w64n i (by omega), w64 (x := n + (i : Int) + 1) (by omega) (by omega)]
   have e : n + (i : Int) + 1 = n + ((i + 1 : Nat) : Int) := by omega
   rw [e]
   simp)
  (by
   intro s _
   refine Ev.step (f := fun _ => some (n + (m : Int))) (fun k => ?_) (ev_const rfl)
   simp only [laws_heldIntS.l0]
   rw [if_neg (by rw [markedI_length]; omega)])
  m 0 () (by omega) trivial
 unfold laws_heldIntS.f
 simpa using key

/- Images that are marked, and whether they hold their marks. -/

theorem markImage_is (w h p : Int) (d : List Int) (n : Int) (hl : d.length ≤ 1000000000) (h0 : 0 ≤ n) (h1 : n ≤ 1000000000000) : Ev (fun k => laws_markImage.f k w h p d n) (n + (d.length : Int), markedI d.length n) := by
 unfold laws_markImage.f
 exact ev_bind (markIntS_is d n hl h0 h1) (Ev.now _)
theorem heldImage_ev (w h p : Int) (m : Nat) (n : Int) (hl : m ≤ 1000000000) (h0 : 0 ≤ n) (h1 : n ≤ 1000000000000) : Ev (fun k => laws_heldImage.f k w h p (markedI m n) n) (n + (m : Int)) := by
 unfold laws_heldImage.f
 exact ev_bind (heldIntS_ev m n hl h0 h1) (ev_neg (by omega) (Ev.now _))

/- Steps: sizes, copies, marks. -/

theorem szStep_eq (a x y w h : Int) (d : List Int) (n : Int) (h0 : 0 ≤ n) (h1 : n ≤ 1048576) (hl : d.length ≤ 9223372036854775807) :
  (d.length ≤ 1048576 ∧ n - (d.length : Int) ≥ 0 ∧ laws_szStep.f a x y w h d n = some (n - (d.length : Int))) ∨ laws_szStep.f a x y w h d n = some (-1) := by
 unfold laws_szStep.f
 rcases szIntS_eq d n h0 h1 hl with ⟨e1, e2, e3⟩ | e
 ·left
  rw [e3]
  simp only [Option.bind_some]
  rw [if_neg (by omega)]
  exact ⟨e1, e2, rfl⟩
 ·right
  rw [e]
  simp only [Option.bind_some]
  rw [if_pos (by omega)]
theorem toStep_ev (a x y w h : Int) (d : List Int) (hl : d.length ≤ 2000000) : Ev (fun k => laws_toStep.f k a x y w h d) (a, x, y, w, h, d) := by
 unfold laws_toStep.f
 exact ev_now (show laws_toBox.f x y w h = some (x, y, w, h) from rfl) (ev_bind (toIntS_ev d hl) (Ev.now _))
theorem eqStep_ev (a x y w h : Int) (d : List Int) (hl : d.length ≤ 1000000000000) : Ev (fun k => laws_eqStep.f k a x y w h d a x y w h d) true := by
 unfold laws_eqStep.f
 have hb : laws_eqBox.f x y w h x y w h = some true := by
  unfold laws_eqBox.f
  rw [if_pos rfl, if_pos rfl, if_pos rfl, if_pos rfl]
 exact ev_pos rfl (ev_now hb (ev_pos rfl (ev_bind (eqIntS_ev d hl) (ev_pos rfl (Ev.now _)))))

/- Rows of steps: sizes, copies, equality, marks. -/

abbrev RowI := S43
abbrev RowL := S57
def cRow (s : RowL) : RowI := ⟨s.f0, ⟨s.f1.f0, s.f1.f1, s.f1.f2, s.f1.f3⟩, s.f2⟩
def lenI (s : RowI) : Nat := s.f2.length
def lenL (s : RowL) : Nat := s.f2.length
def sumL (l : List RowL) : Nat := (l.map lenL).sum
theorem rdI_nat (l : List RowI) (i : Nat) (h : i < l.length) : rd_T43 l (i : Int) = l[i] := by simp [rd_T43, h]
theorem rdL_nat' (l : List RowL) (i : Nat) (h : i < l.length) : rd_T57 l (i : Int) = l[i] := by simp [rd_T57, h]
theorem sz_loop (l : List RowL) (hl : l.length ≤ 9223372036854775806) (hb : ∀ s ∈ l, lenL s ≤ 9223372036854775807) : ∀ (r i : Nat) (n : Int), i + r = l.length → 0 ≤ n → n ≤ 1048576 →
  ∃ m : Int, Ev (fun k => laws_szStepS.l0 k l n (i : Int)) m ∧ (m < 0 ∨ (0 ≤ m ∧ m ≤ n - (sumL (l.drop i) : Int)))
 | 0, i, n, hi, h0, h1 => by
  refine ⟨n, Ev.step (f := fun _ => some n) (fun k => by simp only [laws_szStepS.l0]; rw [if_neg (by omega)]) (Ev.now _), .inr ⟨h0, ?_⟩⟩
  rw [List.drop_of_length_le (by omega)]
  simp [sumL]
 | r + 1, i, n, hi, h0, h1 => by
  have hlt : i < l.length := by omega
  have hsum : (sumL (l.drop i) : Int) = (lenL l[i] : Int) + (sumL (l.drop (i + 1)) : Int) := by
   rw [List.drop_eq_getElem_cons hlt]
   simp only [sumL, List.map_cons, List.sum_cons]
   omega
  rcases szStep_eq l[i].f0 l[i].f1.f0 l[i].f1.f1 l[i].f1.f2 l[i].f1.f3 l[i].f2 n h0 h1 (hb _ (List.getElem_mem hlt)) with ⟨e1, e2, e3⟩ | e
  ·obtain ⟨m, r1, r2⟩ := sz_loop l hl hb r (i + 1) (n - (l[i].f2.length : Int)) (by omega) (by omega) (by omega)
   refine ⟨m, Ev.step (f := fun k => (laws_szStep.f l[i].f0 l[i].f1.f0 l[i].f1.f1 l[i].f1.f2 l[i].f1.f3 l[i].f2 n).bind fun t => if t < 0 then some (-1) else laws_szStepS.l0 k l t ((i + 1 : Nat) : Int)) (fun k => ?_) (ev_now e3 (ev_neg (by omega) r1)), ?_⟩
   ·simp only [laws_szStepS.l0]
    rw [if_pos (by omega), if_pos (by omega), rdL_nat' l i hlt, w64n i (by omega)]
   ·have hlen : (lenL l[i] : Int) = (l[i].f2.length : Int) := rfl
    omega
  ·refine ⟨-1, Ev.step (f := fun k => (laws_szStep.f l[i].f0 l[i].f1.f0 l[i].f1.f1 l[i].f1.f2 l[i].f1.f3 l[i].f2 n).bind fun t => if t < 0 then some (-1) else laws_szStepS.l0 k l t ((i + 1 : Nat) : Int)) (fun k => ?_) (ev_now e (ev_pos (by omega) (Ev.now _))), .inl (by omega)⟩
   simp only [laws_szStepS.l0]
   rw [if_pos (by omega), if_pos (by omega), rdL_nat' l i hlt, w64n i (by omega)]
theorem szRow_ev (l : List RowL) (hl : l.length ≤ 9223372036854775807) (hb : ∀ s ∈ l, lenL s ≤ 9223372036854775807) (n : Int) (h0 : 0 ≤ n) (h1 : n ≤ 1048576) :
  ∃ m : Int, Ev (fun k => laws_szStepS.f k l n) m ∧ (m < 0 ∨ (0 ≤ m ∧ m ≤ n ∧ l.length ≤ 1048576 ∧ sumL l ≤ 1048576)) := by
 unfold laws_szStepS.f
 rw [w64 (x := n - (l.length : Int)) (by omega) (by omega)]
 by_cases c : n - (l.length : Int) < 0
 ·exact ⟨-1, ev_pos c (Ev.now _), .inl (by omega)⟩
 ·obtain ⟨m, r1, r2⟩ := sz_loop l (by omega) hb l.length 0 (n - (l.length : Int)) (by omega) (by omega) (by omega)
  rw [List.drop_zero] at r2
  exact ⟨m, ev_neg c r1, by omega⟩
theorem len_sum : ∀ (l : List RowL) (s : RowL), s ∈ l → lenL s ≤ sumL l
 | x :: l, s, h => by
  rcases List.mem_cons.1 h with rfl | h
  ·simp [sumL]
  ·have := len_sum l s h
   simp only [sumL, List.map_cons, List.sum_cons] at this ⊢
   omega
theorem toRow_ev (l : List RowL) (hl : l.length ≤ 2000000) (hb : ∀ s ∈ l, lenL s ≤ 2000000) : Ev (fun k => laws_toStepS.f k l) (l.map cRow) := by
 unfold laws_toStepS.f
 refine ev_pos (by omega) (ev_pos (by omega) ?_)
 have key := ev_up2 l.length (fun k i (s : List RowI) => laws_toStepS.l0 k l s (i : Int)) (fun i s => s.length = l.length ∧ s.take i = (l.take i).map cRow) (fun _ _ => l.map cRow)
  (by
   intro i s hi ⟨h1, h2⟩
   right
   have hc := toStep_ev l[i].f0 l[i].f1.f0 l[i].f1.f1 l[i].f1.f2 l[i].f1.f3 l[i].f2 (hb _ (List.getElem_mem hi))
   refine ⟨s.set i (cRow l[i]), fun res hres => ?_, ⟨by rw [List.length_set]; exact h1, by rw [take_set s i _ (by omega), h2, List.take_succ_eq_append_getElem hi, List.map_append]; rfl⟩, rfl⟩
   refine Ev.step (f := fun k => (laws_toStep.f k l[i].f0 l[i].f1.f0 l[i].f1.f1 l[i].f1.f2 l[i].f1.f3 l[i].f2).bind fun t => if (i : Int) < (s.length : Int) then laws_toStepS.l0 k l (s.set i (⟨t.1, ⟨t.2.1, t.2.2.1, t.2.2.2.1, t.2.2.2.2.1⟩, t.2.2.2.2.2⟩ : RowI)) ((i + 1 : Nat) : Int) else none) (fun k => ?_) (ev_bind hc (ev_pos (by omega) hres))
   simp only [laws_toStepS.l0]
   rw [if_pos (by omega), if_pos (by omega), rdL_nat' l i hi, w64n i (by omega), Int.toNat_natCast])
  (by
   intro s ⟨h1, h2⟩
   refine Ev.step (f := fun _ => some s) (fun k => by simp only [laws_toStepS.l0]; rw [if_neg (by omega)]) (ev_const ?_)
   rw [List.take_length, ← h1, List.take_length] at h2
   rw [h2])
  l.length 0 (List.replicate ((l.length : Int) : Int).toNat z43) (by omega) ⟨by simp, by simp⟩
 exact key
theorem eqRow_ev (l : List RowI) (hl : l.length ≤ 1000000000) (hb : ∀ s ∈ l, lenI s ≤ 1000000000000) : Ev (fun k => laws_eqStepS.f k l l) true := by
 unfold laws_eqStepS.f
 refine ev_pos rfl ?_
 have key := ev_up2 l.length (fun k i (_ : Unit) => laws_eqStepS.l0 k l l (i : Int)) (fun _ _ => True) (fun _ _ => true)
  (by
   intro i _ hi _
   right
   have hc := eqStep_ev l[i].f0 l[i].f1.f0 l[i].f1.f1 l[i].f1.f2 l[i].f1.f3 l[i].f2 (hb _ (List.getElem_mem hi))
   refine ⟨(), fun res hres => ?_, trivial, rfl⟩
   refine Ev.step (f := fun k => (laws_eqStep.f k l[i].f0 l[i].f1.f0 l[i].f1.f1 l[i].f1.f2 l[i].f1.f3 l[i].f2 l[i].f0 l[i].f1.f0 l[i].f1.f1 l[i].f1.f2 l[i].f1.f3 l[i].f2).bind fun t => if t = true then laws_eqStepS.l0 k l l ((i + 1 : Nat) : Int) else some false) (fun k => ?_) (ev_bind hc (ev_pos rfl hres))
   simp only [laws_eqStepS.l0]
   rw [if_pos (by omega), if_pos (by omega), if_pos (by omega), rdI_nat l i hi, w64n i (by omega)])
  (by
   intro _ _
   exact Ev.step (f := fun _ => some true) (fun k => by simp only [laws_eqStepS.l0]; rw [if_neg (by omega)]) (Ev.now _))
  l.length 0 () (by omega) trivial
 exact key
def totI (l : List RowI) : Nat := (l.map fun s => lenI s + 5).sum
theorem mark_loop : ∀ (rest pre : List RowI) (n : Int), 0 ≤ n → n + (totI rest : Int) ≤ 1000000000 → pre.length + rest.length ≤ 1000000000 →
  ∃ (m : Int) (u : List RowI), 0 ≤ m ∧ Ev (fun k => laws_markStepS.l0 k (pre ++ rest) n (pre.length : Int)) (m, u)
 | [], pre, n, h0, h1, hl => by
  refine ⟨n, pre ++ [], h0, Ev.step (f := fun _ => some (n, pre ++ [])) (fun k => ?_) (Ev.now _)⟩
  simp only [laws_markStepS.l0]
  rw [if_neg (by simp)]
 | x :: rest, pre, n, h0, h1, hl => by
  have htot : (totI (x :: rest) : Int) = (x.f2.length : Int) + 5 + (totI rest : Int) := by
   simp [totI, lenI]
  have hM := markIntS_is x.f2 (n + 5) (by omega) (by omega) (by omega)
  simp only [List.length_cons] at hl
  obtain ⟨m, u, r1, r2⟩ := mark_loop rest (pre ++ [(fun t : Int × List Int => (⟨n, ⟨wrap64 (n + 1), wrap64 (wrap64 (n + 1) + 1), wrap64 (wrap64 (wrap64 (n + 1) + 1) + 1), wrap64 (wrap64 (wrap64 (wrap64 (n + 1) + 1) + 1) + 1)⟩, t.2⟩ : RowI)) (n + 5 + (x.f2.length : Int), markedI x.f2.length (n + 5))]) (n + (x.f2.length : Int) + 5) (by omega) (by omega) (by simp; omega)
  refine ⟨m, u, r1, ?_⟩
  have hrd : rd_T43 (pre ++ x :: rest) (pre.length : Int) = x := by simp [rd_T43]
  have hset : ∀ c : RowI, (pre ++ x :: rest).set pre.length c = (pre ++ [c]) ++ rest := by intro c; simp
  have harg : wrap64 (wrap64 (wrap64 (wrap64 (wrap64 (n + 1) + 1) + 1) + 1) + 1) = n + 5 := by rw [w64 (x := n + 1) (by omega) (by omega), w64 (x := n + 1 + 1) (by omega) (by omega), w64 (x := n + 1 + 1 + 1) (by omega) (by omega), w64 (x := n + 1 + 1 + 1 + 1) (by omega) (by omega), w64 (x := n + 1 + 1 + 1 + 1 + 1) (by omega) (by omega)]; omega
  rw [List.length_append, List.length_singleton] at r2
  refine Ev.step (f := fun k => (laws_markIntS.f k x.f2 (n + 5)).bind fun t => laws_markStepS.l0 k ((pre ++ [(⟨n, ⟨wrap64 (n + 1), wrap64 (wrap64 (n + 1) + 1), wrap64 (wrap64 (wrap64 (n + 1) + 1) + 1), wrap64 (wrap64 (wrap64 (wrap64 (n + 1) + 1) + 1) + 1)⟩, t.2⟩ : RowI)]) ++ rest) (t.1) ((pre.length + 1 : Nat) : Int)) (fun k => ?_) (ev_bind hM ?_)
  ·simp only [laws_markStepS.l0]
   rw [if_pos (by simp; omega), if_pos (by omega), hrd, harg, w64n _ (by omega)]
   simp only [Int.toNat_natCast, hset]
  ·have hend : (n + 5 + (x.f2.length : Int)) = n + (x.f2.length : Int) + 5 := by omega
   show Ev (fun k => laws_markStepS.l0 k _ ((n + 5 + (x.f2.length : Int))) ((pre.length + 1 : Nat) : Int)) _
   rw [hend]
   exact r2
theorem markRow_ev (l : List RowI) (n : Int) (hl : l.length ≤ 1048576) (hs : totI l ≤ 10000000) (h0 : 0 ≤ n) (h1 : n ≤ 10000000) : ∃ (m : Int) (u : List RowI), 0 ≤ m ∧ Ev (fun k => laws_markStepS.f k l n) (m, u) := by
 unfold laws_markStepS.f
 obtain ⟨m, u, r1, r2⟩ := mark_loop l [] n h0 (by omega) (by simp; omega)
 exact ⟨m, u, r1, r2⟩
theorem tot_c : ∀ (l : List RowL), totI (l.map cRow) = sumL l + 5 * l.length
 | [] => by simp [totI, sumL]
 | x :: l => by
  have h := tot_c l
  simp only [totI, sumL, List.map_cons, List.sum_cons, List.length_cons] at h ⊢
  rw [h]
  show lenL x + 5 + _ = _
  omega

/- The program's RunSteps and the reference's return the same, and what is returned is held by nobody else: over lists of numbers alone. -/

theorem runV_ok : ∀ (l : List Step) (a b p : Int) (d : List Int) (n : Int), validI a b p d = true → validI (runV a b p d l n).1 (runV a b p d l n).2.1 (runV a b p d l n).2.2.1 (runV a b p d l n).2.2.2.1 = true
 | [], a, b, p, d, n, hv => by unfold runV; exact hv
 | s :: l, a, b, p, d, n, hv => by
  unfold runV
  split
  ·rename_i c
   exact runV_ok l _ _ _ _ _ (step_valid hv c)
  ·exact hv
theorem runsV_len (a b p : Int) (d : List Int) (l : List Step) : (runsV a b p d l).2.2.2.1.length ≤ 1024 := by
 unfold runsV
 split
 ·rename_i h
  exact valid_len (runV_ok l a b p d 0 h.1)
 ·simp
theorem FnExactRunSteps : laws_FnExactRunSteps.Pure := by
 intro w h p d l
 intros
 rename_i hl hwf hll
 have hb : ∀ s ∈ l, lenL s ≤ 9223372036854775807 := fun s hs => (hwf s hs).2.2.2
 rcases szImage_eq w h p d 1048576 (by omega) (by omega) (by first | exact hl | omega) with ⟨hn, h0, hs⟩ | hs
 ·obtain ⟨m, ⟨K0, e0⟩, hm⟩ := szRow_ev l hll hb (1048576 - (d.length : Int)) (by omega) (by omega)
  by_cases cm : m < 0
  ·exact ⟨K0, laws_FnExactRunSteps.f_of (Or.inr (Or.inl ⟨_, _, hs, by omega, e0 _ (by omega), cm⟩))⟩
  ·obtain ⟨_, _, hl1, hsum⟩ := hm.resolve_left cm
   have hb2 : ∀ s ∈ l, lenL s ≤ 1048576 := fun s hs => Nat.le_trans (len_sum l s hs) hsum
   obtain ⟨K1, e1⟩ := toImage_ev w h p d (by omega)
   obtain ⟨K2, e2⟩ := toRow_ev l (by omega) (fun s hs => by have := hb2 s hs; omega)
   have hcl : (l.map cRow).length ≤ 1048576 := by rw [List.length_map]; exact hl1
   have hcb : ∀ s ∈ l.map cRow, lenI s ≤ 1048576 := fun s hs => by
    obtain ⟨x, hx, rfl⟩ := List.mem_map.1 hs
    exact hb2 x hx
   have htot : totI (l.map cRow) ≤ 7000000 := by rw [tot_c]; omega
   generalize l.map cRow = c at e2 hcl hcb htot
   obtain ⟨K4, e4⟩ := spec_RunSteps_ev w h p d c (by omega) (fun s hs => by have h_ := hcb s hs; unfold lenI at h_; omega)
   obtain ⟨K5, e5⟩ := impl_RunSteps_ev w h p d c
   have hVl := runsV_len w h p d c
   generalize runsV w h p d c = V at e4 e5 hVl
   obtain ⟨v0, v1, v2, v3, vok⟩ := V
   have hVl : v3.length ≤ 1024 := hVl
   obtain ⟨K6, e6⟩ := eqImage_ev v0 v1 v2 v3 (by omega)
   obtain ⟨K7, e7⟩ := eqImage_ev w h p d (by omega)
   obtain ⟨K8, e8⟩ := eqRow_ev c (by omega) (fun s hs => by have := hcb s hs; omega)
   obtain ⟨K10, e10⟩ := markImage_is w h p d 1 (by omega) (by omega) (by omega)
   obtain ⟨k1, y1, hk1, ⟨K11, e11⟩⟩ := markRow_ev c (1 + (d.length : Int)) hcl (by omega) (by omega) (by omega)
   obtain ⟨K13, e13⟩ := markImage_is v0 v1 v2 v3 1 (by omega) (by omega) (by omega)
   obtain ⟨K14, e14⟩ := heldImage_ev v0 v1 v2 v3.length 1 (by omega) (by omega) (by omega)
   refine ⟨K0 + K1 + K2 + K4 + K5 + K6 + K7 + K8 + K10 + K11 + K13 + K14 + 1, laws_FnExactRunSteps.f_of (Or.inr (Or.inr ?_))⟩
   exact ⟨_, _, w, h, p, d, c, v0, v1, v2, v3, vok, _, _, _, _, _, _, hs, by omega, e0 _ (by omega), cm, e1 _ (by omega), e2 _ (by omega), e4 _ (by omega), e5 _ (by omega), e6 _ (by omega), e7 _ (by omega), e8 _ (by omega), e10 _ (by omega), e11 _ (by omega), by omega, e13 _ (by omega), e14 _ (by omega), by omega⟩
 ·exact ⟨0, laws_FnExactRunSteps.f_of (Or.inl ⟨_, hs, by omega⟩)⟩
end Go.Proofs.Ytgccpcnakkioiaa.Pure
